-- printed by gw.py (my own program), checked by Lean
import Derived.Test.YtadiljnfkbbmcaaDoorS2
set_option linter.unusedVariables false
set_option linter.unusedSimpArgs false
set_option maxRecDepth 100000
set_option maxHeartbeats 400000
namespace Go.Proofs.YtadiljnfkbbmcaaDoor
open Go.Kw Go.RowKit

theorem shown_cases {T : List UInt32} {R : List UInt8} {l : List Str2} {st nm : List UInt8} {n : Nat} {s : Stp} {sd : List (List UInt8)} (h : InvS T R l st n s nm sd) (y : List UInt8) :
    (n = 1 ∧ y = [42]) ∨ (n = 1 ∧ ¬ y = [42] ∧ ¬ (readF T R l 1 s nm y).1 = 0) ∨ (n = 1 ∧ ¬ y = [42] ∧ (readF T R l 1 s nm y).1 = 0) ∨ (n = 2 ∧ showsF T R l st nm sd = true) ∨ n = 3 ∨ n = 4 := by
  rcases h with h | h | h | h
  · by_cases hy : y = [42]
    · exact .inl ⟨h.1, hy⟩
    · by_cases hr : (readF T R l 1 s nm y).1 = 0
      · exact .inr (.inr (.inl ⟨h.1, hy, hr⟩))
      · exact .inr (.inl ⟨h.1, hy, hr⟩)
  · exact .inr (.inr (.inr (.inl h)))
  · exact .inr (.inr (.inr (.inr (.inl h))))
  · exact .inr (.inr (.inr (.inr (.inr h))))
/-- posthorn/posthornlaw22.SaslShown -/
theorem c_Shown_err {w0 w : World} {F : List Chunk} (T : List UInt32) (hT : T.length = 64) (gT : Gl w0 0 (u32s T)) (R : List UInt8) (hR : R.length = 16) (gR : Gl w0 1 (bs R)) (l : List Str2) (hl : l.length ≤ 16777216) (hU : ∀ u ∈ l, u.1.length ≤ 549755813888 ∧ u.2.length ≤ 549755813888) (mech st y : List UInt8) (has : Bool) (hm : mech.length ≤ 16777216) (hst : st.length ≤ 16777216) (hy : y.length ≤ 16777216) (ls : List (List UInt8)) (hll : ls.length ≤ 8388608) (hLs : ∀ x ∈ ls, x.length ≤ 16777216) {er : Nat} (hbe : begE mech y has = er) (hne : ¬ er = 0) {B E : Option Addr} {d e : Nat} (RU : Rd w0 F (.slice B l.length d) 2 l.length (us l)) (RL : Rd w0 F (.slice E ls.length e) 1 ls.length (ss ls)) (H : Sep w0 w F) : Ret Tryd.prog 3 #[.agg #[.slice B l.length d, S mech, S st, S y, .bool has, .slice E ls.length e]] w (fun v w' => v = .bool true ∧ Sep w0 w' F) := by
 refine Ret_enter (args := [.agg #[.slice B l.length d, S mech, S st, S y, .bool has, .slice E ls.length e]]) Tryd.func3 rfl (by kernel_rfl) ?_
 refine G_forget [(0, .agg #[.slice B l.length d, S mech, S st, S y, .bool has, .slice E ls.length e])] (by kernel_rfl) (fun β => ?_)
 refine G_sr ?_
 refine GL_new (V := fun g => Pt g 0) (l := [.slice B l.length d, S mech, S st, S y, .bool has, .slice E ls.length e]) (t := 25) H rfl (by kernel_rfl) (by kernel_rfl) (by kernel_rfl) (fun g1 w2 H => ?_)
 refine GL_st 1 2 [(1, Pt g1 0)] fun β => ?_
 refine G_seq ?_
 refine G_sr ?_
 refine GL_C (c_wakes T hT gT R hR gR H) ?_
 rintro _ w3 ⟨rfl, H⟩
 refine GL_st 1 2 [(1, Pt g1 0), (13, .bool false)] fun β => ?_
 refine G_false (by kernel_rfl) ?_
 refine G_skip ?_
 refine thn_normal ?_
 refine G_sr ?_
 refine GL_s 1 1 [(1, Pt g1 0), (15, Pt g1 0)] fun β => ?_
 refine GL_V (run_load1 (t := 22) (by kernel_rfl) ((H.blk_cell (i := 0) rfl 0).trans rfl)) ?_
 refine GL_s 1 3 [(1, Pt g1 0), (16, .slice B l.length d), (17, Pt g1 1)] fun β => ?_
 refine GL_V (run_load1 (t := 9) (by kernel_rfl) ((H.blk_cell (i := 0) rfl 1).trans rfl)) ?_
 refine GL_s 1 5 [(1, Pt g1 0), (16, .slice B l.length d), (18, S mech), (19, Pt g1 2)] fun β => ?_
 refine GL_V (run_load1 (t := 9) (by kernel_rfl) ((H.blk_cell (i := 0) rfl 2).trans rfl)) ?_
 refine GL_s 1 7 [(1, Pt g1 0), (16, .slice B l.length d), (18, S mech), (20, S st), (21, Pt g1 3)] fun β => ?_
 refine GL_V (run_load1 (t := 9) (by kernel_rfl) ((H.blk_cell (i := 0) rfl 3).trans rfl)) ?_
 refine GL_s 1 9 [(1, Pt g1 0), (16, .slice B l.length d), (18, S mech), (20, S st), (22, S y), (23, Pt g1 4)] fun β => ?_
 refine GL_V (run_load1 (t := 4) (by kernel_rfl) ((H.blk_cell (i := 0) rfl 4).trans rfl)) ?_
 refine GL_C (c_BeginErr T hT gT R hR gR l (by omega) hU mech st y has (by omega) (by omega) (by omega) hbe hne (Rd.more RU (.cons _ (.refl _))) H) ?_
 rintro _ w4 ⟨rfl, H⟩
 refine GL_st 5 16 [(1, Pt g1 0), (3, .pointer none), (4, In er)] fun β => ?_
 refine G_sr ?_
 refine GL_s 1 1 [(1, Pt g1 0), (3, .pointer none), (4, In er), (29, Pt g1 0)] fun β => ?_
 refine GL_V (run_load1 (t := 22) (by kernel_rfl) ((H.blk_cell (i := 0) rfl 0).trans rfl)) ?_
 refine GL_s 1 3 [(1, Pt g1 0), (3, .pointer none), (4, In er), (30, .slice B l.length d), (31, Pt g1 1)] fun β => ?_
 refine GL_V (run_load1 (t := 9) (by kernel_rfl) ((H.blk_cell (i := 0) rfl 1).trans rfl)) ?_
 refine GL_s 1 5 [(1, Pt g1 0), (3, .pointer none), (4, In er), (30, .slice B l.length d), (32, S mech), (33, Pt g1 2)] fun β => ?_
 refine GL_V (run_load1 (t := 9) (by kernel_rfl) ((H.blk_cell (i := 0) rfl 2).trans rfl)) ?_
 refine GL_s 1 7 [(1, Pt g1 0), (3, .pointer none), (4, In er), (30, .slice B l.length d), (32, S mech), (34, S st), (35, Pt g1 3)] fun β => ?_
 refine GL_V (run_load1 (t := 9) (by kernel_rfl) ((H.blk_cell (i := 0) rfl 3).trans rfl)) ?_
 refine GL_s 1 9 [(1, Pt g1 0), (3, .pointer none), (4, In er), (30, .slice B l.length d), (32, S mech), (34, S st), (36, S y), (37, Pt g1 4)] fun β => ?_
 refine GL_V (run_load1 (t := 4) (by kernel_rfl) ((H.blk_cell (i := 0) rfl 4).trans rfl)) ?_
 refine GL_C (c_rBegin l (by omega) mech st y has (by omega) (by omega) (Rd.more RU (.cons _ (.refl _))) H) ?_
 rintro _ w6 ⟨p5, rfl, H⟩
 rw [hbe]
 refine GL_st 5 16 [(1, Pt g1 0), (3, .pointer none), (4, In er), (6, In er)] fun β => ?_
 refine G_seq ?_
 refine G_sr ?_
 refine GL_sr 4 4 [(1, Pt g1 0), (3, .pointer none), (4, In er), (6, In er), (45, .bool false)] (show ([Pt g1 0, .pointer none, .int .i64 (er : Int), .int .i64 (er : Int), .bool ((er : Int) != (er : Int))] : List Value) = [Pt g1 0, .pointer none, In er, In er, .bool false] by rw [nneq_self er]) fun β => ?_
 refine GL_srt 3 7 [(1, Pt g1 0), (3, .pointer none), (4, In er), (6, In er), (48, .bool (er != 0))] (show ([Pt g1 0, .pointer none, .int .i64 (er : Int), .int .i64 (er : Int), .bool ((er : Int) != ((0 : Nat) : Int))] : List Value) = [Pt g1 0, .pointer none, In er, In er, .bool (er != 0)] by rw [nneq er 0]) fun β => ?_
 refine G_cond (er != 0) (by kernel_rfl) (fun h0 => ?_) (fun h0 => ?_)
 · --yes
  replace h0 : ¬ (er = 0) := neq_T h0
  refine G_sr ?_
  refine GL_sr 4 4 [(3, .pointer none), (52, .bool true)] (show ([.pointer none, .bool ((er : Int) == (er : Int))] : List Value) = [.pointer none, .bool true] by rw [neql_self er]) fun β => ?_
  refine GL_s 1 5 [(52, .bool true), (53, .pointer none)] fun β => ?_
  refine GL_C (c_State_nil H) ?_
  rintro _ w7 ⟨rfl, H⟩
  refine GL_st 3 9 [(2, .bool true)] fun β => ?_
  refine G_ret ?_
  refine thn_ret (res1 (v := .bool true) rfl (by kernel_rfl) ?_)
  replace H := H.drop 0
  replace H : Sep w0 w7 (F) := H
  exact ⟨rfl, H⟩
 · --no
  replace h0 : er = 0 := neq_F h0
  exact absurd h0 hne

theorem said_no {y : List UInt8} {has : Bool} (h : has = false) : [] = saidF y has := by subst h; rfl
theorem said_eq {y : List UInt8} {has : Bool} (h : has = true) (h1 : y = [61]) : [[]] = saidF y has := by subst h h1; rfl
theorem said_ne {y : List UInt8} {has : Bool} (h : has = true) (h1 : ¬ y = [61]) : [y] = saidF y has := by subst h; rw [saidF, if_pos rfl, if_neg h1]
theorem said_small {y : List UInt8} {has : Bool} (hy : y.length ≤ 16777216) : ∀ x ∈ saidF y has, x.length ≤ 16777216 := by
  intro x hx
  unfold saidF at hx
  split at hx
  · rw [List.mem_singleton.1 hx]; exact beg_if y hy
  · cases hx
/-- posthorn/posthornlaw22.SaslShown -/
theorem c_Shown_ok {w0 w : World} {F : List Chunk} (T : List UInt32) (hT : T.length = 64) (gT : Gl w0 0 (u32s T)) (R : List UInt8) (hR : R.length = 16) (gR : Gl w0 1 (bs R)) (l : List Str2) (hl : l.length ≤ 16777216) (hU : ∀ u ∈ l, u.1.length ≤ 549755813888 ∧ u.2.length ≤ 549755813888) (mech st y : List UInt8) (has : Bool) (hm : mech.length ≤ 16777216) (hst : st.length ≤ 16777216) (hy : y.length ≤ 16777216) (ls : List (List UInt8)) (hll : ls.length ≤ 8388608) (hLs : ∀ x ∈ ls, x.length ≤ 16777216) (hbe : begE mech y has = 0) {B E : Option Addr} {d e : Nat} (RU : Rd w0 F (.slice B l.length d) 2 l.length (us l)) (RL : Rd w0 F (.slice E ls.length e) 1 ls.length (ss ls)) (H : Sep w0 w F) : Ret Tryd.prog 3 #[.agg #[.slice B l.length d, S mech, S st, S y, .bool has, .slice E ls.length e]] w (fun v w' => v = .bool true ∧ Sep w0 w' F) := by
 refine Ret_enter (args := [.agg #[.slice B l.length d, S mech, S st, S y, .bool has, .slice E ls.length e]]) Tryd.func3 rfl (by kernel_rfl) ?_
 refine G_forget [(0, .agg #[.slice B l.length d, S mech, S st, S y, .bool has, .slice E ls.length e])] (by kernel_rfl) (fun β => ?_)
 refine G_sr ?_
 refine GL_new (V := fun g => Pt g 0) (l := [.slice B l.length d, S mech, S st, S y, .bool has, .slice E ls.length e]) (t := 25) H rfl (by kernel_rfl) (by kernel_rfl) (by kernel_rfl) (fun g1 w2 H => ?_)
 refine GL_st 1 2 [(1, Pt g1 0)] fun β => ?_
 refine G_seq ?_
 refine G_sr ?_
 refine GL_C (c_wakes T hT gT R hR gR H) ?_
 rintro _ w3 ⟨rfl, H⟩
 refine GL_st 1 2 [(1, Pt g1 0), (13, .bool false)] fun β => ?_
 refine G_false (by kernel_rfl) ?_
 refine G_skip ?_
 refine thn_normal ?_
 refine G_sr ?_
 refine GL_s 1 1 [(1, Pt g1 0), (15, Pt g1 0)] fun β => ?_
 refine GL_V (run_load1 (t := 22) (by kernel_rfl) ((H.blk_cell (i := 0) rfl 0).trans rfl)) ?_
 refine GL_s 1 3 [(1, Pt g1 0), (16, .slice B l.length d), (17, Pt g1 1)] fun β => ?_
 refine GL_V (run_load1 (t := 9) (by kernel_rfl) ((H.blk_cell (i := 0) rfl 1).trans rfl)) ?_
 refine GL_s 1 5 [(1, Pt g1 0), (16, .slice B l.length d), (18, S mech), (19, Pt g1 2)] fun β => ?_
 refine GL_V (run_load1 (t := 9) (by kernel_rfl) ((H.blk_cell (i := 0) rfl 2).trans rfl)) ?_
 refine GL_s 1 7 [(1, Pt g1 0), (16, .slice B l.length d), (18, S mech), (20, S st), (21, Pt g1 3)] fun β => ?_
 refine GL_V (run_load1 (t := 9) (by kernel_rfl) ((H.blk_cell (i := 0) rfl 3).trans rfl)) ?_
 refine GL_s 1 9 [(1, Pt g1 0), (16, .slice B l.length d), (18, S mech), (20, S st), (22, S y), (23, Pt g1 4)] fun β => ?_
 refine GL_V (run_load1 (t := 4) (by kernel_rfl) ((H.blk_cell (i := 0) rfl 4).trans rfl)) ?_
 refine GL_C (c_BeginOk T hT gT R hR gR l (by omega) hU mech st y has (by omega) (by omega) (by omega) hbe (Rd.more RU (.cons _ (.refl _))) H) ?_
 rintro _ w4 ⟨n0, s0, nm0, g5, c7, A6, hsm0, hin0, rfl, H⟩
 replace H : Sep w0 w4 (.blk g5 58 [.slice A6 l.length c7, In n0, s0.v, S nm0] :: .row (.slice A6 l.length c7) 40 2 l.length (us l) :: .blk g1 25 [.slice B l.length d, S mech, S st, S y, .bool has, .slice E ls.length e] :: F) := H
 refine GL_st 5 16 [(1, Pt g1 0), (3, Pt g5 0), (4, In 0)] fun β => ?_
 refine G_sr ?_
 refine GL_s 1 1 [(1, Pt g1 0), (3, Pt g5 0), (4, In 0), (29, Pt g1 0)] fun β => ?_
 refine GL_V (run_load1 (t := 22) (by kernel_rfl) ((H.blk_cell (i := 2) rfl 0).trans rfl)) ?_
 refine GL_s 1 3 [(1, Pt g1 0), (3, Pt g5 0), (4, In 0), (30, .slice B l.length d), (31, Pt g1 1)] fun β => ?_
 refine GL_V (run_load1 (t := 9) (by kernel_rfl) ((H.blk_cell (i := 2) rfl 1).trans rfl)) ?_
 refine GL_s 1 5 [(1, Pt g1 0), (3, Pt g5 0), (4, In 0), (30, .slice B l.length d), (32, S mech), (33, Pt g1 2)] fun β => ?_
 refine GL_V (run_load1 (t := 9) (by kernel_rfl) ((H.blk_cell (i := 2) rfl 2).trans rfl)) ?_
 refine GL_s 1 7 [(1, Pt g1 0), (3, Pt g5 0), (4, In 0), (30, .slice B l.length d), (32, S mech), (34, S st), (35, Pt g1 3)] fun β => ?_
 refine GL_V (run_load1 (t := 9) (by kernel_rfl) ((H.blk_cell (i := 2) rfl 3).trans rfl)) ?_
 refine GL_s 1 9 [(1, Pt g1 0), (3, Pt g5 0), (4, In 0), (30, .slice B l.length d), (32, S mech), (34, S st), (36, S y), (37, Pt g1 4)] fun β => ?_
 refine GL_V (run_load1 (t := 4) (by kernel_rfl) ((H.blk_cell (i := 2) rfl 4).trans rfl)) ?_
 refine GL_C (c_rBegin l (by omega) mech st y has (by omega) (by omega) (Rd.more RU (.cons _ (.cons _ (.cons _ (.refl _))))) H) ?_
 rintro _ w9 ⟨p8, rfl, H⟩
 rw [hbe]
 refine GL_st 5 16 [(1, Pt g1 0), (3, Pt g5 0), (4, In 0), (6, In 0)] fun β => ?_
 refine G_seq ?_
 refine G_sr ?_
 refine GL_st 7 7 [(1, Pt g1 0), (3, Pt g5 0), (4, In 0), (6, In 0), (48, .bool false)] fun β => ?_
 refine G_false (by kernel_rfl) ?_
 refine G_skip ?_
 refine thn_normal ?_
 refine G_sr ?_
 refine GL_st 1 1 [(1, Pt g1 0), (3, Pt g5 0), (7, .slice none 0 0)] fun β => ?_
 refine G_cut (X := (List (List UInt8)) × (Option Addr) × Nat) (fun ⟨sd, A9, c9⟩ => [(1, Pt g1 0), (3, Pt g5 0), (7, .slice A9 sd.length c9)]) (fun ⟨sd, A9, c9⟩ w_ => Sep w0 w_ (.row (.slice A9 sd.length c9) 9 1 sd.length (ss sd) :: .blk g5 58 [.slice A6 l.length c7, In n0, s0.v, S nm0] :: .row (.slice A6 l.length c7) 40 2 l.length (us l) :: .blk g1 25 [.slice B l.length d, S mech, S st, S y, .bool has, .slice E ls.length e] :: F) ∧ (sd = saidF y has)) ?_ ?_
 · --each way
  refine G_sr ?_
  refine GL_s 1 1 [(1, Pt g1 0), (3, Pt g5 0), (7, .slice none 0 0), (57, Pt g1 4)] fun β => ?_
  refine GL_V (run_load1 (t := 4) (by kernel_rfl) ((H.blk_cell (i := 2) rfl 4).trans rfl)) ?_
  refine GL_s 1 3 [(1, Pt g1 0), (3, Pt g5 0), (7, .slice none 0 0), (59, .bool has)] fun β => ?_
  rcases Bool.eq_false_or_eq_true (has) with h0 | h0
  · --yes
   refine GL_re [(1, Pt g1 0), (3, Pt g5 0), (7, .slice none 0 0), (59, .bool true)] (show ([Pt g1 0, Pt g5 0, .slice none 0 0, .bool has] : List Value) = [Pt g1 0, Pt g5 0, .slice none 0 0, .bool true] by rw [h0]) (fun β => ?_)
   refine GL_s 1 4 [(1, Pt g1 0), (3, Pt g5 0), (7, .slice none 0 0), (59, .bool true), (60, Pt g1 3)] fun β => ?_
   refine GL_V (run_load1 (t := 9) (by kernel_rfl) ((H.blk_cell (i := 2) rfl 3).trans rfl)) ?_
   refine GL_V (R_streq (t := 9) (l := y) (m := [61])) ?_
   refine GL_st 1 7 [(1, Pt g1 0), (3, Pt g5 0), (7, .slice none 0 0), (63, .bool (y == [61]))] fun β => ?_
   refine G_cond (y == [61]) (by kernel_rfl) (fun h1 => ?_) (fun h1 => ?_)
   · --yes
    replace h1 : y = [61] := eql_T h1
    refine G_region ?_
    refine GL_s 1 1 [(1, Pt g1 0), (3, Pt g5 0), (64, .slice none 0 0)] fun β => ?_
    refine GL_new (V := fun g => .slice (some ⟨g, 0, none⟩) 1 1) (l := [S ([] : List UInt8)]) (t := 9) H rfl (by kernel_rfl) (by kernel_rfl) (by kernel_rfl) (fun g10 w11 H => ?_)
    obtain ⟨A12, c13, w14, hr15, H⟩ := R_append_nil (P := Tryd.prog) (t := 23) (ty := 23) (e := 9) (z := S ([] : List UInt8)) (sz := 1) (by_ := 16) H (by kernel_rfl) rfl (Src.blkp (m := 1) (c := 1) (off := 0) H (i := 0) rfl [S ([] : List UInt8)] rfl ⟨_, rfl⟩) (one_list rfl) (by unfold maxLen; omega) (by omega)
    replace H := H.drop 1
    replace H : Sep w0 w14 (.row (.slice A12 1 c13) 9 1 1 ([S ([] : List UInt8)]) :: .blk g5 58 [.slice A6 l.length c7, In n0, s0.v, S nm0] :: .row (.slice A6 l.length c7) 40 2 l.length (us l) :: .blk g1 25 [.slice B l.length d, S mech, S st, S y, .bool has, .slice E ls.length e] :: F) := H
    refine GL_V hr15 ?_
    refine GL_st 1 4 [(1, Pt g1 0), (3, Pt g5 0), (7, .slice A12 1 c13)] fun β => ?_
    replace H := H.front (i := 3) rfl
    replace H := H.front (i := 3) rfl
    replace H := H.front (i := 3) rfl
    replace H := H.front (i := 3) rfl
    replace H : Sep w0 w14 (.row (.slice A12 1 c13) 9 1 1 ([S ([] : List UInt8)]) :: .blk g5 58 [.slice A6 l.length c7, In n0, s0.v, S nm0] :: .row (.slice A6 l.length c7) 40 2 l.length (us l) :: .blk g1 25 [.slice B l.length d, S mech, S st, S y, .bool has, .slice E ls.length e] :: F) := H
    exact ⟨([([] : List UInt8)], A12, c13), Agr_of_keys (by kernel_rfl), H, by first | exact said_no h0 | exact said_eq h0 h1 | exact said_ne h0 h1 | exact absurd (h0.symm.trans h3) (by decide) | exact absurd (h0.symm.trans h2) (by decide)⟩
   · --no
    replace h1 : ¬ (y = [61]) := eql_F h1
    refine G_sr ?_
    refine GL_s 1 1 [(1, Pt g1 0), (3, Pt g5 0), (7, .slice none 0 0), (67, Pt g1 4)] fun β => ?_
    refine GL_V (run_load1 (t := 4) (by kernel_rfl) ((H.blk_cell (i := 2) rfl 4).trans rfl)) ?_
    refine GL_et ?_
    refine G_cond (has) (by kernel_rfl) (fun h2 => ?_) (fun h2 => ?_)
    · --yes
     refine G_region ?_
     refine GL_s 2 2 [(1, Pt g1 0), (3, Pt g5 0), (69, .slice none 0 0), (70, Pt g1 3)] fun β => ?_
     refine GL_V (run_load1 (t := 9) (by kernel_rfl) ((H.blk_cell (i := 2) rfl 3).trans rfl)) ?_
     refine GL_new (V := fun g => .slice (some ⟨g, 0, none⟩) 1 1) (l := [S y]) (t := 9) H rfl (by kernel_rfl) (by kernel_rfl) (by kernel_rfl) (fun g16 w17 H => ?_)
     obtain ⟨A18, c19, w20, hr21, H⟩ := R_append_nil (P := Tryd.prog) (t := 23) (ty := 23) (e := 9) (z := S ([] : List UInt8)) (sz := 1) (by_ := 16) H (by kernel_rfl) rfl (Src.blkp (m := 1) (c := 1) (off := 0) H (i := 0) rfl [S y] rfl ⟨_, rfl⟩) (one_list rfl) (by unfold maxLen; omega) (by omega)
     replace H := H.drop 1
     replace H : Sep w0 w20 (.row (.slice A18 1 c19) 9 1 1 [S y] :: .blk g5 58 [.slice A6 l.length c7, In n0, s0.v, S nm0] :: .row (.slice A6 l.length c7) 40 2 l.length (us l) :: .blk g1 25 [.slice B l.length d, S mech, S st, S y, .bool has, .slice E ls.length e] :: F) := H
     refine GL_V hr21 ?_
     refine GL_st 1 6 [(1, Pt g1 0), (3, Pt g5 0), (7, .slice A18 1 c19)] fun β => ?_
     replace H := H.front (i := 3) rfl
     replace H := H.front (i := 3) rfl
     replace H := H.front (i := 3) rfl
     replace H := H.front (i := 3) rfl
     replace H : Sep w0 w20 (.row (.slice A18 1 c19) 9 1 1 [S y] :: .blk g5 58 [.slice A6 l.length c7, In n0, s0.v, S nm0] :: .row (.slice A6 l.length c7) 40 2 l.length (us l) :: .blk g1 25 [.slice B l.length d, S mech, S st, S y, .bool has, .slice E ls.length e] :: F) := H
     exact ⟨([y], A18, c19), Agr_of_keys (by kernel_rfl), H, by first | exact said_no h0 | exact said_eq h0 h1 | exact said_ne h0 h1 | exact absurd (h0.symm.trans h3) (by decide) | exact absurd (h0.symm.trans h2) (by decide)⟩
    · --no
     refine G_skip ?_
     replace H := H.nilRow 9 1
     replace H := H.front (i := 3) rfl
     replace H := H.front (i := 3) rfl
     replace H := H.front (i := 3) rfl
     replace H := H.front (i := 3) rfl
     replace H : Sep w0 w9 (.row (.slice none 0 0) 9 1 0 [] :: .blk g5 58 [.slice A6 l.length c7, In n0, s0.v, S nm0] :: .row (.slice A6 l.length c7) 40 2 l.length (us l) :: .blk g1 25 [.slice B l.length d, S mech, S st, S y, .bool has, .slice E ls.length e] :: F) := H
     exact thn_normal ⟨([], none, 0), Agr_of_keys (by kernel_rfl), H, by first | exact said_no h0 | exact said_eq h0 h1 | exact said_ne h0 h1 | exact absurd (h0.symm.trans h3) (by decide) | exact absurd (h0.symm.trans h2) (by decide)⟩
  · --no
   refine GL_re [(1, Pt g1 0), (3, Pt g5 0), (7, .slice none 0 0), (59, .bool false)] (show ([Pt g1 0, Pt g5 0, .slice none 0 0, .bool has] : List Value) = [Pt g1 0, Pt g5 0, .slice none 0 0, .bool false] by rw [h0]) (fun β => ?_)
   refine GL_st 4 7 [(1, Pt g1 0), (3, Pt g5 0), (7, .slice none 0 0), (63, .bool false)] fun β => ?_
   refine G_false (by kernel_rfl) ?_
   refine G_sr ?_
   refine GL_s 1 1 [(1, Pt g1 0), (3, Pt g5 0), (7, .slice none 0 0), (67, Pt g1 4)] fun β => ?_
   refine GL_V (run_load1 (t := 4) (by kernel_rfl) ((H.blk_cell (i := 2) rfl 4).trans rfl)) ?_
   refine GL_et ?_
   refine G_cond (has) (by kernel_rfl) (fun h3 => ?_) (fun h3 => ?_)
   · --yes
    refine G_region ?_
    refine GL_s 2 2 [(1, Pt g1 0), (3, Pt g5 0), (69, .slice none 0 0), (70, Pt g1 3)] fun β => ?_
    refine GL_V (run_load1 (t := 9) (by kernel_rfl) ((H.blk_cell (i := 2) rfl 3).trans rfl)) ?_
    refine GL_new (V := fun g => .slice (some ⟨g, 0, none⟩) 1 1) (l := [S y]) (t := 9) H rfl (by kernel_rfl) (by kernel_rfl) (by kernel_rfl) (fun g22 w23 H => ?_)
    obtain ⟨A24, c25, w26, hr27, H⟩ := R_append_nil (P := Tryd.prog) (t := 23) (ty := 23) (e := 9) (z := S ([] : List UInt8)) (sz := 1) (by_ := 16) H (by kernel_rfl) rfl (Src.blkp (m := 1) (c := 1) (off := 0) H (i := 0) rfl [S y] rfl ⟨_, rfl⟩) (one_list rfl) (by unfold maxLen; omega) (by omega)
    replace H := H.drop 1
    replace H : Sep w0 w26 (.row (.slice A24 1 c25) 9 1 1 [S y] :: .blk g5 58 [.slice A6 l.length c7, In n0, s0.v, S nm0] :: .row (.slice A6 l.length c7) 40 2 l.length (us l) :: .blk g1 25 [.slice B l.length d, S mech, S st, S y, .bool has, .slice E ls.length e] :: F) := H
    refine GL_V hr27 ?_
    refine GL_st 1 6 [(1, Pt g1 0), (3, Pt g5 0), (7, .slice A24 1 c25)] fun β => ?_
    replace H := H.front (i := 3) rfl
    replace H := H.front (i := 3) rfl
    replace H := H.front (i := 3) rfl
    replace H := H.front (i := 3) rfl
    replace H : Sep w0 w26 (.row (.slice A24 1 c25) 9 1 1 [S y] :: .blk g5 58 [.slice A6 l.length c7, In n0, s0.v, S nm0] :: .row (.slice A6 l.length c7) 40 2 l.length (us l) :: .blk g1 25 [.slice B l.length d, S mech, S st, S y, .bool has, .slice E ls.length e] :: F) := H
    exact ⟨([y], A24, c25), Agr_of_keys (by kernel_rfl), H, by first | exact said_no h0 | exact said_eq h0 h1 | exact said_ne h0 h1 | exact absurd (h0.symm.trans h3) (by decide) | exact absurd (h0.symm.trans h2) (by decide)⟩
   · --no
    refine G_skip ?_
    replace H := H.nilRow 9 1
    replace H := H.front (i := 3) rfl
    replace H := H.front (i := 3) rfl
    replace H := H.front (i := 3) rfl
    replace H := H.front (i := 3) rfl
    replace H : Sep w0 w9 (.row (.slice none 0 0) 9 1 0 [] :: .blk g5 58 [.slice A6 l.length c7, In n0, s0.v, S nm0] :: .row (.slice A6 l.length c7) 40 2 l.length (us l) :: .blk g1 25 [.slice B l.length d, S mech, S st, S y, .bool has, .slice E ls.length e] :: F) := H
    exact thn_normal ⟨([], none, 0), Agr_of_keys (by kernel_rfl), H, by first | exact said_no h0 | exact said_eq h0 h1 | exact said_ne h0 h1 | exact absurd (h0.symm.trans h3) (by decide) | exact absurd (h0.symm.trans h2) (by decide)⟩
 rintro ⟨sd, A9, c9⟩ β w28 ⟨H, hM⟩
 replace H : Sep w0 w28 (.row (.slice A9 sd.length c9) 9 1 sd.length (ss sd) :: .blk g5 58 [.slice A6 l.length c7, In n0, s0.v, S nm0] :: .row (.slice A6 l.length c7) 40 2 l.length (us l) :: .blk g1 25 [.slice B l.length d, S mech, S st, S y, .bool has, .slice E ls.length e] :: F) := H
 replace hM : sd = saidF y has := hM
 refine G_forget [(1, Pt g1 0), (3, Pt g5 0), (7, .slice A9 sd.length c9)] (by kernel_rfl) (fun β => ?_)
 refine G_sr ?_
 refine GL_st 1 1 [(1, Pt g1 0), (3, Pt g5 0), (7, .slice A9 sd.length c9), (8, In 0)] fun β => ?_
 refine G_block ?_
 refine G_loop (X := Nat × Nat × Stp × (List UInt8) × (List (List UInt8)) × (Option Addr) × Nat) (fun ⟨i, n, s, nm, sq, C, cq⟩ => [(1, Pt g1 0), (3, Pt g5 0), (7, .slice C sq.length cq), (8, In i)]) (fun ⟨i, n, s, nm, sq, C, cq⟩ w_ => Sep w0 w_ (.row (.slice C sq.length cq) 9 1 sq.length (ss sq) :: .blk g5 58 [.slice A6 l.length c7, In n, s.v, S nm] :: .row (.slice A6 l.length c7) 40 2 l.length (us l) :: .blk g1 25 [.slice B l.length d, S mech, S st, S y, .bool has, .slice E ls.length e] :: F) ∧ (i ≤ ls.length ∧ smallS s nm ∧ InvS T R l st n s nm sq ∧ sq.length ≤ i + 1 ∧ ∀ x ∈ sq, x.length ≤ 16777216)) (fun ⟨i, n, s, nm, sq, C, cq⟩ => ls.length - i) (0, n0, s0, nm0, sd, A9, c9) (by kernel_rfl) ⟨H, ⟨by omega, hsm0, by rw [hM]; exact hin0, by rw [hM, saidF]; split <;> simp, by rw [hM]; exact said_small hy⟩⟩ ?_
 rintro ⟨i, n, s, nm, sq, C, cq⟩ β w29 ⟨H, hI⟩
 refine G_forget [(1, Pt g1 0), (3, Pt g5 0), (7, .slice C sq.length cq), (8, In i)] (by kernel_rfl) (fun β => ?_)
 replace H : Sep w0 w29 (.row (.slice C sq.length cq) 9 1 sq.length (ss sq) :: .blk g5 58 [.slice A6 l.length c7, In n, s.v, S nm] :: .row (.slice A6 l.length c7) 40 2 l.length (us l) :: .blk g1 25 [.slice B l.length d, S mech, S st, S y, .bool has, .slice E ls.length e] :: F) := H
 replace hI : i ≤ ls.length ∧ smallS s nm ∧ InvS T R l st n s nm sq ∧ sq.length ≤ i + 1 ∧ ∀ x ∈ sq, x.length ≤ 16777216 := hI
 obtain ⟨hI1, hsm, hin, hsql, hsa⟩ := hI
 have hnl := hsm.1
 rcases shown_cases hin (ls.getD i []) with ⟨rfl, hc⟩ | ⟨rfl, hc, hq⟩ | ⟨rfl, hc, hq⟩ | ⟨rfl, hsh⟩ | rfl | rfl
 · --star
  replace H : Sep w0 w29 (.row (.slice C sq.length cq) 9 1 sq.length (ss sq) :: .blk g5 58 [.slice A6 l.length c7, In 1, s.v, S nm] :: .row (.slice A6 l.length c7) 40 2 l.length (us l) :: .blk g1 25 [.slice B l.length d, S mech, S st, S y, .bool has, .slice E ls.length e] :: F) := H
  refine G_seq ?_
  refine G_block ?_
  refine G_seq ?_
  refine G_sr ?_
  refine GL_s 1 1 [(1, Pt g1 0), (3, Pt g5 0), (7, .slice C sq.length cq), (8, In i), (76, Pt g5 0)] fun β => ?_
  replace H := H.front (i := 1) rfl
  replace H : Sep w0 w29 (.blk g5 58 [.slice A6 l.length c7, In 1, s.v, S nm] :: .row (.slice C sq.length cq) 9 1 sq.length (ss sq) :: .row (.slice A6 l.length c7) 40 2 l.length (us l) :: .blk g1 25 [.slice B l.length d, S mech, S st, S y, .bool has, .slice E ls.length e] :: F) := H
  refine GL_C (c_State 1 (.slice A6 l.length c7) s.v (S nm) H) ?_
  rintro _ w30 ⟨rfl, H⟩
  refine GL_et ?_
  refine G_block ?_
  refine G_sr ?_
  refine GL_st 2 2 [(1, Pt g1 0), (3, Pt g5 0), (7, .slice C sq.length cq), (8, In i), (77, In 1), (78, .bool true)] fun β => ?_
  refine G_true (by kernel_rfl) ?_
  refine G_sr ?_
  refine GL_s 1 1 [(1, Pt g1 0), (3, Pt g5 0), (7, .slice C sq.length cq), (8, In i), (80, Pt g5 0)] fun β => ?_
  replace H : Sep w0 w30 (.blk g5 58 [.slice A6 l.length c7, In 1, s.v, S nm] :: .row (.slice C sq.length cq) 9 1 sq.length (ss sq) :: .row (.slice A6 l.length c7) 40 2 l.length (us l) :: .blk g1 25 [.slice B l.length d, S mech, S st, S y, .bool has, .slice E ls.length e] :: F) := H
  refine GL_C (c_User 1 (.slice A6 l.length c7) s.v nm H) ?_
  rintro _ w31 ⟨rfl, H⟩
  refine GL_st 1 3 [(1, Pt g1 0), (3, Pt g5 0), (7, .slice C sq.length cq), (8, In i), (82, .bool false)] fun β => ?_
  refine G_false (by kernel_rfl) ?_
  refine G_skip ?_
  refine inb_normal ?_
  refine thn_normal ?_
  refine G_seq ?_
  refine G_sr ?_
  refine GL_s 2 2 [(1, Pt g1 0), (3, Pt g5 0), (7, .slice C sq.length cq), (8, In i), (102, In i), (103, Pt g1 5)] fun β => ?_
  refine GL_V (run_load1 (t := 23) (by kernel_rfl) ((H.blk_cell (i := 3) rfl 5).trans rfl)) ?_
  refine GL_srt 2 5 [(1, Pt g1 0), (3, Pt g5 0), (7, .slice C sq.length cq), (8, In i), (106, .bool (i == ls.length))] (show ([Pt g1 0, Pt g5 0, .slice C sq.length cq, .int .i64 (i : Int), .bool ((i : Int) == (ls.length : Int))] : List Value) = [Pt g1 0, Pt g5 0, .slice C sq.length cq, In i, .bool (i == ls.length)] by rw [neql i ls.length]) fun β => ?_
  refine G_cond (i == ls.length) (by kernel_rfl) (fun h4 => ?_) (fun h4 => ?_)
  · --yes
   replace h4 : i = ls.length := eql_T h4
   refine G_sr ?_
   refine GL_st 1 1 [(2, .bool true)] fun β => ?_
   refine G_ret ?_
   refine thn_ret (inb_ret (thn_ret (thn_ret (inb_ret (res1 (v := .bool true) rfl (by kernel_rfl) ?_)))))
   replace H := H.drop 3
   replace H := H.drop 2
   replace H := H.drop 1
   replace H := H.drop 0
   replace H : Sep w0 w31 (F) := H
   exact ⟨rfl, H⟩
  · --no
   replace h4 : ¬ (i = ls.length) := eql_F h4
   refine G_skip ?_
   refine thn_normal ?_
   refine G_sr ?_
   refine GL_s 1 1 [(1, Pt g1 0), (3, Pt g5 0), (7, .slice C sq.length cq), (8, In i), (107, Pt g5 0)] fun β => ?_
   replace H : Sep w0 w31 (.blk g5 58 [.slice A6 l.length c7, In 1, s.v, S nm] :: .row (.slice C sq.length cq) 9 1 sq.length (ss sq) :: .row (.slice A6 l.length c7) 40 2 l.length (us l) :: .blk g1 25 [.slice B l.length d, S mech, S st, S y, .bool has, .slice E ls.length e] :: F) := H
   refine GL_C (c_State 1 (.slice A6 l.length c7) s.v (S nm) H) ?_
   rintro _ w32 ⟨rfl, H⟩
   refine GL_st 1 3 [(1, Pt g1 0), (3, Pt g5 0), (7, .slice C sq.length cq), (8, In i), (9, In 1)] fun β => ?_
   refine G_sr ?_
   refine GL_s 1 1 [(1, Pt g1 0), (3, Pt g5 0), (7, .slice C sq.length cq), (8, In i), (9, In 1), (109, Pt g5 0)] fun β => ?_
   replace H : Sep w0 w32 (.blk g5 58 [.slice A6 l.length c7, In 1, s.v, S nm] :: .row (.slice C sq.length cq) 9 1 sq.length (ss sq) :: .row (.slice A6 l.length c7) 40 2 l.length (us l) :: .blk g1 25 [.slice B l.length d, S mech, S st, S y, .bool has, .slice E ls.length e] :: F) := H
   refine GL_C (c_User 1 (.slice A6 l.length c7) s.v nm H) ?_
   rintro _ w33 ⟨rfl, H⟩
   refine GL_st 1 3 [(1, Pt g1 0), (3, Pt g5 0), (7, .slice C sq.length cq), (8, In i), (9, In 1), (10, S ([] : List UInt8))] fun β => ?_
   have hyl := hLs _ (mem_getD (l := ls) (k := i) (by omega))
   refine G_sr ?_
   refine GL_s 2 2 [(1, Pt g1 0), (3, Pt g5 0), (7, .slice C sq.length cq), (8, In i), (9, In 1), (10, S ([] : List UInt8)), (111, Pt g5 0), (112, Pt g1 5)] fun β => ?_
   refine GL_V (run_load1 (t := 23) (by kernel_rfl) ((H.blk_cell (i := 3) rfl 5).trans rfl)) ?_
   refine GL_s 1 4 [(1, Pt g1 0), (3, Pt g5 0), (7, .slice C sq.length cq), (8, In i), (9, In 1), (10, S ([] : List UInt8)), (111, Pt g5 0), (113, .slice E ls.length e), (114, In i)] fun β => ?_
   obtain ⟨ad35, hr34, hc36⟩ := R_place (P := Tryd.prog) (t := 23) (e := 9) (i := i) (ki := .i64) RL (by omega) (by kernel_rfl) (by kernel_rfl)
   refine GL_V (hr34 _) ?_
   refine GL_V (run_load1 (t := 9) (by kernel_rfl) (ss_at hc36 ((((H.drop 3).drop 2).drop 1).drop 0) (by omega))) ?_
   replace H := H.front (i := 2) rfl
   replace H := H.front (i := 1) rfl
   replace H : Sep w0 w33 (.blk g5 58 [.slice A6 l.length c7, In 1, s.v, S nm] :: .row (.slice A6 l.length c7) 40 2 l.length (us l) :: .row (.slice C sq.length cq) 9 1 sq.length (ss sq) :: .blk g1 25 [.slice B l.length d, S mech, S st, S y, .bool has, .slice E ls.length e] :: F) := H
   refine GL_C (c_AnswerE (e2 := 0) (n2 := 4) (s2 := s) (nm2 := nm) T hT gT R hR gR 1 s (by exact small_fits hsm) nm (ls.getD i []) (by omega) l (by first | omega | decide | (simp only [List.length_cons, List.length_nil]; omega)) hU H (by rw [ansF, if_neg (by decide), if_neg (by decide), if_pos hc])) ?_
   rintro _ w37 ⟨rfl, H⟩
   replace H : Sep w0 w37 (.blk g5 58 [.slice A6 l.length c7, In 4, s.v, S nm] :: .row (.slice A6 l.length c7) 40 2 l.length (us l) :: .row (.slice C sq.length cq) 9 1 sq.length (ss sq) :: .blk g1 25 [.slice B l.length d, S mech, S st, S y, .bool has, .slice E ls.length e] :: F) := H
   refine GL_st 1 8 [(1, Pt g1 0), (3, Pt g5 0), (7, .slice C sq.length cq), (8, In i), (9, In 1), (10, S ([] : List UInt8)), (11, In 0)] fun β => ?_
   refine G_seq ?_
   refine G_sr ?_
   refine GL_st 18 18 [(1, Pt g1 0), (3, Pt g5 0), (7, .slice C sq.length cq), (8, In i), (9, In 1), (11, In 0), (135, .bool false)] fun β => ?_
   refine G_false (by kernel_rfl) ?_
   refine G_skip ?_
   refine thn_normal ?_
   refine G_seq ?_
   refine G_sr ?_
   refine GL_s 12 12 [(1, Pt g1 0), (3, Pt g5 0), (7, .slice C sq.length cq), (8, In i), (11, In 0), (143, .bool false), (146, .bool true), (147, Pt g1 5)] fun β => ?_
   refine GL_V (run_load1 (t := 23) (by kernel_rfl) ((H.blk_cell (i := 3) rfl 5).trans rfl)) ?_
   refine GL_s 1 14 [(1, Pt g1 0), (3, Pt g5 0), (7, .slice C sq.length cq), (8, In i), (11, In 0), (143, .bool false), (146, .bool true), (148, .slice E ls.length e), (149, In i)] fun β => ?_
   obtain ⟨ad39, hr38, hc40⟩ := R_place (P := Tryd.prog) (t := 23) (e := 9) (i := i) (ki := .i64) RL (by omega) (by kernel_rfl) (by kernel_rfl)
   refine GL_V (hr38 _) ?_
   refine GL_V (run_load1 (t := 9) (by kernel_rfl) (ss_at hc40 ((((H.drop 3).drop 2).drop 1).drop 0) (by omega))) ?_
   refine GL_V (R_streqT (t := 9) (l := (ls.getD i [])) (m := [42]) hc) ?_
   refine GL_s 6 23 [(1, Pt g1 0), (3, Pt g5 0), (7, .slice C sq.length cq), (8, In i), (143, .bool false), (154, .bool true), (157, .bool false), (158, Pt g5 0)] fun β => ?_
   replace H : Sep w0 w37 (.blk g5 58 [.slice A6 l.length c7, In 4, s.v, S nm] :: .row (.slice A6 l.length c7) 40 2 l.length (us l) :: .row (.slice C sq.length cq) 9 1 sq.length (ss sq) :: .blk g1 25 [.slice B l.length d, S mech, S st, S y, .bool has, .slice E ls.length e] :: F) := H
   refine GL_C (c_State 4 (.slice A6 l.length c7) s.v (S nm) H) ?_
   rintro _ w41 ⟨rfl, H⟩
   refine GL_st 4 28 [(1, Pt g1 0), (3, Pt g5 0), (7, .slice C sq.length cq), (8, In i), (163, .bool false)] fun β => ?_
   refine G_false (by kernel_rfl) ?_
   refine G_skip ?_
   refine thn_normal ?_
   refine G_region ?_
   refine GL_s 2 2 [(1, Pt g1 0), (3, Pt g5 0), (8, In i), (164, .slice C sq.length cq), (165, Pt g1 5)] fun β => ?_
   refine GL_V (run_load1 (t := 23) (by kernel_rfl) ((H.blk_cell (i := 3) rfl 5).trans rfl)) ?_
   refine GL_s 1 4 [(1, Pt g1 0), (3, Pt g5 0), (8, In i), (164, .slice C sq.length cq), (166, .slice E ls.length e), (167, In i)] fun β => ?_
   obtain ⟨ad43, hr42, hc44⟩ := R_place (P := Tryd.prog) (t := 23) (e := 9) (i := i) (ki := .i64) RL (by omega) (by kernel_rfl) (by kernel_rfl)
   refine GL_V (hr42 _) ?_
   refine GL_V (run_load1 (t := 9) (by kernel_rfl) (ss_at hc44 ((((H.drop 3).drop 2).drop 1).drop 0) (by omega))) ?_
   refine GL_new (V := fun g => .slice (some ⟨g, 0, none⟩) 1 1) (l := [S (ls.getD i [])]) (t := 9) H rfl (by kernel_rfl) (by kernel_rfl) (by kernel_rfl) (fun g45 w46 H => ?_)
   obtain ⟨A47, c48, w49, hr50, H⟩ := R_append (P := Tryd.prog) (t := 23) (ty := 23) (e := 9) (z := S ([] : List UInt8)) (sz := 1) (by_ := 16) H (i := 3) rfl (by kernel_rfl) rfl (Src.blkp (m := 1) (c := 1) (off := 0) H (i := 0) rfl [S (ls.getD i [])] rfl ⟨_, rfl⟩) (one_list rfl) (by unfold maxLen; omega) (by omega)
   replace H := H.drop 0
   replace H : Sep w0 w49 (.blk g5 58 [.slice A6 l.length c7, In 4, s.v, S nm] :: .row (.slice A6 l.length c7) 40 2 l.length (us l) :: .row (.slice A47 (sq.length + 1) c48) 9 1 (sq.length + 1) (ss sq ++ [S (ls.getD i [])]) :: .blk g1 25 [.slice B l.length d, S mech, S st, S y, .bool has, .slice E ls.length e] :: F) := H
   refine GL_V hr50 ?_
   refine GL_s 1 9 [(1, Pt g1 0), (3, Pt g5 0), (7, .slice A47 (sq.length + 1) c48), (8, In i)] fun β => ?_
   refine GL_end (by kernel_rfl) ?_
   refine inb_normal ?_
   refine thn_normal ?_
   refine G_region ?_
   refine GL_sr 3 3 [(1, Pt g1 0), (3, Pt g5 0), (7, .slice A47 (sq.length + 1) c48), (8, In (i + 1))] (show ([Pt g1 0, Pt g5 0, .slice A47 (sq.length + 1) c48, .int .i64 (IntKind.i64.wrap ((i : Int) + ((1 : Nat) : Int)))] : List Value) = [Pt g1 0, Pt g5 0, .slice A47 (sq.length + 1) c48, In (i + 1)] by rw [nadd64 i 1 (by omega)]) fun β => ?_
   refine GL_end (by kernel_rfl) ?_
   have hno : sq.length + 1 = (sq ++ [(ls.getD i [])]).length := by simp
   rw [hno] at H ⊢
   replace H : Sep w0 w49 (.blk g5 58 [.slice A6 l.length c7, In 4, s.v, S nm] :: .row (.slice A6 l.length c7) 40 2 l.length (us l) :: .row (.slice A47 ((sq ++ [(ls.getD i [])]).length) c48) 9 1 ((sq ++ [(ls.getD i [])]).length) (ss (sq ++ [(ls.getD i [])])) :: .blk g1 25 [.slice B l.length d, S mech, S st, S y, .bool has, .slice E ls.length e] :: F) := by rw [ss_append]; exact H
   replace H := H.front (i := 3) rfl
   replace H := H.front (i := 3) rfl
   replace H := H.front (i := 3) rfl
   replace H := H.front (i := 3) rfl
   replace H : Sep w0 w49 (.blk g5 58 [.slice A6 l.length c7, In 4, s.v, S nm] :: .row (.slice A6 l.length c7) 40 2 l.length (us l) :: .row (.slice A47 ((sq ++ [(ls.getD i [])]).length) c48) 9 1 ((sq ++ [(ls.getD i [])]).length) (ss (sq ++ [(ls.getD i [])])) :: .blk g1 25 [.slice B l.length d, S mech, S st, S y, .bool has, .slice E ls.length e] :: F) := H
   have hin2 : InvS T R l st 4 s nm (sq ++ [(ls.getD i [])]) := .inr (.inr (.inr rfl))
   have hsm2 : smallS s nm := hsm
   replace H := H.front (i := 3) rfl
   replace H := H.front (i := 2) rfl
   replace H := H.front (i := 2) rfl
   replace H := H.front (i := 3) rfl
   replace H : Sep w0 w49 (.row (.slice A47 ((sq ++ [(ls.getD i [])]).length) c48) 9 1 ((sq ++ [(ls.getD i [])]).length) (ss (sq ++ [(ls.getD i [])])) :: .blk g5 58 [.slice A6 l.length c7, In 4, s.v, S nm] :: .row (.slice A6 l.length c7) 40 2 l.length (us l) :: .blk g1 25 [.slice B l.length d, S mech, S st, S y, .bool has, .slice E ls.length e] :: F) := H
   refine thn_normal ⟨(i + 1, 4, s, nm, sq ++ [(ls.getD i [])], A47, c48), Agr_of_keys (by kernel_rfl), ⟨H, ?_⟩, ?_⟩
   · exact ⟨by omega, hsm2, hin2, by simp; omega, fun x hx => by rcases List.mem_append.1 hx with hx | hx; exact hsa x hx; rw [List.mem_singleton.1 hx]; exact hyl⟩
   · first | (dsimp only; omega) | omega
 · --err
  replace H : Sep w0 w29 (.row (.slice C sq.length cq) 9 1 sq.length (ss sq) :: .blk g5 58 [.slice A6 l.length c7, In 1, s.v, S nm] :: .row (.slice A6 l.length c7) 40 2 l.length (us l) :: .blk g1 25 [.slice B l.length d, S mech, S st, S y, .bool has, .slice E ls.length e] :: F) := H
  refine G_seq ?_
  refine G_block ?_
  refine G_seq ?_
  refine G_sr ?_
  refine GL_s 1 1 [(1, Pt g1 0), (3, Pt g5 0), (7, .slice C sq.length cq), (8, In i), (76, Pt g5 0)] fun β => ?_
  replace H := H.front (i := 1) rfl
  replace H : Sep w0 w29 (.blk g5 58 [.slice A6 l.length c7, In 1, s.v, S nm] :: .row (.slice C sq.length cq) 9 1 sq.length (ss sq) :: .row (.slice A6 l.length c7) 40 2 l.length (us l) :: .blk g1 25 [.slice B l.length d, S mech, S st, S y, .bool has, .slice E ls.length e] :: F) := H
  refine GL_C (c_State 1 (.slice A6 l.length c7) s.v (S nm) H) ?_
  rintro _ w51 ⟨rfl, H⟩
  refine GL_et ?_
  refine G_block ?_
  refine G_sr ?_
  refine GL_st 2 2 [(1, Pt g1 0), (3, Pt g5 0), (7, .slice C sq.length cq), (8, In i), (77, In 1), (78, .bool true)] fun β => ?_
  refine G_true (by kernel_rfl) ?_
  refine G_sr ?_
  refine GL_s 1 1 [(1, Pt g1 0), (3, Pt g5 0), (7, .slice C sq.length cq), (8, In i), (80, Pt g5 0)] fun β => ?_
  replace H : Sep w0 w51 (.blk g5 58 [.slice A6 l.length c7, In 1, s.v, S nm] :: .row (.slice C sq.length cq) 9 1 sq.length (ss sq) :: .row (.slice A6 l.length c7) 40 2 l.length (us l) :: .blk g1 25 [.slice B l.length d, S mech, S st, S y, .bool has, .slice E ls.length e] :: F) := H
  refine GL_C (c_User 1 (.slice A6 l.length c7) s.v nm H) ?_
  rintro _ w52 ⟨rfl, H⟩
  refine GL_st 1 3 [(1, Pt g1 0), (3, Pt g5 0), (7, .slice C sq.length cq), (8, In i), (82, .bool false)] fun β => ?_
  refine G_false (by kernel_rfl) ?_
  refine G_skip ?_
  refine inb_normal ?_
  refine thn_normal ?_
  refine G_seq ?_
  refine G_sr ?_
  refine GL_s 2 2 [(1, Pt g1 0), (3, Pt g5 0), (7, .slice C sq.length cq), (8, In i), (102, In i), (103, Pt g1 5)] fun β => ?_
  refine GL_V (run_load1 (t := 23) (by kernel_rfl) ((H.blk_cell (i := 3) rfl 5).trans rfl)) ?_
  refine GL_srt 2 5 [(1, Pt g1 0), (3, Pt g5 0), (7, .slice C sq.length cq), (8, In i), (106, .bool (i == ls.length))] (show ([Pt g1 0, Pt g5 0, .slice C sq.length cq, .int .i64 (i : Int), .bool ((i : Int) == (ls.length : Int))] : List Value) = [Pt g1 0, Pt g5 0, .slice C sq.length cq, In i, .bool (i == ls.length)] by rw [neql i ls.length]) fun β => ?_
  refine G_cond (i == ls.length) (by kernel_rfl) (fun h5 => ?_) (fun h5 => ?_)
  · --yes
   replace h5 : i = ls.length := eql_T h5
   refine G_sr ?_
   refine GL_st 1 1 [(2, .bool true)] fun β => ?_
   refine G_ret ?_
   refine thn_ret (inb_ret (thn_ret (thn_ret (inb_ret (res1 (v := .bool true) rfl (by kernel_rfl) ?_)))))
   replace H := H.drop 3
   replace H := H.drop 2
   replace H := H.drop 1
   replace H := H.drop 0
   replace H : Sep w0 w52 (F) := H
   exact ⟨rfl, H⟩
  · --no
   replace h5 : ¬ (i = ls.length) := eql_F h5
   refine G_skip ?_
   refine thn_normal ?_
   refine G_sr ?_
   refine GL_s 1 1 [(1, Pt g1 0), (3, Pt g5 0), (7, .slice C sq.length cq), (8, In i), (107, Pt g5 0)] fun β => ?_
   replace H : Sep w0 w52 (.blk g5 58 [.slice A6 l.length c7, In 1, s.v, S nm] :: .row (.slice C sq.length cq) 9 1 sq.length (ss sq) :: .row (.slice A6 l.length c7) 40 2 l.length (us l) :: .blk g1 25 [.slice B l.length d, S mech, S st, S y, .bool has, .slice E ls.length e] :: F) := H
   refine GL_C (c_State 1 (.slice A6 l.length c7) s.v (S nm) H) ?_
   rintro _ w53 ⟨rfl, H⟩
   refine GL_st 1 3 [(1, Pt g1 0), (3, Pt g5 0), (7, .slice C sq.length cq), (8, In i), (9, In 1)] fun β => ?_
   refine G_sr ?_
   refine GL_s 1 1 [(1, Pt g1 0), (3, Pt g5 0), (7, .slice C sq.length cq), (8, In i), (9, In 1), (109, Pt g5 0)] fun β => ?_
   replace H : Sep w0 w53 (.blk g5 58 [.slice A6 l.length c7, In 1, s.v, S nm] :: .row (.slice C sq.length cq) 9 1 sq.length (ss sq) :: .row (.slice A6 l.length c7) 40 2 l.length (us l) :: .blk g1 25 [.slice B l.length d, S mech, S st, S y, .bool has, .slice E ls.length e] :: F) := H
   refine GL_C (c_User 1 (.slice A6 l.length c7) s.v nm H) ?_
   rintro _ w54 ⟨rfl, H⟩
   refine GL_st 1 3 [(1, Pt g1 0), (3, Pt g5 0), (7, .slice C sq.length cq), (8, In i), (9, In 1), (10, S ([] : List UInt8))] fun β => ?_
   have hyl := hLs _ (mem_getD (l := ls) (k := i) (by omega))
   refine G_sr ?_
   refine GL_s 2 2 [(1, Pt g1 0), (3, Pt g5 0), (7, .slice C sq.length cq), (8, In i), (9, In 1), (10, S ([] : List UInt8)), (111, Pt g5 0), (112, Pt g1 5)] fun β => ?_
   refine GL_V (run_load1 (t := 23) (by kernel_rfl) ((H.blk_cell (i := 3) rfl 5).trans rfl)) ?_
   refine GL_s 1 4 [(1, Pt g1 0), (3, Pt g5 0), (7, .slice C sq.length cq), (8, In i), (9, In 1), (10, S ([] : List UInt8)), (111, Pt g5 0), (113, .slice E ls.length e), (114, In i)] fun β => ?_
   obtain ⟨ad56, hr55, hc57⟩ := R_place (P := Tryd.prog) (t := 23) (e := 9) (i := i) (ki := .i64) RL (by omega) (by kernel_rfl) (by kernel_rfl)
   refine GL_V (hr55 _) ?_
   refine GL_V (run_load1 (t := 9) (by kernel_rfl) (ss_at hc57 ((((H.drop 3).drop 2).drop 1).drop 0) (by omega))) ?_
   replace H := H.front (i := 2) rfl
   replace H := H.front (i := 1) rfl
   replace H : Sep w0 w54 (.blk g5 58 [.slice A6 l.length c7, In 1, s.v, S nm] :: .row (.slice A6 l.length c7) 40 2 l.length (us l) :: .row (.slice C sq.length cq) 9 1 sq.length (ss sq) :: .blk g1 25 [.slice B l.length d, S mech, S st, S y, .bool has, .slice E ls.length e] :: F) := H
   refine GL_C (c_AnswerE (e2 := 221) (n2 := 3) (s2 := (readF T R l 1 s nm (ls.getD i [])).2.2.1) (nm2 := ((readF T R l 1 s nm (ls.getD i [])).2.2.2)) T hT gT R hR gR 1 s (by exact small_fits hsm) nm (ls.getD i []) (by omega) l (by first | omega | decide | (simp only [List.length_cons, List.length_nil]; omega)) hU H (by rw [ansF, if_neg (by decide), if_neg (by decide), if_neg hc, if_neg hq, read_err hq])) ?_
   rintro _ w58 ⟨rfl, H⟩
   replace H : Sep w0 w58 (.blk g5 58 [.slice A6 l.length c7, In 3, (readF T R l 1 s nm (ls.getD i [])).2.2.1.v, S ((readF T R l 1 s nm (ls.getD i [])).2.2.2)] :: .row (.slice A6 l.length c7) 40 2 l.length (us l) :: .row (.slice C sq.length cq) 9 1 sq.length (ss sq) :: .blk g1 25 [.slice B l.length d, S mech, S st, S y, .bool has, .slice E ls.length e] :: F) := H
   refine GL_st 1 8 [(1, Pt g1 0), (3, Pt g5 0), (7, .slice C sq.length cq), (8, In i), (9, In 1), (10, S ([] : List UInt8)), (11, In 221)] fun β => ?_
   refine G_seq ?_
   refine G_sr ?_
   refine GL_st 18 18 [(1, Pt g1 0), (3, Pt g5 0), (7, .slice C sq.length cq), (8, In i), (9, In 1), (11, In 221), (135, .bool false)] fun β => ?_
   refine G_false (by kernel_rfl) ?_
   refine G_skip ?_
   refine thn_normal ?_
   refine G_seq ?_
   refine G_sr ?_
   refine GL_s 4 4 [(1, Pt g1 0), (3, Pt g5 0), (7, .slice C sq.length cq), (8, In i), (9, In 1), (11, In 221), (138, .bool true), (139, Pt g5 0)] fun β => ?_
   replace H : Sep w0 w58 (.blk g5 58 [.slice A6 l.length c7, In 3, (readF T R l 1 s nm (ls.getD i [])).2.2.1.v, S ((readF T R l 1 s nm (ls.getD i [])).2.2.2)] :: .row (.slice A6 l.length c7) 40 2 l.length (us l) :: .row (.slice C sq.length cq) 9 1 sq.length (ss sq) :: .blk g1 25 [.slice B l.length d, S mech, S st, S y, .bool has, .slice E ls.length e] :: F) := H
   refine GL_C (c_State 3 (.slice A6 l.length c7) ((readF T R l 1 s nm (ls.getD i [])).2.2.1.v) (S ((readF T R l 1 s nm (ls.getD i [])).2.2.2)) H) ?_
   rintro _ w59 ⟨rfl, H⟩
   refine GL_s 7 12 [(1, Pt g1 0), (3, Pt g5 0), (7, .slice C sq.length cq), (8, In i), (11, In 221), (143, .bool false), (146, .bool true), (147, Pt g1 5)] fun β => ?_
   refine GL_V (run_load1 (t := 23) (by kernel_rfl) ((H.blk_cell (i := 3) rfl 5).trans rfl)) ?_
   refine GL_s 1 14 [(1, Pt g1 0), (3, Pt g5 0), (7, .slice C sq.length cq), (8, In i), (11, In 221), (143, .bool false), (146, .bool true), (148, .slice E ls.length e), (149, In i)] fun β => ?_
   obtain ⟨ad61, hr60, hc62⟩ := R_place (P := Tryd.prog) (t := 23) (e := 9) (i := i) (ki := .i64) RL (by omega) (by kernel_rfl) (by kernel_rfl)
   refine GL_V (hr60 _) ?_
   refine GL_V (run_load1 (t := 9) (by kernel_rfl) (ss_at hc62 ((((H.drop 3).drop 2).drop 1).drop 0) (by omega))) ?_
   refine GL_V (R_streqF (t := 9) (l := (ls.getD i [])) (m := [42]) hc) ?_
   refine GL_st 11 28 [(1, Pt g1 0), (3, Pt g5 0), (7, .slice C sq.length cq), (8, In i), (163, .bool false)] fun β => ?_
   refine G_false (by kernel_rfl) ?_
   refine G_skip ?_
   refine thn_normal ?_
   refine G_region ?_
   refine GL_s 2 2 [(1, Pt g1 0), (3, Pt g5 0), (8, In i), (164, .slice C sq.length cq), (165, Pt g1 5)] fun β => ?_
   refine GL_V (run_load1 (t := 23) (by kernel_rfl) ((H.blk_cell (i := 3) rfl 5).trans rfl)) ?_
   refine GL_s 1 4 [(1, Pt g1 0), (3, Pt g5 0), (8, In i), (164, .slice C sq.length cq), (166, .slice E ls.length e), (167, In i)] fun β => ?_
   obtain ⟨ad64, hr63, hc65⟩ := R_place (P := Tryd.prog) (t := 23) (e := 9) (i := i) (ki := .i64) RL (by omega) (by kernel_rfl) (by kernel_rfl)
   refine GL_V (hr63 _) ?_
   refine GL_V (run_load1 (t := 9) (by kernel_rfl) (ss_at hc65 ((((H.drop 3).drop 2).drop 1).drop 0) (by omega))) ?_
   refine GL_new (V := fun g => .slice (some ⟨g, 0, none⟩) 1 1) (l := [S (ls.getD i [])]) (t := 9) H rfl (by kernel_rfl) (by kernel_rfl) (by kernel_rfl) (fun g66 w67 H => ?_)
   obtain ⟨A68, c69, w70, hr71, H⟩ := R_append (P := Tryd.prog) (t := 23) (ty := 23) (e := 9) (z := S ([] : List UInt8)) (sz := 1) (by_ := 16) H (i := 3) rfl (by kernel_rfl) rfl (Src.blkp (m := 1) (c := 1) (off := 0) H (i := 0) rfl [S (ls.getD i [])] rfl ⟨_, rfl⟩) (one_list rfl) (by unfold maxLen; omega) (by omega)
   replace H := H.drop 0
   replace H : Sep w0 w70 (.blk g5 58 [.slice A6 l.length c7, In 3, (readF T R l 1 s nm (ls.getD i [])).2.2.1.v, S ((readF T R l 1 s nm (ls.getD i [])).2.2.2)] :: .row (.slice A6 l.length c7) 40 2 l.length (us l) :: .row (.slice A68 (sq.length + 1) c69) 9 1 (sq.length + 1) (ss sq ++ [S (ls.getD i [])]) :: .blk g1 25 [.slice B l.length d, S mech, S st, S y, .bool has, .slice E ls.length e] :: F) := H
   refine GL_V hr71 ?_
   refine GL_s 1 9 [(1, Pt g1 0), (3, Pt g5 0), (7, .slice A68 (sq.length + 1) c69), (8, In i)] fun β => ?_
   refine GL_end (by kernel_rfl) ?_
   refine inb_normal ?_
   refine thn_normal ?_
   refine G_region ?_
   refine GL_sr 3 3 [(1, Pt g1 0), (3, Pt g5 0), (7, .slice A68 (sq.length + 1) c69), (8, In (i + 1))] (show ([Pt g1 0, Pt g5 0, .slice A68 (sq.length + 1) c69, .int .i64 (IntKind.i64.wrap ((i : Int) + ((1 : Nat) : Int)))] : List Value) = [Pt g1 0, Pt g5 0, .slice A68 (sq.length + 1) c69, In (i + 1)] by rw [nadd64 i 1 (by omega)]) fun β => ?_
   refine GL_end (by kernel_rfl) ?_
   have hno : sq.length + 1 = (sq ++ [(ls.getD i [])]).length := by simp
   rw [hno] at H ⊢
   replace H : Sep w0 w70 (.blk g5 58 [.slice A6 l.length c7, In 3, (readF T R l 1 s nm (ls.getD i [])).2.2.1.v, S ((readF T R l 1 s nm (ls.getD i [])).2.2.2)] :: .row (.slice A6 l.length c7) 40 2 l.length (us l) :: .row (.slice A68 ((sq ++ [(ls.getD i [])]).length) c69) 9 1 ((sq ++ [(ls.getD i [])]).length) (ss (sq ++ [(ls.getD i [])])) :: .blk g1 25 [.slice B l.length d, S mech, S st, S y, .bool has, .slice E ls.length e] :: F) := by rw [ss_append]; exact H
   replace H := H.front (i := 3) rfl
   replace H := H.front (i := 3) rfl
   replace H := H.front (i := 3) rfl
   replace H := H.front (i := 3) rfl
   replace H : Sep w0 w70 (.blk g5 58 [.slice A6 l.length c7, In 3, (readF T R l 1 s nm (ls.getD i [])).2.2.1.v, S ((readF T R l 1 s nm (ls.getD i [])).2.2.2)] :: .row (.slice A6 l.length c7) 40 2 l.length (us l) :: .row (.slice A68 ((sq ++ [(ls.getD i [])]).length) c69) 9 1 ((sq ++ [(ls.getD i [])]).length) (ss (sq ++ [(ls.getD i [])])) :: .blk g1 25 [.slice B l.length d, S mech, S st, S y, .bool has, .slice E ls.length e] :: F) := H
   have hin2 : InvS T R l st 3 ((readF T R l 1 s nm (ls.getD i [])).2.2.1) ((readF T R l 1 s nm (ls.getD i [])).2.2.2) (sq ++ [(ls.getD i [])]) := .inr (.inr (.inl rfl))
   have hsm2 : smallS ((readF T R l 1 s nm (ls.getD i [])).2.2.1) ((readF T R l 1 s nm (ls.getD i [])).2.2.2) := small_read hsm hyl
   replace H := H.front (i := 3) rfl
   replace H := H.front (i := 2) rfl
   replace H := H.front (i := 2) rfl
   replace H := H.front (i := 3) rfl
   replace H : Sep w0 w70 (.row (.slice A68 ((sq ++ [(ls.getD i [])]).length) c69) 9 1 ((sq ++ [(ls.getD i [])]).length) (ss (sq ++ [(ls.getD i [])])) :: .blk g5 58 [.slice A6 l.length c7, In 3, (readF T R l 1 s nm (ls.getD i [])).2.2.1.v, S ((readF T R l 1 s nm (ls.getD i [])).2.2.2)] :: .row (.slice A6 l.length c7) 40 2 l.length (us l) :: .blk g1 25 [.slice B l.length d, S mech, S st, S y, .bool has, .slice E ls.length e] :: F) := H
   refine thn_normal ⟨(i + 1, 3, (readF T R l 1 s nm (ls.getD i [])).2.2.1, (readF T R l 1 s nm (ls.getD i [])).2.2.2, sq ++ [(ls.getD i [])], A68, c69), Agr_of_keys (by kernel_rfl), ⟨H, ?_⟩, ?_⟩
   · exact ⟨by omega, hsm2, hin2, by simp; omega, fun x hx => by rcases List.mem_append.1 hx with hx | hx; exact hsa x hx; rw [List.mem_singleton.1 hx]; exact hyl⟩
   · first | (dsimp only; omega) | omega
 · --ok
  replace H : Sep w0 w29 (.row (.slice C sq.length cq) 9 1 sq.length (ss sq) :: .blk g5 58 [.slice A6 l.length c7, In 1, s.v, S nm] :: .row (.slice A6 l.length c7) 40 2 l.length (us l) :: .blk g1 25 [.slice B l.length d, S mech, S st, S y, .bool has, .slice E ls.length e] :: F) := H
  refine G_seq ?_
  refine G_block ?_
  refine G_seq ?_
  refine G_sr ?_
  refine GL_s 1 1 [(1, Pt g1 0), (3, Pt g5 0), (7, .slice C sq.length cq), (8, In i), (76, Pt g5 0)] fun β => ?_
  replace H := H.front (i := 1) rfl
  replace H : Sep w0 w29 (.blk g5 58 [.slice A6 l.length c7, In 1, s.v, S nm] :: .row (.slice C sq.length cq) 9 1 sq.length (ss sq) :: .row (.slice A6 l.length c7) 40 2 l.length (us l) :: .blk g1 25 [.slice B l.length d, S mech, S st, S y, .bool has, .slice E ls.length e] :: F) := H
  refine GL_C (c_State 1 (.slice A6 l.length c7) s.v (S nm) H) ?_
  rintro _ w72 ⟨rfl, H⟩
  refine GL_et ?_
  refine G_block ?_
  refine G_sr ?_
  refine GL_st 2 2 [(1, Pt g1 0), (3, Pt g5 0), (7, .slice C sq.length cq), (8, In i), (77, In 1), (78, .bool true)] fun β => ?_
  refine G_true (by kernel_rfl) ?_
  refine G_sr ?_
  refine GL_s 1 1 [(1, Pt g1 0), (3, Pt g5 0), (7, .slice C sq.length cq), (8, In i), (80, Pt g5 0)] fun β => ?_
  replace H : Sep w0 w72 (.blk g5 58 [.slice A6 l.length c7, In 1, s.v, S nm] :: .row (.slice C sq.length cq) 9 1 sq.length (ss sq) :: .row (.slice A6 l.length c7) 40 2 l.length (us l) :: .blk g1 25 [.slice B l.length d, S mech, S st, S y, .bool has, .slice E ls.length e] :: F) := H
  refine GL_C (c_User 1 (.slice A6 l.length c7) s.v nm H) ?_
  rintro _ w73 ⟨rfl, H⟩
  refine GL_st 1 3 [(1, Pt g1 0), (3, Pt g5 0), (7, .slice C sq.length cq), (8, In i), (82, .bool false)] fun β => ?_
  refine G_false (by kernel_rfl) ?_
  refine G_skip ?_
  refine inb_normal ?_
  refine thn_normal ?_
  refine G_seq ?_
  refine G_sr ?_
  refine GL_s 2 2 [(1, Pt g1 0), (3, Pt g5 0), (7, .slice C sq.length cq), (8, In i), (102, In i), (103, Pt g1 5)] fun β => ?_
  refine GL_V (run_load1 (t := 23) (by kernel_rfl) ((H.blk_cell (i := 3) rfl 5).trans rfl)) ?_
  refine GL_srt 2 5 [(1, Pt g1 0), (3, Pt g5 0), (7, .slice C sq.length cq), (8, In i), (106, .bool (i == ls.length))] (show ([Pt g1 0, Pt g5 0, .slice C sq.length cq, .int .i64 (i : Int), .bool ((i : Int) == (ls.length : Int))] : List Value) = [Pt g1 0, Pt g5 0, .slice C sq.length cq, In i, .bool (i == ls.length)] by rw [neql i ls.length]) fun β => ?_
  refine G_cond (i == ls.length) (by kernel_rfl) (fun h6 => ?_) (fun h6 => ?_)
  · --yes
   replace h6 : i = ls.length := eql_T h6
   refine G_sr ?_
   refine GL_st 1 1 [(2, .bool true)] fun β => ?_
   refine G_ret ?_
   refine thn_ret (inb_ret (thn_ret (thn_ret (inb_ret (res1 (v := .bool true) rfl (by kernel_rfl) ?_)))))
   replace H := H.drop 3
   replace H := H.drop 2
   replace H := H.drop 1
   replace H := H.drop 0
   replace H : Sep w0 w73 (F) := H
   exact ⟨rfl, H⟩
  · --no
   replace h6 : ¬ (i = ls.length) := eql_F h6
   refine G_skip ?_
   refine thn_normal ?_
   refine G_sr ?_
   refine GL_s 1 1 [(1, Pt g1 0), (3, Pt g5 0), (7, .slice C sq.length cq), (8, In i), (107, Pt g5 0)] fun β => ?_
   replace H : Sep w0 w73 (.blk g5 58 [.slice A6 l.length c7, In 1, s.v, S nm] :: .row (.slice C sq.length cq) 9 1 sq.length (ss sq) :: .row (.slice A6 l.length c7) 40 2 l.length (us l) :: .blk g1 25 [.slice B l.length d, S mech, S st, S y, .bool has, .slice E ls.length e] :: F) := H
   refine GL_C (c_State 1 (.slice A6 l.length c7) s.v (S nm) H) ?_
   rintro _ w74 ⟨rfl, H⟩
   refine GL_st 1 3 [(1, Pt g1 0), (3, Pt g5 0), (7, .slice C sq.length cq), (8, In i), (9, In 1)] fun β => ?_
   refine G_sr ?_
   refine GL_s 1 1 [(1, Pt g1 0), (3, Pt g5 0), (7, .slice C sq.length cq), (8, In i), (9, In 1), (109, Pt g5 0)] fun β => ?_
   replace H : Sep w0 w74 (.blk g5 58 [.slice A6 l.length c7, In 1, s.v, S nm] :: .row (.slice C sq.length cq) 9 1 sq.length (ss sq) :: .row (.slice A6 l.length c7) 40 2 l.length (us l) :: .blk g1 25 [.slice B l.length d, S mech, S st, S y, .bool has, .slice E ls.length e] :: F) := H
   refine GL_C (c_User 1 (.slice A6 l.length c7) s.v nm H) ?_
   rintro _ w75 ⟨rfl, H⟩
   refine GL_st 1 3 [(1, Pt g1 0), (3, Pt g5 0), (7, .slice C sq.length cq), (8, In i), (9, In 1), (10, S ([] : List UInt8))] fun β => ?_
   have hyl := hLs _ (mem_getD (l := ls) (k := i) (by omega))
   refine G_sr ?_
   refine GL_s 2 2 [(1, Pt g1 0), (3, Pt g5 0), (7, .slice C sq.length cq), (8, In i), (9, In 1), (10, S ([] : List UInt8)), (111, Pt g5 0), (112, Pt g1 5)] fun β => ?_
   refine GL_V (run_load1 (t := 23) (by kernel_rfl) ((H.blk_cell (i := 3) rfl 5).trans rfl)) ?_
   refine GL_s 1 4 [(1, Pt g1 0), (3, Pt g5 0), (7, .slice C sq.length cq), (8, In i), (9, In 1), (10, S ([] : List UInt8)), (111, Pt g5 0), (113, .slice E ls.length e), (114, In i)] fun β => ?_
   obtain ⟨ad77, hr76, hc78⟩ := R_place (P := Tryd.prog) (t := 23) (e := 9) (i := i) (ki := .i64) RL (by omega) (by kernel_rfl) (by kernel_rfl)
   refine GL_V (hr76 _) ?_
   refine GL_V (run_load1 (t := 9) (by kernel_rfl) (ss_at hc78 ((((H.drop 3).drop 2).drop 1).drop 0) (by omega))) ?_
   replace H := H.front (i := 2) rfl
   replace H := H.front (i := 1) rfl
   replace H : Sep w0 w75 (.blk g5 58 [.slice A6 l.length c7, In 1, s.v, S nm] :: .row (.slice A6 l.length c7) 40 2 l.length (us l) :: .row (.slice C sq.length cq) 9 1 sq.length (ss sq) :: .blk g1 25 [.slice B l.length d, S mech, S st, S y, .bool has, .slice E ls.length e] :: F) := H
   refine GL_C (c_AnswerE (e2 := 0) (n2 := ((readF T R l 1 s nm (ls.getD i [])).2.1)) (s2 := (readF T R l 1 s nm (ls.getD i [])).2.2.1) (nm2 := ((readF T R l 1 s nm (ls.getD i [])).2.2.2)) T hT gT R hR gR 1 s (by exact small_fits hsm) nm (ls.getD i []) (by omega) l (by first | omega | decide | (simp only [List.length_cons, List.length_nil]; omega)) hU H (by rw [ansF, if_neg (by decide), if_neg (by decide), if_neg hc, if_pos hq, ← hq])) ?_
   rintro _ w79 ⟨rfl, H⟩
   replace H : Sep w0 w79 (.blk g5 58 [.slice A6 l.length c7, In ((readF T R l 1 s nm (ls.getD i [])).2.1), (readF T R l 1 s nm (ls.getD i [])).2.2.1.v, S ((readF T R l 1 s nm (ls.getD i [])).2.2.2)] :: .row (.slice A6 l.length c7) 40 2 l.length (us l) :: .row (.slice C sq.length cq) 9 1 sq.length (ss sq) :: .blk g1 25 [.slice B l.length d, S mech, S st, S y, .bool has, .slice E ls.length e] :: F) := H
   refine GL_st 1 8 [(1, Pt g1 0), (3, Pt g5 0), (7, .slice C sq.length cq), (8, In i), (9, In 1), (10, S ([] : List UInt8)), (11, In 0)] fun β => ?_
   refine G_seq ?_
   refine G_sr ?_
   refine GL_st 18 18 [(1, Pt g1 0), (3, Pt g5 0), (7, .slice C sq.length cq), (8, In i), (9, In 1), (11, In 0), (135, .bool false)] fun β => ?_
   refine G_false (by kernel_rfl) ?_
   refine G_skip ?_
   refine thn_normal ?_
   refine G_seq ?_
   refine G_sr ?_
   refine GL_s 12 12 [(1, Pt g1 0), (3, Pt g5 0), (7, .slice C sq.length cq), (8, In i), (11, In 0), (143, .bool false), (146, .bool true), (147, Pt g1 5)] fun β => ?_
   refine GL_V (run_load1 (t := 23) (by kernel_rfl) ((H.blk_cell (i := 3) rfl 5).trans rfl)) ?_
   refine GL_s 1 14 [(1, Pt g1 0), (3, Pt g5 0), (7, .slice C sq.length cq), (8, In i), (11, In 0), (143, .bool false), (146, .bool true), (148, .slice E ls.length e), (149, In i)] fun β => ?_
   obtain ⟨ad81, hr80, hc82⟩ := R_place (P := Tryd.prog) (t := 23) (e := 9) (i := i) (ki := .i64) RL (by omega) (by kernel_rfl) (by kernel_rfl)
   refine GL_V (hr80 _) ?_
   refine GL_V (run_load1 (t := 9) (by kernel_rfl) (ss_at hc82 ((((H.drop 3).drop 2).drop 1).drop 0) (by omega))) ?_
   refine GL_V (R_streqF (t := 9) (l := (ls.getD i [])) (m := [42]) hc) ?_
   refine GL_st 11 28 [(1, Pt g1 0), (3, Pt g5 0), (7, .slice C sq.length cq), (8, In i), (163, .bool false)] fun β => ?_
   refine G_false (by kernel_rfl) ?_
   refine G_skip ?_
   refine thn_normal ?_
   refine G_region ?_
   refine GL_s 2 2 [(1, Pt g1 0), (3, Pt g5 0), (8, In i), (164, .slice C sq.length cq), (165, Pt g1 5)] fun β => ?_
   refine GL_V (run_load1 (t := 23) (by kernel_rfl) ((H.blk_cell (i := 3) rfl 5).trans rfl)) ?_
   refine GL_s 1 4 [(1, Pt g1 0), (3, Pt g5 0), (8, In i), (164, .slice C sq.length cq), (166, .slice E ls.length e), (167, In i)] fun β => ?_
   obtain ⟨ad84, hr83, hc85⟩ := R_place (P := Tryd.prog) (t := 23) (e := 9) (i := i) (ki := .i64) RL (by omega) (by kernel_rfl) (by kernel_rfl)
   refine GL_V (hr83 _) ?_
   refine GL_V (run_load1 (t := 9) (by kernel_rfl) (ss_at hc85 ((((H.drop 3).drop 2).drop 1).drop 0) (by omega))) ?_
   refine GL_new (V := fun g => .slice (some ⟨g, 0, none⟩) 1 1) (l := [S (ls.getD i [])]) (t := 9) H rfl (by kernel_rfl) (by kernel_rfl) (by kernel_rfl) (fun g86 w87 H => ?_)
   obtain ⟨A88, c89, w90, hr91, H⟩ := R_append (P := Tryd.prog) (t := 23) (ty := 23) (e := 9) (z := S ([] : List UInt8)) (sz := 1) (by_ := 16) H (i := 3) rfl (by kernel_rfl) rfl (Src.blkp (m := 1) (c := 1) (off := 0) H (i := 0) rfl [S (ls.getD i [])] rfl ⟨_, rfl⟩) (one_list rfl) (by unfold maxLen; omega) (by omega)
   replace H := H.drop 0
   replace H : Sep w0 w90 (.blk g5 58 [.slice A6 l.length c7, In ((readF T R l 1 s nm (ls.getD i [])).2.1), (readF T R l 1 s nm (ls.getD i [])).2.2.1.v, S ((readF T R l 1 s nm (ls.getD i [])).2.2.2)] :: .row (.slice A6 l.length c7) 40 2 l.length (us l) :: .row (.slice A88 (sq.length + 1) c89) 9 1 (sq.length + 1) (ss sq ++ [S (ls.getD i [])]) :: .blk g1 25 [.slice B l.length d, S mech, S st, S y, .bool has, .slice E ls.length e] :: F) := H
   refine GL_V hr91 ?_
   refine GL_s 1 9 [(1, Pt g1 0), (3, Pt g5 0), (7, .slice A88 (sq.length + 1) c89), (8, In i)] fun β => ?_
   refine GL_end (by kernel_rfl) ?_
   refine inb_normal ?_
   refine thn_normal ?_
   refine G_region ?_
   refine GL_sr 3 3 [(1, Pt g1 0), (3, Pt g5 0), (7, .slice A88 (sq.length + 1) c89), (8, In (i + 1))] (show ([Pt g1 0, Pt g5 0, .slice A88 (sq.length + 1) c89, .int .i64 (IntKind.i64.wrap ((i : Int) + ((1 : Nat) : Int)))] : List Value) = [Pt g1 0, Pt g5 0, .slice A88 (sq.length + 1) c89, In (i + 1)] by rw [nadd64 i 1 (by omega)]) fun β => ?_
   refine GL_end (by kernel_rfl) ?_
   have hno : sq.length + 1 = (sq ++ [(ls.getD i [])]).length := by simp
   rw [hno] at H ⊢
   replace H : Sep w0 w90 (.blk g5 58 [.slice A6 l.length c7, In ((readF T R l 1 s nm (ls.getD i [])).2.1), (readF T R l 1 s nm (ls.getD i [])).2.2.1.v, S ((readF T R l 1 s nm (ls.getD i [])).2.2.2)] :: .row (.slice A6 l.length c7) 40 2 l.length (us l) :: .row (.slice A88 ((sq ++ [(ls.getD i [])]).length) c89) 9 1 ((sq ++ [(ls.getD i [])]).length) (ss (sq ++ [(ls.getD i [])])) :: .blk g1 25 [.slice B l.length d, S mech, S st, S y, .bool has, .slice E ls.length e] :: F) := by rw [ss_append]; exact H
   replace H := H.front (i := 3) rfl
   replace H := H.front (i := 3) rfl
   replace H := H.front (i := 3) rfl
   replace H := H.front (i := 3) rfl
   replace H : Sep w0 w90 (.blk g5 58 [.slice A6 l.length c7, In ((readF T R l 1 s nm (ls.getD i [])).2.1), (readF T R l 1 s nm (ls.getD i [])).2.2.1.v, S ((readF T R l 1 s nm (ls.getD i [])).2.2.2)] :: .row (.slice A6 l.length c7) 40 2 l.length (us l) :: .row (.slice A88 ((sq ++ [(ls.getD i [])]).length) c89) 9 1 ((sq ++ [(ls.getD i [])]).length) (ss (sq ++ [(ls.getD i [])])) :: .blk g1 25 [.slice B l.length d, S mech, S st, S y, .bool has, .slice E ls.length e] :: F) := H
   have hin2 : InvS T R l st ((readF T R l 1 s nm (ls.getD i [])).2.1) ((readF T R l 1 s nm (ls.getD i [])).2.2.1) ((readF T R l 1 s nm (ls.getD i [])).2.2.2) (sq ++ [(ls.getD i [])]) := inv_read hin (show (readF T R l 1 s nm (ls.getD i [])) = (0, (readF T R l 1 s nm (ls.getD i [])).2.1, (readF T R l 1 s nm (ls.getD i [])).2.2.1, (readF T R l 1 s nm (ls.getD i [])).2.2.2) from by rw [← hq])
   have hsm2 : smallS ((readF T R l 1 s nm (ls.getD i [])).2.2.1) ((readF T R l 1 s nm (ls.getD i [])).2.2.2) := small_read hsm hyl
   replace H := H.front (i := 3) rfl
   replace H := H.front (i := 2) rfl
   replace H := H.front (i := 2) rfl
   replace H := H.front (i := 3) rfl
   replace H : Sep w0 w90 (.row (.slice A88 ((sq ++ [(ls.getD i [])]).length) c89) 9 1 ((sq ++ [(ls.getD i [])]).length) (ss (sq ++ [(ls.getD i [])])) :: .blk g5 58 [.slice A6 l.length c7, In ((readF T R l 1 s nm (ls.getD i [])).2.1), (readF T R l 1 s nm (ls.getD i [])).2.2.1.v, S ((readF T R l 1 s nm (ls.getD i [])).2.2.2)] :: .row (.slice A6 l.length c7) 40 2 l.length (us l) :: .blk g1 25 [.slice B l.length d, S mech, S st, S y, .bool has, .slice E ls.length e] :: F) := H
   refine thn_normal ⟨(i + 1, (readF T R l 1 s nm (ls.getD i [])).2.1, (readF T R l 1 s nm (ls.getD i [])).2.2.1, (readF T R l 1 s nm (ls.getD i [])).2.2.2, sq ++ [(ls.getD i [])], A88, c89), Agr_of_keys (by kernel_rfl), ⟨H, ?_⟩, ?_⟩
   · exact ⟨by omega, hsm2, hin2, by simp; omega, fun x hx => by rcases List.mem_append.1 hx with hx | hx; exact hsa x hx; rw [List.mem_singleton.1 hx]; exact hyl⟩
   · first | (dsimp only; omega) | omega
 · --yes
  replace H : Sep w0 w29 (.row (.slice C sq.length cq) 9 1 sq.length (ss sq) :: .blk g5 58 [.slice A6 l.length c7, In 2, s.v, S nm] :: .row (.slice A6 l.length c7) 40 2 l.length (us l) :: .blk g1 25 [.slice B l.length d, S mech, S st, S y, .bool has, .slice E ls.length e] :: F) := H
  refine G_seq ?_
  refine G_block ?_
  refine G_seq ?_
  refine G_sr ?_
  refine GL_s 1 1 [(1, Pt g1 0), (3, Pt g5 0), (7, .slice C sq.length cq), (8, In i), (76, Pt g5 0)] fun β => ?_
  replace H := H.front (i := 1) rfl
  replace H : Sep w0 w29 (.blk g5 58 [.slice A6 l.length c7, In 2, s.v, S nm] :: .row (.slice C sq.length cq) 9 1 sq.length (ss sq) :: .row (.slice A6 l.length c7) 40 2 l.length (us l) :: .blk g1 25 [.slice B l.length d, S mech, S st, S y, .bool has, .slice E ls.length e] :: F) := H
  refine GL_C (c_State 2 (.slice A6 l.length c7) s.v (S nm) H) ?_
  rintro _ w92 ⟨rfl, H⟩
  refine GL_et ?_
  refine G_block ?_
  refine G_sr ?_
  refine GL_st 2 2 [(1, Pt g1 0), (3, Pt g5 0), (7, .slice C sq.length cq), (8, In i), (77, In 2), (78, .bool false)] fun β => ?_
  refine G_false (by kernel_rfl) ?_
  refine G_sr ?_
  refine GL_st 2 2 [(1, Pt g1 0), (3, Pt g5 0), (7, .slice C sq.length cq), (8, In i), (77, In 2), (83, .bool true)] fun β => ?_
  refine G_true (by kernel_rfl) ?_
  refine G_seq ?_
  refine G_drawS (fun w => (∀ j u, ([.slice B l.length d, S mech, S st, S y, .bool has, .slice E ls.length e] : List Value)[j]? = some u → w.cell? ((⟨g1, 0, none⟩ : Addr).add j) = some u) ∧ True) 6 6 (by kernel_rfl) (by kernel_rfl) H (fun w93 H => ?_)
  refine HL_t (i := 0) (m := 5) (fun w hS => run_loadN (t := 25) (vs := [.slice B l.length d, S mech, S st, S y, .bool has, .slice E ls.length e]) (by kernel_rfl) (by kernel_rfl) hS.1) rfl (by kernel_rfl) (by kernel_rfl) (by kernel_rfl) (by kernel_rfl) (by kernel_rfl) (by kernel_rfl) ⟨(H.blk_cells (i := 3) rfl 0 _ ⟨_, rfl⟩), trivial⟩ rfl ?_
  refine HL_takes [1, 3] [(1, Pt g1 0), (3, Pt g5 0), (7, .slice C sq.length cq), (8, .int .i64 (i : Int)), (85, .agg #[.slice B l.length d, S mech, S st, S y, .bool has, .slice E ls.length e]), (86, Pt g5 0), (88, .slice C sq.length cq)] (mkL 6 [0, 1, 3]) 3 (by kernel_rfl) rfl (by kernel_rfl) (fun _ => by kernel_rfl) ⟨(H.blk_cells (i := 3) rfl 0 _ ⟨_, rfl⟩), trivial⟩ (fun β => ?_)
  replace H : Sep w0 w93 (.blk g5 58 [.slice A6 l.length c7, In 2, s.v, S nm] :: .row (.slice C sq.length cq) 9 1 sq.length (ss sq) :: .row (.slice A6 l.length c7) 40 2 l.length (us l) :: .blk g1 25 [.slice B l.length d, S mech, S st, S y, .bool has, .slice E ls.length e] :: F) := H
  refine HL_call (i := 2) (f := 10) (args := #[Pt g5 0]) rfl (by kernel_rfl) (by kernel_rfl) (by kernel_rfl) (by kernel_rfl) (c_User 2 (.slice A6 l.length c7) s.v nm H) ?_
  rintro _ w94 ⟨rfl, H⟩
  refine ⟨(.inr ⟨(H.blk_cells (i := 3) rfl 0 _ ⟨_, rfl⟩), trivial⟩), ?_⟩
  refine HL_call (i := 4) (f := 11) (args := #[.agg #[.slice B l.length d, S mech, S st, S y, .bool has, .slice E ls.length e], S nm, .slice C sq.length cq]) rfl (by kernel_rfl) (by kernel_rfl) (by kernel_rfl) (by kernel_rfl) (c_shows T hT gT R hR gR l (by omega) hU mech st y nm has (by omega) (by omega) ls sq (by omega) hsa (Rd.more RU (.cons _ (.cons _ (.cons _ (.cons _ (.refl _)))))) (Rd.more RL (.cons _ (.cons _ (.cons _ (.cons _ (.refl _)))))) (Rd.of_row H (i := 1) rfl) H) ?_
  rintro _ w95 ⟨rfl, H⟩
  rw [hsh]
  refine ⟨(.inr ⟨(H.blk_cells (i := 3) rfl 0 _ ⟨_, rfl⟩), trivial⟩), ?_⟩
  refine HL_takes [5] [(1, Pt g1 0), (3, Pt g5 0), (7, .slice C sq.length cq), (8, .int .i64 (i : Int)), (90, .bool false)] (mkL 6 [0, 1, 3, 2, 4, 5]) 0 (by kernel_rfl) rfl (by kernel_rfl) (fun _ => by kernel_rfl) ⟨(H.blk_cells (i := 3) rfl 0 _ ⟨_, rfl⟩), trivial⟩ (fun β => ?_)
  refine HL_forget [(1, Pt g1 0), (3, Pt g5 0), (7, .slice C sq.length cq), (8, In i), (90, .bool false)] (by kernel_rfl) (fun β => ?_)
  refine HL_fin (by kernel_rfl) ?_
  refine thn_normal ?_
  refine G_false (by kernel_rfl) ?_
  refine G_skip ?_
  refine inb_normal ?_
  refine thn_normal ?_
  refine G_seq ?_
  refine G_sr ?_
  refine GL_s 2 2 [(1, Pt g1 0), (3, Pt g5 0), (7, .slice C sq.length cq), (8, In i), (102, In i), (103, Pt g1 5)] fun β => ?_
  refine GL_V (run_load1 (t := 23) (by kernel_rfl) ((H.blk_cell (i := 3) rfl 5).trans rfl)) ?_
  refine GL_srt 2 5 [(1, Pt g1 0), (3, Pt g5 0), (7, .slice C sq.length cq), (8, In i), (106, .bool (i == ls.length))] (show ([Pt g1 0, Pt g5 0, .slice C sq.length cq, .int .i64 (i : Int), .bool ((i : Int) == (ls.length : Int))] : List Value) = [Pt g1 0, Pt g5 0, .slice C sq.length cq, In i, .bool (i == ls.length)] by rw [neql i ls.length]) fun β => ?_
  refine G_cond (i == ls.length) (by kernel_rfl) (fun h7 => ?_) (fun h7 => ?_)
  · --yes
   replace h7 : i = ls.length := eql_T h7
   refine G_sr ?_
   refine GL_st 1 1 [(2, .bool true)] fun β => ?_
   refine G_ret ?_
   refine thn_ret (inb_ret (thn_ret (thn_ret (inb_ret (res1 (v := .bool true) rfl (by kernel_rfl) ?_)))))
   replace H := H.drop 3
   replace H := H.drop 2
   replace H := H.drop 1
   replace H := H.drop 0
   replace H : Sep w0 w95 (F) := H
   exact ⟨rfl, H⟩
  · --no
   replace h7 : ¬ (i = ls.length) := eql_F h7
   refine G_skip ?_
   refine thn_normal ?_
   refine G_sr ?_
   refine GL_s 1 1 [(1, Pt g1 0), (3, Pt g5 0), (7, .slice C sq.length cq), (8, In i), (107, Pt g5 0)] fun β => ?_
   replace H : Sep w0 w95 (.blk g5 58 [.slice A6 l.length c7, In 2, s.v, S nm] :: .row (.slice C sq.length cq) 9 1 sq.length (ss sq) :: .row (.slice A6 l.length c7) 40 2 l.length (us l) :: .blk g1 25 [.slice B l.length d, S mech, S st, S y, .bool has, .slice E ls.length e] :: F) := H
   refine GL_C (c_State 2 (.slice A6 l.length c7) s.v (S nm) H) ?_
   rintro _ w96 ⟨rfl, H⟩
   refine GL_st 1 3 [(1, Pt g1 0), (3, Pt g5 0), (7, .slice C sq.length cq), (8, In i), (9, In 2)] fun β => ?_
   refine G_sr ?_
   refine GL_s 1 1 [(1, Pt g1 0), (3, Pt g5 0), (7, .slice C sq.length cq), (8, In i), (9, In 2), (109, Pt g5 0)] fun β => ?_
   replace H : Sep w0 w96 (.blk g5 58 [.slice A6 l.length c7, In 2, s.v, S nm] :: .row (.slice C sq.length cq) 9 1 sq.length (ss sq) :: .row (.slice A6 l.length c7) 40 2 l.length (us l) :: .blk g1 25 [.slice B l.length d, S mech, S st, S y, .bool has, .slice E ls.length e] :: F) := H
   refine GL_C (c_User 2 (.slice A6 l.length c7) s.v nm H) ?_
   rintro _ w97 ⟨rfl, H⟩
   refine GL_st 1 3 [(1, Pt g1 0), (3, Pt g5 0), (7, .slice C sq.length cq), (8, In i), (9, In 2), (10, S nm)] fun β => ?_
   have hyl := hLs _ (mem_getD (l := ls) (k := i) (by omega))
   refine G_sr ?_
   refine GL_s 2 2 [(1, Pt g1 0), (3, Pt g5 0), (7, .slice C sq.length cq), (8, In i), (9, In 2), (10, S nm), (111, Pt g5 0), (112, Pt g1 5)] fun β => ?_
   refine GL_V (run_load1 (t := 23) (by kernel_rfl) ((H.blk_cell (i := 3) rfl 5).trans rfl)) ?_
   refine GL_s 1 4 [(1, Pt g1 0), (3, Pt g5 0), (7, .slice C sq.length cq), (8, In i), (9, In 2), (10, S nm), (111, Pt g5 0), (113, .slice E ls.length e), (114, In i)] fun β => ?_
   obtain ⟨ad99, hr98, hc100⟩ := R_place (P := Tryd.prog) (t := 23) (e := 9) (i := i) (ki := .i64) RL (by omega) (by kernel_rfl) (by kernel_rfl)
   refine GL_V (hr98 _) ?_
   refine GL_V (run_load1 (t := 9) (by kernel_rfl) (ss_at hc100 ((((H.drop 3).drop 2).drop 1).drop 0) (by omega))) ?_
   replace H := H.front (i := 2) rfl
   replace H := H.front (i := 1) rfl
   replace H : Sep w0 w97 (.blk g5 58 [.slice A6 l.length c7, In 2, s.v, S nm] :: .row (.slice A6 l.length c7) 40 2 l.length (us l) :: .row (.slice C sq.length cq) 9 1 sq.length (ss sq) :: .blk g1 25 [.slice B l.length d, S mech, S st, S y, .bool has, .slice E ls.length e] :: F) := H
   refine GL_C (c_AnswerE (e2 := 6) (n2 := 2) (s2 := s) (nm2 := nm) T hT gT R hR gR 2 s (by exact small_fits hsm) nm (ls.getD i []) (by omega) l (by first | omega | decide | (simp only [List.length_cons, List.length_nil]; omega)) hU H (by rw [ansF, if_neg (by decide), if_pos (by decide)])) ?_
   rintro _ w101 ⟨rfl, H⟩
   replace H : Sep w0 w101 (.blk g5 58 [.slice A6 l.length c7, In 2, s.v, S nm] :: .row (.slice A6 l.length c7) 40 2 l.length (us l) :: .row (.slice C sq.length cq) 9 1 sq.length (ss sq) :: .blk g1 25 [.slice B l.length d, S mech, S st, S y, .bool has, .slice E ls.length e] :: F) := H
   refine GL_st 1 8 [(1, Pt g1 0), (3, Pt g5 0), (7, .slice C sq.length cq), (8, In i), (9, In 2), (10, S nm), (11, In 6)] fun β => ?_
   refine G_seq ?_
   refine G_sr ?_
   refine GL_s 7 7 [(1, Pt g1 0), (3, Pt g5 0), (7, .slice C sq.length cq), (8, In i), (9, In 2), (10, S nm), (11, In 6), (120, .bool true), (123, .bool false), (124, Pt g5 0)] fun β => ?_
   replace H : Sep w0 w101 (.blk g5 58 [.slice A6 l.length c7, In 2, s.v, S nm] :: .row (.slice A6 l.length c7) 40 2 l.length (us l) :: .row (.slice C sq.length cq) 9 1 sq.length (ss sq) :: .blk g1 25 [.slice B l.length d, S mech, S st, S y, .bool has, .slice E ls.length e] :: F) := H
   refine GL_C (c_State 2 (.slice A6 l.length c7) s.v (S nm) H) ?_
   rintro _ w102 ⟨rfl, H⟩
   refine GL_s 5 13 [(1, Pt g1 0), (3, Pt g5 0), (7, .slice C sq.length cq), (8, In i), (9, In 2), (10, S nm), (11, In 6), (120, .bool true), (129, .bool false), (130, Pt g5 0)] fun β => ?_
   replace H : Sep w0 w102 (.blk g5 58 [.slice A6 l.length c7, In 2, s.v, S nm] :: .row (.slice A6 l.length c7) 40 2 l.length (us l) :: .row (.slice C sq.length cq) 9 1 sq.length (ss sq) :: .blk g1 25 [.slice B l.length d, S mech, S st, S y, .bool has, .slice E ls.length e] :: F) := H
   refine GL_C (c_User 2 (.slice A6 l.length c7) s.v nm H) ?_
   rintro _ w103 ⟨rfl, H⟩
   refine GL_s 1 15 [(1, Pt g1 0), (3, Pt g5 0), (7, .slice C sq.length cq), (8, In i), (9, In 2), (11, In 6), (120, .bool true), (129, .bool false), (131, S nm), (132, S nm)] fun β => ?_
   refine GL_V (R_strneF (t := 9) (l := nm) (m := nm) rfl) ?_
   refine GL_st 2 18 [(1, Pt g1 0), (3, Pt g5 0), (7, .slice C sq.length cq), (8, In i), (9, In 2), (11, In 6), (135, .bool false)] fun β => ?_
   refine G_false (by kernel_rfl) ?_
   refine G_skip ?_
   refine thn_normal ?_
   refine G_seq ?_
   refine G_sr ?_
   refine GL_st 28 28 [(1, Pt g1 0), (3, Pt g5 0), (7, .slice C sq.length cq), (8, In i), (163, .bool false)] fun β => ?_
   refine G_false (by kernel_rfl) ?_
   refine G_skip ?_
   refine thn_normal ?_
   refine G_region ?_
   refine GL_s 2 2 [(1, Pt g1 0), (3, Pt g5 0), (8, In i), (164, .slice C sq.length cq), (165, Pt g1 5)] fun β => ?_
   refine GL_V (run_load1 (t := 23) (by kernel_rfl) ((H.blk_cell (i := 3) rfl 5).trans rfl)) ?_
   refine GL_s 1 4 [(1, Pt g1 0), (3, Pt g5 0), (8, In i), (164, .slice C sq.length cq), (166, .slice E ls.length e), (167, In i)] fun β => ?_
   obtain ⟨ad105, hr104, hc106⟩ := R_place (P := Tryd.prog) (t := 23) (e := 9) (i := i) (ki := .i64) RL (by omega) (by kernel_rfl) (by kernel_rfl)
   refine GL_V (hr104 _) ?_
   refine GL_V (run_load1 (t := 9) (by kernel_rfl) (ss_at hc106 ((((H.drop 3).drop 2).drop 1).drop 0) (by omega))) ?_
   refine GL_new (V := fun g => .slice (some ⟨g, 0, none⟩) 1 1) (l := [S (ls.getD i [])]) (t := 9) H rfl (by kernel_rfl) (by kernel_rfl) (by kernel_rfl) (fun g107 w108 H => ?_)
   obtain ⟨A109, c110, w111, hr112, H⟩ := R_append (P := Tryd.prog) (t := 23) (ty := 23) (e := 9) (z := S ([] : List UInt8)) (sz := 1) (by_ := 16) H (i := 3) rfl (by kernel_rfl) rfl (Src.blkp (m := 1) (c := 1) (off := 0) H (i := 0) rfl [S (ls.getD i [])] rfl ⟨_, rfl⟩) (one_list rfl) (by unfold maxLen; omega) (by omega)
   replace H := H.drop 0
   replace H : Sep w0 w111 (.blk g5 58 [.slice A6 l.length c7, In 2, s.v, S nm] :: .row (.slice A6 l.length c7) 40 2 l.length (us l) :: .row (.slice A109 (sq.length + 1) c110) 9 1 (sq.length + 1) (ss sq ++ [S (ls.getD i [])]) :: .blk g1 25 [.slice B l.length d, S mech, S st, S y, .bool has, .slice E ls.length e] :: F) := H
   refine GL_V hr112 ?_
   refine GL_s 1 9 [(1, Pt g1 0), (3, Pt g5 0), (7, .slice A109 (sq.length + 1) c110), (8, In i)] fun β => ?_
   refine GL_end (by kernel_rfl) ?_
   refine inb_normal ?_
   refine thn_normal ?_
   refine G_region ?_
   refine GL_sr 3 3 [(1, Pt g1 0), (3, Pt g5 0), (7, .slice A109 (sq.length + 1) c110), (8, In (i + 1))] (show ([Pt g1 0, Pt g5 0, .slice A109 (sq.length + 1) c110, .int .i64 (IntKind.i64.wrap ((i : Int) + ((1 : Nat) : Int)))] : List Value) = [Pt g1 0, Pt g5 0, .slice A109 (sq.length + 1) c110, In (i + 1)] by rw [nadd64 i 1 (by omega)]) fun β => ?_
   refine GL_end (by kernel_rfl) ?_
   have hno : sq.length + 1 = (sq ++ [(ls.getD i [])]).length := by simp
   rw [hno] at H ⊢
   replace H : Sep w0 w111 (.blk g5 58 [.slice A6 l.length c7, In 2, s.v, S nm] :: .row (.slice A6 l.length c7) 40 2 l.length (us l) :: .row (.slice A109 ((sq ++ [(ls.getD i [])]).length) c110) 9 1 ((sq ++ [(ls.getD i [])]).length) (ss (sq ++ [(ls.getD i [])])) :: .blk g1 25 [.slice B l.length d, S mech, S st, S y, .bool has, .slice E ls.length e] :: F) := by rw [ss_append]; exact H
   replace H := H.front (i := 3) rfl
   replace H := H.front (i := 3) rfl
   replace H := H.front (i := 3) rfl
   replace H := H.front (i := 3) rfl
   replace H : Sep w0 w111 (.blk g5 58 [.slice A6 l.length c7, In 2, s.v, S nm] :: .row (.slice A6 l.length c7) 40 2 l.length (us l) :: .row (.slice A109 ((sq ++ [(ls.getD i [])]).length) c110) 9 1 ((sq ++ [(ls.getD i [])]).length) (ss (sq ++ [(ls.getD i [])])) :: .blk g1 25 [.slice B l.length d, S mech, S st, S y, .bool has, .slice E ls.length e] :: F) := H
   have hin2 : InvS T R l st 2 s nm (sq ++ [(ls.getD i [])]) := .inr (.inl ⟨rfl, shows_more hsh⟩)
   have hsm2 : smallS s nm := hsm
   replace H := H.front (i := 3) rfl
   replace H := H.front (i := 2) rfl
   replace H := H.front (i := 2) rfl
   replace H := H.front (i := 3) rfl
   replace H : Sep w0 w111 (.row (.slice A109 ((sq ++ [(ls.getD i [])]).length) c110) 9 1 ((sq ++ [(ls.getD i [])]).length) (ss (sq ++ [(ls.getD i [])])) :: .blk g5 58 [.slice A6 l.length c7, In 2, s.v, S nm] :: .row (.slice A6 l.length c7) 40 2 l.length (us l) :: .blk g1 25 [.slice B l.length d, S mech, S st, S y, .bool has, .slice E ls.length e] :: F) := H
   refine thn_normal ⟨(i + 1, 2, s, nm, sq ++ [(ls.getD i [])], A109, c110), Agr_of_keys (by kernel_rfl), ⟨H, ?_⟩, ?_⟩
   · exact ⟨by omega, hsm2, hin2, by simp; omega, fun x hx => by rcases List.mem_append.1 hx with hx | hx; exact hsa x hx; rw [List.mem_singleton.1 hx]; exact hyl⟩
   · first | (dsimp only; omega) | omega
 · --no
  replace H : Sep w0 w29 (.row (.slice C sq.length cq) 9 1 sq.length (ss sq) :: .blk g5 58 [.slice A6 l.length c7, In 3, s.v, S nm] :: .row (.slice A6 l.length c7) 40 2 l.length (us l) :: .blk g1 25 [.slice B l.length d, S mech, S st, S y, .bool has, .slice E ls.length e] :: F) := H
  refine G_seq ?_
  refine G_block ?_
  refine G_seq ?_
  refine G_sr ?_
  refine GL_s 1 1 [(1, Pt g1 0), (3, Pt g5 0), (7, .slice C sq.length cq), (8, In i), (76, Pt g5 0)] fun β => ?_
  replace H := H.front (i := 1) rfl
  replace H : Sep w0 w29 (.blk g5 58 [.slice A6 l.length c7, In 3, s.v, S nm] :: .row (.slice C sq.length cq) 9 1 sq.length (ss sq) :: .row (.slice A6 l.length c7) 40 2 l.length (us l) :: .blk g1 25 [.slice B l.length d, S mech, S st, S y, .bool has, .slice E ls.length e] :: F) := H
  refine GL_C (c_State 3 (.slice A6 l.length c7) s.v (S nm) H) ?_
  rintro _ w113 ⟨rfl, H⟩
  refine GL_et ?_
  refine G_block ?_
  refine G_sr ?_
  refine GL_st 2 2 [(1, Pt g1 0), (3, Pt g5 0), (7, .slice C sq.length cq), (8, In i), (77, In 3), (78, .bool false)] fun β => ?_
  refine G_false (by kernel_rfl) ?_
  refine G_sr ?_
  refine GL_st 2 2 [(1, Pt g1 0), (3, Pt g5 0), (7, .slice C sq.length cq), (8, In i), (77, In 3), (83, .bool false)] fun β => ?_
  refine G_false (by kernel_rfl) ?_
  refine G_seq ?_
  refine G_sr ?_
  refine GL_st 2 2 [(1, Pt g1 0), (3, Pt g5 0), (7, .slice C sq.length cq), (8, In i), (77, In 3), (91, .bool true)] fun β => ?_
  refine G_true (by kernel_rfl) ?_
  refine G_skip ?_
  refine thn_normal ?_
  refine G_true (by kernel_rfl) ?_
  refine G_sr ?_
  refine GL_s 1 1 [(1, Pt g1 0), (3, Pt g5 0), (7, .slice C sq.length cq), (8, In i), (94, Pt g5 0)] fun β => ?_
  replace H : Sep w0 w113 (.blk g5 58 [.slice A6 l.length c7, In 3, s.v, S nm] :: .row (.slice C sq.length cq) 9 1 sq.length (ss sq) :: .row (.slice A6 l.length c7) 40 2 l.length (us l) :: .blk g1 25 [.slice B l.length d, S mech, S st, S y, .bool has, .slice E ls.length e] :: F) := H
  refine GL_C (c_User 3 (.slice A6 l.length c7) s.v nm H) ?_
  rintro _ w114 ⟨rfl, H⟩
  refine GL_s 3 5 [(1, Pt g1 0), (3, Pt g5 0), (7, .slice C sq.length cq), (8, In i), (97, .bool false), (98, Pt g5 0)] fun β => ?_
  replace H : Sep w0 w114 (.blk g5 58 [.slice A6 l.length c7, In 3, s.v, S nm] :: .row (.slice C sq.length cq) 9 1 sq.length (ss sq) :: .row (.slice A6 l.length c7) 40 2 l.length (us l) :: .blk g1 25 [.slice B l.length d, S mech, S st, S y, .bool has, .slice E ls.length e] :: F) := H
  refine GL_C (c_Ask 3 (.slice A6 l.length c7) (S nm) s (by exact small_fits hsm) H) ?_
  rintro _ w115 ⟨rfl, H⟩
  replace H : Sep w0 w115 (.blk g5 58 [.slice A6 l.length c7, In 3, s.v, S nm] :: .row (.slice C sq.length cq) 9 1 sq.length (ss sq) :: .row (.slice A6 l.length c7) 40 2 l.length (us l) :: .blk g1 25 [.slice B l.length d, S mech, S st, S y, .bool has, .slice E ls.length e] :: F) := H
  refine GL_st 2 8 [(1, Pt g1 0), (3, Pt g5 0), (7, .slice C sq.length cq), (8, In i), (101, .bool false)] fun β => ?_
  refine G_false (by kernel_rfl) ?_
  refine G_skip ?_
  refine inb_normal ?_
  refine thn_normal ?_
  refine G_seq ?_
  refine G_sr ?_
  refine GL_s 2 2 [(1, Pt g1 0), (3, Pt g5 0), (7, .slice C sq.length cq), (8, In i), (102, In i), (103, Pt g1 5)] fun β => ?_
  refine GL_V (run_load1 (t := 23) (by kernel_rfl) ((H.blk_cell (i := 3) rfl 5).trans rfl)) ?_
  refine GL_srt 2 5 [(1, Pt g1 0), (3, Pt g5 0), (7, .slice C sq.length cq), (8, In i), (106, .bool (i == ls.length))] (show ([Pt g1 0, Pt g5 0, .slice C sq.length cq, .int .i64 (i : Int), .bool ((i : Int) == (ls.length : Int))] : List Value) = [Pt g1 0, Pt g5 0, .slice C sq.length cq, In i, .bool (i == ls.length)] by rw [neql i ls.length]) fun β => ?_
  refine G_cond (i == ls.length) (by kernel_rfl) (fun h8 => ?_) (fun h8 => ?_)
  · --yes
   replace h8 : i = ls.length := eql_T h8
   refine G_sr ?_
   refine GL_st 1 1 [(2, .bool true)] fun β => ?_
   refine G_ret ?_
   refine thn_ret (inb_ret (thn_ret (thn_ret (inb_ret (res1 (v := .bool true) rfl (by kernel_rfl) ?_)))))
   replace H := H.drop 3
   replace H := H.drop 2
   replace H := H.drop 1
   replace H := H.drop 0
   replace H : Sep w0 w115 (F) := H
   exact ⟨rfl, H⟩
  · --no
   replace h8 : ¬ (i = ls.length) := eql_F h8
   refine G_skip ?_
   refine thn_normal ?_
   refine G_sr ?_
   refine GL_s 1 1 [(1, Pt g1 0), (3, Pt g5 0), (7, .slice C sq.length cq), (8, In i), (107, Pt g5 0)] fun β => ?_
   replace H : Sep w0 w115 (.blk g5 58 [.slice A6 l.length c7, In 3, s.v, S nm] :: .row (.slice C sq.length cq) 9 1 sq.length (ss sq) :: .row (.slice A6 l.length c7) 40 2 l.length (us l) :: .blk g1 25 [.slice B l.length d, S mech, S st, S y, .bool has, .slice E ls.length e] :: F) := H
   refine GL_C (c_State 3 (.slice A6 l.length c7) s.v (S nm) H) ?_
   rintro _ w116 ⟨rfl, H⟩
   refine GL_st 1 3 [(1, Pt g1 0), (3, Pt g5 0), (7, .slice C sq.length cq), (8, In i), (9, In 3)] fun β => ?_
   refine G_sr ?_
   refine GL_s 1 1 [(1, Pt g1 0), (3, Pt g5 0), (7, .slice C sq.length cq), (8, In i), (9, In 3), (109, Pt g5 0)] fun β => ?_
   replace H : Sep w0 w116 (.blk g5 58 [.slice A6 l.length c7, In 3, s.v, S nm] :: .row (.slice C sq.length cq) 9 1 sq.length (ss sq) :: .row (.slice A6 l.length c7) 40 2 l.length (us l) :: .blk g1 25 [.slice B l.length d, S mech, S st, S y, .bool has, .slice E ls.length e] :: F) := H
   refine GL_C (c_User 3 (.slice A6 l.length c7) s.v nm H) ?_
   rintro _ w117 ⟨rfl, H⟩
   refine GL_st 1 3 [(1, Pt g1 0), (3, Pt g5 0), (7, .slice C sq.length cq), (8, In i), (9, In 3), (10, S ([] : List UInt8))] fun β => ?_
   have hyl := hLs _ (mem_getD (l := ls) (k := i) (by omega))
   refine G_sr ?_
   refine GL_s 2 2 [(1, Pt g1 0), (3, Pt g5 0), (7, .slice C sq.length cq), (8, In i), (9, In 3), (10, S ([] : List UInt8)), (111, Pt g5 0), (112, Pt g1 5)] fun β => ?_
   refine GL_V (run_load1 (t := 23) (by kernel_rfl) ((H.blk_cell (i := 3) rfl 5).trans rfl)) ?_
   refine GL_s 1 4 [(1, Pt g1 0), (3, Pt g5 0), (7, .slice C sq.length cq), (8, In i), (9, In 3), (10, S ([] : List UInt8)), (111, Pt g5 0), (113, .slice E ls.length e), (114, In i)] fun β => ?_
   obtain ⟨ad119, hr118, hc120⟩ := R_place (P := Tryd.prog) (t := 23) (e := 9) (i := i) (ki := .i64) RL (by omega) (by kernel_rfl) (by kernel_rfl)
   refine GL_V (hr118 _) ?_
   refine GL_V (run_load1 (t := 9) (by kernel_rfl) (ss_at hc120 ((((H.drop 3).drop 2).drop 1).drop 0) (by omega))) ?_
   replace H := H.front (i := 2) rfl
   replace H := H.front (i := 1) rfl
   replace H : Sep w0 w117 (.blk g5 58 [.slice A6 l.length c7, In 3, s.v, S nm] :: .row (.slice A6 l.length c7) 40 2 l.length (us l) :: .row (.slice C sq.length cq) 9 1 sq.length (ss sq) :: .blk g1 25 [.slice B l.length d, S mech, S st, S y, .bool has, .slice E ls.length e] :: F) := H
   refine GL_C (c_AnswerE (e2 := 6) (n2 := 3) (s2 := s) (nm2 := nm) T hT gT R hR gR 3 s (by exact small_fits hsm) nm (ls.getD i []) (by omega) l (by first | omega | decide | (simp only [List.length_cons, List.length_nil]; omega)) hU H (by rw [ansF, if_neg (by decide), if_pos (by decide)])) ?_
   rintro _ w121 ⟨rfl, H⟩
   replace H : Sep w0 w121 (.blk g5 58 [.slice A6 l.length c7, In 3, s.v, S nm] :: .row (.slice A6 l.length c7) 40 2 l.length (us l) :: .row (.slice C sq.length cq) 9 1 sq.length (ss sq) :: .blk g1 25 [.slice B l.length d, S mech, S st, S y, .bool has, .slice E ls.length e] :: F) := H
   refine GL_st 1 8 [(1, Pt g1 0), (3, Pt g5 0), (7, .slice C sq.length cq), (8, In i), (9, In 3), (10, S ([] : List UInt8)), (11, In 6)] fun β => ?_
   refine G_seq ?_
   refine G_sr ?_
   refine GL_s 7 7 [(1, Pt g1 0), (3, Pt g5 0), (7, .slice C sq.length cq), (8, In i), (9, In 3), (10, S ([] : List UInt8)), (11, In 6), (120, .bool true), (123, .bool false), (124, Pt g5 0)] fun β => ?_
   replace H : Sep w0 w121 (.blk g5 58 [.slice A6 l.length c7, In 3, s.v, S nm] :: .row (.slice A6 l.length c7) 40 2 l.length (us l) :: .row (.slice C sq.length cq) 9 1 sq.length (ss sq) :: .blk g1 25 [.slice B l.length d, S mech, S st, S y, .bool has, .slice E ls.length e] :: F) := H
   refine GL_C (c_State 3 (.slice A6 l.length c7) s.v (S nm) H) ?_
   rintro _ w122 ⟨rfl, H⟩
   refine GL_s 5 13 [(1, Pt g1 0), (3, Pt g5 0), (7, .slice C sq.length cq), (8, In i), (9, In 3), (10, S ([] : List UInt8)), (11, In 6), (120, .bool true), (129, .bool false), (130, Pt g5 0)] fun β => ?_
   replace H : Sep w0 w122 (.blk g5 58 [.slice A6 l.length c7, In 3, s.v, S nm] :: .row (.slice A6 l.length c7) 40 2 l.length (us l) :: .row (.slice C sq.length cq) 9 1 sq.length (ss sq) :: .blk g1 25 [.slice B l.length d, S mech, S st, S y, .bool has, .slice E ls.length e] :: F) := H
   refine GL_C (c_User 3 (.slice A6 l.length c7) s.v nm H) ?_
   rintro _ w123 ⟨rfl, H⟩
   refine GL_st 4 18 [(1, Pt g1 0), (3, Pt g5 0), (7, .slice C sq.length cq), (8, In i), (9, In 3), (11, In 6), (135, .bool false)] fun β => ?_
   refine G_false (by kernel_rfl) ?_
   refine G_skip ?_
   refine thn_normal ?_
   refine G_seq ?_
   refine G_sr ?_
   refine GL_st 28 28 [(1, Pt g1 0), (3, Pt g5 0), (7, .slice C sq.length cq), (8, In i), (163, .bool false)] fun β => ?_
   refine G_false (by kernel_rfl) ?_
   refine G_skip ?_
   refine thn_normal ?_
   refine G_region ?_
   refine GL_s 2 2 [(1, Pt g1 0), (3, Pt g5 0), (8, In i), (164, .slice C sq.length cq), (165, Pt g1 5)] fun β => ?_
   refine GL_V (run_load1 (t := 23) (by kernel_rfl) ((H.blk_cell (i := 3) rfl 5).trans rfl)) ?_
   refine GL_s 1 4 [(1, Pt g1 0), (3, Pt g5 0), (8, In i), (164, .slice C sq.length cq), (166, .slice E ls.length e), (167, In i)] fun β => ?_
   obtain ⟨ad125, hr124, hc126⟩ := R_place (P := Tryd.prog) (t := 23) (e := 9) (i := i) (ki := .i64) RL (by omega) (by kernel_rfl) (by kernel_rfl)
   refine GL_V (hr124 _) ?_
   refine GL_V (run_load1 (t := 9) (by kernel_rfl) (ss_at hc126 ((((H.drop 3).drop 2).drop 1).drop 0) (by omega))) ?_
   refine GL_new (V := fun g => .slice (some ⟨g, 0, none⟩) 1 1) (l := [S (ls.getD i [])]) (t := 9) H rfl (by kernel_rfl) (by kernel_rfl) (by kernel_rfl) (fun g127 w128 H => ?_)
   obtain ⟨A129, c130, w131, hr132, H⟩ := R_append (P := Tryd.prog) (t := 23) (ty := 23) (e := 9) (z := S ([] : List UInt8)) (sz := 1) (by_ := 16) H (i := 3) rfl (by kernel_rfl) rfl (Src.blkp (m := 1) (c := 1) (off := 0) H (i := 0) rfl [S (ls.getD i [])] rfl ⟨_, rfl⟩) (one_list rfl) (by unfold maxLen; omega) (by omega)
   replace H := H.drop 0
   replace H : Sep w0 w131 (.blk g5 58 [.slice A6 l.length c7, In 3, s.v, S nm] :: .row (.slice A6 l.length c7) 40 2 l.length (us l) :: .row (.slice A129 (sq.length + 1) c130) 9 1 (sq.length + 1) (ss sq ++ [S (ls.getD i [])]) :: .blk g1 25 [.slice B l.length d, S mech, S st, S y, .bool has, .slice E ls.length e] :: F) := H
   refine GL_V hr132 ?_
   refine GL_s 1 9 [(1, Pt g1 0), (3, Pt g5 0), (7, .slice A129 (sq.length + 1) c130), (8, In i)] fun β => ?_
   refine GL_end (by kernel_rfl) ?_
   refine inb_normal ?_
   refine thn_normal ?_
   refine G_region ?_
   refine GL_sr 3 3 [(1, Pt g1 0), (3, Pt g5 0), (7, .slice A129 (sq.length + 1) c130), (8, In (i + 1))] (show ([Pt g1 0, Pt g5 0, .slice A129 (sq.length + 1) c130, .int .i64 (IntKind.i64.wrap ((i : Int) + ((1 : Nat) : Int)))] : List Value) = [Pt g1 0, Pt g5 0, .slice A129 (sq.length + 1) c130, In (i + 1)] by rw [nadd64 i 1 (by omega)]) fun β => ?_
   refine GL_end (by kernel_rfl) ?_
   have hno : sq.length + 1 = (sq ++ [(ls.getD i [])]).length := by simp
   rw [hno] at H ⊢
   replace H : Sep w0 w131 (.blk g5 58 [.slice A6 l.length c7, In 3, s.v, S nm] :: .row (.slice A6 l.length c7) 40 2 l.length (us l) :: .row (.slice A129 ((sq ++ [(ls.getD i [])]).length) c130) 9 1 ((sq ++ [(ls.getD i [])]).length) (ss (sq ++ [(ls.getD i [])])) :: .blk g1 25 [.slice B l.length d, S mech, S st, S y, .bool has, .slice E ls.length e] :: F) := by rw [ss_append]; exact H
   replace H := H.front (i := 3) rfl
   replace H := H.front (i := 3) rfl
   replace H := H.front (i := 3) rfl
   replace H := H.front (i := 3) rfl
   replace H : Sep w0 w131 (.blk g5 58 [.slice A6 l.length c7, In 3, s.v, S nm] :: .row (.slice A6 l.length c7) 40 2 l.length (us l) :: .row (.slice A129 ((sq ++ [(ls.getD i [])]).length) c130) 9 1 ((sq ++ [(ls.getD i [])]).length) (ss (sq ++ [(ls.getD i [])])) :: .blk g1 25 [.slice B l.length d, S mech, S st, S y, .bool has, .slice E ls.length e] :: F) := H
   have hin2 : InvS T R l st 3 s nm (sq ++ [(ls.getD i [])]) := .inr (.inr (.inl rfl))
   have hsm2 : smallS s nm := hsm
   replace H := H.front (i := 3) rfl
   replace H := H.front (i := 2) rfl
   replace H := H.front (i := 2) rfl
   replace H := H.front (i := 3) rfl
   replace H : Sep w0 w131 (.row (.slice A129 ((sq ++ [(ls.getD i [])]).length) c130) 9 1 ((sq ++ [(ls.getD i [])]).length) (ss (sq ++ [(ls.getD i [])])) :: .blk g5 58 [.slice A6 l.length c7, In 3, s.v, S nm] :: .row (.slice A6 l.length c7) 40 2 l.length (us l) :: .blk g1 25 [.slice B l.length d, S mech, S st, S y, .bool has, .slice E ls.length e] :: F) := H
   refine thn_normal ⟨(i + 1, 3, s, nm, sq ++ [(ls.getD i [])], A129, c130), Agr_of_keys (by kernel_rfl), ⟨H, ?_⟩, ?_⟩
   · exact ⟨by omega, hsm2, hin2, by simp; omega, fun x hx => by rcases List.mem_append.1 hx with hx | hx; exact hsa x hx; rw [List.mem_singleton.1 hx]; exact hyl⟩
   · first | (dsimp only; omega) | omega
 · --left
  replace H : Sep w0 w29 (.row (.slice C sq.length cq) 9 1 sq.length (ss sq) :: .blk g5 58 [.slice A6 l.length c7, In 4, s.v, S nm] :: .row (.slice A6 l.length c7) 40 2 l.length (us l) :: .blk g1 25 [.slice B l.length d, S mech, S st, S y, .bool has, .slice E ls.length e] :: F) := H
  refine G_seq ?_
  refine G_block ?_
  refine G_seq ?_
  refine G_sr ?_
  refine GL_s 1 1 [(1, Pt g1 0), (3, Pt g5 0), (7, .slice C sq.length cq), (8, In i), (76, Pt g5 0)] fun β => ?_
  replace H := H.front (i := 1) rfl
  replace H : Sep w0 w29 (.blk g5 58 [.slice A6 l.length c7, In 4, s.v, S nm] :: .row (.slice C sq.length cq) 9 1 sq.length (ss sq) :: .row (.slice A6 l.length c7) 40 2 l.length (us l) :: .blk g1 25 [.slice B l.length d, S mech, S st, S y, .bool has, .slice E ls.length e] :: F) := H
  refine GL_C (c_State 4 (.slice A6 l.length c7) s.v (S nm) H) ?_
  rintro _ w133 ⟨rfl, H⟩
  refine GL_et ?_
  refine G_block ?_
  refine G_sr ?_
  refine GL_st 2 2 [(1, Pt g1 0), (3, Pt g5 0), (7, .slice C sq.length cq), (8, In i), (77, In 4), (78, .bool false)] fun β => ?_
  refine G_false (by kernel_rfl) ?_
  refine G_sr ?_
  refine GL_st 2 2 [(1, Pt g1 0), (3, Pt g5 0), (7, .slice C sq.length cq), (8, In i), (77, In 4), (83, .bool false)] fun β => ?_
  refine G_false (by kernel_rfl) ?_
  refine G_seq ?_
  refine G_sr ?_
  refine GL_st 2 2 [(1, Pt g1 0), (3, Pt g5 0), (7, .slice C sq.length cq), (8, In i), (77, In 4), (91, .bool false)] fun β => ?_
  refine G_false (by kernel_rfl) ?_
  refine G_region ?_
  refine GL_st 2 2 [(1, Pt g1 0), (3, Pt g5 0), (7, .slice C sq.length cq), (8, In i), (91, .bool true)] fun β => ?_
  refine G_true (by kernel_rfl) ?_
  refine G_sr ?_
  refine GL_s 1 1 [(1, Pt g1 0), (3, Pt g5 0), (7, .slice C sq.length cq), (8, In i), (94, Pt g5 0)] fun β => ?_
  replace H : Sep w0 w133 (.blk g5 58 [.slice A6 l.length c7, In 4, s.v, S nm] :: .row (.slice C sq.length cq) 9 1 sq.length (ss sq) :: .row (.slice A6 l.length c7) 40 2 l.length (us l) :: .blk g1 25 [.slice B l.length d, S mech, S st, S y, .bool has, .slice E ls.length e] :: F) := H
  refine GL_C (c_User 4 (.slice A6 l.length c7) s.v nm H) ?_
  rintro _ w134 ⟨rfl, H⟩
  refine GL_s 3 5 [(1, Pt g1 0), (3, Pt g5 0), (7, .slice C sq.length cq), (8, In i), (97, .bool false), (98, Pt g5 0)] fun β => ?_
  replace H : Sep w0 w134 (.blk g5 58 [.slice A6 l.length c7, In 4, s.v, S nm] :: .row (.slice C sq.length cq) 9 1 sq.length (ss sq) :: .row (.slice A6 l.length c7) 40 2 l.length (us l) :: .blk g1 25 [.slice B l.length d, S mech, S st, S y, .bool has, .slice E ls.length e] :: F) := H
  refine GL_C (c_Ask 4 (.slice A6 l.length c7) (S nm) s (by exact small_fits hsm) H) ?_
  rintro _ w135 ⟨rfl, H⟩
  replace H : Sep w0 w135 (.blk g5 58 [.slice A6 l.length c7, In 4, s.v, S nm] :: .row (.slice C sq.length cq) 9 1 sq.length (ss sq) :: .row (.slice A6 l.length c7) 40 2 l.length (us l) :: .blk g1 25 [.slice B l.length d, S mech, S st, S y, .bool has, .slice E ls.length e] :: F) := H
  refine GL_st 2 8 [(1, Pt g1 0), (3, Pt g5 0), (7, .slice C sq.length cq), (8, In i), (101, .bool false)] fun β => ?_
  refine G_false (by kernel_rfl) ?_
  refine G_skip ?_
  refine inb_normal ?_
  refine thn_normal ?_
  refine G_seq ?_
  refine G_sr ?_
  refine GL_s 2 2 [(1, Pt g1 0), (3, Pt g5 0), (7, .slice C sq.length cq), (8, In i), (102, In i), (103, Pt g1 5)] fun β => ?_
  refine GL_V (run_load1 (t := 23) (by kernel_rfl) ((H.blk_cell (i := 3) rfl 5).trans rfl)) ?_
  refine GL_srt 2 5 [(1, Pt g1 0), (3, Pt g5 0), (7, .slice C sq.length cq), (8, In i), (106, .bool (i == ls.length))] (show ([Pt g1 0, Pt g5 0, .slice C sq.length cq, .int .i64 (i : Int), .bool ((i : Int) == (ls.length : Int))] : List Value) = [Pt g1 0, Pt g5 0, .slice C sq.length cq, In i, .bool (i == ls.length)] by rw [neql i ls.length]) fun β => ?_
  refine G_cond (i == ls.length) (by kernel_rfl) (fun h9 => ?_) (fun h9 => ?_)
  · --yes
   replace h9 : i = ls.length := eql_T h9
   refine G_sr ?_
   refine GL_st 1 1 [(2, .bool true)] fun β => ?_
   refine G_ret ?_
   refine thn_ret (inb_ret (thn_ret (thn_ret (inb_ret (res1 (v := .bool true) rfl (by kernel_rfl) ?_)))))
   replace H := H.drop 3
   replace H := H.drop 2
   replace H := H.drop 1
   replace H := H.drop 0
   replace H : Sep w0 w135 (F) := H
   exact ⟨rfl, H⟩
  · --no
   replace h9 : ¬ (i = ls.length) := eql_F h9
   refine G_skip ?_
   refine thn_normal ?_
   refine G_sr ?_
   refine GL_s 1 1 [(1, Pt g1 0), (3, Pt g5 0), (7, .slice C sq.length cq), (8, In i), (107, Pt g5 0)] fun β => ?_
   replace H : Sep w0 w135 (.blk g5 58 [.slice A6 l.length c7, In 4, s.v, S nm] :: .row (.slice C sq.length cq) 9 1 sq.length (ss sq) :: .row (.slice A6 l.length c7) 40 2 l.length (us l) :: .blk g1 25 [.slice B l.length d, S mech, S st, S y, .bool has, .slice E ls.length e] :: F) := H
   refine GL_C (c_State 4 (.slice A6 l.length c7) s.v (S nm) H) ?_
   rintro _ w136 ⟨rfl, H⟩
   refine GL_st 1 3 [(1, Pt g1 0), (3, Pt g5 0), (7, .slice C sq.length cq), (8, In i), (9, In 4)] fun β => ?_
   refine G_sr ?_
   refine GL_s 1 1 [(1, Pt g1 0), (3, Pt g5 0), (7, .slice C sq.length cq), (8, In i), (9, In 4), (109, Pt g5 0)] fun β => ?_
   replace H : Sep w0 w136 (.blk g5 58 [.slice A6 l.length c7, In 4, s.v, S nm] :: .row (.slice C sq.length cq) 9 1 sq.length (ss sq) :: .row (.slice A6 l.length c7) 40 2 l.length (us l) :: .blk g1 25 [.slice B l.length d, S mech, S st, S y, .bool has, .slice E ls.length e] :: F) := H
   refine GL_C (c_User 4 (.slice A6 l.length c7) s.v nm H) ?_
   rintro _ w137 ⟨rfl, H⟩
   refine GL_st 1 3 [(1, Pt g1 0), (3, Pt g5 0), (7, .slice C sq.length cq), (8, In i), (9, In 4), (10, S ([] : List UInt8))] fun β => ?_
   have hyl := hLs _ (mem_getD (l := ls) (k := i) (by omega))
   refine G_sr ?_
   refine GL_s 2 2 [(1, Pt g1 0), (3, Pt g5 0), (7, .slice C sq.length cq), (8, In i), (9, In 4), (10, S ([] : List UInt8)), (111, Pt g5 0), (112, Pt g1 5)] fun β => ?_
   refine GL_V (run_load1 (t := 23) (by kernel_rfl) ((H.blk_cell (i := 3) rfl 5).trans rfl)) ?_
   refine GL_s 1 4 [(1, Pt g1 0), (3, Pt g5 0), (7, .slice C sq.length cq), (8, In i), (9, In 4), (10, S ([] : List UInt8)), (111, Pt g5 0), (113, .slice E ls.length e), (114, In i)] fun β => ?_
   obtain ⟨ad139, hr138, hc140⟩ := R_place (P := Tryd.prog) (t := 23) (e := 9) (i := i) (ki := .i64) RL (by omega) (by kernel_rfl) (by kernel_rfl)
   refine GL_V (hr138 _) ?_
   refine GL_V (run_load1 (t := 9) (by kernel_rfl) (ss_at hc140 ((((H.drop 3).drop 2).drop 1).drop 0) (by omega))) ?_
   replace H := H.front (i := 2) rfl
   replace H := H.front (i := 1) rfl
   replace H : Sep w0 w137 (.blk g5 58 [.slice A6 l.length c7, In 4, s.v, S nm] :: .row (.slice A6 l.length c7) 40 2 l.length (us l) :: .row (.slice C sq.length cq) 9 1 sq.length (ss sq) :: .blk g1 25 [.slice B l.length d, S mech, S st, S y, .bool has, .slice E ls.length e] :: F) := H
   refine GL_C (c_AnswerE (e2 := 6) (n2 := 4) (s2 := s) (nm2 := nm) T hT gT R hR gR 4 s (by exact small_fits hsm) nm (ls.getD i []) (by omega) l (by first | omega | decide | (simp only [List.length_cons, List.length_nil]; omega)) hU H (by rw [ansF, if_neg (by decide), if_pos (by decide)])) ?_
   rintro _ w141 ⟨rfl, H⟩
   replace H : Sep w0 w141 (.blk g5 58 [.slice A6 l.length c7, In 4, s.v, S nm] :: .row (.slice A6 l.length c7) 40 2 l.length (us l) :: .row (.slice C sq.length cq) 9 1 sq.length (ss sq) :: .blk g1 25 [.slice B l.length d, S mech, S st, S y, .bool has, .slice E ls.length e] :: F) := H
   refine GL_st 1 8 [(1, Pt g1 0), (3, Pt g5 0), (7, .slice C sq.length cq), (8, In i), (9, In 4), (10, S ([] : List UInt8)), (11, In 6)] fun β => ?_
   refine G_seq ?_
   refine G_sr ?_
   refine GL_s 7 7 [(1, Pt g1 0), (3, Pt g5 0), (7, .slice C sq.length cq), (8, In i), (9, In 4), (10, S ([] : List UInt8)), (11, In 6), (120, .bool true), (123, .bool false), (124, Pt g5 0)] fun β => ?_
   replace H : Sep w0 w141 (.blk g5 58 [.slice A6 l.length c7, In 4, s.v, S nm] :: .row (.slice A6 l.length c7) 40 2 l.length (us l) :: .row (.slice C sq.length cq) 9 1 sq.length (ss sq) :: .blk g1 25 [.slice B l.length d, S mech, S st, S y, .bool has, .slice E ls.length e] :: F) := H
   refine GL_C (c_State 4 (.slice A6 l.length c7) s.v (S nm) H) ?_
   rintro _ w142 ⟨rfl, H⟩
   refine GL_s 5 13 [(1, Pt g1 0), (3, Pt g5 0), (7, .slice C sq.length cq), (8, In i), (9, In 4), (10, S ([] : List UInt8)), (11, In 6), (120, .bool true), (129, .bool false), (130, Pt g5 0)] fun β => ?_
   replace H : Sep w0 w142 (.blk g5 58 [.slice A6 l.length c7, In 4, s.v, S nm] :: .row (.slice A6 l.length c7) 40 2 l.length (us l) :: .row (.slice C sq.length cq) 9 1 sq.length (ss sq) :: .blk g1 25 [.slice B l.length d, S mech, S st, S y, .bool has, .slice E ls.length e] :: F) := H
   refine GL_C (c_User 4 (.slice A6 l.length c7) s.v nm H) ?_
   rintro _ w143 ⟨rfl, H⟩
   refine GL_st 4 18 [(1, Pt g1 0), (3, Pt g5 0), (7, .slice C sq.length cq), (8, In i), (9, In 4), (11, In 6), (135, .bool false)] fun β => ?_
   refine G_false (by kernel_rfl) ?_
   refine G_skip ?_
   refine thn_normal ?_
   refine G_seq ?_
   refine G_sr ?_
   refine GL_st 28 28 [(1, Pt g1 0), (3, Pt g5 0), (7, .slice C sq.length cq), (8, In i), (163, .bool false)] fun β => ?_
   refine G_false (by kernel_rfl) ?_
   refine G_skip ?_
   refine thn_normal ?_
   refine G_region ?_
   refine GL_s 2 2 [(1, Pt g1 0), (3, Pt g5 0), (8, In i), (164, .slice C sq.length cq), (165, Pt g1 5)] fun β => ?_
   refine GL_V (run_load1 (t := 23) (by kernel_rfl) ((H.blk_cell (i := 3) rfl 5).trans rfl)) ?_
   refine GL_s 1 4 [(1, Pt g1 0), (3, Pt g5 0), (8, In i), (164, .slice C sq.length cq), (166, .slice E ls.length e), (167, In i)] fun β => ?_
   obtain ⟨ad145, hr144, hc146⟩ := R_place (P := Tryd.prog) (t := 23) (e := 9) (i := i) (ki := .i64) RL (by omega) (by kernel_rfl) (by kernel_rfl)
   refine GL_V (hr144 _) ?_
   refine GL_V (run_load1 (t := 9) (by kernel_rfl) (ss_at hc146 ((((H.drop 3).drop 2).drop 1).drop 0) (by omega))) ?_
   refine GL_new (V := fun g => .slice (some ⟨g, 0, none⟩) 1 1) (l := [S (ls.getD i [])]) (t := 9) H rfl (by kernel_rfl) (by kernel_rfl) (by kernel_rfl) (fun g147 w148 H => ?_)
   obtain ⟨A149, c150, w151, hr152, H⟩ := R_append (P := Tryd.prog) (t := 23) (ty := 23) (e := 9) (z := S ([] : List UInt8)) (sz := 1) (by_ := 16) H (i := 3) rfl (by kernel_rfl) rfl (Src.blkp (m := 1) (c := 1) (off := 0) H (i := 0) rfl [S (ls.getD i [])] rfl ⟨_, rfl⟩) (one_list rfl) (by unfold maxLen; omega) (by omega)
   replace H := H.drop 0
   replace H : Sep w0 w151 (.blk g5 58 [.slice A6 l.length c7, In 4, s.v, S nm] :: .row (.slice A6 l.length c7) 40 2 l.length (us l) :: .row (.slice A149 (sq.length + 1) c150) 9 1 (sq.length + 1) (ss sq ++ [S (ls.getD i [])]) :: .blk g1 25 [.slice B l.length d, S mech, S st, S y, .bool has, .slice E ls.length e] :: F) := H
   refine GL_V hr152 ?_
   refine GL_s 1 9 [(1, Pt g1 0), (3, Pt g5 0), (7, .slice A149 (sq.length + 1) c150), (8, In i)] fun β => ?_
   refine GL_end (by kernel_rfl) ?_
   refine inb_normal ?_
   refine thn_normal ?_
   refine G_region ?_
   refine GL_sr 3 3 [(1, Pt g1 0), (3, Pt g5 0), (7, .slice A149 (sq.length + 1) c150), (8, In (i + 1))] (show ([Pt g1 0, Pt g5 0, .slice A149 (sq.length + 1) c150, .int .i64 (IntKind.i64.wrap ((i : Int) + ((1 : Nat) : Int)))] : List Value) = [Pt g1 0, Pt g5 0, .slice A149 (sq.length + 1) c150, In (i + 1)] by rw [nadd64 i 1 (by omega)]) fun β => ?_
   refine GL_end (by kernel_rfl) ?_
   have hno : sq.length + 1 = (sq ++ [(ls.getD i [])]).length := by simp
   rw [hno] at H ⊢
   replace H : Sep w0 w151 (.blk g5 58 [.slice A6 l.length c7, In 4, s.v, S nm] :: .row (.slice A6 l.length c7) 40 2 l.length (us l) :: .row (.slice A149 ((sq ++ [(ls.getD i [])]).length) c150) 9 1 ((sq ++ [(ls.getD i [])]).length) (ss (sq ++ [(ls.getD i [])])) :: .blk g1 25 [.slice B l.length d, S mech, S st, S y, .bool has, .slice E ls.length e] :: F) := by rw [ss_append]; exact H
   replace H := H.front (i := 3) rfl
   replace H := H.front (i := 3) rfl
   replace H := H.front (i := 3) rfl
   replace H := H.front (i := 3) rfl
   replace H : Sep w0 w151 (.blk g5 58 [.slice A6 l.length c7, In 4, s.v, S nm] :: .row (.slice A6 l.length c7) 40 2 l.length (us l) :: .row (.slice A149 ((sq ++ [(ls.getD i [])]).length) c150) 9 1 ((sq ++ [(ls.getD i [])]).length) (ss (sq ++ [(ls.getD i [])])) :: .blk g1 25 [.slice B l.length d, S mech, S st, S y, .bool has, .slice E ls.length e] :: F) := H
   have hin2 : InvS T R l st 4 s nm (sq ++ [(ls.getD i [])]) := .inr (.inr (.inr rfl))
   have hsm2 : smallS s nm := hsm
   replace H := H.front (i := 3) rfl
   replace H := H.front (i := 2) rfl
   replace H := H.front (i := 2) rfl
   replace H := H.front (i := 3) rfl
   replace H : Sep w0 w151 (.row (.slice A149 ((sq ++ [(ls.getD i [])]).length) c150) 9 1 ((sq ++ [(ls.getD i [])]).length) (ss (sq ++ [(ls.getD i [])])) :: .blk g5 58 [.slice A6 l.length c7, In 4, s.v, S nm] :: .row (.slice A6 l.length c7) 40 2 l.length (us l) :: .blk g1 25 [.slice B l.length d, S mech, S st, S y, .bool has, .slice E ls.length e] :: F) := H
   refine thn_normal ⟨(i + 1, 4, s, nm, sq ++ [(ls.getD i [])], A149, c150), Agr_of_keys (by kernel_rfl), ⟨H, ?_⟩, ?_⟩
   · exact ⟨by omega, hsm2, hin2, by simp; omega, fun x hx => by rcases List.mem_append.1 hx with hx | hx; exact hsa x hx; rw [List.mem_singleton.1 hx]; exact hyl⟩
   · first | (dsimp only; omega) | omega
theorem c_Shown {w0 w : World} {F : List Chunk} (T : List UInt32) (hT : T.length = 64) (gT : Gl w0 0 (u32s T)) (R : List UInt8) (hR : R.length = 16) (gR : Gl w0 1 (bs R)) (l : List Str2) (hl : l.length ≤ 16777216) (hU : ∀ u ∈ l, u.1.length ≤ 549755813888 ∧ u.2.length ≤ 549755813888) (mech st y : List UInt8) (has : Bool) (hm : mech.length ≤ 16777216) (hst : st.length ≤ 16777216) (hy : y.length ≤ 16777216) (ls : List (List UInt8)) (hll : ls.length ≤ 8388608) (hLs : ∀ x ∈ ls, x.length ≤ 16777216) {B E : Option Addr} {d e : Nat} (RU : Rd w0 F (.slice B l.length d) 2 l.length (us l)) (RL : Rd w0 F (.slice E ls.length e) 1 ls.length (ss ls)) (H : Sep w0 w F) : Ret Tryd.prog 3 #[.agg #[.slice B l.length d, S mech, S st, S y, .bool has, .slice E ls.length e]] w (fun v w' => v = .bool true ∧ Sep w0 w' F) := by
  by_cases h : begE mech y has = 0
  · exact c_Shown_ok T hT gT R hR gR l hl hU mech st y has hm hst hy ls hll hLs h RU RL H
  · exact c_Shown_err T hT gT R hR gR l hl hU mech st y has hm hst hy ls hll hLs rfl h RU RL H
end Go.Proofs.YtadiljnfkbbmcaaDoor
