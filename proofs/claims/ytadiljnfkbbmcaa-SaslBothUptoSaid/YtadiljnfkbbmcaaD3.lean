-- printed by gw.py (my own program), checked by Lean
import Derived.Test.YtadiljnfkbbmcaaD2
import Derived.Test.YtadiljnfkbbmcaaE1
set_option linter.unusedVariables false
set_option linter.unusedSimpArgs false
set_option maxRecDepth 100000
set_option maxHeartbeats 400000
namespace Go.Proofs.Ytadiljnfkbbmcaa
open Go.Kw Go.RowKit

def sMay (l : List UInt8) (m : Nat) : Bool := decide (1 ≤ l.length ∧ l.length ≤ m) && !l.any badB
theorem sMay_no {l : List UInt8} {m : Nat} (h : ¬ (1 ≤ l.length ∧ l.length ≤ m)) : sMay l m = false := by rw [sMay, decide_eq_false h, Bool.false_and]
theorem sMay_in {l : List UInt8} {m : Nat} (h : 1 ≤ l.length ∧ l.length ≤ m) : sMay l m = !l.any badB := by rw [sMay, decide_eq_true h, Bool.true_and]
def may2 (a b : List UInt8) : Bool := sMay a 64 && sMay b 256
theorem may_eq (a b : List UInt8) : mayF a b = may2 a b := by
  unfold mayF may2 sMay
  rw [List.any_append]
  by_cases h1 : 1 ≤ a.length ∧ a.length ≤ 64
  · by_cases h2 : 1 ≤ b.length ∧ b.length ≤ 256
    · rw [decide_eq_true h1, decide_eq_true h2, decide_eq_true (by omega)]
      cases a.any badB <;> cases b.any badB <;> rfl
    · rw [decide_eq_false h2, decide_eq_false (by omega)]; simp
  · rw [decide_eq_false h1, decide_eq_false (by omega)]; simp
theorem may2_l {a b : List UInt8} (h : may2 a b = true) : sMay a 64 = true := by unfold may2 at h; revert h; cases sMay a 64 <;> simp
theorem may2_r {a b : List UInt8} (h : may2 a b = true) : sMay b 256 = true := by unfold may2 at h; revert h; cases sMay b 256 <;> simp
theorem may2_f {a b : List UInt8} (h : may2 a b = false) (h1 : sMay a 64 = true) : sMay b 256 = false := by unfold may2 at h; rw [h1] at h; simpa using h
theorem ctF {P : Prop} (h : (!true) = true) : P := by cases h
/-- strings.ContainsAny -/
theorem c_ContainsAny3 (l : List UInt8) (hl : l.length ≤ 1099511627776) {w0 w : World} {F : List Chunk} (H : Sep w0 w F) : Ret Try.prog 43 #[S l, S ([0, 13, 10] : List UInt8)] w (fun v w' => v = .bool (l.any badB) ∧ Sep w0 w' F) := by
 refine Ret_enter (args := [S l, S ([0, 13, 10] : List UInt8)]) Try.func43 rfl (by kernel_rfl) ?_
 refine G_forget [(0, S l), (1, S ([0, 13, 10] : List UInt8))] (by kernel_rfl) (fun β => ?_)
 refine G_sr ?_
 refine GL_st 1 1 [(0, S l), (1, S ([0, 13, 10] : List UInt8))] fun β => ?_
 refine G_sr ?_
 refine GL_s 2 2 [(5, S l), (6, S ([0, 13, 10] : List UInt8))] fun β => ?_
 refine GL_C (c_IndexAny3 l (by omega) H) ?_
 rintro _ w3 ⟨r1, rfl, hr2, H⟩
 skip
 refine GL_st 2 5 [(4, .bool (decide (r1 ≥ ((0 : Nat) : Int))))] fun β => ?_
 refine G_ret ?_
 refine res1 (v := .bool (decide (r1 ≥ ((0 : Nat) : Int)))) rfl (by kernel_rfl) ?_
 replace H : Sep w0 w3 (F) := H
 exact ⟨by rw [← hr2]; rfl, H⟩
/-- posthorn/sasl.may -/
theorem c_smay (l : List UInt8) (m : Nat) (hl : l.length ≤ 1099511627776) {w0 w : World} {F : List Chunk} (H : Sep w0 w F) : Ret Try.prog 33 #[S l, .int .i64 (m : Int)] w (fun v w' => v = .bool (sMay l m) ∧ Sep w0 w' F) := by
 refine Ret_enter (args := [S l, In m]) Try.func33 rfl (by kernel_rfl) ?_
 refine G_forget [(0, S l), (1, In m)] (by kernel_rfl) (fun β => ?_)
 refine G_sr ?_
 refine GL_st 1 1 [(0, S l), (1, In m)] fun β => ?_
 refine G_sr ?_
 refine GL_sr 4 4 [(0, S l), (1, In m), (8, .bool (decide (l.length ≥ 1)))] (show ([S l, .int .i64 (m : Int), .bool (decide ((l.length : Int) ≥ ((1 : Nat) : Int)))] : List Value) = [S l, In m, .bool (decide (l.length ≥ 1))] by rw [ngeq l.length 1]) fun β => ?_
 rcases Bool.eq_false_or_eq_true (decide (l.length ≥ 1)) with h0 | h0
 · --yes
  refine GL_re [(0, S l), (1, In m), (8, .bool true)] (show ([S l, In m, .bool (decide (l.length ≥ 1))] : List Value) = [S l, In m, .bool true] by rw [h0]) (fun β => ?_)
  replace h0 : l.length ≥ 1 := of_decide_eq_true h0
  refine GL_sr 6 10 [(0, S l), (14, .bool (decide (l.length ≤ m)))] (show ([S l, .bool (decide ((l.length : Int) ≤ (m : Int)))] : List Value) = [S l, .bool (decide (l.length ≤ m))] by rw [nleq l.length m]) fun β => ?_
  rcases Bool.eq_false_or_eq_true (decide (l.length ≤ m)) with h1 | h1
  · --yes
   refine GL_re [(0, S l), (14, .bool true)] (show ([S l, .bool (decide (l.length ≤ m))] : List Value) = [S l, .bool true] by rw [h1]) (fun β => ?_)
   replace h1 : l.length ≤ m := of_decide_eq_true h1
   refine GL_s 1 11 [(14, .bool true), (15, S l)] fun β => ?_
   refine GL_C (c_ContainsAny3 l (by omega) H) ?_
   rintro _ w1 ⟨rfl, H⟩
   refine GL_st 3 15 [(4, .bool (!(l.any badB)))] fun β => ?_
   refine G_ret ?_
   refine res1 (v := .bool (!(l.any badB))) rfl (by kernel_rfl) ?_
   replace H : Sep w0 w1 (F) := H
   refine ⟨?_, H⟩
   first | (rw [sMay_no (by omega)]; done) | (rw [sMay_in (by omega)])
  · --no
   refine GL_re [(0, S l), (14, .bool false)] (show ([S l, .bool (decide (l.length ≤ m))] : List Value) = [S l, .bool false] by rw [h1]) (fun β => ?_)
   replace h1 : ¬ (l.length ≤ m) := of_decide_eq_false h1
   refine GL_st 5 15 [(4, .bool false)] fun β => ?_
   refine G_ret ?_
   refine res1 (v := .bool false) rfl (by kernel_rfl) ?_
   replace H : Sep w0 w (F) := H
   refine ⟨?_, H⟩
   first | (rw [sMay_no (by omega)]; done) | (rw [sMay_in (by omega)])
 · --no
  refine GL_re [(0, S l), (1, In m), (8, .bool false)] (show ([S l, In m, .bool (decide (l.length ≥ 1))] : List Value) = [S l, In m, .bool false] by rw [h0]) (fun β => ?_)
  replace h0 : ¬ (l.length ≥ 1) := of_decide_eq_false h0
  refine GL_st 11 15 [(4, .bool false)] fun β => ?_
  refine G_ret ?_
  refine res1 (v := .bool false) rfl (by kernel_rfl) ?_
  replace H : Sep w0 w (F) := H
  refine ⟨?_, H⟩
  first | (rw [sMay_no (by omega)]; done) | (rw [sMay_in (by omega)])
/-- posthorn/sasl.Respond -/
theorem c_Respond_plain (nm sec m : List UInt8) (hn : nm.length ≤ 1099511627776) (hs : sec.length ≤ 1099511627776) (hml : m.length ≤ 1099511627776) (hm : m.map up = [80, 76, 65, 73, 78]) (hy : may2 nm sec = true) {w0 w : World} {F : List Chunk} (H : Sep w0 w F) : Ret Try.prog 19 #[.agg #[S nm, S sec], S m] w (fun v w' => ∃ g, v = .tuple #[.iface 73 (.pointer (some ⟨g, 0, none⟩)), .int .i64 ((0 : Nat) : Int)] ∧ Sep w0 w' (.blk g 78 [S nm, S sec, .iface 83 (.agg #[]), .bool true] :: F)) := by
 have hy1 := may2_l hy
 have hy2 := may2_r hy
 refine Ret_enter (args := [.agg #[S nm, S sec], S m]) Try.func19 rfl (by kernel_rfl) ?_
 refine G_forget [(0, .agg #[S nm, S sec]), (1, S m)] (by kernel_rfl) (fun β => ?_)
 refine G_sr ?_
 refine GL_new (V := fun g => Pt g 0) (l := [S nm, S sec]) (t := 39) H rfl (by kernel_rfl) (by kernel_rfl) (by kernel_rfl) (fun g1 w2 H => ?_)
 refine GL_st 2 3 [(1, S m), (2, Pt g1 0)] fun β => ?_
 refine G_sr ?_
 refine GL_s 1 1 [(1, S m), (2, Pt g1 0), (7, S m)] fun β => ?_
 refine GL_C (c_first_plain m ([] : List UInt8) (by omega) hm H) ?_
 rintro _ w3 ⟨rfl, H⟩
 refine GL_st 1 3 [(1, S m), (2, Pt g1 0), (6, .iface 83 (.agg #[]))] fun β => ?_
 refine G_seq ?_
 refine G_sr ?_
 refine GL_st 2 2 [(1, S m), (2, Pt g1 0), (6, .iface 83 (.agg #[])), (10, .bool false)] fun β => ?_
 refine G_false (by kernel_rfl) ?_
 refine G_skip ?_
 refine thn_normal ?_
 refine G_seq ?_
 refine G_sr ?_
 refine GL_s 1 1 [(1, S m), (2, Pt g1 0), (6, .iface 83 (.agg #[])), (11, Pt g1 0)] fun β => ?_
 refine GL_V (run_load1 (t := 9) (by kernel_rfl) ((H.blk_cell (i := 0) rfl 0).trans rfl)) ?_
 refine GL_C (c_smay nm 64 (by omega) H) ?_
 rintro _ w4 ⟨rfl, H⟩
 rw [hy1]
 refine GL_s 3 6 [(1, S m), (2, Pt g1 0), (6, .iface 83 (.agg #[])), (15, .bool false), (16, Pt g1 1)] fun β => ?_
 refine GL_V (run_load1 (t := 9) (by kernel_rfl) ((H.blk_cell (i := 0) rfl 1).trans rfl)) ?_
 refine GL_C (c_smay sec 256 (by omega) H) ?_
 rintro _ w5 ⟨rfl, H⟩
 rw [hy2]
 refine GL_st 2 10 [(1, S m), (2, Pt g1 0), (6, .iface 83 (.agg #[])), (20, .bool false)] fun β => ?_
 refine G_false (by kernel_rfl) ?_
 refine G_skip ?_
 refine thn_normal ?_
 refine G_seq ?_
 refine G_drawS (fun w => (∀ j u, ([S nm, S sec] : List Value)[j]? = some u → w.cell? ((⟨g1, 0, none⟩ : Addr).add j) = some u) ∧ True) 10 10 (by kernel_rfl) (by kernel_rfl) H (fun w6 H => ?_)
 refine HL_t (i := 0) (m := 9) (fun w hS => run_loadN (t := 39) (vs := [S nm, S sec]) (by kernel_rfl) (by kernel_rfl) hS.1) rfl (by kernel_rfl) (by kernel_rfl) (by kernel_rfl) (by kernel_rfl) (by kernel_rfl) (by kernel_rfl) ⟨(H.blk_cells (i := 0) rfl 0 _ ⟨_, rfl⟩), trivial⟩ rfl ?_
 refine HL_takes [1, 2, 3] [(23, .agg #[S nm, S sec, .iface 83 (.agg #[])]), (24, S m)] (mkL 10 [0, 1, 2, 3]) 6 (by kernel_rfl) rfl (by kernel_rfl) (fun _ => by kernel_rfl) ⟨(H.blk_cells (i := 0) rfl 0 _ ⟨_, rfl⟩), trivial⟩ (fun β => ?_)
 refine HL_call (i := 4) (f := 34) (args := #[S m, S [80, 76, 65, 73, 78]]) rfl (by kernel_rfl) (by kernel_rfl) (by kernel_rfl) (by kernel_rfl) (c_Same m [80, 76, 65, 73, 78] (by first | omega | decide) (by first | omega | decide) H) ?_
 rintro _ w7 ⟨rfl, H⟩
 rw [show (m.map up == [80, 76, 65, 73, 78].map up) = true from by rw [hm]; decide]
 refine ⟨(.inr ⟨(H.blk_cells (i := 0) rfl 0 _ ⟨_, rfl⟩), trivial⟩), ?_⟩
 refine HL_takes [5] [(26, .agg #[S nm, S sec, .iface 83 (.agg #[]), .bool true])] (mkL 10 [0, 1, 2, 3, 4, 5]) 4 (by kernel_rfl) rfl (by kernel_rfl) (fun _ => by kernel_rfl) ⟨(H.blk_cells (i := 0) rfl 0 _ ⟨_, rfl⟩), trivial⟩ (fun β => ?_)
 refine HL_new (i := 6) (V := fun g => Pt g 0) (l := [S nm, S sec, .iface 83 (.agg #[]), .bool true]) (t := 78) H rfl (by kernel_rfl) (by kernel_rfl) (by kernel_rfl) (by kernel_rfl) (fun g8 w9 H => ?_)
 refine ⟨(.inr ⟨(H.blk_cells (i := 1) rfl 0 _ ⟨_, rfl⟩), trivial⟩), ?_⟩
 refine HL_takes [7, 8, 9] [(4, .iface 73 (Pt g8 0)), (5, .int .i64 ((0 : Nat) : Int))] (mkL 10 [0, 1, 2, 3, 4, 5, 6, 7, 8, 9]) 0 (by kernel_rfl) rfl (by kernel_rfl) (fun _ => by kernel_rfl) ⟨(H.blk_cells (i := 1) rfl 0 _ ⟨_, rfl⟩), trivial⟩ (fun β => ?_)
 refine HL_forget [(4, .iface 73 (Pt g8 0)), (5, In 0)] (by kernel_rfl) (fun β => ?_)
 refine HL_fin (by kernel_rfl) ?_
 refine thn_normal ?_
 refine G_ret ?_
 refine res2 (v := .iface 73 (Pt g8 0)) (x := In 0) rfl (by kernel_rfl) (by kernel_rfl) ?_
 replace H := H.drop 1
 replace H : Sep w0 w9 (.blk g8 78 [S nm, S sec, .iface 83 (.agg #[]), .bool true] :: F) := H
 exact ⟨_, rfl, H⟩
/-- posthorn/sasl.Respond -/
theorem c_RespondNo_plain (nm sec m : List UInt8) (hn : nm.length ≤ 1099511627776) (hs : sec.length ≤ 1099511627776) (hml : m.length ≤ 1099511627776) (hm : m.map up = [80, 76, 65, 73, 78]) (hy : may2 nm sec = false) {w0 w : World} {F : List Chunk} (H : Sep w0 w F) : Ret Try.prog 19 #[.agg #[S nm, S sec], S m] w (fun v w' => v = .tuple #[.nilIface, .int .i64 ((2 : Nat) : Int)] ∧ Sep w0 w' F) := by
 refine Ret_enter (args := [.agg #[S nm, S sec], S m]) Try.func19 rfl (by kernel_rfl) ?_
 refine G_forget [(0, .agg #[S nm, S sec]), (1, S m)] (by kernel_rfl) (fun β => ?_)
 refine G_sr ?_
 refine GL_new (V := fun g => Pt g 0) (l := [S nm, S sec]) (t := 39) H rfl (by kernel_rfl) (by kernel_rfl) (by kernel_rfl) (fun g1 w2 H => ?_)
 refine GL_st 2 3 [(1, S m), (2, Pt g1 0)] fun β => ?_
 refine G_sr ?_
 refine GL_s 1 1 [(1, S m), (2, Pt g1 0), (7, S m)] fun β => ?_
 refine GL_C (c_first_plain m ([] : List UInt8) (by omega) hm H) ?_
 rintro _ w3 ⟨rfl, H⟩
 refine GL_st 1 3 [(1, S m), (2, Pt g1 0), (6, .iface 83 (.agg #[]))] fun β => ?_
 refine G_seq ?_
 refine G_sr ?_
 refine GL_st 2 2 [(1, S m), (2, Pt g1 0), (6, .iface 83 (.agg #[])), (10, .bool false)] fun β => ?_
 refine G_false (by kernel_rfl) ?_
 refine G_skip ?_
 refine thn_normal ?_
 refine G_seq ?_
 refine G_sr ?_
 refine GL_s 1 1 [(1, S m), (2, Pt g1 0), (6, .iface 83 (.agg #[])), (11, Pt g1 0)] fun β => ?_
 refine GL_V (run_load1 (t := 9) (by kernel_rfl) ((H.blk_cell (i := 0) rfl 0).trans rfl)) ?_
 refine GL_C (c_smay nm 64 (by omega) H) ?_
 rintro _ w4 ⟨rfl, H⟩
 refine GL_s 2 5 [(1, S m), (2, Pt g1 0), (6, .iface 83 (.agg #[])), (15, .bool (!(sMay nm 64)))] fun β => ?_
 rcases Bool.eq_false_or_eq_true (!(sMay nm 64)) with h0 | h0
 · --yes
  refine GL_re [(1, S m), (2, Pt g1 0), (6, .iface 83 (.agg #[])), (15, .bool true)] (show ([S m, Pt g1 0, .iface 83 (.agg #[]), .bool (!(sMay nm 64))] : List Value) = [S m, Pt g1 0, .iface 83 (.agg #[]), .bool true] by rw [h0]) (fun β => ?_)
  have h0 := not_F h0
  refine GL_st 5 10 [(1, S m), (2, Pt g1 0), (6, .iface 83 (.agg #[])), (20, .bool true)] fun β => ?_
  refine G_true (by kernel_rfl) ?_
  refine G_sr ?_
  refine GL_st 2 2 [(4, .nilIface), (5, In 2)] fun β => ?_
  refine G_ret ?_
  refine thn_ret (res2 (v := .nilIface) (x := In 2) rfl (by kernel_rfl) (by kernel_rfl) ?_)
  replace H := H.drop 0
  replace H : Sep w0 w4 (F) := H
  exact ⟨rfl, H⟩
 · --no
  refine GL_re [(1, S m), (2, Pt g1 0), (6, .iface 83 (.agg #[])), (15, .bool false)] (show ([S m, Pt g1 0, .iface 83 (.agg #[]), .bool (!(sMay nm 64))] : List Value) = [S m, Pt g1 0, .iface 83 (.agg #[]), .bool false] by rw [h0]) (fun β => ?_)
  have h0 := not_T h0
  refine GL_s 1 6 [(1, S m), (2, Pt g1 0), (6, .iface 83 (.agg #[])), (15, .bool false), (16, Pt g1 1)] fun β => ?_
  refine GL_V (run_load1 (t := 9) (by kernel_rfl) ((H.blk_cell (i := 0) rfl 1).trans rfl)) ?_
  refine GL_C (c_smay sec 256 (by omega) H) ?_
  rintro _ w5 ⟨rfl, H⟩
  refine GL_st 2 10 [(1, S m), (2, Pt g1 0), (6, .iface 83 (.agg #[])), (20, .bool (!(sMay sec 256)))] fun β => ?_
  refine G_cond (!(sMay sec 256)) (by kernel_rfl) (fun h1 => ?_) (fun h1 => ?_)
  · --yes
   have h1 := not_F h1
   refine G_sr ?_
   refine GL_st 2 2 [(4, .nilIface), (5, In 2)] fun β => ?_
   refine G_ret ?_
   refine thn_ret (res2 (v := .nilIface) (x := In 2) rfl (by kernel_rfl) (by kernel_rfl) ?_)
   replace H := H.drop 0
   replace H : Sep w0 w5 (F) := H
   exact ⟨rfl, H⟩
  · --no
   have h1 := not_T h1
   exact absurd h1 (by rw [may2_f hy h0]; simp)
/-- posthorn/sasl.Respond -/
theorem c_Respond_login (nm sec m : List UInt8) (hn : nm.length ≤ 1099511627776) (hs : sec.length ≤ 1099511627776) (hml : m.length ≤ 1099511627776) (hm : m.map up = [76, 79, 71, 73, 78]) (hy : may2 nm sec = true) {w0 w : World} {F : List Chunk} (H : Sep w0 w F) : Ret Try.prog 19 #[.agg #[S nm, S sec], S m] w (fun v w' => ∃ g, v = .tuple #[.iface 73 (.pointer (some ⟨g, 0, none⟩)), .int .i64 ((0 : Nat) : Int)] ∧ Sep w0 w' (.blk g 78 [S nm, S sec, .iface 84 (.agg #[]), .bool false] :: F)) := by
 have hy1 := may2_l hy
 have hy2 := may2_r hy
 refine Ret_enter (args := [.agg #[S nm, S sec], S m]) Try.func19 rfl (by kernel_rfl) ?_
 refine G_forget [(0, .agg #[S nm, S sec]), (1, S m)] (by kernel_rfl) (fun β => ?_)
 refine G_sr ?_
 refine GL_new (V := fun g => Pt g 0) (l := [S nm, S sec]) (t := 39) H rfl (by kernel_rfl) (by kernel_rfl) (by kernel_rfl) (fun g1 w2 H => ?_)
 refine GL_st 2 3 [(1, S m), (2, Pt g1 0)] fun β => ?_
 refine G_sr ?_
 refine GL_s 1 1 [(1, S m), (2, Pt g1 0), (7, S m)] fun β => ?_
 refine GL_C (c_first_login m ([] : List UInt8) (by omega) hm H) ?_
 rintro _ w3 ⟨rfl, H⟩
 refine GL_st 1 3 [(1, S m), (2, Pt g1 0), (6, .iface 84 (.agg #[]))] fun β => ?_
 refine G_seq ?_
 refine G_sr ?_
 refine GL_st 2 2 [(1, S m), (2, Pt g1 0), (6, .iface 84 (.agg #[])), (10, .bool false)] fun β => ?_
 refine G_false (by kernel_rfl) ?_
 refine G_skip ?_
 refine thn_normal ?_
 refine G_seq ?_
 refine G_sr ?_
 refine GL_s 1 1 [(1, S m), (2, Pt g1 0), (6, .iface 84 (.agg #[])), (11, Pt g1 0)] fun β => ?_
 refine GL_V (run_load1 (t := 9) (by kernel_rfl) ((H.blk_cell (i := 0) rfl 0).trans rfl)) ?_
 refine GL_C (c_smay nm 64 (by omega) H) ?_
 rintro _ w4 ⟨rfl, H⟩
 rw [hy1]
 refine GL_s 3 6 [(1, S m), (2, Pt g1 0), (6, .iface 84 (.agg #[])), (15, .bool false), (16, Pt g1 1)] fun β => ?_
 refine GL_V (run_load1 (t := 9) (by kernel_rfl) ((H.blk_cell (i := 0) rfl 1).trans rfl)) ?_
 refine GL_C (c_smay sec 256 (by omega) H) ?_
 rintro _ w5 ⟨rfl, H⟩
 rw [hy2]
 refine GL_st 2 10 [(1, S m), (2, Pt g1 0), (6, .iface 84 (.agg #[])), (20, .bool false)] fun β => ?_
 refine G_false (by kernel_rfl) ?_
 refine G_skip ?_
 refine thn_normal ?_
 refine G_seq ?_
 refine G_drawS (fun w => (∀ j u, ([S nm, S sec] : List Value)[j]? = some u → w.cell? ((⟨g1, 0, none⟩ : Addr).add j) = some u) ∧ True) 10 10 (by kernel_rfl) (by kernel_rfl) H (fun w6 H => ?_)
 refine HL_t (i := 0) (m := 9) (fun w hS => run_loadN (t := 39) (vs := [S nm, S sec]) (by kernel_rfl) (by kernel_rfl) hS.1) rfl (by kernel_rfl) (by kernel_rfl) (by kernel_rfl) (by kernel_rfl) (by kernel_rfl) (by kernel_rfl) ⟨(H.blk_cells (i := 0) rfl 0 _ ⟨_, rfl⟩), trivial⟩ rfl ?_
 refine HL_takes [1, 2, 3] [(23, .agg #[S nm, S sec, .iface 84 (.agg #[])]), (24, S m)] (mkL 10 [0, 1, 2, 3]) 6 (by kernel_rfl) rfl (by kernel_rfl) (fun _ => by kernel_rfl) ⟨(H.blk_cells (i := 0) rfl 0 _ ⟨_, rfl⟩), trivial⟩ (fun β => ?_)
 refine HL_call (i := 4) (f := 34) (args := #[S m, S [80, 76, 65, 73, 78]]) rfl (by kernel_rfl) (by kernel_rfl) (by kernel_rfl) (by kernel_rfl) (c_Same m [80, 76, 65, 73, 78] (by first | omega | decide) (by first | omega | decide) H) ?_
 rintro _ w7 ⟨rfl, H⟩
 rw [show (m.map up == [80, 76, 65, 73, 78].map up) = false from by rw [hm]; decide]
 refine ⟨(.inr ⟨(H.blk_cells (i := 0) rfl 0 _ ⟨_, rfl⟩), trivial⟩), ?_⟩
 refine HL_takes [5] [(26, .agg #[S nm, S sec, .iface 84 (.agg #[]), .bool false])] (mkL 10 [0, 1, 2, 3, 4, 5]) 4 (by kernel_rfl) rfl (by kernel_rfl) (fun _ => by kernel_rfl) ⟨(H.blk_cells (i := 0) rfl 0 _ ⟨_, rfl⟩), trivial⟩ (fun β => ?_)
 refine HL_new (i := 6) (V := fun g => Pt g 0) (l := [S nm, S sec, .iface 84 (.agg #[]), .bool false]) (t := 78) H rfl (by kernel_rfl) (by kernel_rfl) (by kernel_rfl) (by kernel_rfl) (fun g8 w9 H => ?_)
 refine ⟨(.inr ⟨(H.blk_cells (i := 1) rfl 0 _ ⟨_, rfl⟩), trivial⟩), ?_⟩
 refine HL_takes [7, 8, 9] [(4, .iface 73 (Pt g8 0)), (5, .int .i64 ((0 : Nat) : Int))] (mkL 10 [0, 1, 2, 3, 4, 5, 6, 7, 8, 9]) 0 (by kernel_rfl) rfl (by kernel_rfl) (fun _ => by kernel_rfl) ⟨(H.blk_cells (i := 1) rfl 0 _ ⟨_, rfl⟩), trivial⟩ (fun β => ?_)
 refine HL_forget [(4, .iface 73 (Pt g8 0)), (5, In 0)] (by kernel_rfl) (fun β => ?_)
 refine HL_fin (by kernel_rfl) ?_
 refine thn_normal ?_
 refine G_ret ?_
 refine res2 (v := .iface 73 (Pt g8 0)) (x := In 0) rfl (by kernel_rfl) (by kernel_rfl) ?_
 replace H := H.drop 1
 replace H : Sep w0 w9 (.blk g8 78 [S nm, S sec, .iface 84 (.agg #[]), .bool false] :: F) := H
 exact ⟨_, rfl, H⟩
/-- posthorn/sasl.Respond -/
theorem c_RespondNo_login (nm sec m : List UInt8) (hn : nm.length ≤ 1099511627776) (hs : sec.length ≤ 1099511627776) (hml : m.length ≤ 1099511627776) (hm : m.map up = [76, 79, 71, 73, 78]) (hy : may2 nm sec = false) {w0 w : World} {F : List Chunk} (H : Sep w0 w F) : Ret Try.prog 19 #[.agg #[S nm, S sec], S m] w (fun v w' => v = .tuple #[.nilIface, .int .i64 ((2 : Nat) : Int)] ∧ Sep w0 w' F) := by
 refine Ret_enter (args := [.agg #[S nm, S sec], S m]) Try.func19 rfl (by kernel_rfl) ?_
 refine G_forget [(0, .agg #[S nm, S sec]), (1, S m)] (by kernel_rfl) (fun β => ?_)
 refine G_sr ?_
 refine GL_new (V := fun g => Pt g 0) (l := [S nm, S sec]) (t := 39) H rfl (by kernel_rfl) (by kernel_rfl) (by kernel_rfl) (fun g1 w2 H => ?_)
 refine GL_st 2 3 [(1, S m), (2, Pt g1 0)] fun β => ?_
 refine G_sr ?_
 refine GL_s 1 1 [(1, S m), (2, Pt g1 0), (7, S m)] fun β => ?_
 refine GL_C (c_first_login m ([] : List UInt8) (by omega) hm H) ?_
 rintro _ w3 ⟨rfl, H⟩
 refine GL_st 1 3 [(1, S m), (2, Pt g1 0), (6, .iface 84 (.agg #[]))] fun β => ?_
 refine G_seq ?_
 refine G_sr ?_
 refine GL_st 2 2 [(1, S m), (2, Pt g1 0), (6, .iface 84 (.agg #[])), (10, .bool false)] fun β => ?_
 refine G_false (by kernel_rfl) ?_
 refine G_skip ?_
 refine thn_normal ?_
 refine G_seq ?_
 refine G_sr ?_
 refine GL_s 1 1 [(1, S m), (2, Pt g1 0), (6, .iface 84 (.agg #[])), (11, Pt g1 0)] fun β => ?_
 refine GL_V (run_load1 (t := 9) (by kernel_rfl) ((H.blk_cell (i := 0) rfl 0).trans rfl)) ?_
 refine GL_C (c_smay nm 64 (by omega) H) ?_
 rintro _ w4 ⟨rfl, H⟩
 refine GL_s 2 5 [(1, S m), (2, Pt g1 0), (6, .iface 84 (.agg #[])), (15, .bool (!(sMay nm 64)))] fun β => ?_
 rcases Bool.eq_false_or_eq_true (!(sMay nm 64)) with h0 | h0
 · --yes
  refine GL_re [(1, S m), (2, Pt g1 0), (6, .iface 84 (.agg #[])), (15, .bool true)] (show ([S m, Pt g1 0, .iface 84 (.agg #[]), .bool (!(sMay nm 64))] : List Value) = [S m, Pt g1 0, .iface 84 (.agg #[]), .bool true] by rw [h0]) (fun β => ?_)
  have h0 := not_F h0
  refine GL_st 5 10 [(1, S m), (2, Pt g1 0), (6, .iface 84 (.agg #[])), (20, .bool true)] fun β => ?_
  refine G_true (by kernel_rfl) ?_
  refine G_sr ?_
  refine GL_st 2 2 [(4, .nilIface), (5, In 2)] fun β => ?_
  refine G_ret ?_
  refine thn_ret (res2 (v := .nilIface) (x := In 2) rfl (by kernel_rfl) (by kernel_rfl) ?_)
  replace H := H.drop 0
  replace H : Sep w0 w4 (F) := H
  exact ⟨rfl, H⟩
 · --no
  refine GL_re [(1, S m), (2, Pt g1 0), (6, .iface 84 (.agg #[])), (15, .bool false)] (show ([S m, Pt g1 0, .iface 84 (.agg #[]), .bool (!(sMay nm 64))] : List Value) = [S m, Pt g1 0, .iface 84 (.agg #[]), .bool false] by rw [h0]) (fun β => ?_)
  have h0 := not_T h0
  refine GL_s 1 6 [(1, S m), (2, Pt g1 0), (6, .iface 84 (.agg #[])), (15, .bool false), (16, Pt g1 1)] fun β => ?_
  refine GL_V (run_load1 (t := 9) (by kernel_rfl) ((H.blk_cell (i := 0) rfl 1).trans rfl)) ?_
  refine GL_C (c_smay sec 256 (by omega) H) ?_
  rintro _ w5 ⟨rfl, H⟩
  refine GL_st 2 10 [(1, S m), (2, Pt g1 0), (6, .iface 84 (.agg #[])), (20, .bool (!(sMay sec 256)))] fun β => ?_
  refine G_cond (!(sMay sec 256)) (by kernel_rfl) (fun h1 => ?_) (fun h1 => ?_)
  · --yes
   have h1 := not_F h1
   refine G_sr ?_
   refine GL_st 2 2 [(4, .nilIface), (5, In 2)] fun β => ?_
   refine G_ret ?_
   refine thn_ret (res2 (v := .nilIface) (x := In 2) rfl (by kernel_rfl) (by kernel_rfl) ?_)
   replace H := H.drop 0
   replace H : Sep w0 w5 (F) := H
   exact ⟨rfl, H⟩
  · --no
   have h1 := not_T h1
   exact absurd h1 (by rw [may2_f hy h0]; simp)
/-- posthorn/sasl.Respond -/
theorem c_Respond_cram (nm sec m : List UInt8) (hn : nm.length ≤ 1099511627776) (hs : sec.length ≤ 1099511627776) (hml : m.length ≤ 1099511627776) (hm : m.map up = [67, 82, 65, 77, 45, 77, 68, 53]) (hy : may2 nm sec = true) {w0 w : World} {F : List Chunk} (H : Sep w0 w F) : Ret Try.prog 19 #[.agg #[S nm, S sec], S m] w (fun v w' => ∃ g, v = .tuple #[.iface 73 (.pointer (some ⟨g, 0, none⟩)), .int .i64 ((0 : Nat) : Int)] ∧ Sep w0 w' (.blk g 78 [S nm, S sec, .iface 62 (.agg #[S ([] : List UInt8)]), .bool false] :: F)) := by
 have hy1 := may2_l hy
 have hy2 := may2_r hy
 refine Ret_enter (args := [.agg #[S nm, S sec], S m]) Try.func19 rfl (by kernel_rfl) ?_
 refine G_forget [(0, .agg #[S nm, S sec]), (1, S m)] (by kernel_rfl) (fun β => ?_)
 refine G_sr ?_
 refine GL_new (V := fun g => Pt g 0) (l := [S nm, S sec]) (t := 39) H rfl (by kernel_rfl) (by kernel_rfl) (by kernel_rfl) (fun g1 w2 H => ?_)
 refine GL_st 2 3 [(1, S m), (2, Pt g1 0)] fun β => ?_
 refine G_sr ?_
 refine GL_s 1 1 [(1, S m), (2, Pt g1 0), (7, S m)] fun β => ?_
 refine GL_C (c_first_cram m ([] : List UInt8) (by omega) hm H) ?_
 rintro _ w3 ⟨rfl, H⟩
 refine GL_st 1 3 [(1, S m), (2, Pt g1 0), (6, .iface 62 (.agg #[S ([] : List UInt8)]))] fun β => ?_
 refine G_seq ?_
 refine G_sr ?_
 refine GL_st 2 2 [(1, S m), (2, Pt g1 0), (6, .iface 62 (.agg #[S ([] : List UInt8)])), (10, .bool false)] fun β => ?_
 refine G_false (by kernel_rfl) ?_
 refine G_skip ?_
 refine thn_normal ?_
 refine G_seq ?_
 refine G_sr ?_
 refine GL_s 1 1 [(1, S m), (2, Pt g1 0), (6, .iface 62 (.agg #[S ([] : List UInt8)])), (11, Pt g1 0)] fun β => ?_
 refine GL_V (run_load1 (t := 9) (by kernel_rfl) ((H.blk_cell (i := 0) rfl 0).trans rfl)) ?_
 refine GL_C (c_smay nm 64 (by omega) H) ?_
 rintro _ w4 ⟨rfl, H⟩
 rw [hy1]
 refine GL_s 3 6 [(1, S m), (2, Pt g1 0), (6, .iface 62 (.agg #[S ([] : List UInt8)])), (15, .bool false), (16, Pt g1 1)] fun β => ?_
 refine GL_V (run_load1 (t := 9) (by kernel_rfl) ((H.blk_cell (i := 0) rfl 1).trans rfl)) ?_
 refine GL_C (c_smay sec 256 (by omega) H) ?_
 rintro _ w5 ⟨rfl, H⟩
 rw [hy2]
 refine GL_st 2 10 [(1, S m), (2, Pt g1 0), (6, .iface 62 (.agg #[S ([] : List UInt8)])), (20, .bool false)] fun β => ?_
 refine G_false (by kernel_rfl) ?_
 refine G_skip ?_
 refine thn_normal ?_
 refine G_seq ?_
 refine G_drawS (fun w => (∀ j u, ([S nm, S sec] : List Value)[j]? = some u → w.cell? ((⟨g1, 0, none⟩ : Addr).add j) = some u) ∧ True) 10 10 (by kernel_rfl) (by kernel_rfl) H (fun w6 H => ?_)
 refine HL_t (i := 0) (m := 9) (fun w hS => run_loadN (t := 39) (vs := [S nm, S sec]) (by kernel_rfl) (by kernel_rfl) hS.1) rfl (by kernel_rfl) (by kernel_rfl) (by kernel_rfl) (by kernel_rfl) (by kernel_rfl) (by kernel_rfl) ⟨(H.blk_cells (i := 0) rfl 0 _ ⟨_, rfl⟩), trivial⟩ rfl ?_
 refine HL_takes [1, 2, 3] [(23, .agg #[S nm, S sec, .iface 62 (.agg #[S ([] : List UInt8)])]), (24, S m)] (mkL 10 [0, 1, 2, 3]) 6 (by kernel_rfl) rfl (by kernel_rfl) (fun _ => by kernel_rfl) ⟨(H.blk_cells (i := 0) rfl 0 _ ⟨_, rfl⟩), trivial⟩ (fun β => ?_)
 refine HL_call (i := 4) (f := 34) (args := #[S m, S [80, 76, 65, 73, 78]]) rfl (by kernel_rfl) (by kernel_rfl) (by kernel_rfl) (by kernel_rfl) (c_Same m [80, 76, 65, 73, 78] (by first | omega | decide) (by first | omega | decide) H) ?_
 rintro _ w7 ⟨rfl, H⟩
 rw [show (m.map up == [80, 76, 65, 73, 78].map up) = false from by rw [hm]; decide]
 refine ⟨(.inr ⟨(H.blk_cells (i := 0) rfl 0 _ ⟨_, rfl⟩), trivial⟩), ?_⟩
 refine HL_takes [5] [(26, .agg #[S nm, S sec, .iface 62 (.agg #[S ([] : List UInt8)]), .bool false])] (mkL 10 [0, 1, 2, 3, 4, 5]) 4 (by kernel_rfl) rfl (by kernel_rfl) (fun _ => by kernel_rfl) ⟨(H.blk_cells (i := 0) rfl 0 _ ⟨_, rfl⟩), trivial⟩ (fun β => ?_)
 refine HL_new (i := 6) (V := fun g => Pt g 0) (l := [S nm, S sec, .iface 62 (.agg #[S ([] : List UInt8)]), .bool false]) (t := 78) H rfl (by kernel_rfl) (by kernel_rfl) (by kernel_rfl) (by kernel_rfl) (fun g8 w9 H => ?_)
 refine ⟨(.inr ⟨(H.blk_cells (i := 1) rfl 0 _ ⟨_, rfl⟩), trivial⟩), ?_⟩
 refine HL_takes [7, 8, 9] [(4, .iface 73 (Pt g8 0)), (5, .int .i64 ((0 : Nat) : Int))] (mkL 10 [0, 1, 2, 3, 4, 5, 6, 7, 8, 9]) 0 (by kernel_rfl) rfl (by kernel_rfl) (fun _ => by kernel_rfl) ⟨(H.blk_cells (i := 1) rfl 0 _ ⟨_, rfl⟩), trivial⟩ (fun β => ?_)
 refine HL_forget [(4, .iface 73 (Pt g8 0)), (5, In 0)] (by kernel_rfl) (fun β => ?_)
 refine HL_fin (by kernel_rfl) ?_
 refine thn_normal ?_
 refine G_ret ?_
 refine res2 (v := .iface 73 (Pt g8 0)) (x := In 0) rfl (by kernel_rfl) (by kernel_rfl) ?_
 replace H := H.drop 1
 replace H : Sep w0 w9 (.blk g8 78 [S nm, S sec, .iface 62 (.agg #[S ([] : List UInt8)]), .bool false] :: F) := H
 exact ⟨_, rfl, H⟩
/-- posthorn/sasl.Respond -/
theorem c_RespondNo_cram (nm sec m : List UInt8) (hn : nm.length ≤ 1099511627776) (hs : sec.length ≤ 1099511627776) (hml : m.length ≤ 1099511627776) (hm : m.map up = [67, 82, 65, 77, 45, 77, 68, 53]) (hy : may2 nm sec = false) {w0 w : World} {F : List Chunk} (H : Sep w0 w F) : Ret Try.prog 19 #[.agg #[S nm, S sec], S m] w (fun v w' => v = .tuple #[.nilIface, .int .i64 ((2 : Nat) : Int)] ∧ Sep w0 w' F) := by
 refine Ret_enter (args := [.agg #[S nm, S sec], S m]) Try.func19 rfl (by kernel_rfl) ?_
 refine G_forget [(0, .agg #[S nm, S sec]), (1, S m)] (by kernel_rfl) (fun β => ?_)
 refine G_sr ?_
 refine GL_new (V := fun g => Pt g 0) (l := [S nm, S sec]) (t := 39) H rfl (by kernel_rfl) (by kernel_rfl) (by kernel_rfl) (fun g1 w2 H => ?_)
 refine GL_st 2 3 [(1, S m), (2, Pt g1 0)] fun β => ?_
 refine G_sr ?_
 refine GL_s 1 1 [(1, S m), (2, Pt g1 0), (7, S m)] fun β => ?_
 refine GL_C (c_first_cram m ([] : List UInt8) (by omega) hm H) ?_
 rintro _ w3 ⟨rfl, H⟩
 refine GL_st 1 3 [(1, S m), (2, Pt g1 0), (6, .iface 62 (.agg #[S ([] : List UInt8)]))] fun β => ?_
 refine G_seq ?_
 refine G_sr ?_
 refine GL_st 2 2 [(1, S m), (2, Pt g1 0), (6, .iface 62 (.agg #[S ([] : List UInt8)])), (10, .bool false)] fun β => ?_
 refine G_false (by kernel_rfl) ?_
 refine G_skip ?_
 refine thn_normal ?_
 refine G_seq ?_
 refine G_sr ?_
 refine GL_s 1 1 [(1, S m), (2, Pt g1 0), (6, .iface 62 (.agg #[S ([] : List UInt8)])), (11, Pt g1 0)] fun β => ?_
 refine GL_V (run_load1 (t := 9) (by kernel_rfl) ((H.blk_cell (i := 0) rfl 0).trans rfl)) ?_
 refine GL_C (c_smay nm 64 (by omega) H) ?_
 rintro _ w4 ⟨rfl, H⟩
 refine GL_s 2 5 [(1, S m), (2, Pt g1 0), (6, .iface 62 (.agg #[S ([] : List UInt8)])), (15, .bool (!(sMay nm 64)))] fun β => ?_
 rcases Bool.eq_false_or_eq_true (!(sMay nm 64)) with h0 | h0
 · --yes
  refine GL_re [(1, S m), (2, Pt g1 0), (6, .iface 62 (.agg #[S ([] : List UInt8)])), (15, .bool true)] (show ([S m, Pt g1 0, .iface 62 (.agg #[S ([] : List UInt8)]), .bool (!(sMay nm 64))] : List Value) = [S m, Pt g1 0, .iface 62 (.agg #[S ([] : List UInt8)]), .bool true] by rw [h0]) (fun β => ?_)
  have h0 := not_F h0
  refine GL_st 5 10 [(1, S m), (2, Pt g1 0), (6, .iface 62 (.agg #[S ([] : List UInt8)])), (20, .bool true)] fun β => ?_
  refine G_true (by kernel_rfl) ?_
  refine G_sr ?_
  refine GL_st 2 2 [(4, .nilIface), (5, In 2)] fun β => ?_
  refine G_ret ?_
  refine thn_ret (res2 (v := .nilIface) (x := In 2) rfl (by kernel_rfl) (by kernel_rfl) ?_)
  replace H := H.drop 0
  replace H : Sep w0 w4 (F) := H
  exact ⟨rfl, H⟩
 · --no
  refine GL_re [(1, S m), (2, Pt g1 0), (6, .iface 62 (.agg #[S ([] : List UInt8)])), (15, .bool false)] (show ([S m, Pt g1 0, .iface 62 (.agg #[S ([] : List UInt8)]), .bool (!(sMay nm 64))] : List Value) = [S m, Pt g1 0, .iface 62 (.agg #[S ([] : List UInt8)]), .bool false] by rw [h0]) (fun β => ?_)
  have h0 := not_T h0
  refine GL_s 1 6 [(1, S m), (2, Pt g1 0), (6, .iface 62 (.agg #[S ([] : List UInt8)])), (15, .bool false), (16, Pt g1 1)] fun β => ?_
  refine GL_V (run_load1 (t := 9) (by kernel_rfl) ((H.blk_cell (i := 0) rfl 1).trans rfl)) ?_
  refine GL_C (c_smay sec 256 (by omega) H) ?_
  rintro _ w5 ⟨rfl, H⟩
  refine GL_st 2 10 [(1, S m), (2, Pt g1 0), (6, .iface 62 (.agg #[S ([] : List UInt8)])), (20, .bool (!(sMay sec 256)))] fun β => ?_
  refine G_cond (!(sMay sec 256)) (by kernel_rfl) (fun h1 => ?_) (fun h1 => ?_)
  · --yes
   have h1 := not_F h1
   refine G_sr ?_
   refine GL_st 2 2 [(4, .nilIface), (5, In 2)] fun β => ?_
   refine G_ret ?_
   refine thn_ret (res2 (v := .nilIface) (x := In 2) rfl (by kernel_rfl) (by kernel_rfl) ?_)
   replace H := H.drop 0
   replace H : Sep w0 w5 (F) := H
   exact ⟨rfl, H⟩
  · --no
   have h1 := not_T h1
   exact absurd h1 (by rw [may2_f hy h0]; simp)
end Go.Proofs.Ytadiljnfkbbmcaa
