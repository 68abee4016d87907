-- printed by gw.py (my own program), checked by Lean
import Derived.Test.YtadiljnfkbbmcaaDoorB5
set_option linter.unusedVariables false
set_option linter.unusedSimpArgs false
set_option maxRecDepth 100000
set_option maxHeartbeats 400000
namespace Go.Proofs.YtadiljnfkbbmcaaDoor
open Go.Kw Go.RowKit
/-- posthorn/sasl.Begin -/
theorem c_Begin_plain {w0 w : World} {F : List Chunk} (T : List UInt32) (hT : T.length = 64) (gT : Gl w0 0 (u32s T)) (R : List UInt8) (hR : R.length = 16) (gR : Gl w0 1 (bs R)) (l : List Str2) (hl : l.length ≤ 1099511627776) (hU : ∀ u ∈ l, u.1.length ≤ 549755813888 ∧ u.2.length ≤ 549755813888) (m st y : List UInt8) (hml : m.length ≤ 1099511627776) (hst : st.length ≤ 68719476736) (hy : y.length ≤ 68719476736) (hm : m.map up = [80, 76, 65, 73, 78]) {B : Option Addr} {d : Nat} (RU : Rd w0 F (.slice B l.length d) 2 l.length (us l)) (H : Sep w0 w F) : Ret Tryd.prog 7 #[.slice B l.length d, S m, S st, S y, .bool false] w (fun v w' => ∃ g A c, v = .tuple #[.pointer (some ⟨g, 0, none⟩), .int .i64 ((0 : Nat) : Int)] ∧ Sep w0 w' (.blk g 58 [.slice A l.length c, .int .i64 ((1 : Nat) : Int), .iface 85 (.agg #[]), .string ⟨[].toArray⟩] :: .row (.slice A l.length c) 40 2 l.length (us l) :: F)) := by
  refine Ret_enter (args := [.slice B l.length d, .string ⟨m.toArray⟩, .string ⟨st.toArray⟩, .string ⟨y.toArray⟩, .bool false]) Tryd.func7 rfl (by kernel_rfl) ?_
  refine G_forget [(0, .slice B l.length d), (1, .string ⟨m.toArray⟩), (2, .string ⟨st.toArray⟩), (3, .string ⟨y.toArray⟩), (4, .bool false)] (by kernel_rfl) (fun β => ?_)
  refine G_seq ?_
  refine G_region ?_
  refine GL_seg0 2 2 [(0, .slice B l.length d), (1, .string ⟨m.toArray⟩), (2, .string ⟨st.toArray⟩), (3, .string ⟨y.toArray⟩), (4, .bool false)] rfl (by kernel_rfl) (fun β => ?_)
  refine GL_end (by kernel_rfl) ?_
  refine thn_normal ?_
  refine G_seq ?_
  refine G_region ?_
  refine GL_seg0 1 1 [(1, .string ⟨m.toArray⟩), (2, .string ⟨st.toArray⟩), (3, .string ⟨y.toArray⟩), (4, .bool false), (16, .slice B l.length d)] rfl (by kernel_rfl) (fun β => ?_)
  obtain ⟨A1, c2, w3, hr4, H⟩ := R_append_nil (P := Tryd.prog) (t := 22) (ty := 22) (e := 40) (z := .agg #[.string ⟨([] : List UInt8).toArray⟩, .string ⟨([] : List UInt8).toArray⟩]) (sz := 2) (by_ := 32) H (by kernel_rfl) rfl (Rd.src RU H) (us_one _) (by unfold maxLen; omega) (by omega)
  replace H : Sep w0 w3 (.row (.slice A1 l.length c2) 40 2 l.length (us l) :: F) := H
  refine GL_v hr4 rfl (by kernel_rfl) (by kernel_rfl) (by kernel_rfl) ?_
  refine GL_seg0 2 4 [(3, .string ⟨y.toArray⟩), (4, .bool false), (17, .slice A1 l.length c2), (18, .string ⟨m.toArray⟩), (19, .string ⟨st.toArray⟩)] rfl (by kernel_rfl) (fun β => ?_)
  refine GL_call (f := 20) (args := #[.string ⟨m.toArray⟩, .string ⟨st.toArray⟩]) rfl (by kernel_rfl) (by kernel_rfl) (by kernel_rfl) (c_first_plain m st (by omega) hm H) ?_
  rintro _ w5 ⟨rfl, H⟩
  refine GL_seg0 1 6 [(3, .string ⟨y.toArray⟩), (4, .bool false), (21, .agg #[.slice A1 l.length c2, .int .i64 ((1 : Nat) : Int), .iface 85 (.agg #[]), .string ⟨([] : List UInt8).toArray⟩])] rfl (by kernel_rfl) (fun β => ?_)
  refine GL_new (V := fun g => .pointer (some ⟨g, 0, none⟩)) (l := [.slice A1 l.length c2, .int .i64 ((1 : Nat) : Int), .iface 85 (.agg #[]), .string ⟨([] : List UInt8).toArray⟩]) (t := 58) H rfl (by kernel_rfl) (by kernel_rfl) (by kernel_rfl) (fun g6 w7 H => ?_)
  refine GL_seg0 1 8 [(3, .string ⟨y.toArray⟩), (4, .bool false), (12, .pointer (some ⟨g6, 0, none⟩))] rfl (by kernel_rfl) (fun β => ?_)
  refine GL_end (by kernel_rfl) ?_
  refine thn_normal ?_
  refine G_seq ?_
  refine G_seq ?_
  refine G_region ?_
  refine GL_seg0 3 3 [(3, .string ⟨y.toArray⟩), (4, .bool false), (12, .pointer (some ⟨g6, 0, none⟩)), (25, .pointer (some ⟨g6, 2, none⟩))] rfl (by kernel_rfl) (fun β => ?_)
  refine GL_v (run_load1 (t := 55) (by kernel_rfl) ((H.blk_cell (i := 0) rfl 2).trans rfl)) rfl (by kernel_rfl) (by kernel_rfl) (by kernel_rfl) ?_
  refine GL_seg0 1 5 [(3, .string ⟨y.toArray⟩), (4, .bool false), (12, .pointer (some ⟨g6, 0, none⟩)), (27, .bool false)] rfl (by kernel_rfl) (fun β => ?_)
  refine GL_end (by kernel_rfl) ?_
  refine thn_normal ?_
  refine G_false (by kernel_rfl) ?_
  refine G_skip ?_
  refine thn_normal ?_
  refine G_seq ?_
  refine G_seq ?_
  refine G_region ?_
  refine GL_seg0 2 2 [(3, .string ⟨y.toArray⟩), (12, .pointer (some ⟨g6, 0, none⟩)), (29, .bool true)] rfl (by kernel_rfl) (fun β => ?_)
  refine GL_end (by kernel_rfl) ?_
  refine thn_normal ?_
  refine G_true (by kernel_rfl) ?_
  refine G_seq ?_
  refine G_region ?_
  refine GL_seg0 3 3 [(10, .pointer (some ⟨g6, 0, none⟩)), (11, .int .i64 ((0 : Nat) : Int))] rfl (by kernel_rfl) (fun β => ?_)
  refine GL_end (by kernel_rfl) ?_
  refine thn_normal ?_
  refine G_ret ?_
  refine thn_ret (res2 (v := .pointer (some ⟨g6, 0, none⟩)) (x := .int .i64 ((0 : Nat) : Int)) rfl (by kernel_rfl) (by kernel_rfl) ?_)
  replace H := H.front (i := 1) rfl
  replace H := H.front (i := 1) rfl
  replace H : Sep w0 w7 (.blk g6 58 [.slice A1 l.length c2, .int .i64 ((1 : Nat) : Int), .iface 85 (.agg #[]), .string ⟨([] : List UInt8).toArray⟩] :: .row (.slice A1 l.length c2) 40 2 l.length (us l) :: F) := H
  exact ⟨_, _, _, rfl, H⟩
/-- posthorn/sasl.Begin -/
theorem c_Begin_login {w0 w : World} {F : List Chunk} (T : List UInt32) (hT : T.length = 64) (gT : Gl w0 0 (u32s T)) (R : List UInt8) (hR : R.length = 16) (gR : Gl w0 1 (bs R)) (l : List Str2) (hl : l.length ≤ 1099511627776) (hU : ∀ u ∈ l, u.1.length ≤ 549755813888 ∧ u.2.length ≤ 549755813888) (m st y : List UInt8) (hml : m.length ≤ 1099511627776) (hst : st.length ≤ 68719476736) (hy : y.length ≤ 68719476736) (hm : m.map up = [76, 79, 71, 73, 78]) {B : Option Addr} {d : Nat} (RU : Rd w0 F (.slice B l.length d) 2 l.length (us l)) (H : Sep w0 w F) : Ret Tryd.prog 7 #[.slice B l.length d, S m, S st, S y, .bool false] w (fun v w' => ∃ g A c, v = .tuple #[.pointer (some ⟨g, 0, none⟩), .int .i64 ((0 : Nat) : Int)] ∧ Sep w0 w' (.blk g 58 [.slice A l.length c, .int .i64 ((1 : Nat) : Int), .iface 86 (.agg #[]), .string ⟨[].toArray⟩] :: .row (.slice A l.length c) 40 2 l.length (us l) :: F)) := by
  refine Ret_enter (args := [.slice B l.length d, .string ⟨m.toArray⟩, .string ⟨st.toArray⟩, .string ⟨y.toArray⟩, .bool false]) Tryd.func7 rfl (by kernel_rfl) ?_
  refine G_forget [(0, .slice B l.length d), (1, .string ⟨m.toArray⟩), (2, .string ⟨st.toArray⟩), (3, .string ⟨y.toArray⟩), (4, .bool false)] (by kernel_rfl) (fun β => ?_)
  refine G_seq ?_
  refine G_region ?_
  refine GL_seg0 2 2 [(0, .slice B l.length d), (1, .string ⟨m.toArray⟩), (2, .string ⟨st.toArray⟩), (3, .string ⟨y.toArray⟩), (4, .bool false)] rfl (by kernel_rfl) (fun β => ?_)
  refine GL_end (by kernel_rfl) ?_
  refine thn_normal ?_
  refine G_seq ?_
  refine G_region ?_
  refine GL_seg0 1 1 [(1, .string ⟨m.toArray⟩), (2, .string ⟨st.toArray⟩), (3, .string ⟨y.toArray⟩), (4, .bool false), (16, .slice B l.length d)] rfl (by kernel_rfl) (fun β => ?_)
  obtain ⟨A1, c2, w3, hr4, H⟩ := R_append_nil (P := Tryd.prog) (t := 22) (ty := 22) (e := 40) (z := .agg #[.string ⟨([] : List UInt8).toArray⟩, .string ⟨([] : List UInt8).toArray⟩]) (sz := 2) (by_ := 32) H (by kernel_rfl) rfl (Rd.src RU H) (us_one _) (by unfold maxLen; omega) (by omega)
  replace H : Sep w0 w3 (.row (.slice A1 l.length c2) 40 2 l.length (us l) :: F) := H
  refine GL_v hr4 rfl (by kernel_rfl) (by kernel_rfl) (by kernel_rfl) ?_
  refine GL_seg0 2 4 [(3, .string ⟨y.toArray⟩), (4, .bool false), (17, .slice A1 l.length c2), (18, .string ⟨m.toArray⟩), (19, .string ⟨st.toArray⟩)] rfl (by kernel_rfl) (fun β => ?_)
  refine GL_call (f := 20) (args := #[.string ⟨m.toArray⟩, .string ⟨st.toArray⟩]) rfl (by kernel_rfl) (by kernel_rfl) (by kernel_rfl) (c_first_login m st (by omega) hm H) ?_
  rintro _ w5 ⟨rfl, H⟩
  refine GL_seg0 1 6 [(3, .string ⟨y.toArray⟩), (4, .bool false), (21, .agg #[.slice A1 l.length c2, .int .i64 ((1 : Nat) : Int), .iface 86 (.agg #[]), .string ⟨([] : List UInt8).toArray⟩])] rfl (by kernel_rfl) (fun β => ?_)
  refine GL_new (V := fun g => .pointer (some ⟨g, 0, none⟩)) (l := [.slice A1 l.length c2, .int .i64 ((1 : Nat) : Int), .iface 86 (.agg #[]), .string ⟨([] : List UInt8).toArray⟩]) (t := 58) H rfl (by kernel_rfl) (by kernel_rfl) (by kernel_rfl) (fun g6 w7 H => ?_)
  refine GL_seg0 1 8 [(3, .string ⟨y.toArray⟩), (4, .bool false), (12, .pointer (some ⟨g6, 0, none⟩))] rfl (by kernel_rfl) (fun β => ?_)
  refine GL_end (by kernel_rfl) ?_
  refine thn_normal ?_
  refine G_seq ?_
  refine G_seq ?_
  refine G_region ?_
  refine GL_seg0 3 3 [(3, .string ⟨y.toArray⟩), (4, .bool false), (12, .pointer (some ⟨g6, 0, none⟩)), (25, .pointer (some ⟨g6, 2, none⟩))] rfl (by kernel_rfl) (fun β => ?_)
  refine GL_v (run_load1 (t := 55) (by kernel_rfl) ((H.blk_cell (i := 0) rfl 2).trans rfl)) rfl (by kernel_rfl) (by kernel_rfl) (by kernel_rfl) ?_
  refine GL_seg0 1 5 [(3, .string ⟨y.toArray⟩), (4, .bool false), (12, .pointer (some ⟨g6, 0, none⟩)), (27, .bool false)] rfl (by kernel_rfl) (fun β => ?_)
  refine GL_end (by kernel_rfl) ?_
  refine thn_normal ?_
  refine G_false (by kernel_rfl) ?_
  refine G_skip ?_
  refine thn_normal ?_
  refine G_seq ?_
  refine G_seq ?_
  refine G_region ?_
  refine GL_seg0 2 2 [(3, .string ⟨y.toArray⟩), (12, .pointer (some ⟨g6, 0, none⟩)), (29, .bool true)] rfl (by kernel_rfl) (fun β => ?_)
  refine GL_end (by kernel_rfl) ?_
  refine thn_normal ?_
  refine G_true (by kernel_rfl) ?_
  refine G_seq ?_
  refine G_region ?_
  refine GL_seg0 3 3 [(10, .pointer (some ⟨g6, 0, none⟩)), (11, .int .i64 ((0 : Nat) : Int))] rfl (by kernel_rfl) (fun β => ?_)
  refine GL_end (by kernel_rfl) ?_
  refine thn_normal ?_
  refine G_ret ?_
  refine thn_ret (res2 (v := .pointer (some ⟨g6, 0, none⟩)) (x := .int .i64 ((0 : Nat) : Int)) rfl (by kernel_rfl) (by kernel_rfl) ?_)
  replace H := H.front (i := 1) rfl
  replace H := H.front (i := 1) rfl
  replace H : Sep w0 w7 (.blk g6 58 [.slice A1 l.length c2, .int .i64 ((1 : Nat) : Int), .iface 86 (.agg #[]), .string ⟨([] : List UInt8).toArray⟩] :: .row (.slice A1 l.length c2) 40 2 l.length (us l) :: F) := H
  exact ⟨_, _, _, rfl, H⟩
/-- posthorn/sasl.Begin -/
theorem c_Begin_cram {w0 w : World} {F : List Chunk} (T : List UInt32) (hT : T.length = 64) (gT : Gl w0 0 (u32s T)) (R : List UInt8) (hR : R.length = 16) (gR : Gl w0 1 (bs R)) (l : List Str2) (hl : l.length ≤ 1099511627776) (hU : ∀ u ∈ l, u.1.length ≤ 549755813888 ∧ u.2.length ≤ 549755813888) (m st y : List UInt8) (hml : m.length ≤ 1099511627776) (hst : st.length ≤ 68719476736) (hy : y.length ≤ 68719476736) (hm : m.map up = [67, 82, 65, 77, 45, 77, 68, 53]) {B : Option Addr} {d : Nat} (RU : Rd w0 F (.slice B l.length d) 2 l.length (us l)) (H : Sep w0 w F) : Ret Tryd.prog 7 #[.slice B l.length d, S m, S st, S y, .bool false] w (fun v w' => ∃ g A c, v = .tuple #[.pointer (some ⟨g, 0, none⟩), .int .i64 ((0 : Nat) : Int)] ∧ Sep w0 w' (.blk g 58 [.slice A l.length c, .int .i64 ((1 : Nat) : Int), .iface 60 (.agg #[.string ⟨st.toArray⟩]), .string ⟨[].toArray⟩] :: .row (.slice A l.length c) 40 2 l.length (us l) :: F)) := by
  refine Ret_enter (args := [.slice B l.length d, .string ⟨m.toArray⟩, .string ⟨st.toArray⟩, .string ⟨y.toArray⟩, .bool false]) Tryd.func7 rfl (by kernel_rfl) ?_
  refine G_forget [(0, .slice B l.length d), (1, .string ⟨m.toArray⟩), (2, .string ⟨st.toArray⟩), (3, .string ⟨y.toArray⟩), (4, .bool false)] (by kernel_rfl) (fun β => ?_)
  refine G_seq ?_
  refine G_region ?_
  refine GL_seg0 2 2 [(0, .slice B l.length d), (1, .string ⟨m.toArray⟩), (2, .string ⟨st.toArray⟩), (3, .string ⟨y.toArray⟩), (4, .bool false)] rfl (by kernel_rfl) (fun β => ?_)
  refine GL_end (by kernel_rfl) ?_
  refine thn_normal ?_
  refine G_seq ?_
  refine G_region ?_
  refine GL_seg0 1 1 [(1, .string ⟨m.toArray⟩), (2, .string ⟨st.toArray⟩), (3, .string ⟨y.toArray⟩), (4, .bool false), (16, .slice B l.length d)] rfl (by kernel_rfl) (fun β => ?_)
  obtain ⟨A1, c2, w3, hr4, H⟩ := R_append_nil (P := Tryd.prog) (t := 22) (ty := 22) (e := 40) (z := .agg #[.string ⟨([] : List UInt8).toArray⟩, .string ⟨([] : List UInt8).toArray⟩]) (sz := 2) (by_ := 32) H (by kernel_rfl) rfl (Rd.src RU H) (us_one _) (by unfold maxLen; omega) (by omega)
  replace H : Sep w0 w3 (.row (.slice A1 l.length c2) 40 2 l.length (us l) :: F) := H
  refine GL_v hr4 rfl (by kernel_rfl) (by kernel_rfl) (by kernel_rfl) ?_
  refine GL_seg0 2 4 [(3, .string ⟨y.toArray⟩), (4, .bool false), (17, .slice A1 l.length c2), (18, .string ⟨m.toArray⟩), (19, .string ⟨st.toArray⟩)] rfl (by kernel_rfl) (fun β => ?_)
  refine GL_call (f := 20) (args := #[.string ⟨m.toArray⟩, .string ⟨st.toArray⟩]) rfl (by kernel_rfl) (by kernel_rfl) (by kernel_rfl) (c_first_cram m st (by omega) hm H) ?_
  rintro _ w5 ⟨rfl, H⟩
  refine GL_seg0 1 6 [(3, .string ⟨y.toArray⟩), (4, .bool false), (21, .agg #[.slice A1 l.length c2, .int .i64 ((1 : Nat) : Int), .iface 60 (.agg #[.string ⟨st.toArray⟩]), .string ⟨([] : List UInt8).toArray⟩])] rfl (by kernel_rfl) (fun β => ?_)
  refine GL_new (V := fun g => .pointer (some ⟨g, 0, none⟩)) (l := [.slice A1 l.length c2, .int .i64 ((1 : Nat) : Int), .iface 60 (.agg #[.string ⟨st.toArray⟩]), .string ⟨([] : List UInt8).toArray⟩]) (t := 58) H rfl (by kernel_rfl) (by kernel_rfl) (by kernel_rfl) (fun g6 w7 H => ?_)
  refine GL_seg0 1 8 [(3, .string ⟨y.toArray⟩), (4, .bool false), (12, .pointer (some ⟨g6, 0, none⟩))] rfl (by kernel_rfl) (fun β => ?_)
  refine GL_end (by kernel_rfl) ?_
  refine thn_normal ?_
  refine G_seq ?_
  refine G_seq ?_
  refine G_region ?_
  refine GL_seg0 3 3 [(3, .string ⟨y.toArray⟩), (4, .bool false), (12, .pointer (some ⟨g6, 0, none⟩)), (25, .pointer (some ⟨g6, 2, none⟩))] rfl (by kernel_rfl) (fun β => ?_)
  refine GL_v (run_load1 (t := 55) (by kernel_rfl) ((H.blk_cell (i := 0) rfl 2).trans rfl)) rfl (by kernel_rfl) (by kernel_rfl) (by kernel_rfl) ?_
  refine GL_seg0 1 5 [(3, .string ⟨y.toArray⟩), (4, .bool false), (12, .pointer (some ⟨g6, 0, none⟩)), (27, .bool false)] rfl (by kernel_rfl) (fun β => ?_)
  refine GL_end (by kernel_rfl) ?_
  refine thn_normal ?_
  refine G_false (by kernel_rfl) ?_
  refine G_skip ?_
  refine thn_normal ?_
  refine G_seq ?_
  refine G_seq ?_
  refine G_region ?_
  refine GL_seg0 2 2 [(3, .string ⟨y.toArray⟩), (12, .pointer (some ⟨g6, 0, none⟩)), (29, .bool true)] rfl (by kernel_rfl) (fun β => ?_)
  refine GL_end (by kernel_rfl) ?_
  refine thn_normal ?_
  refine G_true (by kernel_rfl) ?_
  refine G_seq ?_
  refine G_region ?_
  refine GL_seg0 3 3 [(10, .pointer (some ⟨g6, 0, none⟩)), (11, .int .i64 ((0 : Nat) : Int))] rfl (by kernel_rfl) (fun β => ?_)
  refine GL_end (by kernel_rfl) ?_
  refine thn_normal ?_
  refine G_ret ?_
  refine thn_ret (res2 (v := .pointer (some ⟨g6, 0, none⟩)) (x := .int .i64 ((0 : Nat) : Int)) rfl (by kernel_rfl) (by kernel_rfl) ?_)
  replace H := H.front (i := 1) rfl
  replace H := H.front (i := 1) rfl
  replace H : Sep w0 w7 (.blk g6 58 [.slice A1 l.length c2, .int .i64 ((1 : Nat) : Int), .iface 60 (.agg #[.string ⟨st.toArray⟩]), .string ⟨([] : List UInt8).toArray⟩] :: .row (.slice A1 l.length c2) 40 2 l.length (us l) :: F) := H
  exact ⟨_, _, _, rfl, H⟩
/-- posthorn/sasl.Begin -/
theorem c_Begin_none (has : Bool) {w0 w : World} {F : List Chunk} (T : List UInt32) (hT : T.length = 64) (gT : Gl w0 0 (u32s T)) (R : List UInt8) (hR : R.length = 16) (gR : Gl w0 1 (bs R)) (l : List Str2) (hl : l.length ≤ 1099511627776) (hU : ∀ u ∈ l, u.1.length ≤ 549755813888 ∧ u.2.length ≤ 549755813888) (m st y : List UInt8) (hml : m.length ≤ 1099511627776) (hst : st.length ≤ 68719476736) (hy : y.length ≤ 68719476736) (hm : ¬ m.map up = [80, 76, 65, 73, 78] ∧ ¬ m.map up = [76, 79, 71, 73, 78] ∧ ¬ m.map up = [67, 82, 65, 77, 45, 77, 68, 53]) {B : Option Addr} {d : Nat} (RU : Rd w0 F (.slice B l.length d) 2 l.length (us l)) (H : Sep w0 w F) : Ret Tryd.prog 7 #[.slice B l.length d, S m, S st, S y, .bool has] w (fun v w' => v = .tuple #[.pointer none, .int .i64 ((220 : Nat) : Int)] ∧ Sep w0 w' F) := by
  refine Ret_enter (args := [.slice B l.length d, .string ⟨m.toArray⟩, .string ⟨st.toArray⟩, .string ⟨y.toArray⟩, .bool has]) Tryd.func7 rfl (by kernel_rfl) ?_
  refine G_forget [(0, .slice B l.length d), (1, .string ⟨m.toArray⟩), (2, .string ⟨st.toArray⟩), (3, .string ⟨y.toArray⟩), (4, .bool has)] (by kernel_rfl) (fun β => ?_)
  refine G_seq ?_
  refine G_region ?_
  refine GL_seg0 2 2 [(0, .slice B l.length d), (1, .string ⟨m.toArray⟩), (2, .string ⟨st.toArray⟩), (3, .string ⟨y.toArray⟩), (4, .bool has)] rfl (by kernel_rfl) (fun β => ?_)
  refine GL_end (by kernel_rfl) ?_
  refine thn_normal ?_
  refine G_seq ?_
  refine G_region ?_
  refine GL_seg0 1 1 [(1, .string ⟨m.toArray⟩), (2, .string ⟨st.toArray⟩), (3, .string ⟨y.toArray⟩), (4, .bool has), (16, .slice B l.length d)] rfl (by kernel_rfl) (fun β => ?_)
  obtain ⟨A1, c2, w3, hr4, H⟩ := R_append_nil (P := Tryd.prog) (t := 22) (ty := 22) (e := 40) (z := .agg #[.string ⟨([] : List UInt8).toArray⟩, .string ⟨([] : List UInt8).toArray⟩]) (sz := 2) (by_ := 32) H (by kernel_rfl) rfl (Rd.src RU H) (us_one _) (by unfold maxLen; omega) (by omega)
  replace H : Sep w0 w3 (.row (.slice A1 l.length c2) 40 2 l.length (us l) :: F) := H
  refine GL_v hr4 rfl (by kernel_rfl) (by kernel_rfl) (by kernel_rfl) ?_
  refine GL_seg0 2 4 [(3, .string ⟨y.toArray⟩), (4, .bool has), (17, .slice A1 l.length c2), (18, .string ⟨m.toArray⟩), (19, .string ⟨st.toArray⟩)] rfl (by kernel_rfl) (fun β => ?_)
  refine GL_call (f := 20) (args := #[.string ⟨m.toArray⟩, .string ⟨st.toArray⟩]) rfl (by kernel_rfl) (by kernel_rfl) (by kernel_rfl) (c_first_none m st (by omega) hm H) ?_
  rintro _ w5 ⟨rfl, H⟩
  refine GL_seg0 1 6 [(3, .string ⟨y.toArray⟩), (4, .bool has), (21, .agg #[.slice A1 l.length c2, .int .i64 ((1 : Nat) : Int), .nilIface, .string ⟨([] : List UInt8).toArray⟩])] rfl (by kernel_rfl) (fun β => ?_)
  refine GL_new (V := fun g => .pointer (some ⟨g, 0, none⟩)) (l := [.slice A1 l.length c2, .int .i64 ((1 : Nat) : Int), .nilIface, .string ⟨([] : List UInt8).toArray⟩]) (t := 58) H rfl (by kernel_rfl) (by kernel_rfl) (by kernel_rfl) (fun g6 w7 H => ?_)
  refine GL_seg0 1 8 [(3, .string ⟨y.toArray⟩), (4, .bool has), (12, .pointer (some ⟨g6, 0, none⟩))] rfl (by kernel_rfl) (fun β => ?_)
  refine GL_end (by kernel_rfl) ?_
  refine thn_normal ?_
  refine G_seq ?_
  refine G_seq ?_
  refine G_region ?_
  refine GL_seg0 3 3 [(3, .string ⟨y.toArray⟩), (4, .bool has), (12, .pointer (some ⟨g6, 0, none⟩)), (25, .pointer (some ⟨g6, 2, none⟩))] rfl (by kernel_rfl) (fun β => ?_)
  refine GL_v (run_load1 (t := 55) (by kernel_rfl) ((H.blk_cell (i := 0) rfl 2).trans rfl)) rfl (by kernel_rfl) (by kernel_rfl) (by kernel_rfl) ?_
  refine GL_seg0 1 5 [(3, .string ⟨y.toArray⟩), (4, .bool has), (12, .pointer (some ⟨g6, 0, none⟩)), (27, .bool true)] rfl (by kernel_rfl) (fun β => ?_)
  refine GL_end (by kernel_rfl) ?_
  refine thn_normal ?_
  refine G_true (by kernel_rfl) ?_
  refine G_seq ?_
  refine G_region ?_
  refine GL_seg0 2 2 [(10, .pointer none), (11, .int .i64 ((220 : Nat) : Int))] rfl (by kernel_rfl) (fun β => ?_)
  refine GL_end (by kernel_rfl) ?_
  refine thn_normal ?_
  refine G_ret ?_
  refine thn_ret (res2 (v := .pointer none) (x := .int .i64 ((220 : Nat) : Int)) rfl (by kernel_rfl) (by kernel_rfl) ?_)
  replace H := H.drop 1
  replace H := H.drop 0
  replace H : Sep w0 w7 (F) := H
  exact ⟨rfl, H⟩
/-- posthorn/sasl.Begin -/
theorem c_Begin1_plain {w0 w : World} {F : List Chunk} (T : List UInt32) (hT : T.length = 64) (gT : Gl w0 0 (u32s T)) (R : List UInt8) (hR : R.length = 16) (gR : Gl w0 1 (bs R)) (l : List Str2) (hl : l.length ≤ 1099511627776) (hU : ∀ u ∈ l, u.1.length ≤ 549755813888 ∧ u.2.length ≤ 549755813888) (m st y : List UInt8) (hml : m.length ≤ 1099511627776) (hst : st.length ≤ 68719476736) (hy : y.length ≤ 68719476736) (hm : m.map up = [80, 76, 65, 73, 78]) {B : Option Addr} {d : Nat} (RU : Rd w0 F (.slice B l.length d) 2 l.length (us l)) (H : Sep w0 w F) : Ret Tryd.prog 7 #[.slice B l.length d, S m, S st, S y, .bool true] w (fun v w' => (¬ (readF T R l 1 Stp.plain [] (if y = [61] then [] else y)).1 = 0 ∧ v = .tuple #[.pointer none, .int .i64 ((readF T R l 1 Stp.plain [] (if y = [61] then [] else y)).1 : Int)] ∧ Sep w0 w' F) ∨ ((readF T R l 1 Stp.plain [] (if y = [61] then [] else y)).1 = 0 ∧ ∃ g A c, v = .tuple #[.pointer (some ⟨g, 0, none⟩), .int .i64 ((0 : Nat) : Int)] ∧ Sep w0 w' (.blk g 58 [.slice A l.length c, .int .i64 (((readF T R l 1 Stp.plain [] (if y = [61] then [] else y)).2.1 : Nat) : Int), (readF T R l 1 Stp.plain [] (if y = [61] then [] else y)).2.2.1.v, .string ⟨((readF T R l 1 Stp.plain [] (if y = [61] then [] else y)).2.2.2).toArray⟩] :: .row (.slice A l.length c) 40 2 l.length (us l) :: F))) := by
  refine Ret_enter (args := [.slice B l.length d, .string ⟨m.toArray⟩, .string ⟨st.toArray⟩, .string ⟨y.toArray⟩, .bool true]) Tryd.func7 rfl (by kernel_rfl) ?_
  refine G_forget [(0, .slice B l.length d), (1, .string ⟨m.toArray⟩), (2, .string ⟨st.toArray⟩), (3, .string ⟨y.toArray⟩), (4, .bool true)] (by kernel_rfl) (fun β => ?_)
  refine G_seq ?_
  refine G_region ?_
  refine GL_seg0 2 2 [(0, .slice B l.length d), (1, .string ⟨m.toArray⟩), (2, .string ⟨st.toArray⟩), (3, .string ⟨y.toArray⟩), (4, .bool true)] rfl (by kernel_rfl) (fun β => ?_)
  refine GL_end (by kernel_rfl) ?_
  refine thn_normal ?_
  refine G_seq ?_
  refine G_region ?_
  refine GL_seg0 1 1 [(1, .string ⟨m.toArray⟩), (2, .string ⟨st.toArray⟩), (3, .string ⟨y.toArray⟩), (4, .bool true), (16, .slice B l.length d)] rfl (by kernel_rfl) (fun β => ?_)
  obtain ⟨A1, c2, w3, hr4, H⟩ := R_append_nil (P := Tryd.prog) (t := 22) (ty := 22) (e := 40) (z := .agg #[.string ⟨([] : List UInt8).toArray⟩, .string ⟨([] : List UInt8).toArray⟩]) (sz := 2) (by_ := 32) H (by kernel_rfl) rfl (Rd.src RU H) (us_one _) (by unfold maxLen; omega) (by omega)
  replace H : Sep w0 w3 (.row (.slice A1 l.length c2) 40 2 l.length (us l) :: F) := H
  refine GL_v hr4 rfl (by kernel_rfl) (by kernel_rfl) (by kernel_rfl) ?_
  refine GL_seg0 2 4 [(3, .string ⟨y.toArray⟩), (4, .bool true), (17, .slice A1 l.length c2), (18, .string ⟨m.toArray⟩), (19, .string ⟨st.toArray⟩)] rfl (by kernel_rfl) (fun β => ?_)
  refine GL_call (f := 20) (args := #[.string ⟨m.toArray⟩, .string ⟨st.toArray⟩]) rfl (by kernel_rfl) (by kernel_rfl) (by kernel_rfl) (c_first_plain m st (by omega) hm H) ?_
  rintro _ w5 ⟨rfl, H⟩
  refine GL_seg0 1 6 [(3, .string ⟨y.toArray⟩), (4, .bool true), (21, .agg #[.slice A1 l.length c2, .int .i64 ((1 : Nat) : Int), .iface 85 (.agg #[]), .string ⟨([] : List UInt8).toArray⟩])] rfl (by kernel_rfl) (fun β => ?_)
  refine GL_new (V := fun g => .pointer (some ⟨g, 0, none⟩)) (l := [.slice A1 l.length c2, .int .i64 ((1 : Nat) : Int), .iface 85 (.agg #[]), .string ⟨([] : List UInt8).toArray⟩]) (t := 58) H rfl (by kernel_rfl) (by kernel_rfl) (by kernel_rfl) (fun g6 w7 H => ?_)
  refine GL_seg0 1 8 [(3, .string ⟨y.toArray⟩), (4, .bool true), (12, .pointer (some ⟨g6, 0, none⟩))] rfl (by kernel_rfl) (fun β => ?_)
  refine GL_end (by kernel_rfl) ?_
  refine thn_normal ?_
  refine G_seq ?_
  refine G_seq ?_
  refine G_region ?_
  refine GL_seg0 3 3 [(3, .string ⟨y.toArray⟩), (4, .bool true), (12, .pointer (some ⟨g6, 0, none⟩)), (25, .pointer (some ⟨g6, 2, none⟩))] rfl (by kernel_rfl) (fun β => ?_)
  refine GL_v (run_load1 (t := 55) (by kernel_rfl) ((H.blk_cell (i := 0) rfl 2).trans rfl)) rfl (by kernel_rfl) (by kernel_rfl) (by kernel_rfl) ?_
  refine GL_seg0 1 5 [(3, .string ⟨y.toArray⟩), (4, .bool true), (12, .pointer (some ⟨g6, 0, none⟩)), (27, .bool false)] rfl (by kernel_rfl) (fun β => ?_)
  refine GL_end (by kernel_rfl) ?_
  refine thn_normal ?_
  refine G_false (by kernel_rfl) ?_
  refine G_skip ?_
  refine thn_normal ?_
  refine G_seq ?_
  refine G_seq ?_
  refine G_region ?_
  refine GL_seg0 2 2 [(3, .string ⟨y.toArray⟩), (12, .pointer (some ⟨g6, 0, none⟩)), (29, .bool false)] rfl (by kernel_rfl) (fun β => ?_)
  refine GL_end (by kernel_rfl) ?_
  refine thn_normal ?_
  refine G_false (by kernel_rfl) ?_
  refine G_skip ?_
  refine thn_normal ?_
  refine G_seq ?_
  refine G_seq ?_
  refine G_region ?_
  refine GL_seg0 3 3 [(3, .string ⟨y.toArray⟩), (12, .pointer (some ⟨g6, 0, none⟩)), (34, .pointer (some ⟨g6, 2, none⟩))] rfl (by kernel_rfl) (fun β => ?_)
  refine GL_v (run_load1 (t := 55) (by kernel_rfl) ((H.blk_cell (i := 0) rfl 2).trans rfl)) rfl (by kernel_rfl) (by kernel_rfl) (by kernel_rfl) ?_
  refine GL_seg0 4 8 [(3, .string ⟨y.toArray⟩), (12, .pointer (some ⟨g6, 0, none⟩)), (37, .agg #[.string ⟨([] : List UInt8).toArray⟩]), (38, .bool false)] rfl (by kernel_rfl) (fun β => ?_)
  refine GL_new (V := fun g => .pointer (some ⟨g, 0, none⟩)) (l := [.string ⟨([] : List UInt8).toArray⟩]) (t := 60) H rfl (by kernel_rfl) (by kernel_rfl) (by kernel_rfl) (fun g8 w9 H => ?_)
  obtain ⟨w10, hr11, H⟩ := R_store (P := Tryd.prog) (t := 60) (v := .agg #[.string ⟨([] : List UInt8).toArray⟩]) (off := 0) H (i := 0) rfl (by kernel_rfl) (by kernel_rfl) (by kernel_rfl)
  replace H : Sep w0 w10 (.blk g8 60 [.string ⟨([] : List UInt8).toArray⟩] :: .blk g6 58 [.slice A1 l.length c2, .int .i64 ((1 : Nat) : Int), .iface 85 (.agg #[]), .string ⟨([] : List UInt8).toArray⟩] :: .row (.slice A1 l.length c2) 40 2 l.length (us l) :: F) := H
  refine GL_u hr11 rfl (by kernel_rfl) (by kernel_rfl) (by kernel_rfl) ?_
  refine GL_seg0 1 11 [(3, .string ⟨y.toArray⟩), (12, .pointer (some ⟨g6, 0, none⟩)), (14, .bool false)] rfl (by kernel_rfl) (fun β => ?_)
  refine GL_end (by kernel_rfl) ?_
  refine thn_normal ?_
  refine G_seq ?_
  refine G_region ?_
  refine GL_seg0 1 1 [(3, .string ⟨y.toArray⟩), (12, .pointer (some ⟨g6, 0, none⟩)), (39, .bool false)] rfl (by kernel_rfl) (fun β => ?_)
  refine GL_end (by kernel_rfl) ?_
  refine thn_normal ?_
  refine G_false (by kernel_rfl) ?_
  refine G_skip ?_
  refine thn_normal ?_
  refine G_seq ?_
  refine G_seq ?_
  refine G_region ?_
  refine GL_seg0 1 1 [(3, .string ⟨y.toArray⟩), (12, .pointer (some ⟨g6, 0, none⟩)), (40, .string ⟨y.toArray⟩)] rfl (by kernel_rfl) (fun β => ?_)
  refine GL_v (R_streq (t := 9) (l := y) (m := [61])) rfl (by kernel_rfl) (by kernel_rfl) (by kernel_rfl) ?_
  refine GL_end (by kernel_rfl) ?_
  refine thn_normal ?_
  refine G_cond (y == [61]) (by kernel_rfl) (fun h0 => ?_) (fun h0 => ?_)
  · --yes
    replace h0 : y = [61] := eql_T h0
    refine G_region ?_
    refine GL_seg0 1 1 [(3, .string ⟨([] : List UInt8).toArray⟩), (12, .pointer (some ⟨g6, 0, none⟩))] rfl (by kernel_rfl) (fun β => ?_)
    refine GL_end (by kernel_rfl) ?_
    refine thn_normal ?_
    refine G_seq ?_
    refine G_seq ?_
    refine G_region ?_
    refine GL_seg0 2 2 [(12, .pointer (some ⟨g6, 0, none⟩)), (42, .pointer (some ⟨g6, 0, none⟩)), (43, .string ⟨([] : List UInt8).toArray⟩)] rfl (by kernel_rfl) (fun β => ?_)
    replace H := H.front (i := 2) rfl
    replace H := H.front (i := 2) rfl
    replace H : Sep w0 w10 (.blk g6 58 [.slice A1 l.length c2, .int .i64 ((1 : Nat) : Int), .iface 85 (.agg #[]), .string ⟨([] : List UInt8).toArray⟩] :: .row (.slice A1 l.length c2) 40 2 l.length (us l) :: .blk g8 60 [.string ⟨([] : List UInt8).toArray⟩] :: F) := H
    refine GL_call (f := 21) (args := #[.pointer (some ⟨g6, 0, none⟩), .string ⟨([] : List UInt8).toArray⟩]) rfl (by kernel_rfl) (by kernel_rfl) (by kernel_rfl) (c_read T hT gT R hR gR 1 Stp.plain (by trivial) ([] : List UInt8) ([] : List UInt8) (by first | omega | (simp only [List.length_nil]; omega)) l (by omega) hU H) ?_
    rintro _ w12 ⟨rfl, H⟩
    refine GL_seg0 1 4 [(12, .pointer (some ⟨g6, 0, none⟩)), (15, .int .i64 (((readF T R l 1 Stp.plain ([] : List UInt8) ([] : List UInt8)).1 : Nat) : Int))] rfl (by kernel_rfl) (fun β => ?_)
    refine GL_end (by kernel_rfl) ?_
    refine thn_normal ?_
    refine G_seq ?_
    refine G_region ?_
    refine GL_segr 2 2 [(12, .pointer (some ⟨g6, 0, none⟩)), (15, .int .i64 (((readF T R l 1 Stp.plain ([] : List UInt8) ([] : List UInt8)).1 : Nat) : Int)), (46, .bool (((readF T R l 1 Stp.plain ([] : List UInt8) ([] : List UInt8)).1) != 0))] rfl (by kernel_rfl) (show ([.pointer (some ⟨g6, 0, none⟩), .int .i64 (((readF T R l 1 Stp.plain ([] : List UInt8) ([] : List UInt8)).1 : Nat) : Int), .bool ((((readF T R l 1 Stp.plain ([] : List UInt8) ([] : List UInt8)).1 : Nat) : Int) != ((0 : Nat) : Int))] : List Value) = [.pointer (some ⟨g6, 0, none⟩), .int .i64 (((readF T R l 1 Stp.plain ([] : List UInt8) ([] : List UInt8)).1 : Nat) : Int), .bool (((readF T R l 1 Stp.plain ([] : List UInt8) ([] : List UInt8)).1) != 0)] by rw [nneq ((readF T R l 1 Stp.plain ([] : List UInt8) ([] : List UInt8)).1) 0]) rfl (fun β => ?_)
    refine GL_end (by kernel_rfl) ?_
    refine thn_normal ?_
    refine G_cond (((readF T R l 1 Stp.plain ([] : List UInt8) ([] : List UInt8)).1) != 0) (by kernel_rfl) (fun h1 => ?_) (fun h1 => ?_)
    · --yes
      replace h1 : ¬ ((readF T R l 1 Stp.plain ([] : List UInt8) ([] : List UInt8)).1 = 0) := neq_T h1
      refine G_seq ?_
      refine G_region ?_
      refine GL_seg0 3 3 [(10, .pointer none), (11, .int .i64 (((readF T R l 1 Stp.plain ([] : List UInt8) ([] : List UInt8)).1 : Nat) : Int))] rfl (by kernel_rfl) (fun β => ?_)
      refine GL_end (by kernel_rfl) ?_
      refine thn_normal ?_
      refine G_ret ?_
      refine thn_ret (res2 (v := .pointer none) (x := .int .i64 (((readF T R l 1 Stp.plain ([] : List UInt8) ([] : List UInt8)).1 : Nat) : Int)) rfl (by kernel_rfl) (by kernel_rfl) ?_)
      replace H := H.drop 2
      replace H := H.drop 1
      replace H := H.drop 0
      replace H : Sep w0 w12 (F) := H
      rw [if_pos h0]
      exact .inl ⟨h1, rfl, H⟩
    · --no
      replace h1 : (readF T R l 1 Stp.plain ([] : List UInt8) ([] : List UInt8)).1 = 0 := neq_F h1
      refine G_skip ?_
      refine thn_normal ?_
      refine G_seq ?_
      refine G_region ?_
      refine GL_seg0 3 3 [(10, .pointer (some ⟨g6, 0, none⟩)), (11, .int .i64 ((0 : Nat) : Int))] rfl (by kernel_rfl) (fun β => ?_)
      refine GL_end (by kernel_rfl) ?_
      refine thn_normal ?_
      refine G_ret ?_
      refine res2 (v := .pointer (some ⟨g6, 0, none⟩)) (x := .int .i64 ((0 : Nat) : Int)) rfl (by kernel_rfl) (by kernel_rfl) ?_
      replace H := H.drop 2
      replace H := H.front (i := 1) rfl
      replace H := H.front (i := 1) rfl
      replace H : Sep w0 w12 (.blk g6 58 [.slice A1 l.length c2, .int .i64 (((readF T R l 1 Stp.plain ([] : List UInt8) ([] : List UInt8)).2.1 : Nat) : Int), (readF T R l 1 Stp.plain ([] : List UInt8) ([] : List UInt8)).2.2.1.v, .string ⟨((readF T R l 1 Stp.plain ([] : List UInt8) ([] : List UInt8)).2.2.2).toArray⟩] :: .row (.slice A1 l.length c2) 40 2 l.length (us l) :: F) := H
      rw [if_pos h0]
      exact .inr ⟨h1, _, _, _, rfl, H⟩
  · --no
    replace h0 : ¬ (y = [61]) := eql_F h0
    refine G_skip ?_
    refine thn_normal ?_
    refine G_seq ?_
    refine G_seq ?_
    refine G_region ?_
    refine GL_seg0 2 2 [(12, .pointer (some ⟨g6, 0, none⟩)), (42, .pointer (some ⟨g6, 0, none⟩)), (43, .string ⟨y.toArray⟩)] rfl (by kernel_rfl) (fun β => ?_)
    replace H := H.front (i := 2) rfl
    replace H := H.front (i := 2) rfl
    replace H : Sep w0 w10 (.blk g6 58 [.slice A1 l.length c2, .int .i64 ((1 : Nat) : Int), .iface 85 (.agg #[]), .string ⟨([] : List UInt8).toArray⟩] :: .row (.slice A1 l.length c2) 40 2 l.length (us l) :: .blk g8 60 [.string ⟨([] : List UInt8).toArray⟩] :: F) := H
    refine GL_call (f := 21) (args := #[.pointer (some ⟨g6, 0, none⟩), .string ⟨y.toArray⟩]) rfl (by kernel_rfl) (by kernel_rfl) (by kernel_rfl) (c_read T hT gT R hR gR 1 Stp.plain (by trivial) ([] : List UInt8) y (by first | omega | (simp only [List.length_nil]; omega)) l (by omega) hU H) ?_
    rintro _ w13 ⟨rfl, H⟩
    refine GL_seg0 1 4 [(12, .pointer (some ⟨g6, 0, none⟩)), (15, .int .i64 (((readF T R l 1 Stp.plain ([] : List UInt8) y).1 : Nat) : Int))] rfl (by kernel_rfl) (fun β => ?_)
    refine GL_end (by kernel_rfl) ?_
    refine thn_normal ?_
    refine G_seq ?_
    refine G_region ?_
    refine GL_segr 2 2 [(12, .pointer (some ⟨g6, 0, none⟩)), (15, .int .i64 (((readF T R l 1 Stp.plain ([] : List UInt8) y).1 : Nat) : Int)), (46, .bool (((readF T R l 1 Stp.plain ([] : List UInt8) y).1) != 0))] rfl (by kernel_rfl) (show ([.pointer (some ⟨g6, 0, none⟩), .int .i64 (((readF T R l 1 Stp.plain ([] : List UInt8) y).1 : Nat) : Int), .bool ((((readF T R l 1 Stp.plain ([] : List UInt8) y).1 : Nat) : Int) != ((0 : Nat) : Int))] : List Value) = [.pointer (some ⟨g6, 0, none⟩), .int .i64 (((readF T R l 1 Stp.plain ([] : List UInt8) y).1 : Nat) : Int), .bool (((readF T R l 1 Stp.plain ([] : List UInt8) y).1) != 0)] by rw [nneq ((readF T R l 1 Stp.plain ([] : List UInt8) y).1) 0]) rfl (fun β => ?_)
    refine GL_end (by kernel_rfl) ?_
    refine thn_normal ?_
    refine G_cond (((readF T R l 1 Stp.plain ([] : List UInt8) y).1) != 0) (by kernel_rfl) (fun h2 => ?_) (fun h2 => ?_)
    · --yes
      replace h2 : ¬ ((readF T R l 1 Stp.plain ([] : List UInt8) y).1 = 0) := neq_T h2
      refine G_seq ?_
      refine G_region ?_
      refine GL_seg0 3 3 [(10, .pointer none), (11, .int .i64 (((readF T R l 1 Stp.plain ([] : List UInt8) y).1 : Nat) : Int))] rfl (by kernel_rfl) (fun β => ?_)
      refine GL_end (by kernel_rfl) ?_
      refine thn_normal ?_
      refine G_ret ?_
      refine thn_ret (res2 (v := .pointer none) (x := .int .i64 (((readF T R l 1 Stp.plain ([] : List UInt8) y).1 : Nat) : Int)) rfl (by kernel_rfl) (by kernel_rfl) ?_)
      replace H := H.drop 2
      replace H := H.drop 1
      replace H := H.drop 0
      replace H : Sep w0 w13 (F) := H
      rw [if_neg h0]
      exact .inl ⟨h2, rfl, H⟩
    · --no
      replace h2 : (readF T R l 1 Stp.plain ([] : List UInt8) y).1 = 0 := neq_F h2
      refine G_skip ?_
      refine thn_normal ?_
      refine G_seq ?_
      refine G_region ?_
      refine GL_seg0 3 3 [(10, .pointer (some ⟨g6, 0, none⟩)), (11, .int .i64 ((0 : Nat) : Int))] rfl (by kernel_rfl) (fun β => ?_)
      refine GL_end (by kernel_rfl) ?_
      refine thn_normal ?_
      refine G_ret ?_
      refine res2 (v := .pointer (some ⟨g6, 0, none⟩)) (x := .int .i64 ((0 : Nat) : Int)) rfl (by kernel_rfl) (by kernel_rfl) ?_
      replace H := H.drop 2
      replace H := H.front (i := 1) rfl
      replace H := H.front (i := 1) rfl
      replace H : Sep w0 w13 (.blk g6 58 [.slice A1 l.length c2, .int .i64 (((readF T R l 1 Stp.plain ([] : List UInt8) y).2.1 : Nat) : Int), (readF T R l 1 Stp.plain ([] : List UInt8) y).2.2.1.v, .string ⟨((readF T R l 1 Stp.plain ([] : List UInt8) y).2.2.2).toArray⟩] :: .row (.slice A1 l.length c2) 40 2 l.length (us l) :: F) := H
      rw [if_neg h0]
      exact .inr ⟨h2, _, _, _, rfl, H⟩
/-- posthorn/sasl.Begin -/
theorem c_Begin1_login {w0 w : World} {F : List Chunk} (T : List UInt32) (hT : T.length = 64) (gT : Gl w0 0 (u32s T)) (R : List UInt8) (hR : R.length = 16) (gR : Gl w0 1 (bs R)) (l : List Str2) (hl : l.length ≤ 1099511627776) (hU : ∀ u ∈ l, u.1.length ≤ 549755813888 ∧ u.2.length ≤ 549755813888) (m st y : List UInt8) (hml : m.length ≤ 1099511627776) (hst : st.length ≤ 68719476736) (hy : y.length ≤ 68719476736) (hm : m.map up = [76, 79, 71, 73, 78]) {B : Option Addr} {d : Nat} (RU : Rd w0 F (.slice B l.length d) 2 l.length (us l)) (H : Sep w0 w F) : Ret Tryd.prog 7 #[.slice B l.length d, S m, S st, S y, .bool true] w (fun v w' => (¬ (readF T R l 1 Stp.login [] (if y = [61] then [] else y)).1 = 0 ∧ v = .tuple #[.pointer none, .int .i64 ((readF T R l 1 Stp.login [] (if y = [61] then [] else y)).1 : Int)] ∧ Sep w0 w' F) ∨ ((readF T R l 1 Stp.login [] (if y = [61] then [] else y)).1 = 0 ∧ ∃ g A c, v = .tuple #[.pointer (some ⟨g, 0, none⟩), .int .i64 ((0 : Nat) : Int)] ∧ Sep w0 w' (.blk g 58 [.slice A l.length c, .int .i64 (((readF T R l 1 Stp.login [] (if y = [61] then [] else y)).2.1 : Nat) : Int), (readF T R l 1 Stp.login [] (if y = [61] then [] else y)).2.2.1.v, .string ⟨((readF T R l 1 Stp.login [] (if y = [61] then [] else y)).2.2.2).toArray⟩] :: .row (.slice A l.length c) 40 2 l.length (us l) :: F))) := by
  refine Ret_enter (args := [.slice B l.length d, .string ⟨m.toArray⟩, .string ⟨st.toArray⟩, .string ⟨y.toArray⟩, .bool true]) Tryd.func7 rfl (by kernel_rfl) ?_
  refine G_forget [(0, .slice B l.length d), (1, .string ⟨m.toArray⟩), (2, .string ⟨st.toArray⟩), (3, .string ⟨y.toArray⟩), (4, .bool true)] (by kernel_rfl) (fun β => ?_)
  refine G_seq ?_
  refine G_region ?_
  refine GL_seg0 2 2 [(0, .slice B l.length d), (1, .string ⟨m.toArray⟩), (2, .string ⟨st.toArray⟩), (3, .string ⟨y.toArray⟩), (4, .bool true)] rfl (by kernel_rfl) (fun β => ?_)
  refine GL_end (by kernel_rfl) ?_
  refine thn_normal ?_
  refine G_seq ?_
  refine G_region ?_
  refine GL_seg0 1 1 [(1, .string ⟨m.toArray⟩), (2, .string ⟨st.toArray⟩), (3, .string ⟨y.toArray⟩), (4, .bool true), (16, .slice B l.length d)] rfl (by kernel_rfl) (fun β => ?_)
  obtain ⟨A1, c2, w3, hr4, H⟩ := R_append_nil (P := Tryd.prog) (t := 22) (ty := 22) (e := 40) (z := .agg #[.string ⟨([] : List UInt8).toArray⟩, .string ⟨([] : List UInt8).toArray⟩]) (sz := 2) (by_ := 32) H (by kernel_rfl) rfl (Rd.src RU H) (us_one _) (by unfold maxLen; omega) (by omega)
  replace H : Sep w0 w3 (.row (.slice A1 l.length c2) 40 2 l.length (us l) :: F) := H
  refine GL_v hr4 rfl (by kernel_rfl) (by kernel_rfl) (by kernel_rfl) ?_
  refine GL_seg0 2 4 [(3, .string ⟨y.toArray⟩), (4, .bool true), (17, .slice A1 l.length c2), (18, .string ⟨m.toArray⟩), (19, .string ⟨st.toArray⟩)] rfl (by kernel_rfl) (fun β => ?_)
  refine GL_call (f := 20) (args := #[.string ⟨m.toArray⟩, .string ⟨st.toArray⟩]) rfl (by kernel_rfl) (by kernel_rfl) (by kernel_rfl) (c_first_login m st (by omega) hm H) ?_
  rintro _ w5 ⟨rfl, H⟩
  refine GL_seg0 1 6 [(3, .string ⟨y.toArray⟩), (4, .bool true), (21, .agg #[.slice A1 l.length c2, .int .i64 ((1 : Nat) : Int), .iface 86 (.agg #[]), .string ⟨([] : List UInt8).toArray⟩])] rfl (by kernel_rfl) (fun β => ?_)
  refine GL_new (V := fun g => .pointer (some ⟨g, 0, none⟩)) (l := [.slice A1 l.length c2, .int .i64 ((1 : Nat) : Int), .iface 86 (.agg #[]), .string ⟨([] : List UInt8).toArray⟩]) (t := 58) H rfl (by kernel_rfl) (by kernel_rfl) (by kernel_rfl) (fun g6 w7 H => ?_)
  refine GL_seg0 1 8 [(3, .string ⟨y.toArray⟩), (4, .bool true), (12, .pointer (some ⟨g6, 0, none⟩))] rfl (by kernel_rfl) (fun β => ?_)
  refine GL_end (by kernel_rfl) ?_
  refine thn_normal ?_
  refine G_seq ?_
  refine G_seq ?_
  refine G_region ?_
  refine GL_seg0 3 3 [(3, .string ⟨y.toArray⟩), (4, .bool true), (12, .pointer (some ⟨g6, 0, none⟩)), (25, .pointer (some ⟨g6, 2, none⟩))] rfl (by kernel_rfl) (fun β => ?_)
  refine GL_v (run_load1 (t := 55) (by kernel_rfl) ((H.blk_cell (i := 0) rfl 2).trans rfl)) rfl (by kernel_rfl) (by kernel_rfl) (by kernel_rfl) ?_
  refine GL_seg0 1 5 [(3, .string ⟨y.toArray⟩), (4, .bool true), (12, .pointer (some ⟨g6, 0, none⟩)), (27, .bool false)] rfl (by kernel_rfl) (fun β => ?_)
  refine GL_end (by kernel_rfl) ?_
  refine thn_normal ?_
  refine G_false (by kernel_rfl) ?_
  refine G_skip ?_
  refine thn_normal ?_
  refine G_seq ?_
  refine G_seq ?_
  refine G_region ?_
  refine GL_seg0 2 2 [(3, .string ⟨y.toArray⟩), (12, .pointer (some ⟨g6, 0, none⟩)), (29, .bool false)] rfl (by kernel_rfl) (fun β => ?_)
  refine GL_end (by kernel_rfl) ?_
  refine thn_normal ?_
  refine G_false (by kernel_rfl) ?_
  refine G_skip ?_
  refine thn_normal ?_
  refine G_seq ?_
  refine G_seq ?_
  refine G_region ?_
  refine GL_seg0 3 3 [(3, .string ⟨y.toArray⟩), (12, .pointer (some ⟨g6, 0, none⟩)), (34, .pointer (some ⟨g6, 2, none⟩))] rfl (by kernel_rfl) (fun β => ?_)
  refine GL_v (run_load1 (t := 55) (by kernel_rfl) ((H.blk_cell (i := 0) rfl 2).trans rfl)) rfl (by kernel_rfl) (by kernel_rfl) (by kernel_rfl) ?_
  refine GL_seg0 4 8 [(3, .string ⟨y.toArray⟩), (12, .pointer (some ⟨g6, 0, none⟩)), (37, .agg #[.string ⟨([] : List UInt8).toArray⟩]), (38, .bool false)] rfl (by kernel_rfl) (fun β => ?_)
  refine GL_new (V := fun g => .pointer (some ⟨g, 0, none⟩)) (l := [.string ⟨([] : List UInt8).toArray⟩]) (t := 60) H rfl (by kernel_rfl) (by kernel_rfl) (by kernel_rfl) (fun g8 w9 H => ?_)
  obtain ⟨w10, hr11, H⟩ := R_store (P := Tryd.prog) (t := 60) (v := .agg #[.string ⟨([] : List UInt8).toArray⟩]) (off := 0) H (i := 0) rfl (by kernel_rfl) (by kernel_rfl) (by kernel_rfl)
  replace H : Sep w0 w10 (.blk g8 60 [.string ⟨([] : List UInt8).toArray⟩] :: .blk g6 58 [.slice A1 l.length c2, .int .i64 ((1 : Nat) : Int), .iface 86 (.agg #[]), .string ⟨([] : List UInt8).toArray⟩] :: .row (.slice A1 l.length c2) 40 2 l.length (us l) :: F) := H
  refine GL_u hr11 rfl (by kernel_rfl) (by kernel_rfl) (by kernel_rfl) ?_
  refine GL_seg0 1 11 [(3, .string ⟨y.toArray⟩), (12, .pointer (some ⟨g6, 0, none⟩)), (14, .bool false)] rfl (by kernel_rfl) (fun β => ?_)
  refine GL_end (by kernel_rfl) ?_
  refine thn_normal ?_
  refine G_seq ?_
  refine G_region ?_
  refine GL_seg0 1 1 [(3, .string ⟨y.toArray⟩), (12, .pointer (some ⟨g6, 0, none⟩)), (39, .bool false)] rfl (by kernel_rfl) (fun β => ?_)
  refine GL_end (by kernel_rfl) ?_
  refine thn_normal ?_
  refine G_false (by kernel_rfl) ?_
  refine G_skip ?_
  refine thn_normal ?_
  refine G_seq ?_
  refine G_seq ?_
  refine G_region ?_
  refine GL_seg0 1 1 [(3, .string ⟨y.toArray⟩), (12, .pointer (some ⟨g6, 0, none⟩)), (40, .string ⟨y.toArray⟩)] rfl (by kernel_rfl) (fun β => ?_)
  refine GL_v (R_streq (t := 9) (l := y) (m := [61])) rfl (by kernel_rfl) (by kernel_rfl) (by kernel_rfl) ?_
  refine GL_end (by kernel_rfl) ?_
  refine thn_normal ?_
  refine G_cond (y == [61]) (by kernel_rfl) (fun h0 => ?_) (fun h0 => ?_)
  · --yes
    replace h0 : y = [61] := eql_T h0
    refine G_region ?_
    refine GL_seg0 1 1 [(3, .string ⟨([] : List UInt8).toArray⟩), (12, .pointer (some ⟨g6, 0, none⟩))] rfl (by kernel_rfl) (fun β => ?_)
    refine GL_end (by kernel_rfl) ?_
    refine thn_normal ?_
    refine G_seq ?_
    refine G_seq ?_
    refine G_region ?_
    refine GL_seg0 2 2 [(12, .pointer (some ⟨g6, 0, none⟩)), (42, .pointer (some ⟨g6, 0, none⟩)), (43, .string ⟨([] : List UInt8).toArray⟩)] rfl (by kernel_rfl) (fun β => ?_)
    replace H := H.front (i := 2) rfl
    replace H := H.front (i := 2) rfl
    replace H : Sep w0 w10 (.blk g6 58 [.slice A1 l.length c2, .int .i64 ((1 : Nat) : Int), .iface 86 (.agg #[]), .string ⟨([] : List UInt8).toArray⟩] :: .row (.slice A1 l.length c2) 40 2 l.length (us l) :: .blk g8 60 [.string ⟨([] : List UInt8).toArray⟩] :: F) := H
    refine GL_call (f := 21) (args := #[.pointer (some ⟨g6, 0, none⟩), .string ⟨([] : List UInt8).toArray⟩]) rfl (by kernel_rfl) (by kernel_rfl) (by kernel_rfl) (c_read T hT gT R hR gR 1 Stp.login (by trivial) ([] : List UInt8) ([] : List UInt8) (by first | omega | (simp only [List.length_nil]; omega)) l (by omega) hU H) ?_
    rintro _ w12 ⟨rfl, H⟩
    refine GL_seg0 1 4 [(12, .pointer (some ⟨g6, 0, none⟩)), (15, .int .i64 (((readF T R l 1 Stp.login ([] : List UInt8) ([] : List UInt8)).1 : Nat) : Int))] rfl (by kernel_rfl) (fun β => ?_)
    refine GL_end (by kernel_rfl) ?_
    refine thn_normal ?_
    refine G_seq ?_
    refine G_region ?_
    refine GL_segr 2 2 [(12, .pointer (some ⟨g6, 0, none⟩)), (15, .int .i64 (((readF T R l 1 Stp.login ([] : List UInt8) ([] : List UInt8)).1 : Nat) : Int)), (46, .bool (((readF T R l 1 Stp.login ([] : List UInt8) ([] : List UInt8)).1) != 0))] rfl (by kernel_rfl) (show ([.pointer (some ⟨g6, 0, none⟩), .int .i64 (((readF T R l 1 Stp.login ([] : List UInt8) ([] : List UInt8)).1 : Nat) : Int), .bool ((((readF T R l 1 Stp.login ([] : List UInt8) ([] : List UInt8)).1 : Nat) : Int) != ((0 : Nat) : Int))] : List Value) = [.pointer (some ⟨g6, 0, none⟩), .int .i64 (((readF T R l 1 Stp.login ([] : List UInt8) ([] : List UInt8)).1 : Nat) : Int), .bool (((readF T R l 1 Stp.login ([] : List UInt8) ([] : List UInt8)).1) != 0)] by rw [nneq ((readF T R l 1 Stp.login ([] : List UInt8) ([] : List UInt8)).1) 0]) rfl (fun β => ?_)
    refine GL_end (by kernel_rfl) ?_
    refine thn_normal ?_
    refine G_cond (((readF T R l 1 Stp.login ([] : List UInt8) ([] : List UInt8)).1) != 0) (by kernel_rfl) (fun h1 => ?_) (fun h1 => ?_)
    · --yes
      replace h1 : ¬ ((readF T R l 1 Stp.login ([] : List UInt8) ([] : List UInt8)).1 = 0) := neq_T h1
      refine G_seq ?_
      refine G_region ?_
      refine GL_seg0 3 3 [(10, .pointer none), (11, .int .i64 (((readF T R l 1 Stp.login ([] : List UInt8) ([] : List UInt8)).1 : Nat) : Int))] rfl (by kernel_rfl) (fun β => ?_)
      refine GL_end (by kernel_rfl) ?_
      refine thn_normal ?_
      refine G_ret ?_
      refine thn_ret (res2 (v := .pointer none) (x := .int .i64 (((readF T R l 1 Stp.login ([] : List UInt8) ([] : List UInt8)).1 : Nat) : Int)) rfl (by kernel_rfl) (by kernel_rfl) ?_)
      replace H := H.drop 2
      replace H := H.drop 1
      replace H := H.drop 0
      replace H : Sep w0 w12 (F) := H
      rw [if_pos h0]
      exact .inl ⟨h1, rfl, H⟩
    · --no
      replace h1 : (readF T R l 1 Stp.login ([] : List UInt8) ([] : List UInt8)).1 = 0 := neq_F h1
      refine G_skip ?_
      refine thn_normal ?_
      refine G_seq ?_
      refine G_region ?_
      refine GL_seg0 3 3 [(10, .pointer (some ⟨g6, 0, none⟩)), (11, .int .i64 ((0 : Nat) : Int))] rfl (by kernel_rfl) (fun β => ?_)
      refine GL_end (by kernel_rfl) ?_
      refine thn_normal ?_
      refine G_ret ?_
      refine res2 (v := .pointer (some ⟨g6, 0, none⟩)) (x := .int .i64 ((0 : Nat) : Int)) rfl (by kernel_rfl) (by kernel_rfl) ?_
      replace H := H.drop 2
      replace H := H.front (i := 1) rfl
      replace H := H.front (i := 1) rfl
      replace H : Sep w0 w12 (.blk g6 58 [.slice A1 l.length c2, .int .i64 (((readF T R l 1 Stp.login ([] : List UInt8) ([] : List UInt8)).2.1 : Nat) : Int), (readF T R l 1 Stp.login ([] : List UInt8) ([] : List UInt8)).2.2.1.v, .string ⟨((readF T R l 1 Stp.login ([] : List UInt8) ([] : List UInt8)).2.2.2).toArray⟩] :: .row (.slice A1 l.length c2) 40 2 l.length (us l) :: F) := H
      rw [if_pos h0]
      exact .inr ⟨h1, _, _, _, rfl, H⟩
  · --no
    replace h0 : ¬ (y = [61]) := eql_F h0
    refine G_skip ?_
    refine thn_normal ?_
    refine G_seq ?_
    refine G_seq ?_
    refine G_region ?_
    refine GL_seg0 2 2 [(12, .pointer (some ⟨g6, 0, none⟩)), (42, .pointer (some ⟨g6, 0, none⟩)), (43, .string ⟨y.toArray⟩)] rfl (by kernel_rfl) (fun β => ?_)
    replace H := H.front (i := 2) rfl
    replace H := H.front (i := 2) rfl
    replace H : Sep w0 w10 (.blk g6 58 [.slice A1 l.length c2, .int .i64 ((1 : Nat) : Int), .iface 86 (.agg #[]), .string ⟨([] : List UInt8).toArray⟩] :: .row (.slice A1 l.length c2) 40 2 l.length (us l) :: .blk g8 60 [.string ⟨([] : List UInt8).toArray⟩] :: F) := H
    refine GL_call (f := 21) (args := #[.pointer (some ⟨g6, 0, none⟩), .string ⟨y.toArray⟩]) rfl (by kernel_rfl) (by kernel_rfl) (by kernel_rfl) (c_read T hT gT R hR gR 1 Stp.login (by trivial) ([] : List UInt8) y (by first | omega | (simp only [List.length_nil]; omega)) l (by omega) hU H) ?_
    rintro _ w13 ⟨rfl, H⟩
    refine GL_seg0 1 4 [(12, .pointer (some ⟨g6, 0, none⟩)), (15, .int .i64 (((readF T R l 1 Stp.login ([] : List UInt8) y).1 : Nat) : Int))] rfl (by kernel_rfl) (fun β => ?_)
    refine GL_end (by kernel_rfl) ?_
    refine thn_normal ?_
    refine G_seq ?_
    refine G_region ?_
    refine GL_segr 2 2 [(12, .pointer (some ⟨g6, 0, none⟩)), (15, .int .i64 (((readF T R l 1 Stp.login ([] : List UInt8) y).1 : Nat) : Int)), (46, .bool (((readF T R l 1 Stp.login ([] : List UInt8) y).1) != 0))] rfl (by kernel_rfl) (show ([.pointer (some ⟨g6, 0, none⟩), .int .i64 (((readF T R l 1 Stp.login ([] : List UInt8) y).1 : Nat) : Int), .bool ((((readF T R l 1 Stp.login ([] : List UInt8) y).1 : Nat) : Int) != ((0 : Nat) : Int))] : List Value) = [.pointer (some ⟨g6, 0, none⟩), .int .i64 (((readF T R l 1 Stp.login ([] : List UInt8) y).1 : Nat) : Int), .bool (((readF T R l 1 Stp.login ([] : List UInt8) y).1) != 0)] by rw [nneq ((readF T R l 1 Stp.login ([] : List UInt8) y).1) 0]) rfl (fun β => ?_)
    refine GL_end (by kernel_rfl) ?_
    refine thn_normal ?_
    refine G_cond (((readF T R l 1 Stp.login ([] : List UInt8) y).1) != 0) (by kernel_rfl) (fun h2 => ?_) (fun h2 => ?_)
    · --yes
      replace h2 : ¬ ((readF T R l 1 Stp.login ([] : List UInt8) y).1 = 0) := neq_T h2
      refine G_seq ?_
      refine G_region ?_
      refine GL_seg0 3 3 [(10, .pointer none), (11, .int .i64 (((readF T R l 1 Stp.login ([] : List UInt8) y).1 : Nat) : Int))] rfl (by kernel_rfl) (fun β => ?_)
      refine GL_end (by kernel_rfl) ?_
      refine thn_normal ?_
      refine G_ret ?_
      refine thn_ret (res2 (v := .pointer none) (x := .int .i64 (((readF T R l 1 Stp.login ([] : List UInt8) y).1 : Nat) : Int)) rfl (by kernel_rfl) (by kernel_rfl) ?_)
      replace H := H.drop 2
      replace H := H.drop 1
      replace H := H.drop 0
      replace H : Sep w0 w13 (F) := H
      rw [if_neg h0]
      exact .inl ⟨h2, rfl, H⟩
    · --no
      replace h2 : (readF T R l 1 Stp.login ([] : List UInt8) y).1 = 0 := neq_F h2
      refine G_skip ?_
      refine thn_normal ?_
      refine G_seq ?_
      refine G_region ?_
      refine GL_seg0 3 3 [(10, .pointer (some ⟨g6, 0, none⟩)), (11, .int .i64 ((0 : Nat) : Int))] rfl (by kernel_rfl) (fun β => ?_)
      refine GL_end (by kernel_rfl) ?_
      refine thn_normal ?_
      refine G_ret ?_
      refine res2 (v := .pointer (some ⟨g6, 0, none⟩)) (x := .int .i64 ((0 : Nat) : Int)) rfl (by kernel_rfl) (by kernel_rfl) ?_
      replace H := H.drop 2
      replace H := H.front (i := 1) rfl
      replace H := H.front (i := 1) rfl
      replace H : Sep w0 w13 (.blk g6 58 [.slice A1 l.length c2, .int .i64 (((readF T R l 1 Stp.login ([] : List UInt8) y).2.1 : Nat) : Int), (readF T R l 1 Stp.login ([] : List UInt8) y).2.2.1.v, .string ⟨((readF T R l 1 Stp.login ([] : List UInt8) y).2.2.2).toArray⟩] :: .row (.slice A1 l.length c2) 40 2 l.length (us l) :: F) := H
      rw [if_neg h0]
      exact .inr ⟨h2, _, _, _, rfl, H⟩
/-- posthorn/sasl.Begin -/
theorem c_Begin1_cram {w0 w : World} {F : List Chunk} (T : List UInt32) (hT : T.length = 64) (gT : Gl w0 0 (u32s T)) (R : List UInt8) (hR : R.length = 16) (gR : Gl w0 1 (bs R)) (l : List Str2) (hl : l.length ≤ 1099511627776) (hU : ∀ u ∈ l, u.1.length ≤ 549755813888 ∧ u.2.length ≤ 549755813888) (m st y : List UInt8) (hml : m.length ≤ 1099511627776) (hst : st.length ≤ 68719476736) (hy : y.length ≤ 68719476736) (hm : m.map up = [67, 82, 65, 77, 45, 77, 68, 53]) {B : Option Addr} {d : Nat} (RU : Rd w0 F (.slice B l.length d) 2 l.length (us l)) (H : Sep w0 w F) : Ret Tryd.prog 7 #[.slice B l.length d, S m, S st, S y, .bool true] w (fun v w' => v = .tuple #[.pointer none, .int .i64 ((221 : Nat) : Int)] ∧ Sep w0 w' F) := by
  refine Ret_enter (args := [.slice B l.length d, .string ⟨m.toArray⟩, .string ⟨st.toArray⟩, .string ⟨y.toArray⟩, .bool true]) Tryd.func7 rfl (by kernel_rfl) ?_
  refine G_forget [(0, .slice B l.length d), (1, .string ⟨m.toArray⟩), (2, .string ⟨st.toArray⟩), (3, .string ⟨y.toArray⟩), (4, .bool true)] (by kernel_rfl) (fun β => ?_)
  refine G_seq ?_
  refine G_region ?_
  refine GL_seg0 2 2 [(0, .slice B l.length d), (1, .string ⟨m.toArray⟩), (2, .string ⟨st.toArray⟩), (3, .string ⟨y.toArray⟩), (4, .bool true)] rfl (by kernel_rfl) (fun β => ?_)
  refine GL_end (by kernel_rfl) ?_
  refine thn_normal ?_
  refine G_seq ?_
  refine G_region ?_
  refine GL_seg0 1 1 [(1, .string ⟨m.toArray⟩), (2, .string ⟨st.toArray⟩), (3, .string ⟨y.toArray⟩), (4, .bool true), (16, .slice B l.length d)] rfl (by kernel_rfl) (fun β => ?_)
  obtain ⟨A1, c2, w3, hr4, H⟩ := R_append_nil (P := Tryd.prog) (t := 22) (ty := 22) (e := 40) (z := .agg #[.string ⟨([] : List UInt8).toArray⟩, .string ⟨([] : List UInt8).toArray⟩]) (sz := 2) (by_ := 32) H (by kernel_rfl) rfl (Rd.src RU H) (us_one _) (by unfold maxLen; omega) (by omega)
  replace H : Sep w0 w3 (.row (.slice A1 l.length c2) 40 2 l.length (us l) :: F) := H
  refine GL_v hr4 rfl (by kernel_rfl) (by kernel_rfl) (by kernel_rfl) ?_
  refine GL_seg0 2 4 [(3, .string ⟨y.toArray⟩), (4, .bool true), (17, .slice A1 l.length c2), (18, .string ⟨m.toArray⟩), (19, .string ⟨st.toArray⟩)] rfl (by kernel_rfl) (fun β => ?_)
  refine GL_call (f := 20) (args := #[.string ⟨m.toArray⟩, .string ⟨st.toArray⟩]) rfl (by kernel_rfl) (by kernel_rfl) (by kernel_rfl) (c_first_cram m st (by omega) hm H) ?_
  rintro _ w5 ⟨rfl, H⟩
  refine GL_seg0 1 6 [(3, .string ⟨y.toArray⟩), (4, .bool true), (21, .agg #[.slice A1 l.length c2, .int .i64 ((1 : Nat) : Int), .iface 60 (.agg #[.string ⟨st.toArray⟩]), .string ⟨([] : List UInt8).toArray⟩])] rfl (by kernel_rfl) (fun β => ?_)
  refine GL_new (V := fun g => .pointer (some ⟨g, 0, none⟩)) (l := [.slice A1 l.length c2, .int .i64 ((1 : Nat) : Int), .iface 60 (.agg #[.string ⟨st.toArray⟩]), .string ⟨([] : List UInt8).toArray⟩]) (t := 58) H rfl (by kernel_rfl) (by kernel_rfl) (by kernel_rfl) (fun g6 w7 H => ?_)
  refine GL_seg0 1 8 [(3, .string ⟨y.toArray⟩), (4, .bool true), (12, .pointer (some ⟨g6, 0, none⟩))] rfl (by kernel_rfl) (fun β => ?_)
  refine GL_end (by kernel_rfl) ?_
  refine thn_normal ?_
  refine G_seq ?_
  refine G_seq ?_
  refine G_region ?_
  refine GL_seg0 3 3 [(3, .string ⟨y.toArray⟩), (4, .bool true), (12, .pointer (some ⟨g6, 0, none⟩)), (25, .pointer (some ⟨g6, 2, none⟩))] rfl (by kernel_rfl) (fun β => ?_)
  refine GL_v (run_load1 (t := 55) (by kernel_rfl) ((H.blk_cell (i := 0) rfl 2).trans rfl)) rfl (by kernel_rfl) (by kernel_rfl) (by kernel_rfl) ?_
  refine GL_seg0 1 5 [(3, .string ⟨y.toArray⟩), (4, .bool true), (12, .pointer (some ⟨g6, 0, none⟩)), (27, .bool false)] rfl (by kernel_rfl) (fun β => ?_)
  refine GL_end (by kernel_rfl) ?_
  refine thn_normal ?_
  refine G_false (by kernel_rfl) ?_
  refine G_skip ?_
  refine thn_normal ?_
  refine G_seq ?_
  refine G_seq ?_
  refine G_region ?_
  refine GL_seg0 2 2 [(3, .string ⟨y.toArray⟩), (12, .pointer (some ⟨g6, 0, none⟩)), (29, .bool false)] rfl (by kernel_rfl) (fun β => ?_)
  refine GL_end (by kernel_rfl) ?_
  refine thn_normal ?_
  refine G_false (by kernel_rfl) ?_
  refine G_skip ?_
  refine thn_normal ?_
  refine G_seq ?_
  refine G_seq ?_
  refine G_region ?_
  refine GL_seg0 3 3 [(3, .string ⟨y.toArray⟩), (12, .pointer (some ⟨g6, 0, none⟩)), (34, .pointer (some ⟨g6, 2, none⟩))] rfl (by kernel_rfl) (fun β => ?_)
  refine GL_v (run_load1 (t := 55) (by kernel_rfl) ((H.blk_cell (i := 0) rfl 2).trans rfl)) rfl (by kernel_rfl) (by kernel_rfl) (by kernel_rfl) ?_
  refine GL_seg0 4 8 [(3, .string ⟨y.toArray⟩), (12, .pointer (some ⟨g6, 0, none⟩)), (37, .agg #[.string ⟨st.toArray⟩]), (38, .bool true)] rfl (by kernel_rfl) (fun β => ?_)
  refine GL_new (V := fun g => .pointer (some ⟨g, 0, none⟩)) (l := [.string ⟨([] : List UInt8).toArray⟩]) (t := 60) H rfl (by kernel_rfl) (by kernel_rfl) (by kernel_rfl) (fun g8 w9 H => ?_)
  obtain ⟨w10, hr11, H⟩ := R_store (P := Tryd.prog) (t := 60) (v := .agg #[.string ⟨st.toArray⟩]) (off := 0) H (i := 0) rfl (by kernel_rfl) (by kernel_rfl) (by kernel_rfl)
  replace H : Sep w0 w10 (.blk g8 60 [.string ⟨st.toArray⟩] :: .blk g6 58 [.slice A1 l.length c2, .int .i64 ((1 : Nat) : Int), .iface 60 (.agg #[.string ⟨st.toArray⟩]), .string ⟨([] : List UInt8).toArray⟩] :: .row (.slice A1 l.length c2) 40 2 l.length (us l) :: F) := H
  refine GL_u hr11 rfl (by kernel_rfl) (by kernel_rfl) (by kernel_rfl) ?_
  refine GL_seg0 1 11 [(3, .string ⟨y.toArray⟩), (12, .pointer (some ⟨g6, 0, none⟩)), (14, .bool true)] rfl (by kernel_rfl) (fun β => ?_)
  refine GL_end (by kernel_rfl) ?_
  refine thn_normal ?_
  refine G_seq ?_
  refine G_region ?_
  refine GL_seg0 1 1 [(3, .string ⟨y.toArray⟩), (12, .pointer (some ⟨g6, 0, none⟩)), (39, .bool true)] rfl (by kernel_rfl) (fun β => ?_)
  refine GL_end (by kernel_rfl) ?_
  refine thn_normal ?_
  refine G_true (by kernel_rfl) ?_
  refine G_seq ?_
  refine G_region ?_
  refine GL_seg0 2 2 [(10, .pointer none), (11, .int .i64 ((221 : Nat) : Int))] rfl (by kernel_rfl) (fun β => ?_)
  refine GL_end (by kernel_rfl) ?_
  refine thn_normal ?_
  refine G_ret ?_
  refine thn_ret (res2 (v := .pointer none) (x := .int .i64 ((221 : Nat) : Int)) rfl (by kernel_rfl) (by kernel_rfl) ?_)
  replace H := H.drop 2
  replace H := H.drop 1
  replace H := H.drop 0
  replace H : Sep w0 w10 (F) := H
  exact ⟨rfl, H⟩
end Go.Proofs.YtadiljnfkbbmcaaDoor
