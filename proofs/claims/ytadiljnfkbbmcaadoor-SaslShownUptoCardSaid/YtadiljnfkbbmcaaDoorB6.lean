-- printed by gw.py (my own program), checked by Lean
import Derived.Test.YtadiljnfkbbmcaaDoorB5
set_option linter.unusedVariables false
set_option linter.unusedSimpArgs false
set_option maxRecDepth 100000
set_option maxHeartbeats 400000
namespace Go.Proofs.YtadiljnfkbbmcaaDoor
open Go.Kw Go.RowKit
/-- posthorn/sasl.Begin -/
theorem c_Begin_plain {w0 w : World} {F : List Chunk} (T : List UInt32) (hT : T.length = 64) (gT : Gl w0 0 (u32s T)) (R : List UInt8) (hR : R.length = 16) (gR : Gl w0 1 (bs R)) (l : List Str2) (hl : l.length ≤ 1099511627776) (hU : ∀ u ∈ l, u.1.length ≤ 549755813888 ∧ u.2.length ≤ 549755813888) (m st y : List UInt8) (hml : m.length ≤ 1099511627776) (hst : st.length ≤ 68719476736) (hy : y.length ≤ 68719476736) (hm : m.map up = [80, 76, 65, 73, 78]) {B : Option Addr} {d : Nat} (RU : Rd w0 F (.slice B l.length d) 2 l.length (us l)) (H : Sep w0 w F) : Ret Tryd.prog 7 #[.slice B l.length d, S m, S st, S y, .bool false] w (fun v w' => ∃ g A c, v = .tuple #[.pointer (some ⟨g, 0, none⟩), .int .i64 ((0 : Nat) : Int)] ∧ Sep w0 w' (.blk g 58 [.slice A l.length c, In 1, .iface 85 (.agg #[]), S []] :: .row (.slice A l.length c) 40 2 l.length (us l) :: F)) := by
 refine Ret_enter (args := [.slice B l.length d, S m, S st, S y, .bool false]) Tryd.func7 rfl (by kernel_rfl) ?_
 refine G_forget [(0, .slice B l.length d), (1, S m), (2, S st), (3, S y), (4, .bool false)] (by kernel_rfl) (fun β => ?_)
 refine G_sr ?_
 refine GL_st 2 2 [(0, .slice B l.length d), (1, S m), (2, S st), (3, S y), (4, .bool false)] fun β => ?_
 refine G_sr ?_
 refine GL_s 1 1 [(1, S m), (2, S st), (3, S y), (4, .bool false), (16, .slice B l.length d)] fun β => ?_
 obtain ⟨A1, c2, w3, hr4, H⟩ := R_append_nil (P := Tryd.prog) (t := 22) (ty := 22) (e := 40) (z := .agg #[S ([] : List UInt8), S ([] : List UInt8)]) (sz := 2) (by_ := 32) H (by kernel_rfl) rfl (Rd.src RU H) (us_one _) (by unfold maxLen; omega) (by omega)
 replace H : Sep w0 w3 (.row (.slice A1 l.length c2) 40 2 l.length (us l) :: F) := H
 refine GL_V hr4 ?_
 refine GL_s 2 4 [(3, S y), (4, .bool false), (17, .slice A1 l.length c2), (18, S m), (19, S st)] fun β => ?_
 refine GL_C (c_first_plain m st (by omega) hm H) ?_
 rintro _ w5 ⟨rfl, H⟩
 refine GL_s 1 6 [(3, S y), (4, .bool false), (21, .agg #[.slice A1 l.length c2, In 1, .iface 85 (.agg #[]), S ([] : List UInt8)])] fun β => ?_
 refine GL_new (V := fun g => Pt g 0) (l := [.slice A1 l.length c2, In 1, .iface 85 (.agg #[]), S ([] : List UInt8)]) (t := 58) H rfl (by kernel_rfl) (by kernel_rfl) (by kernel_rfl) (fun g6 w7 H => ?_)
 refine GL_st 1 8 [(3, S y), (4, .bool false), (12, Pt g6 0)] fun β => ?_
 refine G_seq ?_
 refine G_sr ?_
 refine GL_s 3 3 [(3, S y), (4, .bool false), (12, Pt g6 0), (25, Pt g6 2)] fun β => ?_
 refine GL_V (run_load1 (t := 55) (by kernel_rfl) ((H.blk_cell (i := 0) rfl 2).trans rfl)) ?_
 refine GL_st 1 5 [(3, S y), (4, .bool false), (12, Pt g6 0), (27, .bool false)] fun β => ?_
 refine G_false (by kernel_rfl) ?_
 refine G_skip ?_
 refine thn_normal ?_
 refine G_seq ?_
 refine G_sr ?_
 refine GL_st 2 2 [(3, S y), (12, Pt g6 0), (29, .bool true)] fun β => ?_
 refine G_true (by kernel_rfl) ?_
 refine G_sr ?_
 refine GL_st 3 3 [(10, Pt g6 0), (11, In 0)] fun β => ?_
 refine G_ret ?_
 refine thn_ret (res2 (v := Pt g6 0) (x := In 0) rfl (by kernel_rfl) (by kernel_rfl) ?_)
 replace H := H.front (i := 1) rfl
 replace H := H.front (i := 1) rfl
 replace H : Sep w0 w7 (.blk g6 58 [.slice A1 l.length c2, In 1, .iface 85 (.agg #[]), S ([] : List UInt8)] :: .row (.slice A1 l.length c2) 40 2 l.length (us l) :: F) := H
 exact ⟨_, _, _, rfl, H⟩
/-- posthorn/sasl.Begin -/
theorem c_Begin_login {w0 w : World} {F : List Chunk} (T : List UInt32) (hT : T.length = 64) (gT : Gl w0 0 (u32s T)) (R : List UInt8) (hR : R.length = 16) (gR : Gl w0 1 (bs R)) (l : List Str2) (hl : l.length ≤ 1099511627776) (hU : ∀ u ∈ l, u.1.length ≤ 549755813888 ∧ u.2.length ≤ 549755813888) (m st y : List UInt8) (hml : m.length ≤ 1099511627776) (hst : st.length ≤ 68719476736) (hy : y.length ≤ 68719476736) (hm : m.map up = [76, 79, 71, 73, 78]) {B : Option Addr} {d : Nat} (RU : Rd w0 F (.slice B l.length d) 2 l.length (us l)) (H : Sep w0 w F) : Ret Tryd.prog 7 #[.slice B l.length d, S m, S st, S y, .bool false] w (fun v w' => ∃ g A c, v = .tuple #[.pointer (some ⟨g, 0, none⟩), .int .i64 ((0 : Nat) : Int)] ∧ Sep w0 w' (.blk g 58 [.slice A l.length c, In 1, .iface 86 (.agg #[]), S []] :: .row (.slice A l.length c) 40 2 l.length (us l) :: F)) := by
 refine Ret_enter (args := [.slice B l.length d, S m, S st, S y, .bool false]) Tryd.func7 rfl (by kernel_rfl) ?_
 refine G_forget [(0, .slice B l.length d), (1, S m), (2, S st), (3, S y), (4, .bool false)] (by kernel_rfl) (fun β => ?_)
 refine G_sr ?_
 refine GL_st 2 2 [(0, .slice B l.length d), (1, S m), (2, S st), (3, S y), (4, .bool false)] fun β => ?_
 refine G_sr ?_
 refine GL_s 1 1 [(1, S m), (2, S st), (3, S y), (4, .bool false), (16, .slice B l.length d)] fun β => ?_
 obtain ⟨A1, c2, w3, hr4, H⟩ := R_append_nil (P := Tryd.prog) (t := 22) (ty := 22) (e := 40) (z := .agg #[S ([] : List UInt8), S ([] : List UInt8)]) (sz := 2) (by_ := 32) H (by kernel_rfl) rfl (Rd.src RU H) (us_one _) (by unfold maxLen; omega) (by omega)
 replace H : Sep w0 w3 (.row (.slice A1 l.length c2) 40 2 l.length (us l) :: F) := H
 refine GL_V hr4 ?_
 refine GL_s 2 4 [(3, S y), (4, .bool false), (17, .slice A1 l.length c2), (18, S m), (19, S st)] fun β => ?_
 refine GL_C (c_first_login m st (by omega) hm H) ?_
 rintro _ w5 ⟨rfl, H⟩
 refine GL_s 1 6 [(3, S y), (4, .bool false), (21, .agg #[.slice A1 l.length c2, In 1, .iface 86 (.agg #[]), S ([] : List UInt8)])] fun β => ?_
 refine GL_new (V := fun g => Pt g 0) (l := [.slice A1 l.length c2, In 1, .iface 86 (.agg #[]), S ([] : List UInt8)]) (t := 58) H rfl (by kernel_rfl) (by kernel_rfl) (by kernel_rfl) (fun g6 w7 H => ?_)
 refine GL_st 1 8 [(3, S y), (4, .bool false), (12, Pt g6 0)] fun β => ?_
 refine G_seq ?_
 refine G_sr ?_
 refine GL_s 3 3 [(3, S y), (4, .bool false), (12, Pt g6 0), (25, Pt g6 2)] fun β => ?_
 refine GL_V (run_load1 (t := 55) (by kernel_rfl) ((H.blk_cell (i := 0) rfl 2).trans rfl)) ?_
 refine GL_st 1 5 [(3, S y), (4, .bool false), (12, Pt g6 0), (27, .bool false)] fun β => ?_
 refine G_false (by kernel_rfl) ?_
 refine G_skip ?_
 refine thn_normal ?_
 refine G_seq ?_
 refine G_sr ?_
 refine GL_st 2 2 [(3, S y), (12, Pt g6 0), (29, .bool true)] fun β => ?_
 refine G_true (by kernel_rfl) ?_
 refine G_sr ?_
 refine GL_st 3 3 [(10, Pt g6 0), (11, In 0)] fun β => ?_
 refine G_ret ?_
 refine thn_ret (res2 (v := Pt g6 0) (x := In 0) rfl (by kernel_rfl) (by kernel_rfl) ?_)
 replace H := H.front (i := 1) rfl
 replace H := H.front (i := 1) rfl
 replace H : Sep w0 w7 (.blk g6 58 [.slice A1 l.length c2, In 1, .iface 86 (.agg #[]), S ([] : List UInt8)] :: .row (.slice A1 l.length c2) 40 2 l.length (us l) :: F) := H
 exact ⟨_, _, _, rfl, H⟩
/-- posthorn/sasl.Begin -/
theorem c_Begin_cram {w0 w : World} {F : List Chunk} (T : List UInt32) (hT : T.length = 64) (gT : Gl w0 0 (u32s T)) (R : List UInt8) (hR : R.length = 16) (gR : Gl w0 1 (bs R)) (l : List Str2) (hl : l.length ≤ 1099511627776) (hU : ∀ u ∈ l, u.1.length ≤ 549755813888 ∧ u.2.length ≤ 549755813888) (m st y : List UInt8) (hml : m.length ≤ 1099511627776) (hst : st.length ≤ 68719476736) (hy : y.length ≤ 68719476736) (hm : m.map up = [67, 82, 65, 77, 45, 77, 68, 53]) {B : Option Addr} {d : Nat} (RU : Rd w0 F (.slice B l.length d) 2 l.length (us l)) (H : Sep w0 w F) : Ret Tryd.prog 7 #[.slice B l.length d, S m, S st, S y, .bool false] w (fun v w' => ∃ g A c, v = .tuple #[.pointer (some ⟨g, 0, none⟩), .int .i64 ((0 : Nat) : Int)] ∧ Sep w0 w' (.blk g 58 [.slice A l.length c, In 1, .iface 60 (.agg #[S st]), S []] :: .row (.slice A l.length c) 40 2 l.length (us l) :: F)) := by
 refine Ret_enter (args := [.slice B l.length d, S m, S st, S y, .bool false]) Tryd.func7 rfl (by kernel_rfl) ?_
 refine G_forget [(0, .slice B l.length d), (1, S m), (2, S st), (3, S y), (4, .bool false)] (by kernel_rfl) (fun β => ?_)
 refine G_sr ?_
 refine GL_st 2 2 [(0, .slice B l.length d), (1, S m), (2, S st), (3, S y), (4, .bool false)] fun β => ?_
 refine G_sr ?_
 refine GL_s 1 1 [(1, S m), (2, S st), (3, S y), (4, .bool false), (16, .slice B l.length d)] fun β => ?_
 obtain ⟨A1, c2, w3, hr4, H⟩ := R_append_nil (P := Tryd.prog) (t := 22) (ty := 22) (e := 40) (z := .agg #[S ([] : List UInt8), S ([] : List UInt8)]) (sz := 2) (by_ := 32) H (by kernel_rfl) rfl (Rd.src RU H) (us_one _) (by unfold maxLen; omega) (by omega)
 replace H : Sep w0 w3 (.row (.slice A1 l.length c2) 40 2 l.length (us l) :: F) := H
 refine GL_V hr4 ?_
 refine GL_s 2 4 [(3, S y), (4, .bool false), (17, .slice A1 l.length c2), (18, S m), (19, S st)] fun β => ?_
 refine GL_C (c_first_cram m st (by omega) hm H) ?_
 rintro _ w5 ⟨rfl, H⟩
 refine GL_s 1 6 [(3, S y), (4, .bool false), (21, .agg #[.slice A1 l.length c2, In 1, .iface 60 (.agg #[S st]), S ([] : List UInt8)])] fun β => ?_
 refine GL_new (V := fun g => Pt g 0) (l := [.slice A1 l.length c2, In 1, .iface 60 (.agg #[S st]), S ([] : List UInt8)]) (t := 58) H rfl (by kernel_rfl) (by kernel_rfl) (by kernel_rfl) (fun g6 w7 H => ?_)
 refine GL_st 1 8 [(3, S y), (4, .bool false), (12, Pt g6 0)] fun β => ?_
 refine G_seq ?_
 refine G_sr ?_
 refine GL_s 3 3 [(3, S y), (4, .bool false), (12, Pt g6 0), (25, Pt g6 2)] fun β => ?_
 refine GL_V (run_load1 (t := 55) (by kernel_rfl) ((H.blk_cell (i := 0) rfl 2).trans rfl)) ?_
 refine GL_st 1 5 [(3, S y), (4, .bool false), (12, Pt g6 0), (27, .bool false)] fun β => ?_
 refine G_false (by kernel_rfl) ?_
 refine G_skip ?_
 refine thn_normal ?_
 refine G_seq ?_
 refine G_sr ?_
 refine GL_st 2 2 [(3, S y), (12, Pt g6 0), (29, .bool true)] fun β => ?_
 refine G_true (by kernel_rfl) ?_
 refine G_sr ?_
 refine GL_st 3 3 [(10, Pt g6 0), (11, In 0)] fun β => ?_
 refine G_ret ?_
 refine thn_ret (res2 (v := Pt g6 0) (x := In 0) rfl (by kernel_rfl) (by kernel_rfl) ?_)
 replace H := H.front (i := 1) rfl
 replace H := H.front (i := 1) rfl
 replace H : Sep w0 w7 (.blk g6 58 [.slice A1 l.length c2, In 1, .iface 60 (.agg #[S st]), S ([] : List UInt8)] :: .row (.slice A1 l.length c2) 40 2 l.length (us l) :: F) := H
 exact ⟨_, _, _, rfl, H⟩
/-- posthorn/sasl.Begin -/
theorem c_Begin_none (has : Bool) {w0 w : World} {F : List Chunk} (T : List UInt32) (hT : T.length = 64) (gT : Gl w0 0 (u32s T)) (R : List UInt8) (hR : R.length = 16) (gR : Gl w0 1 (bs R)) (l : List Str2) (hl : l.length ≤ 1099511627776) (hU : ∀ u ∈ l, u.1.length ≤ 549755813888 ∧ u.2.length ≤ 549755813888) (m st y : List UInt8) (hml : m.length ≤ 1099511627776) (hst : st.length ≤ 68719476736) (hy : y.length ≤ 68719476736) (hm : ¬ m.map up = [80, 76, 65, 73, 78] ∧ ¬ m.map up = [76, 79, 71, 73, 78] ∧ ¬ m.map up = [67, 82, 65, 77, 45, 77, 68, 53]) {B : Option Addr} {d : Nat} (RU : Rd w0 F (.slice B l.length d) 2 l.length (us l)) (H : Sep w0 w F) : Ret Tryd.prog 7 #[.slice B l.length d, S m, S st, S y, .bool has] w (fun v w' => v = .tuple #[.pointer none, .int .i64 ((220 : Nat) : Int)] ∧ Sep w0 w' F) := by
 refine Ret_enter (args := [.slice B l.length d, S m, S st, S y, .bool has]) Tryd.func7 rfl (by kernel_rfl) ?_
 refine G_forget [(0, .slice B l.length d), (1, S m), (2, S st), (3, S y), (4, .bool has)] (by kernel_rfl) (fun β => ?_)
 refine G_sr ?_
 refine GL_st 2 2 [(0, .slice B l.length d), (1, S m), (2, S st), (3, S y), (4, .bool has)] fun β => ?_
 refine G_sr ?_
 refine GL_s 1 1 [(1, S m), (2, S st), (3, S y), (4, .bool has), (16, .slice B l.length d)] fun β => ?_
 obtain ⟨A1, c2, w3, hr4, H⟩ := R_append_nil (P := Tryd.prog) (t := 22) (ty := 22) (e := 40) (z := .agg #[S ([] : List UInt8), S ([] : List UInt8)]) (sz := 2) (by_ := 32) H (by kernel_rfl) rfl (Rd.src RU H) (us_one _) (by unfold maxLen; omega) (by omega)
 replace H : Sep w0 w3 (.row (.slice A1 l.length c2) 40 2 l.length (us l) :: F) := H
 refine GL_V hr4 ?_
 refine GL_s 2 4 [(3, S y), (4, .bool has), (17, .slice A1 l.length c2), (18, S m), (19, S st)] fun β => ?_
 refine GL_C (c_first_none m st (by omega) hm H) ?_
 rintro _ w5 ⟨rfl, H⟩
 refine GL_s 1 6 [(3, S y), (4, .bool has), (21, .agg #[.slice A1 l.length c2, In 1, .nilIface, S ([] : List UInt8)])] fun β => ?_
 refine GL_new (V := fun g => Pt g 0) (l := [.slice A1 l.length c2, In 1, .nilIface, S ([] : List UInt8)]) (t := 58) H rfl (by kernel_rfl) (by kernel_rfl) (by kernel_rfl) (fun g6 w7 H => ?_)
 refine GL_st 1 8 [(3, S y), (4, .bool has), (12, Pt g6 0)] fun β => ?_
 refine G_seq ?_
 refine G_sr ?_
 refine GL_s 3 3 [(3, S y), (4, .bool has), (12, Pt g6 0), (25, Pt g6 2)] fun β => ?_
 refine GL_V (run_load1 (t := 55) (by kernel_rfl) ((H.blk_cell (i := 0) rfl 2).trans rfl)) ?_
 refine GL_st 1 5 [(3, S y), (4, .bool has), (12, Pt g6 0), (27, .bool true)] fun β => ?_
 refine G_true (by kernel_rfl) ?_
 refine G_sr ?_
 refine GL_st 2 2 [(10, .pointer none), (11, In 220)] fun β => ?_
 refine G_ret ?_
 refine thn_ret (res2 (v := .pointer none) (x := In 220) rfl (by kernel_rfl) (by kernel_rfl) ?_)
 replace H := H.drop 1
 replace H := H.drop 0
 replace H : Sep w0 w7 (F) := H
 exact ⟨rfl, H⟩
/-- posthorn/sasl.Begin -/
theorem c_Begin1_plain {w0 w : World} {F : List Chunk} (T : List UInt32) (hT : T.length = 64) (gT : Gl w0 0 (u32s T)) (R : List UInt8) (hR : R.length = 16) (gR : Gl w0 1 (bs R)) (l : List Str2) (hl : l.length ≤ 1099511627776) (hU : ∀ u ∈ l, u.1.length ≤ 549755813888 ∧ u.2.length ≤ 549755813888) (m st y : List UInt8) (hml : m.length ≤ 1099511627776) (hst : st.length ≤ 68719476736) (hy : y.length ≤ 68719476736) (hm : m.map up = [80, 76, 65, 73, 78]) {B : Option Addr} {d : Nat} (RU : Rd w0 F (.slice B l.length d) 2 l.length (us l)) (H : Sep w0 w F) : Ret Tryd.prog 7 #[.slice B l.length d, S m, S st, S y, .bool true] w (fun v w' => (¬ (readF T R l 1 Stp.plain [] (if y = [61] then [] else y)).1 = 0 ∧ v = .tuple #[.pointer none, .int .i64 ((readF T R l 1 Stp.plain [] (if y = [61] then [] else y)).1 : Int)] ∧ Sep w0 w' F) ∨ ((readF T R l 1 Stp.plain [] (if y = [61] then [] else y)).1 = 0 ∧ ∃ g A c, v = .tuple #[.pointer (some ⟨g, 0, none⟩), .int .i64 ((0 : Nat) : Int)] ∧ Sep w0 w' (.blk g 58 [.slice A l.length c, In ((readF T R l 1 Stp.plain [] (if y = [61] then [] else y)).2.1), (readF T R l 1 Stp.plain [] (if y = [61] then [] else y)).2.2.1.v, S ((readF T R l 1 Stp.plain [] (if y = [61] then [] else y)).2.2.2)] :: .row (.slice A l.length c) 40 2 l.length (us l) :: F))) := by
 refine Ret_enter (args := [.slice B l.length d, S m, S st, S y, .bool true]) Tryd.func7 rfl (by kernel_rfl) ?_
 refine G_forget [(0, .slice B l.length d), (1, S m), (2, S st), (3, S y), (4, .bool true)] (by kernel_rfl) (fun β => ?_)
 refine G_sr ?_
 refine GL_st 2 2 [(0, .slice B l.length d), (1, S m), (2, S st), (3, S y), (4, .bool true)] fun β => ?_
 refine G_sr ?_
 refine GL_s 1 1 [(1, S m), (2, S st), (3, S y), (4, .bool true), (16, .slice B l.length d)] fun β => ?_
 obtain ⟨A1, c2, w3, hr4, H⟩ := R_append_nil (P := Tryd.prog) (t := 22) (ty := 22) (e := 40) (z := .agg #[S ([] : List UInt8), S ([] : List UInt8)]) (sz := 2) (by_ := 32) H (by kernel_rfl) rfl (Rd.src RU H) (us_one _) (by unfold maxLen; omega) (by omega)
 replace H : Sep w0 w3 (.row (.slice A1 l.length c2) 40 2 l.length (us l) :: F) := H
 refine GL_V hr4 ?_
 refine GL_s 2 4 [(3, S y), (4, .bool true), (17, .slice A1 l.length c2), (18, S m), (19, S st)] fun β => ?_
 refine GL_C (c_first_plain m st (by omega) hm H) ?_
 rintro _ w5 ⟨rfl, H⟩
 refine GL_s 1 6 [(3, S y), (4, .bool true), (21, .agg #[.slice A1 l.length c2, In 1, .iface 85 (.agg #[]), S ([] : List UInt8)])] fun β => ?_
 refine GL_new (V := fun g => Pt g 0) (l := [.slice A1 l.length c2, In 1, .iface 85 (.agg #[]), S ([] : List UInt8)]) (t := 58) H rfl (by kernel_rfl) (by kernel_rfl) (by kernel_rfl) (fun g6 w7 H => ?_)
 refine GL_st 1 8 [(3, S y), (4, .bool true), (12, Pt g6 0)] fun β => ?_
 refine G_seq ?_
 refine G_sr ?_
 refine GL_s 3 3 [(3, S y), (4, .bool true), (12, Pt g6 0), (25, Pt g6 2)] fun β => ?_
 refine GL_V (run_load1 (t := 55) (by kernel_rfl) ((H.blk_cell (i := 0) rfl 2).trans rfl)) ?_
 refine GL_st 1 5 [(3, S y), (4, .bool true), (12, Pt g6 0), (27, .bool false)] fun β => ?_
 refine G_false (by kernel_rfl) ?_
 refine G_skip ?_
 refine thn_normal ?_
 refine G_seq ?_
 refine G_sr ?_
 refine GL_st 2 2 [(3, S y), (12, Pt g6 0), (29, .bool false)] fun β => ?_
 refine G_false (by kernel_rfl) ?_
 refine G_skip ?_
 refine thn_normal ?_
 refine G_seq ?_
 refine G_sr ?_
 refine GL_s 3 3 [(3, S y), (12, Pt g6 0), (34, Pt g6 2)] fun β => ?_
 refine GL_V (run_load1 (t := 55) (by kernel_rfl) ((H.blk_cell (i := 0) rfl 2).trans rfl)) ?_
 refine GL_s 4 8 [(3, S y), (12, Pt g6 0), (37, .agg #[S ([] : List UInt8)]), (38, .bool false)] fun β => ?_
 refine GL_new (V := fun g => Pt g 0) (l := [S ([] : List UInt8)]) (t := 60) H rfl (by kernel_rfl) (by kernel_rfl) (by kernel_rfl) (fun g8 w9 H => ?_)
 obtain ⟨w10, hr11, H⟩ := R_store (P := Tryd.prog) (t := 60) (v := .agg #[S ([] : List UInt8)]) (off := 0) H (i := 0) rfl (by kernel_rfl) (by kernel_rfl) (by kernel_rfl)
 replace H : Sep w0 w10 (.blk g8 60 [S ([] : List UInt8)] :: .blk g6 58 [.slice A1 l.length c2, In 1, .iface 85 (.agg #[]), S ([] : List UInt8)] :: .row (.slice A1 l.length c2) 40 2 l.length (us l) :: F) := H
 refine GL_U hr11 ?_
 refine GL_st 1 11 [(3, S y), (12, Pt g6 0), (14, .bool false)] fun β => ?_
 refine G_sr ?_
 refine GL_st 1 1 [(3, S y), (12, Pt g6 0), (39, .bool false)] fun β => ?_
 refine G_false (by kernel_rfl) ?_
 refine G_skip ?_
 refine thn_normal ?_
 refine G_seq ?_
 refine G_sr ?_
 refine GL_s 1 1 [(3, S y), (12, Pt g6 0), (40, S y)] fun β => ?_
 refine GL_V (R_streq (t := 9) (l := y) (m := [61])) ?_
 refine GL_et ?_
 refine G_cond (y == [61]) (by kernel_rfl) (fun h0 => ?_) (fun h0 => ?_)
 · --yes
  replace h0 : y = [61] := eql_T h0
  refine G_region ?_
  refine GL_st 1 1 [(3, S ([] : List UInt8)), (12, Pt g6 0)] fun β => ?_
  refine G_seq ?_
  refine G_sr ?_
  refine GL_s 2 2 [(12, Pt g6 0), (42, Pt g6 0), (43, S ([] : List UInt8))] fun β => ?_
  replace H := H.front (i := 2) rfl
  replace H := H.front (i := 2) rfl
  replace H : Sep w0 w10 (.blk g6 58 [.slice A1 l.length c2, In 1, .iface 85 (.agg #[]), S ([] : List UInt8)] :: .row (.slice A1 l.length c2) 40 2 l.length (us l) :: .blk g8 60 [S ([] : List UInt8)] :: F) := H
  refine GL_C (c_read T hT gT R hR gR 1 Stp.plain (by trivial) ([] : List UInt8) ([] : List UInt8) (by first | omega | (simp only [List.length_nil]; omega)) l (by omega) hU H) ?_
  rintro _ w12 ⟨rfl, H⟩
  refine GL_st 1 4 [(12, Pt g6 0), (15, In ((readF T R l 1 Stp.plain ([] : List UInt8) ([] : List UInt8)).1))] fun β => ?_
  refine G_sr ?_
  refine GL_srt 2 2 [(12, Pt g6 0), (15, In ((readF T R l 1 Stp.plain ([] : List UInt8) ([] : List UInt8)).1)), (46, .bool (((readF T R l 1 Stp.plain ([] : List UInt8) ([] : List UInt8)).1) != 0))] (show ([Pt g6 0, .int .i64 (((readF T R l 1 Stp.plain ([] : List UInt8) ([] : List UInt8)).1 : Nat) : Int), .bool ((((readF T R l 1 Stp.plain ([] : List UInt8) ([] : List UInt8)).1 : Nat) : Int) != ((0 : Nat) : Int))] : List Value) = [Pt g6 0, In ((readF T R l 1 Stp.plain ([] : List UInt8) ([] : List UInt8)).1), .bool (((readF T R l 1 Stp.plain ([] : List UInt8) ([] : List UInt8)).1) != 0)] by rw [nneq ((readF T R l 1 Stp.plain ([] : List UInt8) ([] : List UInt8)).1) 0]) fun β => ?_
  refine G_cond (((readF T R l 1 Stp.plain ([] : List UInt8) ([] : List UInt8)).1) != 0) (by kernel_rfl) (fun h1 => ?_) (fun h1 => ?_)
  · --yes
   replace h1 : ¬ ((readF T R l 1 Stp.plain ([] : List UInt8) ([] : List UInt8)).1 = 0) := neq_T h1
   refine G_sr ?_
   refine GL_st 3 3 [(10, .pointer none), (11, In ((readF T R l 1 Stp.plain ([] : List UInt8) ([] : List UInt8)).1))] fun β => ?_
   refine G_ret ?_
   refine thn_ret (res2 (v := .pointer none) (x := In ((readF T R l 1 Stp.plain ([] : List UInt8) ([] : List UInt8)).1)) rfl (by kernel_rfl) (by kernel_rfl) ?_)
   replace H := H.drop 2
   replace H := H.drop 1
   replace H := H.drop 0
   replace H : Sep w0 w12 (F) := H
   rw [if_pos h0]
   exact .inl ⟨h1, rfl, H⟩
  · --no
   replace h1 : (readF T R l 1 Stp.plain ([] : List UInt8) ([] : List UInt8)).1 = 0 := neq_F h1
   refine G_skip ?_
   refine thn_normal ?_
   refine G_sr ?_
   refine GL_st 3 3 [(10, Pt g6 0), (11, In 0)] fun β => ?_
   refine G_ret ?_
   refine res2 (v := Pt g6 0) (x := In 0) rfl (by kernel_rfl) (by kernel_rfl) ?_
   replace H := H.drop 2
   replace H := H.front (i := 1) rfl
   replace H := H.front (i := 1) rfl
   replace H : Sep w0 w12 (.blk g6 58 [.slice A1 l.length c2, In ((readF T R l 1 Stp.plain ([] : List UInt8) ([] : List UInt8)).2.1), (readF T R l 1 Stp.plain ([] : List UInt8) ([] : List UInt8)).2.2.1.v, S ((readF T R l 1 Stp.plain ([] : List UInt8) ([] : List UInt8)).2.2.2)] :: .row (.slice A1 l.length c2) 40 2 l.length (us l) :: F) := H
   rw [if_pos h0]
   exact .inr ⟨h1, _, _, _, rfl, H⟩
 · --no
  replace h0 : ¬ (y = [61]) := eql_F h0
  refine G_skip ?_
  refine thn_normal ?_
  refine G_seq ?_
  refine G_sr ?_
  refine GL_s 2 2 [(12, Pt g6 0), (42, Pt g6 0), (43, S y)] fun β => ?_
  replace H := H.front (i := 2) rfl
  replace H := H.front (i := 2) rfl
  replace H : Sep w0 w10 (.blk g6 58 [.slice A1 l.length c2, In 1, .iface 85 (.agg #[]), S ([] : List UInt8)] :: .row (.slice A1 l.length c2) 40 2 l.length (us l) :: .blk g8 60 [S ([] : List UInt8)] :: F) := H
  refine GL_C (c_read T hT gT R hR gR 1 Stp.plain (by trivial) ([] : List UInt8) y (by first | omega | (simp only [List.length_nil]; omega)) l (by omega) hU H) ?_
  rintro _ w13 ⟨rfl, H⟩
  refine GL_st 1 4 [(12, Pt g6 0), (15, In ((readF T R l 1 Stp.plain ([] : List UInt8) y).1))] fun β => ?_
  refine G_sr ?_
  refine GL_srt 2 2 [(12, Pt g6 0), (15, In ((readF T R l 1 Stp.plain ([] : List UInt8) y).1)), (46, .bool (((readF T R l 1 Stp.plain ([] : List UInt8) y).1) != 0))] (show ([Pt g6 0, .int .i64 (((readF T R l 1 Stp.plain ([] : List UInt8) y).1 : Nat) : Int), .bool ((((readF T R l 1 Stp.plain ([] : List UInt8) y).1 : Nat) : Int) != ((0 : Nat) : Int))] : List Value) = [Pt g6 0, In ((readF T R l 1 Stp.plain ([] : List UInt8) y).1), .bool (((readF T R l 1 Stp.plain ([] : List UInt8) y).1) != 0)] by rw [nneq ((readF T R l 1 Stp.plain ([] : List UInt8) y).1) 0]) fun β => ?_
  refine G_cond (((readF T R l 1 Stp.plain ([] : List UInt8) y).1) != 0) (by kernel_rfl) (fun h2 => ?_) (fun h2 => ?_)
  · --yes
   replace h2 : ¬ ((readF T R l 1 Stp.plain ([] : List UInt8) y).1 = 0) := neq_T h2
   refine G_sr ?_
   refine GL_st 3 3 [(10, .pointer none), (11, In ((readF T R l 1 Stp.plain ([] : List UInt8) y).1))] fun β => ?_
   refine G_ret ?_
   refine thn_ret (res2 (v := .pointer none) (x := In ((readF T R l 1 Stp.plain ([] : List UInt8) y).1)) rfl (by kernel_rfl) (by kernel_rfl) ?_)
   replace H := H.drop 2
   replace H := H.drop 1
   replace H := H.drop 0
   replace H : Sep w0 w13 (F) := H
   rw [if_neg h0]
   exact .inl ⟨h2, rfl, H⟩
  · --no
   replace h2 : (readF T R l 1 Stp.plain ([] : List UInt8) y).1 = 0 := neq_F h2
   refine G_skip ?_
   refine thn_normal ?_
   refine G_sr ?_
   refine GL_st 3 3 [(10, Pt g6 0), (11, In 0)] fun β => ?_
   refine G_ret ?_
   refine res2 (v := Pt g6 0) (x := In 0) rfl (by kernel_rfl) (by kernel_rfl) ?_
   replace H := H.drop 2
   replace H := H.front (i := 1) rfl
   replace H := H.front (i := 1) rfl
   replace H : Sep w0 w13 (.blk g6 58 [.slice A1 l.length c2, In ((readF T R l 1 Stp.plain ([] : List UInt8) y).2.1), (readF T R l 1 Stp.plain ([] : List UInt8) y).2.2.1.v, S ((readF T R l 1 Stp.plain ([] : List UInt8) y).2.2.2)] :: .row (.slice A1 l.length c2) 40 2 l.length (us l) :: F) := H
   rw [if_neg h0]
   exact .inr ⟨h2, _, _, _, rfl, H⟩
/-- posthorn/sasl.Begin -/
theorem c_Begin1_login {w0 w : World} {F : List Chunk} (T : List UInt32) (hT : T.length = 64) (gT : Gl w0 0 (u32s T)) (R : List UInt8) (hR : R.length = 16) (gR : Gl w0 1 (bs R)) (l : List Str2) (hl : l.length ≤ 1099511627776) (hU : ∀ u ∈ l, u.1.length ≤ 549755813888 ∧ u.2.length ≤ 549755813888) (m st y : List UInt8) (hml : m.length ≤ 1099511627776) (hst : st.length ≤ 68719476736) (hy : y.length ≤ 68719476736) (hm : m.map up = [76, 79, 71, 73, 78]) {B : Option Addr} {d : Nat} (RU : Rd w0 F (.slice B l.length d) 2 l.length (us l)) (H : Sep w0 w F) : Ret Tryd.prog 7 #[.slice B l.length d, S m, S st, S y, .bool true] w (fun v w' => (¬ (readF T R l 1 Stp.login [] (if y = [61] then [] else y)).1 = 0 ∧ v = .tuple #[.pointer none, .int .i64 ((readF T R l 1 Stp.login [] (if y = [61] then [] else y)).1 : Int)] ∧ Sep w0 w' F) ∨ ((readF T R l 1 Stp.login [] (if y = [61] then [] else y)).1 = 0 ∧ ∃ g A c, v = .tuple #[.pointer (some ⟨g, 0, none⟩), .int .i64 ((0 : Nat) : Int)] ∧ Sep w0 w' (.blk g 58 [.slice A l.length c, In ((readF T R l 1 Stp.login [] (if y = [61] then [] else y)).2.1), (readF T R l 1 Stp.login [] (if y = [61] then [] else y)).2.2.1.v, S ((readF T R l 1 Stp.login [] (if y = [61] then [] else y)).2.2.2)] :: .row (.slice A l.length c) 40 2 l.length (us l) :: F))) := by
 refine Ret_enter (args := [.slice B l.length d, S m, S st, S y, .bool true]) Tryd.func7 rfl (by kernel_rfl) ?_
 refine G_forget [(0, .slice B l.length d), (1, S m), (2, S st), (3, S y), (4, .bool true)] (by kernel_rfl) (fun β => ?_)
 refine G_sr ?_
 refine GL_st 2 2 [(0, .slice B l.length d), (1, S m), (2, S st), (3, S y), (4, .bool true)] fun β => ?_
 refine G_sr ?_
 refine GL_s 1 1 [(1, S m), (2, S st), (3, S y), (4, .bool true), (16, .slice B l.length d)] fun β => ?_
 obtain ⟨A1, c2, w3, hr4, H⟩ := R_append_nil (P := Tryd.prog) (t := 22) (ty := 22) (e := 40) (z := .agg #[S ([] : List UInt8), S ([] : List UInt8)]) (sz := 2) (by_ := 32) H (by kernel_rfl) rfl (Rd.src RU H) (us_one _) (by unfold maxLen; omega) (by omega)
 replace H : Sep w0 w3 (.row (.slice A1 l.length c2) 40 2 l.length (us l) :: F) := H
 refine GL_V hr4 ?_
 refine GL_s 2 4 [(3, S y), (4, .bool true), (17, .slice A1 l.length c2), (18, S m), (19, S st)] fun β => ?_
 refine GL_C (c_first_login m st (by omega) hm H) ?_
 rintro _ w5 ⟨rfl, H⟩
 refine GL_s 1 6 [(3, S y), (4, .bool true), (21, .agg #[.slice A1 l.length c2, In 1, .iface 86 (.agg #[]), S ([] : List UInt8)])] fun β => ?_
 refine GL_new (V := fun g => Pt g 0) (l := [.slice A1 l.length c2, In 1, .iface 86 (.agg #[]), S ([] : List UInt8)]) (t := 58) H rfl (by kernel_rfl) (by kernel_rfl) (by kernel_rfl) (fun g6 w7 H => ?_)
 refine GL_st 1 8 [(3, S y), (4, .bool true), (12, Pt g6 0)] fun β => ?_
 refine G_seq ?_
 refine G_sr ?_
 refine GL_s 3 3 [(3, S y), (4, .bool true), (12, Pt g6 0), (25, Pt g6 2)] fun β => ?_
 refine GL_V (run_load1 (t := 55) (by kernel_rfl) ((H.blk_cell (i := 0) rfl 2).trans rfl)) ?_
 refine GL_st 1 5 [(3, S y), (4, .bool true), (12, Pt g6 0), (27, .bool false)] fun β => ?_
 refine G_false (by kernel_rfl) ?_
 refine G_skip ?_
 refine thn_normal ?_
 refine G_seq ?_
 refine G_sr ?_
 refine GL_st 2 2 [(3, S y), (12, Pt g6 0), (29, .bool false)] fun β => ?_
 refine G_false (by kernel_rfl) ?_
 refine G_skip ?_
 refine thn_normal ?_
 refine G_seq ?_
 refine G_sr ?_
 refine GL_s 3 3 [(3, S y), (12, Pt g6 0), (34, Pt g6 2)] fun β => ?_
 refine GL_V (run_load1 (t := 55) (by kernel_rfl) ((H.blk_cell (i := 0) rfl 2).trans rfl)) ?_
 refine GL_s 4 8 [(3, S y), (12, Pt g6 0), (37, .agg #[S ([] : List UInt8)]), (38, .bool false)] fun β => ?_
 refine GL_new (V := fun g => Pt g 0) (l := [S ([] : List UInt8)]) (t := 60) H rfl (by kernel_rfl) (by kernel_rfl) (by kernel_rfl) (fun g8 w9 H => ?_)
 obtain ⟨w10, hr11, H⟩ := R_store (P := Tryd.prog) (t := 60) (v := .agg #[S ([] : List UInt8)]) (off := 0) H (i := 0) rfl (by kernel_rfl) (by kernel_rfl) (by kernel_rfl)
 replace H : Sep w0 w10 (.blk g8 60 [S ([] : List UInt8)] :: .blk g6 58 [.slice A1 l.length c2, In 1, .iface 86 (.agg #[]), S ([] : List UInt8)] :: .row (.slice A1 l.length c2) 40 2 l.length (us l) :: F) := H
 refine GL_U hr11 ?_
 refine GL_st 1 11 [(3, S y), (12, Pt g6 0), (14, .bool false)] fun β => ?_
 refine G_sr ?_
 refine GL_st 1 1 [(3, S y), (12, Pt g6 0), (39, .bool false)] fun β => ?_
 refine G_false (by kernel_rfl) ?_
 refine G_skip ?_
 refine thn_normal ?_
 refine G_seq ?_
 refine G_sr ?_
 refine GL_s 1 1 [(3, S y), (12, Pt g6 0), (40, S y)] fun β => ?_
 refine GL_V (R_streq (t := 9) (l := y) (m := [61])) ?_
 refine GL_et ?_
 refine G_cond (y == [61]) (by kernel_rfl) (fun h0 => ?_) (fun h0 => ?_)
 · --yes
  replace h0 : y = [61] := eql_T h0
  refine G_region ?_
  refine GL_st 1 1 [(3, S ([] : List UInt8)), (12, Pt g6 0)] fun β => ?_
  refine G_seq ?_
  refine G_sr ?_
  refine GL_s 2 2 [(12, Pt g6 0), (42, Pt g6 0), (43, S ([] : List UInt8))] fun β => ?_
  replace H := H.front (i := 2) rfl
  replace H := H.front (i := 2) rfl
  replace H : Sep w0 w10 (.blk g6 58 [.slice A1 l.length c2, In 1, .iface 86 (.agg #[]), S ([] : List UInt8)] :: .row (.slice A1 l.length c2) 40 2 l.length (us l) :: .blk g8 60 [S ([] : List UInt8)] :: F) := H
  refine GL_C (c_read T hT gT R hR gR 1 Stp.login (by trivial) ([] : List UInt8) ([] : List UInt8) (by first | omega | (simp only [List.length_nil]; omega)) l (by omega) hU H) ?_
  rintro _ w12 ⟨rfl, H⟩
  refine GL_st 1 4 [(12, Pt g6 0), (15, In ((readF T R l 1 Stp.login ([] : List UInt8) ([] : List UInt8)).1))] fun β => ?_
  refine G_sr ?_
  refine GL_srt 2 2 [(12, Pt g6 0), (15, In ((readF T R l 1 Stp.login ([] : List UInt8) ([] : List UInt8)).1)), (46, .bool (((readF T R l 1 Stp.login ([] : List UInt8) ([] : List UInt8)).1) != 0))] (show ([Pt g6 0, .int .i64 (((readF T R l 1 Stp.login ([] : List UInt8) ([] : List UInt8)).1 : Nat) : Int), .bool ((((readF T R l 1 Stp.login ([] : List UInt8) ([] : List UInt8)).1 : Nat) : Int) != ((0 : Nat) : Int))] : List Value) = [Pt g6 0, In ((readF T R l 1 Stp.login ([] : List UInt8) ([] : List UInt8)).1), .bool (((readF T R l 1 Stp.login ([] : List UInt8) ([] : List UInt8)).1) != 0)] by rw [nneq ((readF T R l 1 Stp.login ([] : List UInt8) ([] : List UInt8)).1) 0]) fun β => ?_
  refine G_cond (((readF T R l 1 Stp.login ([] : List UInt8) ([] : List UInt8)).1) != 0) (by kernel_rfl) (fun h1 => ?_) (fun h1 => ?_)
  · --yes
   replace h1 : ¬ ((readF T R l 1 Stp.login ([] : List UInt8) ([] : List UInt8)).1 = 0) := neq_T h1
   refine G_sr ?_
   refine GL_st 3 3 [(10, .pointer none), (11, In ((readF T R l 1 Stp.login ([] : List UInt8) ([] : List UInt8)).1))] fun β => ?_
   refine G_ret ?_
   refine thn_ret (res2 (v := .pointer none) (x := In ((readF T R l 1 Stp.login ([] : List UInt8) ([] : List UInt8)).1)) rfl (by kernel_rfl) (by kernel_rfl) ?_)
   replace H := H.drop 2
   replace H := H.drop 1
   replace H := H.drop 0
   replace H : Sep w0 w12 (F) := H
   rw [if_pos h0]
   exact .inl ⟨h1, rfl, H⟩
  · --no
   replace h1 : (readF T R l 1 Stp.login ([] : List UInt8) ([] : List UInt8)).1 = 0 := neq_F h1
   refine G_skip ?_
   refine thn_normal ?_
   refine G_sr ?_
   refine GL_st 3 3 [(10, Pt g6 0), (11, In 0)] fun β => ?_
   refine G_ret ?_
   refine res2 (v := Pt g6 0) (x := In 0) rfl (by kernel_rfl) (by kernel_rfl) ?_
   replace H := H.drop 2
   replace H := H.front (i := 1) rfl
   replace H := H.front (i := 1) rfl
   replace H : Sep w0 w12 (.blk g6 58 [.slice A1 l.length c2, In ((readF T R l 1 Stp.login ([] : List UInt8) ([] : List UInt8)).2.1), (readF T R l 1 Stp.login ([] : List UInt8) ([] : List UInt8)).2.2.1.v, S ((readF T R l 1 Stp.login ([] : List UInt8) ([] : List UInt8)).2.2.2)] :: .row (.slice A1 l.length c2) 40 2 l.length (us l) :: F) := H
   rw [if_pos h0]
   exact .inr ⟨h1, _, _, _, rfl, H⟩
 · --no
  replace h0 : ¬ (y = [61]) := eql_F h0
  refine G_skip ?_
  refine thn_normal ?_
  refine G_seq ?_
  refine G_sr ?_
  refine GL_s 2 2 [(12, Pt g6 0), (42, Pt g6 0), (43, S y)] fun β => ?_
  replace H := H.front (i := 2) rfl
  replace H := H.front (i := 2) rfl
  replace H : Sep w0 w10 (.blk g6 58 [.slice A1 l.length c2, In 1, .iface 86 (.agg #[]), S ([] : List UInt8)] :: .row (.slice A1 l.length c2) 40 2 l.length (us l) :: .blk g8 60 [S ([] : List UInt8)] :: F) := H
  refine GL_C (c_read T hT gT R hR gR 1 Stp.login (by trivial) ([] : List UInt8) y (by first | omega | (simp only [List.length_nil]; omega)) l (by omega) hU H) ?_
  rintro _ w13 ⟨rfl, H⟩
  refine GL_st 1 4 [(12, Pt g6 0), (15, In ((readF T R l 1 Stp.login ([] : List UInt8) y).1))] fun β => ?_
  refine G_sr ?_
  refine GL_srt 2 2 [(12, Pt g6 0), (15, In ((readF T R l 1 Stp.login ([] : List UInt8) y).1)), (46, .bool (((readF T R l 1 Stp.login ([] : List UInt8) y).1) != 0))] (show ([Pt g6 0, .int .i64 (((readF T R l 1 Stp.login ([] : List UInt8) y).1 : Nat) : Int), .bool ((((readF T R l 1 Stp.login ([] : List UInt8) y).1 : Nat) : Int) != ((0 : Nat) : Int))] : List Value) = [Pt g6 0, In ((readF T R l 1 Stp.login ([] : List UInt8) y).1), .bool (((readF T R l 1 Stp.login ([] : List UInt8) y).1) != 0)] by rw [nneq ((readF T R l 1 Stp.login ([] : List UInt8) y).1) 0]) fun β => ?_
  refine G_cond (((readF T R l 1 Stp.login ([] : List UInt8) y).1) != 0) (by kernel_rfl) (fun h2 => ?_) (fun h2 => ?_)
  · --yes
   replace h2 : ¬ ((readF T R l 1 Stp.login ([] : List UInt8) y).1 = 0) := neq_T h2
   refine G_sr ?_
   refine GL_st 3 3 [(10, .pointer none), (11, In ((readF T R l 1 Stp.login ([] : List UInt8) y).1))] fun β => ?_
   refine G_ret ?_
   refine thn_ret (res2 (v := .pointer none) (x := In ((readF T R l 1 Stp.login ([] : List UInt8) y).1)) rfl (by kernel_rfl) (by kernel_rfl) ?_)
   replace H := H.drop 2
   replace H := H.drop 1
   replace H := H.drop 0
   replace H : Sep w0 w13 (F) := H
   rw [if_neg h0]
   exact .inl ⟨h2, rfl, H⟩
  · --no
   replace h2 : (readF T R l 1 Stp.login ([] : List UInt8) y).1 = 0 := neq_F h2
   refine G_skip ?_
   refine thn_normal ?_
   refine G_sr ?_
   refine GL_st 3 3 [(10, Pt g6 0), (11, In 0)] fun β => ?_
   refine G_ret ?_
   refine res2 (v := Pt g6 0) (x := In 0) rfl (by kernel_rfl) (by kernel_rfl) ?_
   replace H := H.drop 2
   replace H := H.front (i := 1) rfl
   replace H := H.front (i := 1) rfl
   replace H : Sep w0 w13 (.blk g6 58 [.slice A1 l.length c2, In ((readF T R l 1 Stp.login ([] : List UInt8) y).2.1), (readF T R l 1 Stp.login ([] : List UInt8) y).2.2.1.v, S ((readF T R l 1 Stp.login ([] : List UInt8) y).2.2.2)] :: .row (.slice A1 l.length c2) 40 2 l.length (us l) :: F) := H
   rw [if_neg h0]
   exact .inr ⟨h2, _, _, _, rfl, H⟩
/-- posthorn/sasl.Begin -/
theorem c_Begin1_cram {w0 w : World} {F : List Chunk} (T : List UInt32) (hT : T.length = 64) (gT : Gl w0 0 (u32s T)) (R : List UInt8) (hR : R.length = 16) (gR : Gl w0 1 (bs R)) (l : List Str2) (hl : l.length ≤ 1099511627776) (hU : ∀ u ∈ l, u.1.length ≤ 549755813888 ∧ u.2.length ≤ 549755813888) (m st y : List UInt8) (hml : m.length ≤ 1099511627776) (hst : st.length ≤ 68719476736) (hy : y.length ≤ 68719476736) (hm : m.map up = [67, 82, 65, 77, 45, 77, 68, 53]) {B : Option Addr} {d : Nat} (RU : Rd w0 F (.slice B l.length d) 2 l.length (us l)) (H : Sep w0 w F) : Ret Tryd.prog 7 #[.slice B l.length d, S m, S st, S y, .bool true] w (fun v w' => v = .tuple #[.pointer none, .int .i64 ((221 : Nat) : Int)] ∧ Sep w0 w' F) := by
 refine Ret_enter (args := [.slice B l.length d, S m, S st, S y, .bool true]) Tryd.func7 rfl (by kernel_rfl) ?_
 refine G_forget [(0, .slice B l.length d), (1, S m), (2, S st), (3, S y), (4, .bool true)] (by kernel_rfl) (fun β => ?_)
 refine G_sr ?_
 refine GL_st 2 2 [(0, .slice B l.length d), (1, S m), (2, S st), (3, S y), (4, .bool true)] fun β => ?_
 refine G_sr ?_
 refine GL_s 1 1 [(1, S m), (2, S st), (3, S y), (4, .bool true), (16, .slice B l.length d)] fun β => ?_
 obtain ⟨A1, c2, w3, hr4, H⟩ := R_append_nil (P := Tryd.prog) (t := 22) (ty := 22) (e := 40) (z := .agg #[S ([] : List UInt8), S ([] : List UInt8)]) (sz := 2) (by_ := 32) H (by kernel_rfl) rfl (Rd.src RU H) (us_one _) (by unfold maxLen; omega) (by omega)
 replace H : Sep w0 w3 (.row (.slice A1 l.length c2) 40 2 l.length (us l) :: F) := H
 refine GL_V hr4 ?_
 refine GL_s 2 4 [(3, S y), (4, .bool true), (17, .slice A1 l.length c2), (18, S m), (19, S st)] fun β => ?_
 refine GL_C (c_first_cram m st (by omega) hm H) ?_
 rintro _ w5 ⟨rfl, H⟩
 refine GL_s 1 6 [(3, S y), (4, .bool true), (21, .agg #[.slice A1 l.length c2, In 1, .iface 60 (.agg #[S st]), S ([] : List UInt8)])] fun β => ?_
 refine GL_new (V := fun g => Pt g 0) (l := [.slice A1 l.length c2, In 1, .iface 60 (.agg #[S st]), S ([] : List UInt8)]) (t := 58) H rfl (by kernel_rfl) (by kernel_rfl) (by kernel_rfl) (fun g6 w7 H => ?_)
 refine GL_st 1 8 [(3, S y), (4, .bool true), (12, Pt g6 0)] fun β => ?_
 refine G_seq ?_
 refine G_sr ?_
 refine GL_s 3 3 [(3, S y), (4, .bool true), (12, Pt g6 0), (25, Pt g6 2)] fun β => ?_
 refine GL_V (run_load1 (t := 55) (by kernel_rfl) ((H.blk_cell (i := 0) rfl 2).trans rfl)) ?_
 refine GL_st 1 5 [(3, S y), (4, .bool true), (12, Pt g6 0), (27, .bool false)] fun β => ?_
 refine G_false (by kernel_rfl) ?_
 refine G_skip ?_
 refine thn_normal ?_
 refine G_seq ?_
 refine G_sr ?_
 refine GL_st 2 2 [(3, S y), (12, Pt g6 0), (29, .bool false)] fun β => ?_
 refine G_false (by kernel_rfl) ?_
 refine G_skip ?_
 refine thn_normal ?_
 refine G_seq ?_
 refine G_sr ?_
 refine GL_s 3 3 [(3, S y), (12, Pt g6 0), (34, Pt g6 2)] fun β => ?_
 refine GL_V (run_load1 (t := 55) (by kernel_rfl) ((H.blk_cell (i := 0) rfl 2).trans rfl)) ?_
 refine GL_s 4 8 [(3, S y), (12, Pt g6 0), (37, .agg #[S st]), (38, .bool true)] fun β => ?_
 refine GL_new (V := fun g => Pt g 0) (l := [S ([] : List UInt8)]) (t := 60) H rfl (by kernel_rfl) (by kernel_rfl) (by kernel_rfl) (fun g8 w9 H => ?_)
 obtain ⟨w10, hr11, H⟩ := R_store (P := Tryd.prog) (t := 60) (v := .agg #[S st]) (off := 0) H (i := 0) rfl (by kernel_rfl) (by kernel_rfl) (by kernel_rfl)
 replace H : Sep w0 w10 (.blk g8 60 [S st] :: .blk g6 58 [.slice A1 l.length c2, In 1, .iface 60 (.agg #[S st]), S ([] : List UInt8)] :: .row (.slice A1 l.length c2) 40 2 l.length (us l) :: F) := H
 refine GL_U hr11 ?_
 refine GL_st 1 11 [(3, S y), (12, Pt g6 0), (14, .bool true)] fun β => ?_
 refine G_sr ?_
 refine GL_st 1 1 [(3, S y), (12, Pt g6 0), (39, .bool true)] fun β => ?_
 refine G_true (by kernel_rfl) ?_
 refine G_sr ?_
 refine GL_st 2 2 [(10, .pointer none), (11, In 221)] fun β => ?_
 refine G_ret ?_
 refine thn_ret (res2 (v := .pointer none) (x := In 221) rfl (by kernel_rfl) (by kernel_rfl) ?_)
 replace H := H.drop 2
 replace H := H.drop 1
 replace H := H.drop 0
 replace H : Sep w0 w10 (F) := H
 exact ⟨rfl, H⟩
end Go.Proofs.YtadiljnfkbbmcaaDoor
