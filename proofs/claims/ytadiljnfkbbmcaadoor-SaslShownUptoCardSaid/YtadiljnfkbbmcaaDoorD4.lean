-- printed by gw.py (my own program), checked by Lean
import Derived.Test.YtadiljnfkbbmcaaDoorD1
set_option linter.unusedVariables false
set_option linter.unusedSimpArgs false
set_option maxRecDepth 100000
set_option maxHeartbeats 400000
namespace Go.Proofs.YtadiljnfkbbmcaaDoor
open Go.Kw Go.RowKit
theorem c_Begin1_plain_ok {w0 w : World} {F : List Chunk} (T : List UInt32) (hT : T.length = 64) (gT : Gl w0 0 (u32s T)) (R : List UInt8) (hR : R.length = 16) (gR : Gl w0 1 (bs R)) (l : List Str2) (hl : l.length ≤ 1099511627776) (hU : ∀ u ∈ l, u.1.length ≤ 549755813888 ∧ u.2.length ≤ 549755813888) (m st y : List UInt8) (hml : m.length ≤ 1099511627776) (hst : st.length ≤ 68719476736) (hy : y.length ≤ 68719476736) (hm : m.map up = [80, 76, 65, 73, 78]) {B : Option Addr} {d : Nat} (RU : Rd w0 F (.slice B l.length d) 2 l.length (us l)) (H : Sep w0 w F) {n2 : Nat} {sv2 : Stp} {nm2 : List UInt8} (hrf : (readF T R l 1 Stp.plain [] (if y = [61] then [] else y)) = (0, n2, sv2, nm2)) : Ret Tryd.prog 7 #[.slice B l.length d, S m, S st, S y, .bool true] w (fun v w' => ∃ g A c, v = .tuple #[.pointer (some ⟨g, 0, none⟩), .int .i64 ((0 : Nat) : Int)] ∧ Sep w0 w' (.blk g 58 [.slice A l.length c, In n2, sv2.v, S nm2] :: .row (.slice A l.length c) 40 2 l.length (us l) :: F)) := by
  refine (c_Begin1_plain T hT gT R hR gR l hl hU m st y hml hst hy hm RU H).mono fun v w' h => ?_
  rcases h with ⟨h0, _⟩ | ⟨_, g, A, c, hv, H⟩
  · rw [hrf] at h0; exact absurd rfl h0
  · rw [hrf] at H; exact ⟨g, A, c, hv, H⟩
theorem c_Begin1_plain_no {w0 w : World} {F : List Chunk} (T : List UInt32) (hT : T.length = 64) (gT : Gl w0 0 (u32s T)) (R : List UInt8) (hR : R.length = 16) (gR : Gl w0 1 (bs R)) (l : List Str2) (hl : l.length ≤ 1099511627776) (hU : ∀ u ∈ l, u.1.length ≤ 549755813888 ∧ u.2.length ≤ 549755813888) (m st y : List UInt8) (hml : m.length ≤ 1099511627776) (hst : st.length ≤ 68719476736) (hy : y.length ≤ 68719476736) (hm : m.map up = [80, 76, 65, 73, 78]) {B : Option Addr} {d : Nat} (RU : Rd w0 F (.slice B l.length d) 2 l.length (us l)) (H : Sep w0 w F) (hrf : ¬ (readF T R l 1 Stp.plain [] (if y = [61] then [] else y)).1 = 0) : Ret Tryd.prog 7 #[.slice B l.length d, S m, S st, S y, .bool true] w (fun v w' => v = .tuple #[.pointer none, .int .i64 ((readF T R l 1 Stp.plain [] (if y = [61] then [] else y)).1 : Int)] ∧ Sep w0 w' F) := by
  refine (c_Begin1_plain T hT gT R hR gR l hl hU m st y hml hst hy hm RU H).mono fun v w' h => ?_
  rcases h with ⟨_, hv, H⟩ | ⟨h0, _⟩
  · exact ⟨hv, H⟩
  · exact absurd h0 hrf
theorem c_Begin1_login_ok {w0 w : World} {F : List Chunk} (T : List UInt32) (hT : T.length = 64) (gT : Gl w0 0 (u32s T)) (R : List UInt8) (hR : R.length = 16) (gR : Gl w0 1 (bs R)) (l : List Str2) (hl : l.length ≤ 1099511627776) (hU : ∀ u ∈ l, u.1.length ≤ 549755813888 ∧ u.2.length ≤ 549755813888) (m st y : List UInt8) (hml : m.length ≤ 1099511627776) (hst : st.length ≤ 68719476736) (hy : y.length ≤ 68719476736) (hm : m.map up = [76, 79, 71, 73, 78]) {B : Option Addr} {d : Nat} (RU : Rd w0 F (.slice B l.length d) 2 l.length (us l)) (H : Sep w0 w F) {n2 : Nat} {sv2 : Stp} {nm2 : List UInt8} (hrf : (readF T R l 1 Stp.login [] (if y = [61] then [] else y)) = (0, n2, sv2, nm2)) : Ret Tryd.prog 7 #[.slice B l.length d, S m, S st, S y, .bool true] w (fun v w' => ∃ g A c, v = .tuple #[.pointer (some ⟨g, 0, none⟩), .int .i64 ((0 : Nat) : Int)] ∧ Sep w0 w' (.blk g 58 [.slice A l.length c, In n2, sv2.v, S nm2] :: .row (.slice A l.length c) 40 2 l.length (us l) :: F)) := by
  refine (c_Begin1_login T hT gT R hR gR l hl hU m st y hml hst hy hm RU H).mono fun v w' h => ?_
  rcases h with ⟨h0, _⟩ | ⟨_, g, A, c, hv, H⟩
  · rw [hrf] at h0; exact absurd rfl h0
  · rw [hrf] at H; exact ⟨g, A, c, hv, H⟩
theorem c_Begin1_login_no {w0 w : World} {F : List Chunk} (T : List UInt32) (hT : T.length = 64) (gT : Gl w0 0 (u32s T)) (R : List UInt8) (hR : R.length = 16) (gR : Gl w0 1 (bs R)) (l : List Str2) (hl : l.length ≤ 1099511627776) (hU : ∀ u ∈ l, u.1.length ≤ 549755813888 ∧ u.2.length ≤ 549755813888) (m st y : List UInt8) (hml : m.length ≤ 1099511627776) (hst : st.length ≤ 68719476736) (hy : y.length ≤ 68719476736) (hm : m.map up = [76, 79, 71, 73, 78]) {B : Option Addr} {d : Nat} (RU : Rd w0 F (.slice B l.length d) 2 l.length (us l)) (H : Sep w0 w F) (hrf : ¬ (readF T R l 1 Stp.login [] (if y = [61] then [] else y)).1 = 0) : Ret Tryd.prog 7 #[.slice B l.length d, S m, S st, S y, .bool true] w (fun v w' => v = .tuple #[.pointer none, .int .i64 ((readF T R l 1 Stp.login [] (if y = [61] then [] else y)).1 : Int)] ∧ Sep w0 w' F) := by
  refine (c_Begin1_login T hT gT R hR gR l hl hU m st y hml hst hy hm RU H).mono fun v w' h => ?_
  rcases h with ⟨_, hv, H⟩ | ⟨h0, _⟩
  · exact ⟨hv, H⟩
  · exact absurd h0 hrf
/-- posthorn/posthornlaw22.wakes -/
theorem c_wakes {w0 w : World} {F : List Chunk} (T : List UInt32) (hT : T.length = 64) (gT : Gl w0 0 (u32s T)) (R : List UInt8) (hR : R.length = 16) (gR : Gl w0 1 (bs R)) (H : Sep w0 w F) : Ret Tryd.prog 6 #[] w (fun v w' => v = .bool true ∧ Sep w0 w' F) := by
 refine Ret_enter (args := []) Tryd.func6 rfl (by kernel_rfl) ?_
 refine G_forget [] (by kernel_rfl) (fun β => ?_)
 refine G_sr ?_
 refine GL_st 1 1 [] fun β => ?_
 refine G_sr ?_
 refine GL_s 1 1 [(8, .agg #[S [97, 110, 110], S [115, 51]])] fun β => ?_
 refine GL_new (V := fun g => .slice (some ⟨g, 0, none⟩) 1 1) (l := [S [97, 110, 110], S [115, 51]]) (t := 40) H rfl (by kernel_rfl) (by kernel_rfl) (by kernel_rfl) (fun g1 w2 H => ?_)
 refine GL_st 1 3 [(1, .slice (some ⟨g1, 0, none⟩) 1 1)] fun β => ?_
 refine G_sr ?_
 refine GL_s 1 1 [(1, .slice (some ⟨g1, 0, none⟩) 1 1), (11, .slice (some ⟨g1, 0, none⟩) 1 1)] fun β => ?_
 refine GL_C (c_line [0, 97, 110, 110, 0, 115, 51] (by first | omega | decide) H) ?_
 rintro _ w3 ⟨rfl, H⟩
 replace H : Sep w0 w3 (.blk g1 40 (us [([97, 110, 110], [115, 51])]) :: F) := H
 refine GL_C (c_Begin1_plain_ok T hT gT R hR gR ([([97, 110, 110], [115, 51])]) (by first | omega | (decide +kernel) | (simp only [List.length_nil]; omega) | (simp only [List.length_cons, List.length_nil]; omega)) (by intro u hu; simp only [List.mem_cons, List.not_mem_nil, or_false] at hu; subst hu; constructor <;> first | decide | (dsimp only; omega)) [112, 108, 97, 105, 110] ([] : List UInt8) (enc [0, 97, 110, 110, 0, 115, 51]) (by first | omega | (decide +kernel) | (simp only [List.length_nil]; omega) | (simp only [List.length_cons, List.length_nil]; omega)) (by first | omega | (decide +kernel) | (simp only [List.length_nil]; omega) | (simp only [List.length_cons, List.length_nil]; omega)) (by first | omega | (decide +kernel) | (simp only [List.length_nil]; omega) | (simp only [List.length_cons, List.length_nil]; omega)) (by decide) (Rd.of_blk (i := 0) (nn := 1) (sz := 2) rfl (by rw [us_length]; rfl) (by decide)) H (n2 := 2) (sv2 := .plain) (nm2 := [97, 110, 110]) (by rw [if_neg (by decide +kernel)]; unfold readF; rw [dec_enc]; kernel_rfl)) ?_
 rintro _ w7 ⟨g4, A5, c6, rfl, H⟩
 replace H : Sep w0 w7 (.blk g4 58 [.slice A5 (([([97, 110, 110], [115, 51])]).length) c6, In 2, .iface 85 (.agg #[]), S [97, 110, 110]] :: .row (.slice A5 (([([97, 110, 110], [115, 51])]).length) c6) 40 2 (([([97, 110, 110], [115, 51])]).length) (us ([([97, 110, 110], [115, 51])])) :: .blk g1 40 (us [([97, 110, 110], [115, 51])]) :: F) := H
 refine GL_st 5 8 [(1, .slice (some ⟨g1, 0, none⟩) 1 1), (2, Pt g4 0), (3, In 0)] fun β => ?_
 refine G_sr ?_
 refine GL_s 1 1 [(1, .slice (some ⟨g1, 0, none⟩) 1 1), (2, Pt g4 0), (3, In 0), (17, .slice (some ⟨g1, 0, none⟩) 1 1)] fun β => ?_
 refine GL_C (c_line [0, 97, 110, 110, 0, 115, 52] (by first | omega | decide) H) ?_
 rintro _ w8 ⟨rfl, H⟩
 refine GL_C (c_Begin1_plain_ok T hT gT R hR gR ([([97, 110, 110], [115, 51])]) (by first | omega | (decide +kernel) | (simp only [List.length_nil]; omega) | (simp only [List.length_cons, List.length_nil]; omega)) (by intro u hu; simp only [List.mem_cons, List.not_mem_nil, or_false] at hu; subst hu; constructor <;> first | decide | (dsimp only; omega)) [80, 76, 65, 73, 78] ([] : List UInt8) (enc [0, 97, 110, 110, 0, 115, 52]) (by first | omega | (decide +kernel) | (simp only [List.length_nil]; omega) | (simp only [List.length_cons, List.length_nil]; omega)) (by first | omega | (decide +kernel) | (simp only [List.length_nil]; omega) | (simp only [List.length_cons, List.length_nil]; omega)) (by first | omega | (decide +kernel) | (simp only [List.length_nil]; omega) | (simp only [List.length_cons, List.length_nil]; omega)) (by decide) (Rd.of_blk (i := 2) (nn := 1) (sz := 2) rfl (by rw [us_length]; rfl) (by decide)) H (n2 := 3) (sv2 := .plain) (nm2 := []) (by rw [if_neg (by decide +kernel)]; unfold readF; rw [dec_enc]; kernel_rfl)) ?_
 rintro _ w12 ⟨g9, A10, c11, rfl, H⟩
 replace H : Sep w0 w12 (.blk g9 58 [.slice A10 (([([97, 110, 110], [115, 51])]).length) c11, In 3, .iface 85 (.agg #[]), S ([] : List UInt8)] :: .row (.slice A10 (([([97, 110, 110], [115, 51])]).length) c11) 40 2 (([([97, 110, 110], [115, 51])]).length) (us ([([97, 110, 110], [115, 51])])) :: .blk g4 58 [.slice A5 (([([97, 110, 110], [115, 51])]).length) c6, In 2, .iface 85 (.agg #[]), S [97, 110, 110]] :: .row (.slice A5 (([([97, 110, 110], [115, 51])]).length) c6) 40 2 (([([97, 110, 110], [115, 51])]).length) (us ([([97, 110, 110], [115, 51])])) :: .blk g1 40 (us [([97, 110, 110], [115, 51])]) :: F) := H
 refine GL_st 5 8 [(1, .slice (some ⟨g1, 0, none⟩) 1 1), (2, Pt g4 0), (3, In 0), (4, Pt g9 0), (5, In 0)] fun β => ?_
 refine G_sr ?_
 refine GL_s 1 1 [(2, Pt g4 0), (3, In 0), (4, Pt g9 0), (5, In 0), (23, .slice (some ⟨g1, 0, none⟩) 1 1)] fun β => ?_
 refine GL_C (c_Begin_login T hT gT R hR gR ([([97, 110, 110], [115, 51])]) (by first | omega | (decide +kernel) | (simp only [List.length_nil]; omega) | (simp only [List.length_cons, List.length_nil]; omega)) (by intro u hu; simp only [List.mem_cons, List.not_mem_nil, or_false] at hu; subst hu; constructor <;> first | decide | (dsimp only; omega)) [108, 111, 103, 105, 110] ([] : List UInt8) ([] : List UInt8) (by first | omega | (decide +kernel) | (simp only [List.length_nil]; omega) | (simp only [List.length_cons, List.length_nil]; omega)) (by first | omega | (decide +kernel) | (simp only [List.length_nil]; omega) | (simp only [List.length_cons, List.length_nil]; omega)) (by first | omega | (decide +kernel) | (simp only [List.length_nil]; omega) | (simp only [List.length_cons, List.length_nil]; omega)) (by decide) (Rd.of_blk (i := 4) (nn := 1) (sz := 2) rfl (by rw [us_length]; rfl) (by decide)) H) ?_
 rintro _ w16 ⟨g13, A14, c15, rfl, H⟩
 replace H : Sep w0 w16 (.blk g13 58 [.slice A14 (([([97, 110, 110], [115, 51])]).length) c15, In 1, .iface 86 (.agg #[]), S ([] : List UInt8)] :: .row (.slice A14 (([([97, 110, 110], [115, 51])]).length) c15) 40 2 (([([97, 110, 110], [115, 51])]).length) (us ([([97, 110, 110], [115, 51])])) :: .blk g9 58 [.slice A10 (([([97, 110, 110], [115, 51])]).length) c11, In 3, .iface 85 (.agg #[]), S ([] : List UInt8)] :: .row (.slice A10 (([([97, 110, 110], [115, 51])]).length) c11) 40 2 (([([97, 110, 110], [115, 51])]).length) (us ([([97, 110, 110], [115, 51])])) :: .blk g4 58 [.slice A5 (([([97, 110, 110], [115, 51])]).length) c6, In 2, .iface 85 (.agg #[]), S [97, 110, 110]] :: .row (.slice A5 (([([97, 110, 110], [115, 51])]).length) c6) 40 2 (([([97, 110, 110], [115, 51])]).length) (us ([([97, 110, 110], [115, 51])])) :: .blk g1 40 (us [([97, 110, 110], [115, 51])]) :: F) := H
 refine GL_st 5 7 [(2, Pt g4 0), (3, In 0), (4, Pt g9 0), (5, In 0), (6, Pt g13 0), (7, In 0)] fun β => ?_
 refine G_sr ?_
 refine GL_s 8 8 [(2, Pt g4 0), (4, Pt g9 0), (6, Pt g13 0), (33, .bool true), (34, Pt g4 0)] fun β => ?_
 replace H := H.front (i := 4) rfl
 replace H : Sep w0 w16 (.blk g4 58 [.slice A5 (([([97, 110, 110], [115, 51])]).length) c6, In 2, .iface 85 (.agg #[]), S [97, 110, 110]] :: .blk g13 58 [.slice A14 (([([97, 110, 110], [115, 51])]).length) c15, In 1, .iface 86 (.agg #[]), S ([] : List UInt8)] :: .row (.slice A14 (([([97, 110, 110], [115, 51])]).length) c15) 40 2 (([([97, 110, 110], [115, 51])]).length) (us ([([97, 110, 110], [115, 51])])) :: .blk g9 58 [.slice A10 (([([97, 110, 110], [115, 51])]).length) c11, In 3, .iface 85 (.agg #[]), S ([] : List UInt8)] :: .row (.slice A10 (([([97, 110, 110], [115, 51])]).length) c11) 40 2 (([([97, 110, 110], [115, 51])]).length) (us ([([97, 110, 110], [115, 51])])) :: .row (.slice A5 (([([97, 110, 110], [115, 51])]).length) c6) 40 2 (([([97, 110, 110], [115, 51])]).length) (us ([([97, 110, 110], [115, 51])])) :: .blk g1 40 (us [([97, 110, 110], [115, 51])]) :: F) := H
 refine GL_C (c_State 2 (.slice A5 (([([97, 110, 110], [115, 51])]).length) c6) (.iface 85 (.agg #[])) (S [97, 110, 110]) H) ?_
 rintro _ w17 ⟨rfl, H⟩
 refine GL_s 4 13 [(4, Pt g9 0), (6, Pt g13 0), (38, .bool true), (39, Pt g4 0)] fun β => ?_
 replace H : Sep w0 w17 (.blk g4 58 [.slice A5 (([([97, 110, 110], [115, 51])]).length) c6, In 2, .iface 85 (.agg #[]), S [97, 110, 110]] :: .blk g13 58 [.slice A14 (([([97, 110, 110], [115, 51])]).length) c15, In 1, .iface 86 (.agg #[]), S ([] : List UInt8)] :: .row (.slice A14 (([([97, 110, 110], [115, 51])]).length) c15) 40 2 (([([97, 110, 110], [115, 51])]).length) (us ([([97, 110, 110], [115, 51])])) :: .blk g9 58 [.slice A10 (([([97, 110, 110], [115, 51])]).length) c11, In 3, .iface 85 (.agg #[]), S ([] : List UInt8)] :: .row (.slice A10 (([([97, 110, 110], [115, 51])]).length) c11) 40 2 (([([97, 110, 110], [115, 51])]).length) (us ([([97, 110, 110], [115, 51])])) :: .row (.slice A5 (([([97, 110, 110], [115, 51])]).length) c6) 40 2 (([([97, 110, 110], [115, 51])]).length) (us ([([97, 110, 110], [115, 51])])) :: .blk g1 40 (us [([97, 110, 110], [115, 51])]) :: F) := H
 refine GL_C (c_User 2 (.slice A5 (([([97, 110, 110], [115, 51])]).length) c6) (.iface 85 (.agg #[])) [97, 110, 110] H) ?_
 rintro _ w18 ⟨rfl, H⟩
 refine GL_s 4 18 [(4, Pt g9 0), (6, Pt g13 0), (43, .bool true), (44, Pt g9 0)] fun β => ?_
 replace H := H.front (i := 3) rfl
 replace H : Sep w0 w18 (.blk g9 58 [.slice A10 (([([97, 110, 110], [115, 51])]).length) c11, In 3, .iface 85 (.agg #[]), S ([] : List UInt8)] :: .blk g4 58 [.slice A5 (([([97, 110, 110], [115, 51])]).length) c6, In 2, .iface 85 (.agg #[]), S [97, 110, 110]] :: .blk g13 58 [.slice A14 (([([97, 110, 110], [115, 51])]).length) c15, In 1, .iface 86 (.agg #[]), S ([] : List UInt8)] :: .row (.slice A14 (([([97, 110, 110], [115, 51])]).length) c15) 40 2 (([([97, 110, 110], [115, 51])]).length) (us ([([97, 110, 110], [115, 51])])) :: .row (.slice A10 (([([97, 110, 110], [115, 51])]).length) c11) 40 2 (([([97, 110, 110], [115, 51])]).length) (us ([([97, 110, 110], [115, 51])])) :: .row (.slice A5 (([([97, 110, 110], [115, 51])]).length) c6) 40 2 (([([97, 110, 110], [115, 51])]).length) (us ([([97, 110, 110], [115, 51])])) :: .blk g1 40 (us [([97, 110, 110], [115, 51])]) :: F) := H
 refine GL_C (c_State 3 (.slice A10 (([([97, 110, 110], [115, 51])]).length) c11) (.iface 85 (.agg #[])) (S ([] : List UInt8)) H) ?_
 rintro _ w19 ⟨rfl, H⟩
 refine GL_s 4 23 [(6, Pt g13 0), (48, .bool true), (49, Pt g9 0)] fun β => ?_
 replace H : Sep w0 w19 (.blk g9 58 [.slice A10 (([([97, 110, 110], [115, 51])]).length) c11, In 3, .iface 85 (.agg #[]), S ([] : List UInt8)] :: .blk g4 58 [.slice A5 (([([97, 110, 110], [115, 51])]).length) c6, In 2, .iface 85 (.agg #[]), S [97, 110, 110]] :: .blk g13 58 [.slice A14 (([([97, 110, 110], [115, 51])]).length) c15, In 1, .iface 86 (.agg #[]), S ([] : List UInt8)] :: .row (.slice A14 (([([97, 110, 110], [115, 51])]).length) c15) 40 2 (([([97, 110, 110], [115, 51])]).length) (us ([([97, 110, 110], [115, 51])])) :: .row (.slice A10 (([([97, 110, 110], [115, 51])]).length) c11) 40 2 (([([97, 110, 110], [115, 51])]).length) (us ([([97, 110, 110], [115, 51])])) :: .row (.slice A5 (([([97, 110, 110], [115, 51])]).length) c6) 40 2 (([([97, 110, 110], [115, 51])]).length) (us ([([97, 110, 110], [115, 51])])) :: .blk g1 40 (us [([97, 110, 110], [115, 51])]) :: F) := H
 refine GL_C (c_User 3 (.slice A10 (([([97, 110, 110], [115, 51])]).length) c11) (.iface 85 (.agg #[])) ([] : List UInt8) H) ?_
 rintro _ w20 ⟨rfl, H⟩
 refine GL_s 4 28 [(6, Pt g13 0), (53, .bool true), (54, Pt g13 0)] fun β => ?_
 replace H := H.front (i := 2) rfl
 replace H : Sep w0 w20 (.blk g13 58 [.slice A14 (([([97, 110, 110], [115, 51])]).length) c15, In 1, .iface 86 (.agg #[]), S ([] : List UInt8)] :: .blk g9 58 [.slice A10 (([([97, 110, 110], [115, 51])]).length) c11, In 3, .iface 85 (.agg #[]), S ([] : List UInt8)] :: .blk g4 58 [.slice A5 (([([97, 110, 110], [115, 51])]).length) c6, In 2, .iface 85 (.agg #[]), S [97, 110, 110]] :: .row (.slice A14 (([([97, 110, 110], [115, 51])]).length) c15) 40 2 (([([97, 110, 110], [115, 51])]).length) (us ([([97, 110, 110], [115, 51])])) :: .row (.slice A10 (([([97, 110, 110], [115, 51])]).length) c11) 40 2 (([([97, 110, 110], [115, 51])]).length) (us ([([97, 110, 110], [115, 51])])) :: .row (.slice A5 (([([97, 110, 110], [115, 51])]).length) c6) 40 2 (([([97, 110, 110], [115, 51])]).length) (us ([([97, 110, 110], [115, 51])])) :: .blk g1 40 (us [([97, 110, 110], [115, 51])]) :: F) := H
 refine GL_C (c_State 1 (.slice A14 (([([97, 110, 110], [115, 51])]).length) c15) (.iface 86 (.agg #[])) (S ([] : List UInt8)) H) ?_
 rintro _ w21 ⟨rfl, H⟩
 refine GL_s 4 33 [(58, .bool true), (59, Pt g13 0)] fun β => ?_
 replace H : Sep w0 w21 (.blk g13 58 [.slice A14 (([([97, 110, 110], [115, 51])]).length) c15, In 1, .iface 86 (.agg #[]), S ([] : List UInt8)] :: .blk g9 58 [.slice A10 (([([97, 110, 110], [115, 51])]).length) c11, In 3, .iface 85 (.agg #[]), S ([] : List UInt8)] :: .blk g4 58 [.slice A5 (([([97, 110, 110], [115, 51])]).length) c6, In 2, .iface 85 (.agg #[]), S [97, 110, 110]] :: .row (.slice A14 (([([97, 110, 110], [115, 51])]).length) c15) 40 2 (([([97, 110, 110], [115, 51])]).length) (us ([([97, 110, 110], [115, 51])])) :: .row (.slice A10 (([([97, 110, 110], [115, 51])]).length) c11) 40 2 (([([97, 110, 110], [115, 51])]).length) (us ([([97, 110, 110], [115, 51])])) :: .row (.slice A5 (([([97, 110, 110], [115, 51])]).length) c6) 40 2 (([([97, 110, 110], [115, 51])]).length) (us ([([97, 110, 110], [115, 51])])) :: .blk g1 40 (us [([97, 110, 110], [115, 51])]) :: F) := H
 refine GL_C (c_Ask 1 (.slice A14 (([([97, 110, 110], [115, 51])]).length) c15) (S ([] : List UInt8)) Stp.login (by trivial) H) ?_
 rintro _ w22 ⟨rfl, H⟩
 replace H : Sep w0 w22 (.blk g13 58 [.slice A14 (([([97, 110, 110], [115, 51])]).length) c15, In 1, .iface 86 (.agg #[]), S ([] : List UInt8)] :: .blk g9 58 [.slice A10 (([([97, 110, 110], [115, 51])]).length) c11, In 3, .iface 85 (.agg #[]), S ([] : List UInt8)] :: .blk g4 58 [.slice A5 (([([97, 110, 110], [115, 51])]).length) c6, In 2, .iface 85 (.agg #[]), S [97, 110, 110]] :: .row (.slice A14 (([([97, 110, 110], [115, 51])]).length) c15) 40 2 (([([97, 110, 110], [115, 51])]).length) (us ([([97, 110, 110], [115, 51])])) :: .row (.slice A10 (([([97, 110, 110], [115, 51])]).length) c11) 40 2 (([([97, 110, 110], [115, 51])]).length) (us ([([97, 110, 110], [115, 51])])) :: .row (.slice A5 (([([97, 110, 110], [115, 51])]).length) c6) 40 2 (([([97, 110, 110], [115, 51])]).length) (us ([([97, 110, 110], [115, 51])])) :: .blk g1 40 (us [([97, 110, 110], [115, 51])]) :: F) := H
 refine GL_C (c_line [85, 115, 101, 114, 110, 97, 109, 101, 58] (by first | omega | decide) H) ?_
 rintro _ w23 ⟨rfl, H⟩
 refine GL_V (R_streqT (t := 9) (l := (enc [85, 115, 101, 114, 110, 97, 109, 101, 58])) (m := (enc [85, 115, 101, 114, 110, 97, 109, 101, 58])) rfl) ?_
 refine GL_st 2 38 [(0, .bool true)] fun β => ?_
 refine G_ret ?_
 refine res1 (v := .bool true) rfl (by kernel_rfl) ?_
 replace H := H.drop 6
 replace H := H.drop 5
 replace H := H.drop 4
 replace H := H.drop 3
 replace H := H.drop 2
 replace H := H.drop 1
 replace H := H.drop 0
 replace H : Sep w0 w23 (F) := H
 exact ⟨rfl, H⟩
theorem c_AnswerE {w0 w : World} {F : List Chunk} (T : List UInt32) (hT : T.length = 64) (gT : Gl w0 0 (u32s T)) (R : List UInt8) (hR : R.length = 16) (gR : Gl w0 1 (bs R)) (n : Nat) (s : Stp) (hs : s.fits) (nm y : List UInt8) (hy : y.length ≤ 68719476736) (l : List Str2) (hl : l.length ≤ 1099511627776) (hU : ∀ u ∈ l, u.1.length ≤ 549755813888 ∧ u.2.length ≤ 549755813888) {g c : Nat} {A : Option Addr} (H : Sep w0 w (.blk g 58 [.slice A l.length c, In n, s.v, S nm] :: .row (.slice A l.length c) 40 2 l.length (us l) :: F)) {e2 n2 : Nat} {s2 : Stp} {nm2 : List UInt8} (he : (ansF T R l n s nm y) = (e2, n2, s2, nm2)) : Ret Tryd.prog 13 #[.pointer (some ⟨g, 0, none⟩), S y] w (fun v w' => v = .int .i64 (e2 : Int) ∧ Sep w0 w' (.blk g 58 [.slice A l.length c, In n2, s2.v, S nm2] :: .row (.slice A l.length c) 40 2 l.length (us l) :: F)) := by
  have := c_Answer T hT gT R hR gR n s hs nm y hy l hl hU H
  rw [he] at this; exact this
end Go.Proofs.YtadiljnfkbbmcaaDoor
