-- printed by gw.py (my own program), checked by Lean
import Derived.Test.YtadiljnfkbbmcaaD6
set_option linter.unusedVariables false
set_option linter.unusedSimpArgs false
set_option maxRecDepth 100000
set_option maxHeartbeats 400000
namespace Go.Proofs.Ytadiljnfkbbmcaa
open Go.Kw Go.RowKit

theorem begin_plain {T : List UInt32} {R : List UInt8} {l : List Str2} {a b : List UInt8} (ha : (0 : UInt8) ∉ a) (hb : (0 : UInt8) ∉ b) (hp : pairF l a b = true) :
    readF T R l 1 .plain [] (if enc ((([0] ++ a) ++ [0]) ++ b) = [61] then [] else enc ((([0] ++ a) ++ [0]) ++ b)) = (0, 2, .plain, a) := by
  have h61 : ¬ enc ((([0] ++ a) ++ [0]) ++ b) = [61] := by
    intro h
    have := congrArg List.length h
    rw [enc_len] at this
    simp only [List.length_cons, List.length_nil] at this
    omega
  rw [if_neg h61]
  unfold readF
  rw [dec_enc]
  simp only [takeF, plF_app ha hb, ne_eq, not_true_eq_false, if_false, hp, if_true]
theorem pair_last (l : List Str2) (a b : List UInt8) : pairF (l ++ [(a, b)]) a b = true := by simp [pairF]
theorem cr_last (T : List UInt32) (R : List UInt8) (l : List Str2) (a b st : List UInt8) : crP T R (l ++ [(a, b)]) st a (dgF T R b st) = true := by simp [crP]
/-- (*posthorn/sasl.sided).First -/
theorem c_First_true (nm sec : List UInt8) (nx : Value) (hn : nm.length ≤ 4294967296) (hs : sec.length ≤ 4294967296) {g : Nat} {w0 w : World} {F : List Chunk} (H : Sep w0 w (.blk g 78 [S nm, S sec, nx, .bool true] :: F)) : Ret Try.prog 113 #[Pt g 0] w (fun v w' => ∃ q, q = enc ((([0] ++ nm) ++ [0]) ++ sec) ∧ q.length ≤ 34359738368 ∧ v = .tuple #[S q, .bool true] ∧ Sep w0 w' (.blk g 78 [S nm, S sec, nx, .bool true] :: F)) := by
 refine Ret_enter (args := [Pt g 0]) Try.func113 rfl (by kernel_rfl) ?_
 refine G_forget [(0, Pt g 0)] (by kernel_rfl) (fun β => ?_)
 refine G_sr ?_
 refine GL_st 2 2 [(0, Pt g 0)] fun β => ?_
 refine G_seq ?_
 refine G_sr ?_
 refine GL_s 3 3 [(0, Pt g 0), (6, Pt g 3)] fun β => ?_
 refine GL_V (run_load1 (t := 4) (by kernel_rfl) ((H.blk_cell (i := 0) rfl 3).trans rfl)) ?_
 refine GL_st 1 5 [(0, Pt g 0), (8, .bool false)] fun β => ?_
 refine G_false (by kernel_rfl) ?_
 refine G_skip ?_
 refine thn_normal ?_
 refine G_seq ?_
 refine G_drawS (fun w => w.cell? ⟨g, 0, none⟩ = some (S nm) ∧ w.cell? ⟨g, 1, none⟩ = some (S sec) ∧ True) 19 19 (by kernel_rfl) (by kernel_rfl) H (fun w1 H => ?_)
 refine HL_takes [0, 1, 2, 3, 4] [(0, Pt g 0), (13, Pt g 0)] (mkL 19 [0, 1, 2, 3, 4]) 14 (by kernel_rfl) rfl (by kernel_rfl) (fun _ => by kernel_rfl) ⟨((H.blk_cell (i := 0) rfl 0).trans rfl), ((H.blk_cell (i := 0) rfl 1).trans rfl), trivial⟩ (fun β => ?_)
 refine HL_t (i := 5) (m := 13) (fun w hS => run_load1 (t := 9) (by kernel_rfl) hS.1) rfl (by kernel_rfl) (by kernel_rfl) (by kernel_rfl) (by kernel_rfl) (by kernel_rfl) (by kernel_rfl) ⟨((H.blk_cell (i := 0) rfl 0).trans rfl), ((H.blk_cell (i := 0) rfl 1).trans rfl), trivial⟩ rfl ?_
 refine HL_t (i := 6) (m := 12) (fun w _ => (R_cat (t := 9) (l := [0]) (m := nm) (by (try simp only [List.length_append, List.length_cons, List.length_nil]); omega))) rfl (by kernel_rfl) (by kernel_rfl) (by kernel_rfl) (by kernel_rfl) (by kernel_rfl) (by kernel_rfl) ⟨((H.blk_cell (i := 0) rfl 0).trans rfl), ((H.blk_cell (i := 0) rfl 1).trans rfl), trivial⟩ rfl ?_
 refine HL_t (i := 7) (m := 11) (fun w _ => (R_cat (t := 9) (l := ([0] ++ nm)) (m := [0]) (by (try simp only [List.length_append, List.length_cons, List.length_nil]); omega))) rfl (by kernel_rfl) (by kernel_rfl) (by kernel_rfl) (by kernel_rfl) (by kernel_rfl) (by kernel_rfl) ⟨((H.blk_cell (i := 0) rfl 0).trans rfl), ((H.blk_cell (i := 0) rfl 1).trans rfl), trivial⟩ rfl ?_
 refine HL_takes [8, 9, 10, 11, 12] [(16, S (([0] ++ nm) ++ [0])), (21, Pt g 1)] (mkL 19 [0, 1, 2, 3, 4, 5, 6, 7, 8, 9, 10, 11, 12]) 6 (by kernel_rfl) rfl (by kernel_rfl) (fun _ => by kernel_rfl) ⟨((H.blk_cell (i := 0) rfl 0).trans rfl), ((H.blk_cell (i := 0) rfl 1).trans rfl), trivial⟩ (fun β => ?_)
 refine HL_t (i := 13) (m := 5) (fun w hS => run_load1 (t := 9) (by kernel_rfl) hS.2.1) rfl (by kernel_rfl) (by kernel_rfl) (by kernel_rfl) (by kernel_rfl) (by kernel_rfl) (by kernel_rfl) ⟨((H.blk_cell (i := 0) rfl 0).trans rfl), ((H.blk_cell (i := 0) rfl 1).trans rfl), trivial⟩ rfl ?_
 refine HL_t (i := 14) (m := 4) (fun w _ => (R_cat (t := 9) (l := (([0] ++ nm) ++ [0])) (m := sec) (by (try simp only [List.length_append, List.length_cons, List.length_nil]); omega))) rfl (by kernel_rfl) (by kernel_rfl) (by kernel_rfl) (by kernel_rfl) (by kernel_rfl) (by kernel_rfl) ⟨((H.blk_cell (i := 0) rfl 0).trans rfl), ((H.blk_cell (i := 0) rfl 1).trans rfl), trivial⟩ rfl ?_
 obtain ⟨q, hq⟩ : ∃ q, q = (([0] ++ nm) ++ [0]) ++ sec := ⟨_, rfl⟩
 rw [← hq]
 have hql : q.length = nm.length + sec.length + 2 := by rw [hq]; simp only [List.length_append, List.length_cons, List.length_nil]; omega
 obtain ⟨A2, c3, w4, hr5, H⟩ := R_conv_sb (P := Try.prog) (s := 9) (t := 71) (e := 5) (u := .string) (l := q) H (by kernel_rfl) (by kernel_rfl) (by kernel_rfl) (by unfold maxLen; omega)
 replace H : Sep w0 w4 (.row (.slice A2 q.length c3) 5 1 q.length (bs q) :: .blk g 78 [S nm, S sec, nx, .bool true] :: F) := H
 refine HL_v (i := 15) hr5 rfl (by kernel_rfl) (by kernel_rfl) (by kernel_rfl) (by kernel_rfl) (.inr ⟨((H.blk_cell (i := 1) rfl 0).trans rfl), ((H.blk_cell (i := 1) rfl 1).trans rfl), trivial⟩) ?_
 refine HL_call (i := 16) (f := 30) (args := #[.slice A2 q.length c3]) rfl (by kernel_rfl) (by kernel_rfl) (by kernel_rfl) (by kernel_rfl) (c_Base64 (l := q) (hl := by omega) (R := (Rd.of_row H (i := 0) rfl)) (H := H)) ?_
 rintro _ w6 ⟨rfl, H⟩
 refine ⟨(.inr ⟨((H.blk_cell (i := 1) rfl 0).trans rfl), ((H.blk_cell (i := 1) rfl 1).trans rfl), trivial⟩), ?_⟩
 refine HL_takes [17, 18] [(2, S (enc q)), (3, .bool true)] (mkL 19 [0, 1, 2, 3, 4, 5, 6, 7, 8, 9, 10, 11, 12, 13, 14, 15, 16, 17, 18]) 0 (by kernel_rfl) rfl (by kernel_rfl) (fun _ => by kernel_rfl) ⟨((H.blk_cell (i := 1) rfl 0).trans rfl), ((H.blk_cell (i := 1) rfl 1).trans rfl), trivial⟩ (fun β => ?_)
 refine HL_forget [(2, S (enc q)), (3, .bool true)] (by kernel_rfl) (fun β => ?_)
 refine HL_fin (by kernel_rfl) ?_
 refine thn_normal ?_
 refine G_ret ?_
 refine res2 (v := S (enc q)) (x := .bool true) rfl (by kernel_rfl) (by kernel_rfl) ?_
 replace H := H.drop 0
 replace H : Sep w0 w6 (.blk g 78 [S nm, S sec, nx, .bool true] :: F) := H
 have HF := H
 refine ⟨enc q, by rw [hq], by rw [enc_len]; omega, rfl, HF⟩
/-- (*posthorn/sasl.sided).First -/
theorem c_First_false (nm sec : List UInt8) (nx : Value) {g : Nat} {w0 w : World} {F : List Chunk} (H : Sep w0 w (.blk g 78 [S nm, S sec, nx, .bool false] :: F)) : Ret Try.prog 113 #[Pt g 0] w (fun v w' => v = .tuple #[S [], .bool false] ∧ Sep w0 w' (.blk g 78 [S nm, S sec, nx, .bool false] :: F)) := by
 refine Ret_enter (args := [Pt g 0]) Try.func113 rfl (by kernel_rfl) ?_
 refine G_forget [(0, Pt g 0)] (by kernel_rfl) (fun β => ?_)
 refine G_sr ?_
 refine GL_st 2 2 [(0, Pt g 0)] fun β => ?_
 refine G_seq ?_
 refine G_sr ?_
 refine GL_s 3 3 [(0, Pt g 0), (6, Pt g 3)] fun β => ?_
 refine GL_V (run_load1 (t := 4) (by kernel_rfl) ((H.blk_cell (i := 0) rfl 3).trans rfl)) ?_
 refine GL_st 1 5 [(0, Pt g 0), (8, .bool true)] fun β => ?_
 refine G_true (by kernel_rfl) ?_
 refine G_sr ?_
 refine GL_st 2 2 [(2, S ([] : List UInt8)), (3, .bool false)] fun β => ?_
 refine G_ret ?_
 refine thn_ret (res2 (v := S ([] : List UInt8)) (x := .bool false) rfl (by kernel_rfl) (by kernel_rfl) ?_)
 exact ⟨rfl, H⟩
/-- posthorn/posthornlaw22.talk -/
theorem c_talk_done (v1 v3 v4 r : Value) {g : Nat} {w0 w : World} {F : List Chunk} (H : Sep w0 w (.blk g 60 [v1, In 2, v3, v4] :: F)) : Ret Try.prog 22 #[Pt g 0, r] w (fun v w' => v = .bool true ∧ Sep w0 w' (.blk g 60 [v1, In 2, v3, v4] :: F)) := by
 refine Ret_enter (args := [Pt g 0, r]) Try.func22 rfl (by kernel_rfl) ?_
 refine G_forget [(0, Pt g 0), (1, r)] (by kernel_rfl) (fun β => ?_)
 refine G_sr ?_
 refine GL_st 1 1 [(0, Pt g 0), (1, r)] fun β => ?_
 refine G_seq ?_
 refine G_sr ?_
 refine GL_st 1 1 [(0, Pt g 0), (1, r), (7, In 0)] fun β => ?_
 refine G_block ?_
 refine G_un 2 ?_
 refine GU_step ?_
 refine G_forget [(0, Pt g 0), (1, r), (7, In 0)] (by kernel_rfl) (fun β => ?_)
 refine G_sr ?_
 refine GL_st 1 1 [(0, Pt g 0), (1, r), (7, In 0), (8, .bool true)] fun β => ?_
 refine G_seq ?_
 refine G_true (by kernel_rfl) ?_
 refine G_skip ?_
 refine thn_normal ?_
 refine G_seq ?_
 refine G_block ?_
 refine G_seq ?_
 refine G_sr ?_
 refine GL_s 1 1 [(0, Pt g 0), (1, r), (7, In 0), (9, Pt g 0)] fun β => ?_
 replace H : Sep w0 w (.blk g 60 [v1, In 2, v3, v4] :: F) := H
 refine GL_C (c_State 2 v1 v3 v4 H) ?_
 rintro _ w1 ⟨rfl, H⟩
 refine GL_st 1 3 [(0, Pt g 0), (1, r), (7, In 0), (11, .bool true)] fun β => ?_
 refine G_true (by kernel_rfl) ?_
 refine G_sr ?_
 refine GL_st 1 1 [(4, .bool true)] fun β => ?_
 refine G_ret ?_
 refine thn_ret (inb_ret (thn_ret (thn_ret (inb_ret (thn_ret (res1 (v := .bool true) rfl (by kernel_rfl) ?_))))))
 exact ⟨rfl, H⟩
/-- posthorn/posthornlaw22.SaslBoth -/
theorem c_Both_false {w0 w : World} {F : List Chunk} (T : List UInt32) (hT : T.length = 64) (gT : Gl w0 1 (u32s T)) (R : List UInt8) (hR : R.length = 16) (gR : Gl w0 2 (bs R)) (l : List Str2) (hl : l.length ≤ 16777216) (hU : ∀ u ∈ l, u.1.length ≤ 549755813888 ∧ u.2.length ≤ 549755813888) (nm sec stamp : List UInt8) (hnm : nm.length ≤ 16777216) (hsec : sec.length ≤ 16777216) (hstamp : stamp.length ≤ 16777216) (hy : may2 nm sec = false) {B : Option Addr} {d : Nat} (RU : Rd w0 F (.slice B l.length d) 2 l.length (us l)) (H : Sep w0 w F) : Ret Try.prog 4 #[.slice B l.length d, .agg #[S nm, S sec], S stamp] w (fun v w' => v = .bool true ∧ Sep w0 w' F) := by
 refine Ret_enter (args := [.slice B l.length d, .agg #[S nm, S sec], S stamp]) Try.func4 rfl (by kernel_rfl) ?_
 refine G_forget [(0, .slice B l.length d), (1, .agg #[S nm, S sec]), (2, S stamp)] (by kernel_rfl) (fun β => ?_)
 refine G_sr ?_
 refine GL_new (V := fun g => Pt g 0) (l := [S nm, S sec]) (t := 39) H rfl (by kernel_rfl) (by kernel_rfl) (by kernel_rfl) (fun g1 w2 H => ?_)
 refine GL_st 1 2 [(0, .slice B l.length d), (2, S stamp), (4, Pt g1 0)] fun β => ?_
 refine G_seq ?_
 refine G_sr ?_
 refine GL_C (c_wakes T hT gT R hR gR H) ?_
 rintro _ w3 ⟨rfl, H⟩
 refine GL_st 1 2 [(0, .slice B l.length d), (2, S stamp), (4, Pt g1 0), (19, .bool false)] fun β => ?_
 refine G_false (by kernel_rfl) ?_
 refine G_skip ?_
 refine thn_normal ?_
 refine G_cut (X := (Option Addr) × Nat) (fun ⟨A9, c9⟩ => [(2, S stamp), (4, Pt g1 0), (7, .slice A9 ((l ++ [(nm, sec)]).length) c9)]) (fun ⟨A9, c9⟩ w_ => Sep w0 w_ (.row (.slice A9 ((l ++ [(nm, sec)]).length) c9) 39 2 ((l ++ [(nm, sec)]).length) (us (l ++ [(nm, sec)])) :: .blk g1 39 [S nm, S sec] :: F)) ?_ ?_
 · --each order
  refine G_drawS (fun w => (∀ j u, ([S nm, S sec] : List Value)[j]? = some u → w.cell? ((⟨g1, 0, none⟩ : Addr).add j) = some u) ∧ True) 7 7 (by kernel_rfl) (by kernel_rfl) H (fun w4 H => ?_)
  refine HL_takes [1] [(2, S stamp), (4, Pt g1 0), (21, .slice B l.length d)] (mkL 7 [1]) 6 (by kernel_rfl) rfl (by kernel_rfl) (fun _ => by kernel_rfl) ⟨(H.blk_cells (i := 0) rfl 0 _ ⟨_, rfl⟩), trivial⟩ (fun β => ?_)
  refine HL_t (i := 3) (m := 5) (fun w hS => run_loadN (t := 39) (vs := [S nm, S sec]) (by kernel_rfl) (by kernel_rfl) hS.1) rfl (by kernel_rfl) (by kernel_rfl) (by kernel_rfl) (by kernel_rfl) (by kernel_rfl) (by kernel_rfl) ⟨(H.blk_cells (i := 0) rfl 0 _ ⟨_, rfl⟩), trivial⟩ rfl ?_
  refine HL_of2 (i := 0) (j := 4) (by kernel_rfl) ?_ ?_
  · --first 0
   refine HI_new (i := 0) (V := fun g => .slice (some ⟨g, 0, none⟩) 0 0) (l := []) (t := 39) H rfl (by kernel_rfl) (by kernel_rfl) (by kernel_rfl) (fun g5 w6 H => ?_)
   refine ⟨(.inr ⟨(H.blk_cells (i := 1) rfl 0 _ ⟨_, rfl⟩), trivial⟩), ?_⟩
   refine HL_of2 (i := 2) (j := 4) (by kernel_rfl) ?_ ?_
   · --first 2
    replace H := H.asRow (i := 0) rfl 2 0 rfl (by decide)
    replace H : Sep w0 w6 (.row (.slice (some ⟨g5, 0, none⟩) 0 0) 39 2 0 [] :: .blk g1 39 [S nm, S sec] :: F) := H
    obtain ⟨A7, c8, w9, hr10, H⟩ := R_append (P := Try.prog) (t := 22) (ty := 22) (e := 39) (z := .agg #[S ([] : List UInt8), S ([] : List UInt8)]) (sz := 2) (by_ := 32) H (i := 0) rfl (by kernel_rfl) rfl (Rd.src RU ((H.drop 1).drop 0)) (us_one _) (by unfold maxLen; omega) (by omega)
    replace H : Sep w0 w9 (.row (.slice A7 (0 + l.length) c8) 39 2 (0 + l.length) ([] ++ us l) :: .blk g1 39 [S nm, S sec] :: F) := H
    refine HI_v (i := 2) hr10 rfl (by kernel_rfl) (by kernel_rfl) (by kernel_rfl) (.inr ⟨(H.blk_cells (i := 1) rfl 0 _ ⟨_, rfl⟩), trivial⟩) ?_
    refine HL_new (i := 4) (V := fun g => .slice (some ⟨g, 0, none⟩) 1 1) (l := [S nm, S sec]) (t := 39) H rfl (by kernel_rfl) (by kernel_rfl) (by kernel_rfl) (by kernel_rfl) (fun g11 w12 H => ?_)
    refine ⟨(.inr ⟨(H.blk_cells (i := 2) rfl 0 _ ⟨_, rfl⟩), trivial⟩), ?_⟩
    obtain ⟨A13, c14, w15, hr16, H⟩ := R_append (P := Try.prog) (t := 22) (ty := 22) (e := 39) (z := .agg #[S ([] : List UInt8), S ([] : List UInt8)]) (sz := 2) (by_ := 32) H (i := 1) rfl (by kernel_rfl) rfl (Src.blkp (m := 1) (c := 1) (off := 0) H (i := 0) rfl [S nm, S sec] rfl ⟨_, rfl⟩) (one_list rfl) (by unfold maxLen; omega) (by omega)
    replace H := H.drop 0
    replace H : Sep w0 w15 (.row (.slice A13 ((0 + l.length) + 1) c14) 39 2 ((0 + l.length) + 1) ([] ++ us l ++ [S nm, S sec]) :: .blk g1 39 [S nm, S sec] :: F) := H
    refine HL_v (i := 5) hr16 rfl (by kernel_rfl) (by kernel_rfl) (by kernel_rfl) (by kernel_rfl) (.inr ⟨(H.blk_cells (i := 1) rfl 0 _ ⟨_, rfl⟩), trivial⟩) ?_
    refine HL_takes [6] [(2, S stamp), (4, Pt g1 0), (7, .slice A13 ((0 + l.length) + 1) c14)] (mkL 7 [1, 3, 0, 2, 4, 5, 6]) 0 (by kernel_rfl) rfl (by kernel_rfl) (fun _ => by kernel_rfl) ⟨(H.blk_cells (i := 1) rfl 0 _ ⟨_, rfl⟩), trivial⟩ (fun β => ?_)
    refine HL_forget [(2, S stamp), (4, Pt g1 0), (7, .slice A13 ((0 + l.length) + 1) c14)] (by kernel_rfl) (fun β => ?_)
    refine HL_fin (by kernel_rfl) ?_
    have hn : (0 + l.length) + 1 = (l ++ [(nm, sec)]).length := by simp
    replace H := H.front (i := 1) rfl
    replace H := H.front (i := 1) rfl
    replace H : Sep w0 w15 (.row (.slice A13 ((0 + l.length) + 1) c14) 39 2 ((0 + l.length) + 1) ([] ++ us l ++ [S nm, S sec]) :: .blk g1 39 [S nm, S sec] :: F) := H
    rw [hn] at H ⊢
    replace H : Sep w0 w15 (.row (.slice A13 ((l ++ [(nm, sec)]).length) c14) 39 2 ((l ++ [(nm, sec)]).length) (us (l ++ [(nm, sec)])) :: .blk g1 39 [S nm, S sec] :: F) := by rw [us_append]; exact H
    exact thn_normal ⟨(A13, c14), Agr_of_keys (by kernel_rfl), H⟩
   · --first 4
    refine HI_new (i := 4) (V := fun g => .slice (some ⟨g, 0, none⟩) 1 1) (l := [S nm, S sec]) (t := 39) H rfl (by kernel_rfl) (by kernel_rfl) (by kernel_rfl) (fun g17 w18 H => ?_)
    refine ⟨(.inr ⟨(H.blk_cells (i := 2) rfl 0 _ ⟨_, rfl⟩), trivial⟩), ?_⟩
    replace H := H.asRow (i := 1) rfl 2 0 rfl (by decide)
    replace H : Sep w0 w18 (.blk g17 39 [S nm, S sec] :: .row (.slice (some ⟨g5, 0, none⟩) 0 0) 39 2 0 [] :: .blk g1 39 [S nm, S sec] :: F) := H
    obtain ⟨A19, c20, w21, hr22, H⟩ := R_append (P := Try.prog) (t := 22) (ty := 22) (e := 39) (z := .agg #[S ([] : List UInt8), S ([] : List UInt8)]) (sz := 2) (by_ := 32) H (i := 1) rfl (by kernel_rfl) rfl (Rd.src RU (((H.drop 2).drop 1).drop 0)) (us_one _) (by unfold maxLen; omega) (by omega)
    replace H : Sep w0 w21 (.blk g17 39 [S nm, S sec] :: .row (.slice A19 (0 + l.length) c20) 39 2 (0 + l.length) ([] ++ us l) :: .blk g1 39 [S nm, S sec] :: F) := H
    refine HL_v (i := 2) hr22 rfl (by kernel_rfl) (by kernel_rfl) (by kernel_rfl) (by kernel_rfl) (.inr ⟨(H.blk_cells (i := 2) rfl 0 _ ⟨_, rfl⟩), trivial⟩) ?_
    obtain ⟨A23, c24, w25, hr26, H⟩ := R_append (P := Try.prog) (t := 22) (ty := 22) (e := 39) (z := .agg #[S ([] : List UInt8), S ([] : List UInt8)]) (sz := 2) (by_ := 32) H (i := 1) rfl (by kernel_rfl) rfl (Src.blkp (m := 1) (c := 1) (off := 0) H (i := 0) rfl [S nm, S sec] rfl ⟨_, rfl⟩) (one_list rfl) (by unfold maxLen; omega) (by omega)
    replace H := H.drop 0
    replace H : Sep w0 w25 (.row (.slice A23 ((0 + l.length) + 1) c24) 39 2 ((0 + l.length) + 1) ([] ++ us l ++ [S nm, S sec]) :: .blk g1 39 [S nm, S sec] :: F) := H
    refine HL_v (i := 5) hr26 rfl (by kernel_rfl) (by kernel_rfl) (by kernel_rfl) (by kernel_rfl) (.inr ⟨(H.blk_cells (i := 1) rfl 0 _ ⟨_, rfl⟩), trivial⟩) ?_
    refine HL_takes [6] [(2, S stamp), (4, Pt g1 0), (7, .slice A23 ((0 + l.length) + 1) c24)] (mkL 7 [1, 3, 0, 4, 2, 5, 6]) 0 (by kernel_rfl) rfl (by kernel_rfl) (fun _ => by kernel_rfl) ⟨(H.blk_cells (i := 1) rfl 0 _ ⟨_, rfl⟩), trivial⟩ (fun β => ?_)
    refine HL_forget [(2, S stamp), (4, Pt g1 0), (7, .slice A23 ((0 + l.length) + 1) c24)] (by kernel_rfl) (fun β => ?_)
    refine HL_fin (by kernel_rfl) ?_
    have hn : (0 + l.length) + 1 = (l ++ [(nm, sec)]).length := by simp
    replace H := H.front (i := 1) rfl
    replace H := H.front (i := 1) rfl
    replace H : Sep w0 w25 (.row (.slice A23 ((0 + l.length) + 1) c24) 39 2 ((0 + l.length) + 1) ([] ++ us l ++ [S nm, S sec]) :: .blk g1 39 [S nm, S sec] :: F) := H
    rw [hn] at H ⊢
    replace H : Sep w0 w25 (.row (.slice A23 ((l ++ [(nm, sec)]).length) c24) 39 2 ((l ++ [(nm, sec)]).length) (us (l ++ [(nm, sec)])) :: .blk g1 39 [S nm, S sec] :: F) := by rw [us_append]; exact H
    exact thn_normal ⟨(A23, c24), Agr_of_keys (by kernel_rfl), H⟩
  · --first 4
   refine HI_new (i := 4) (V := fun g => .slice (some ⟨g, 0, none⟩) 1 1) (l := [S nm, S sec]) (t := 39) H rfl (by kernel_rfl) (by kernel_rfl) (by kernel_rfl) (fun g27 w28 H => ?_)
   refine ⟨(.inr ⟨(H.blk_cells (i := 1) rfl 0 _ ⟨_, rfl⟩), trivial⟩), ?_⟩
   refine HL_new (i := 0) (V := fun g => .slice (some ⟨g, 0, none⟩) 0 0) (l := []) (t := 39) H rfl (by kernel_rfl) (by kernel_rfl) (by kernel_rfl) (by kernel_rfl) (fun g29 w30 H => ?_)
   refine ⟨(.inr ⟨(H.blk_cells (i := 2) rfl 0 _ ⟨_, rfl⟩), trivial⟩), ?_⟩
   replace H := H.asRow (i := 0) rfl 2 0 rfl (by decide)
   replace H : Sep w0 w30 (.row (.slice (some ⟨g29, 0, none⟩) 0 0) 39 2 0 [] :: .blk g27 39 [S nm, S sec] :: .blk g1 39 [S nm, S sec] :: F) := H
   obtain ⟨A31, c32, w33, hr34, H⟩ := R_append (P := Try.prog) (t := 22) (ty := 22) (e := 39) (z := .agg #[S ([] : List UInt8), S ([] : List UInt8)]) (sz := 2) (by_ := 32) H (i := 0) rfl (by kernel_rfl) rfl (Rd.src RU (((H.drop 2).drop 1).drop 0)) (us_one _) (by unfold maxLen; omega) (by omega)
   replace H : Sep w0 w33 (.row (.slice A31 (0 + l.length) c32) 39 2 (0 + l.length) ([] ++ us l) :: .blk g27 39 [S nm, S sec] :: .blk g1 39 [S nm, S sec] :: F) := H
   refine HL_v (i := 2) hr34 rfl (by kernel_rfl) (by kernel_rfl) (by kernel_rfl) (by kernel_rfl) (.inr ⟨(H.blk_cells (i := 2) rfl 0 _ ⟨_, rfl⟩), trivial⟩) ?_
   obtain ⟨A35, c36, w37, hr38, H⟩ := R_append (P := Try.prog) (t := 22) (ty := 22) (e := 39) (z := .agg #[S ([] : List UInt8), S ([] : List UInt8)]) (sz := 2) (by_ := 32) H (i := 0) rfl (by kernel_rfl) rfl (Src.blkp (m := 1) (c := 1) (off := 0) H (i := 1) rfl [S nm, S sec] rfl ⟨_, rfl⟩) (one_list rfl) (by unfold maxLen; omega) (by omega)
   replace H := H.drop 1
   replace H : Sep w0 w37 (.row (.slice A35 ((0 + l.length) + 1) c36) 39 2 ((0 + l.length) + 1) ([] ++ us l ++ [S nm, S sec]) :: .blk g1 39 [S nm, S sec] :: F) := H
   refine HL_v (i := 5) hr38 rfl (by kernel_rfl) (by kernel_rfl) (by kernel_rfl) (by kernel_rfl) (.inr ⟨(H.blk_cells (i := 1) rfl 0 _ ⟨_, rfl⟩), trivial⟩) ?_
   refine HL_takes [6] [(2, S stamp), (4, Pt g1 0), (7, .slice A35 ((0 + l.length) + 1) c36)] (mkL 7 [1, 3, 4, 0, 2, 5, 6]) 0 (by kernel_rfl) rfl (by kernel_rfl) (fun _ => by kernel_rfl) ⟨(H.blk_cells (i := 1) rfl 0 _ ⟨_, rfl⟩), trivial⟩ (fun β => ?_)
   refine HL_forget [(2, S stamp), (4, Pt g1 0), (7, .slice A35 ((0 + l.length) + 1) c36)] (by kernel_rfl) (fun β => ?_)
   refine HL_fin (by kernel_rfl) ?_
   have hn : (0 + l.length) + 1 = (l ++ [(nm, sec)]).length := by simp
   replace H := H.front (i := 1) rfl
   replace H := H.front (i := 1) rfl
   replace H : Sep w0 w37 (.row (.slice A35 ((0 + l.length) + 1) c36) 39 2 ((0 + l.length) + 1) ([] ++ us l ++ [S nm, S sec]) :: .blk g1 39 [S nm, S sec] :: F) := H
   rw [hn] at H ⊢
   replace H : Sep w0 w37 (.row (.slice A35 ((l ++ [(nm, sec)]).length) c36) 39 2 ((l ++ [(nm, sec)]).length) (us (l ++ [(nm, sec)])) :: .blk g1 39 [S nm, S sec] :: F) := by rw [us_append]; exact H
   exact thn_normal ⟨(A35, c36), Agr_of_keys (by kernel_rfl), H⟩
 rintro ⟨A9, c9⟩ β w39 H
 replace H : Sep w0 w39 (.row (.slice A9 ((l ++ [(nm, sec)]).length) c9) 39 2 ((l ++ [(nm, sec)]).length) (us (l ++ [(nm, sec)])) :: .blk g1 39 [S nm, S sec] :: F) := H
 refine G_forget [(2, S stamp), (4, Pt g1 0), (7, .slice A9 ((l ++ [(nm, sec)]).length) c9)] (by kernel_rfl) (fun β => ?_)
 refine G_seq ?_
 obtain ⟨L, hL⟩ : ∃ L, L = l ++ [(nm, sec)] := ⟨_, rfl⟩
 have hLl : L.length = l.length + 1 := by rw [hL]; simp
 rw [← hL] at H
 replace H : Sep w0 w39 (.row (.slice A9 L.length c9) 39 2 L.length (us L) :: .blk g1 39 [S nm, S sec] :: F) := H
 refine G_re [(2, S stamp), (4, Pt g1 0), (7, .slice A9 L.length c9)] (show ([S stamp, Pt g1 0, .slice A9 ((l ++ [(nm, sec)]).length) c9] : List Value) = [S stamp, Pt g1 0, .slice A9 L.length c9] by rw [← hL]) (fun β => ?_)
 have hU : ∀ u ∈ L, u.1.length ≤ 549755813888 ∧ u.2.length ≤ 549755813888 := by
   intro u hu; rw [hL, List.mem_append, List.mem_singleton] at hu; rcases hu with hu | rfl
   · exact hU u hu
   · constructor <;> (dsimp only; omega)
 have hp1 : pairF L nm sec = true := by rw [hL]; exact pair_last _ _ _
 have hc1 : crP T R L stamp nm (dgF T R sec stamp) = true := by rw [hL]; exact cr_last _ _ _ _ _ _
 replace H := H.front (i := 1) rfl
 replace H := H.front (i := 1) rfl
 replace H : Sep w0 w39 (.row (.slice A9 L.length c9) 39 2 L.length (us L) :: .blk g1 39 [S nm, S sec] :: F) := H
 refine G_sr ?_
 refine GL_C (c_Mechs H) ?_
 rintro _ w41 ⟨g40, rfl, H⟩
 replace H : Sep w0 w41 (.blk g40 9 [S [80, 76, 65, 73, 78], S [76, 79, 71, 73, 78], S [67, 82, 65, 77, 45, 77, 68, 53]] :: .row (.slice A9 L.length c9) 39 2 L.length (us L) :: .blk g1 39 [S nm, S sec] :: F) := H
 refine GL_st 2 3 [(2, S stamp), (4, Pt g1 0), (7, .slice A9 L.length c9), (26, .slice (some ⟨g40, 0, none⟩) 3 3), (27, In 3), (28, In 0)] fun β => ?_
 refine G_block ?_
 refine G_un 4 ?_
 refine GU_step ?_
 refine G_forget [(2, S stamp), (4, Pt g1 0), (7, .slice A9 L.length c9), (26, .slice (some ⟨g40, 0, none⟩) 3 3), (27, In 3), (28, In 0)] (by kernel_rfl) (fun β => ?_)
 replace H := H.front (i := 2) rfl
 replace H := H.front (i := 2) rfl
 replace H := H.front (i := 2) rfl
 replace H : Sep w0 w41 (.blk g40 9 [S [80, 76, 65, 73, 78], S [76, 79, 71, 73, 78], S [67, 82, 65, 77, 45, 77, 68, 53]] :: .row (.slice A9 L.length c9) 39 2 L.length (us L) :: .blk g1 39 [S nm, S sec] :: F) := H
 refine G_sr ?_
 refine GL_st 1 1 [(2, S stamp), (4, Pt g1 0), (7, .slice A9 L.length c9), (26, .slice (some ⟨g40, 0, none⟩) 3 3), (27, In 3), (28, In 0), (29, .bool true)] fun β => ?_
 refine G_seq ?_
 refine G_true (by kernel_rfl) ?_
 refine G_skip ?_
 refine thn_normal ?_
 refine G_seq ?_
 refine G_block ?_
 refine G_sr ?_
 refine GL_s 1 1 [(2, S stamp), (4, Pt g1 0), (7, .slice A9 L.length c9), (26, .slice (some ⟨g40, 0, none⟩) 3 3), (27, In 3), (28, In 0), (30, Pt g40 0)] fun β => ?_
 refine GL_V (run_load1 (t := 9) (by kernel_rfl) ((H.blk_cell (i := 0) rfl 0).trans rfl)) ?_
 refine GL_st 1 3 [(2, S stamp), (4, Pt g1 0), (7, .slice A9 L.length c9), (9, S [80, 76, 65, 73, 78]), (26, .slice (some ⟨g40, 0, none⟩) 3 3), (27, In 3), (28, In 0)] fun β => ?_
 refine G_sr ?_
 refine GL_V (run_loadN (t := 39) (vs := [S nm, S sec]) (by kernel_rfl) (by kernel_rfl) (H.blk_cells (i := 2) rfl 0 _ ⟨_, rfl⟩)) ?_
 refine GL_s 1 2 [(2, S stamp), (4, Pt g1 0), (7, .slice A9 L.length c9), (9, S [80, 76, 65, 73, 78]), (26, .slice (some ⟨g40, 0, none⟩) 3 3), (27, In 3), (28, In 0), (33, .agg #[S nm, S sec]), (34, S [80, 76, 65, 73, 78])] fun β => ?_
 refine GL_C (c_RespondNo_plain nm sec [80, 76, 65, 73, 78] (by omega) (by omega) (by first | omega | decide) (by decide) hy H) ?_
 rintro _ w42 ⟨rfl, H⟩
 refine GL_st 5 8 [(2, S stamp), (4, Pt g1 0), (7, .slice A9 L.length c9), (9, S [80, 76, 65, 73, 78]), (10, .nilIface), (11, In 2), (26, .slice (some ⟨g40, 0, none⟩) 3 3), (27, In 3), (28, In 0)] fun β => ?_
 refine G_seq ?_
 refine G_sr ?_
 refine GL_V (run_loadN (t := 39) (vs := [S nm, S sec]) (by kernel_rfl) (by kernel_rfl) (H.blk_cells (i := 2) rfl 0 _ ⟨_, rfl⟩)) ?_
 refine GL_C (c_lmay nm sec (by omega) (by omega) H) ?_
 rintro _ w43 ⟨rfl, H⟩
 rw [may_eq, hy]
 refine GL_st 1 3 [(2, S stamp), (4, Pt g1 0), (7, .slice A9 L.length c9), (9, S [80, 76, 65, 73, 78]), (10, .nilIface), (11, In 2), (26, .slice (some ⟨g40, 0, none⟩) 3 3), (27, In 3), (28, In 0), (40, .bool true)] fun β => ?_
 refine G_true (by kernel_rfl) ?_
 refine G_seq ?_
 refine G_sr ?_
 refine GL_st 2 2 [(2, S stamp), (4, Pt g1 0), (7, .slice A9 L.length c9), (26, .slice (some ⟨g40, 0, none⟩) 3 3), (27, In 3), (28, In 0), (42, .bool false)] fun β => ?_
 refine G_false (by kernel_rfl) ?_
 refine G_skip ?_
 refine thn_normal ?_
 refine G_exit (thn_exit (inb_hit ?_))
 refine thn_normal ?_
 refine G_region ?_
 refine GL_st 2 2 [(2, S stamp), (4, Pt g1 0), (7, .slice A9 L.length c9), (26, .slice (some ⟨g40, 0, none⟩) 3 3), (27, In 3), (28, In 1)] fun β => ?_
 refine GU_step ?_
 refine G_forget [(2, S stamp), (4, Pt g1 0), (7, .slice A9 L.length c9), (26, .slice (some ⟨g40, 0, none⟩) 3 3), (27, In 3), (28, In 1)] (by kernel_rfl) (fun β => ?_)
 replace H := H.front (i := 2) rfl
 replace H := H.front (i := 2) rfl
 replace H := H.front (i := 2) rfl
 replace H : Sep w0 w43 (.blk g40 9 [S [80, 76, 65, 73, 78], S [76, 79, 71, 73, 78], S [67, 82, 65, 77, 45, 77, 68, 53]] :: .row (.slice A9 L.length c9) 39 2 L.length (us L) :: .blk g1 39 [S nm, S sec] :: F) := H
 refine G_sr ?_
 refine GL_st 1 1 [(2, S stamp), (4, Pt g1 0), (7, .slice A9 L.length c9), (26, .slice (some ⟨g40, 0, none⟩) 3 3), (27, In 3), (28, In 1), (29, .bool true)] fun β => ?_
 refine G_seq ?_
 refine G_true (by kernel_rfl) ?_
 refine G_skip ?_
 refine thn_normal ?_
 refine G_seq ?_
 refine G_block ?_
 refine G_sr ?_
 refine GL_s 1 1 [(2, S stamp), (4, Pt g1 0), (7, .slice A9 L.length c9), (26, .slice (some ⟨g40, 0, none⟩) 3 3), (27, In 3), (28, In 1), (30, Pt g40 1)] fun β => ?_
 refine GL_V (run_load1 (t := 9) (by kernel_rfl) ((H.blk_cell (i := 0) rfl 1).trans rfl)) ?_
 refine GL_st 1 3 [(2, S stamp), (4, Pt g1 0), (7, .slice A9 L.length c9), (9, S [76, 79, 71, 73, 78]), (26, .slice (some ⟨g40, 0, none⟩) 3 3), (27, In 3), (28, In 1)] fun β => ?_
 refine G_sr ?_
 refine GL_V (run_loadN (t := 39) (vs := [S nm, S sec]) (by kernel_rfl) (by kernel_rfl) (H.blk_cells (i := 2) rfl 0 _ ⟨_, rfl⟩)) ?_
 refine GL_s 1 2 [(2, S stamp), (4, Pt g1 0), (7, .slice A9 L.length c9), (9, S [76, 79, 71, 73, 78]), (26, .slice (some ⟨g40, 0, none⟩) 3 3), (27, In 3), (28, In 1), (33, .agg #[S nm, S sec]), (34, S [76, 79, 71, 73, 78])] fun β => ?_
 refine GL_C (c_RespondNo_login nm sec [76, 79, 71, 73, 78] (by omega) (by omega) (by first | omega | decide) (by decide) hy H) ?_
 rintro _ w44 ⟨rfl, H⟩
 refine GL_st 5 8 [(2, S stamp), (4, Pt g1 0), (7, .slice A9 L.length c9), (9, S [76, 79, 71, 73, 78]), (10, .nilIface), (11, In 2), (26, .slice (some ⟨g40, 0, none⟩) 3 3), (27, In 3), (28, In 1)] fun β => ?_
 refine G_seq ?_
 refine G_sr ?_
 refine GL_V (run_loadN (t := 39) (vs := [S nm, S sec]) (by kernel_rfl) (by kernel_rfl) (H.blk_cells (i := 2) rfl 0 _ ⟨_, rfl⟩)) ?_
 refine GL_C (c_lmay nm sec (by omega) (by omega) H) ?_
 rintro _ w45 ⟨rfl, H⟩
 rw [may_eq, hy]
 refine GL_st 1 3 [(2, S stamp), (4, Pt g1 0), (7, .slice A9 L.length c9), (9, S [76, 79, 71, 73, 78]), (10, .nilIface), (11, In 2), (26, .slice (some ⟨g40, 0, none⟩) 3 3), (27, In 3), (28, In 1), (40, .bool true)] fun β => ?_
 refine G_true (by kernel_rfl) ?_
 refine G_seq ?_
 refine G_sr ?_
 refine GL_st 2 2 [(2, S stamp), (4, Pt g1 0), (7, .slice A9 L.length c9), (26, .slice (some ⟨g40, 0, none⟩) 3 3), (27, In 3), (28, In 1), (42, .bool false)] fun β => ?_
 refine G_false (by kernel_rfl) ?_
 refine G_skip ?_
 refine thn_normal ?_
 refine G_exit (thn_exit (inb_hit ?_))
 refine thn_normal ?_
 refine G_region ?_
 refine GL_st 2 2 [(2, S stamp), (4, Pt g1 0), (7, .slice A9 L.length c9), (26, .slice (some ⟨g40, 0, none⟩) 3 3), (27, In 3), (28, In 2)] fun β => ?_
 refine GU_step ?_
 refine G_forget [(2, S stamp), (4, Pt g1 0), (7, .slice A9 L.length c9), (26, .slice (some ⟨g40, 0, none⟩) 3 3), (27, In 3), (28, In 2)] (by kernel_rfl) (fun β => ?_)
 replace H := H.front (i := 2) rfl
 replace H := H.front (i := 2) rfl
 replace H := H.front (i := 2) rfl
 replace H : Sep w0 w45 (.blk g40 9 [S [80, 76, 65, 73, 78], S [76, 79, 71, 73, 78], S [67, 82, 65, 77, 45, 77, 68, 53]] :: .row (.slice A9 L.length c9) 39 2 L.length (us L) :: .blk g1 39 [S nm, S sec] :: F) := H
 refine G_sr ?_
 refine GL_st 1 1 [(2, S stamp), (4, Pt g1 0), (7, .slice A9 L.length c9), (26, .slice (some ⟨g40, 0, none⟩) 3 3), (27, In 3), (28, In 2), (29, .bool true)] fun β => ?_
 refine G_seq ?_
 refine G_true (by kernel_rfl) ?_
 refine G_skip ?_
 refine thn_normal ?_
 refine G_seq ?_
 refine G_block ?_
 refine G_sr ?_
 refine GL_s 1 1 [(2, S stamp), (4, Pt g1 0), (7, .slice A9 L.length c9), (26, .slice (some ⟨g40, 0, none⟩) 3 3), (27, In 3), (28, In 2), (30, Pt g40 2)] fun β => ?_
 refine GL_V (run_load1 (t := 9) (by kernel_rfl) ((H.blk_cell (i := 0) rfl 2).trans rfl)) ?_
 refine GL_st 1 3 [(2, S stamp), (4, Pt g1 0), (7, .slice A9 L.length c9), (9, S [67, 82, 65, 77, 45, 77, 68, 53]), (26, .slice (some ⟨g40, 0, none⟩) 3 3), (27, In 3), (28, In 2)] fun β => ?_
 refine G_sr ?_
 refine GL_V (run_loadN (t := 39) (vs := [S nm, S sec]) (by kernel_rfl) (by kernel_rfl) (H.blk_cells (i := 2) rfl 0 _ ⟨_, rfl⟩)) ?_
 refine GL_s 1 2 [(2, S stamp), (4, Pt g1 0), (7, .slice A9 L.length c9), (9, S [67, 82, 65, 77, 45, 77, 68, 53]), (26, .slice (some ⟨g40, 0, none⟩) 3 3), (27, In 3), (28, In 2), (33, .agg #[S nm, S sec]), (34, S [67, 82, 65, 77, 45, 77, 68, 53])] fun β => ?_
 refine GL_C (c_RespondNo_cram nm sec [67, 82, 65, 77, 45, 77, 68, 53] (by omega) (by omega) (by first | omega | decide) (by decide) hy H) ?_
 rintro _ w46 ⟨rfl, H⟩
 refine GL_st 5 8 [(2, S stamp), (4, Pt g1 0), (7, .slice A9 L.length c9), (9, S [67, 82, 65, 77, 45, 77, 68, 53]), (10, .nilIface), (11, In 2), (26, .slice (some ⟨g40, 0, none⟩) 3 3), (27, In 3), (28, In 2)] fun β => ?_
 refine G_seq ?_
 refine G_sr ?_
 refine GL_V (run_loadN (t := 39) (vs := [S nm, S sec]) (by kernel_rfl) (by kernel_rfl) (H.blk_cells (i := 2) rfl 0 _ ⟨_, rfl⟩)) ?_
 refine GL_C (c_lmay nm sec (by omega) (by omega) H) ?_
 rintro _ w47 ⟨rfl, H⟩
 rw [may_eq, hy]
 refine GL_st 1 3 [(2, S stamp), (4, Pt g1 0), (7, .slice A9 L.length c9), (9, S [67, 82, 65, 77, 45, 77, 68, 53]), (10, .nilIface), (11, In 2), (26, .slice (some ⟨g40, 0, none⟩) 3 3), (27, In 3), (28, In 2), (40, .bool true)] fun β => ?_
 refine G_true (by kernel_rfl) ?_
 refine G_seq ?_
 refine G_sr ?_
 refine GL_st 2 2 [(2, S stamp), (4, Pt g1 0), (7, .slice A9 L.length c9), (26, .slice (some ⟨g40, 0, none⟩) 3 3), (27, In 3), (28, In 2), (42, .bool false)] fun β => ?_
 refine G_false (by kernel_rfl) ?_
 refine G_skip ?_
 refine thn_normal ?_
 refine G_exit (thn_exit (inb_hit ?_))
 refine thn_normal ?_
 refine G_region ?_
 refine GL_st 2 2 [(2, S stamp), (4, Pt g1 0), (7, .slice A9 L.length c9), (26, .slice (some ⟨g40, 0, none⟩) 3 3), (27, In 3), (28, In 3)] fun β => ?_
 refine GU_step ?_
 refine G_forget [(2, S stamp), (4, Pt g1 0), (7, .slice A9 L.length c9), (26, .slice (some ⟨g40, 0, none⟩) 3 3), (27, In 3), (28, In 3)] (by kernel_rfl) (fun β => ?_)
 replace H := H.front (i := 2) rfl
 replace H := H.front (i := 2) rfl
 replace H := H.front (i := 2) rfl
 replace H : Sep w0 w47 (.blk g40 9 [S [80, 76, 65, 73, 78], S [76, 79, 71, 73, 78], S [67, 82, 65, 77, 45, 77, 68, 53]] :: .row (.slice A9 L.length c9) 39 2 L.length (us L) :: .blk g1 39 [S nm, S sec] :: F) := H
 refine G_sr ?_
 refine GL_st 1 1 [(2, S stamp), (4, Pt g1 0), (7, .slice A9 L.length c9), (26, .slice (some ⟨g40, 0, none⟩) 3 3), (27, In 3), (28, In 3), (29, .bool false)] fun β => ?_
 refine G_seq ?_
 refine G_false (by kernel_rfl) ?_
 refine G_exit (thn_exit (thn_exit (inb_hit ?_)))
 refine thn_normal ?_
 refine G_sr ?_
 refine GL_st 1 1 [(6, .bool true)] fun β => ?_
 refine G_ret ?_
 refine res1 (v := .bool true) rfl (by kernel_rfl) ?_
 replace H := H.drop 2
 replace H := H.drop 1
 replace H := H.drop 0
 replace H : Sep w0 w47 (F) := H
 exact ⟨rfl, H⟩
/-- posthorn/posthornlaw22.SaslBoth -/
theorem c_Both_true {w0 w : World} {F : List Chunk} (T : List UInt32) (hT : T.length = 64) (gT : Gl w0 1 (u32s T)) (R : List UInt8) (hR : R.length = 16) (gR : Gl w0 2 (bs R)) (l : List Str2) (hl : l.length ≤ 16777216) (hU : ∀ u ∈ l, u.1.length ≤ 549755813888 ∧ u.2.length ≤ 549755813888) (nm sec stamp : List UInt8) (hnm : nm.length ≤ 16777216) (hsec : sec.length ≤ 16777216) (hstamp : stamp.length ≤ 16777216) (hy : may2 nm sec = true) {B : Option Addr} {d : Nat} (RU : Rd w0 F (.slice B l.length d) 2 l.length (us l)) (H : Sep w0 w F) : Ret Try.prog 4 #[.slice B l.length d, .agg #[S nm, S sec], S stamp] w (fun v w' => v = .bool true ∧ Sep w0 w' F) := by
 have hz1 := may_zero (may2_l hy)
 have hz2 := may_zero (may2_r hy)
 refine Ret_enter (args := [.slice B l.length d, .agg #[S nm, S sec], S stamp]) Try.func4 rfl (by kernel_rfl) ?_
 refine G_forget [(0, .slice B l.length d), (1, .agg #[S nm, S sec]), (2, S stamp)] (by kernel_rfl) (fun β => ?_)
 refine G_sr ?_
 refine GL_new (V := fun g => Pt g 0) (l := [S nm, S sec]) (t := 39) H rfl (by kernel_rfl) (by kernel_rfl) (by kernel_rfl) (fun g1 w2 H => ?_)
 refine GL_st 1 2 [(0, .slice B l.length d), (2, S stamp), (4, Pt g1 0)] fun β => ?_
 refine G_seq ?_
 refine G_sr ?_
 refine GL_C (c_wakes T hT gT R hR gR H) ?_
 rintro _ w3 ⟨rfl, H⟩
 refine GL_st 1 2 [(0, .slice B l.length d), (2, S stamp), (4, Pt g1 0), (19, .bool false)] fun β => ?_
 refine G_false (by kernel_rfl) ?_
 refine G_skip ?_
 refine thn_normal ?_
 refine G_cut (X := (Option Addr) × Nat) (fun ⟨A9, c9⟩ => [(2, S stamp), (4, Pt g1 0), (7, .slice A9 ((l ++ [(nm, sec)]).length) c9)]) (fun ⟨A9, c9⟩ w_ => Sep w0 w_ (.row (.slice A9 ((l ++ [(nm, sec)]).length) c9) 39 2 ((l ++ [(nm, sec)]).length) (us (l ++ [(nm, sec)])) :: .blk g1 39 [S nm, S sec] :: F)) ?_ ?_
 · --each order
  refine G_drawS (fun w => (∀ j u, ([S nm, S sec] : List Value)[j]? = some u → w.cell? ((⟨g1, 0, none⟩ : Addr).add j) = some u) ∧ True) 7 7 (by kernel_rfl) (by kernel_rfl) H (fun w4 H => ?_)
  refine HL_takes [1] [(2, S stamp), (4, Pt g1 0), (21, .slice B l.length d)] (mkL 7 [1]) 6 (by kernel_rfl) rfl (by kernel_rfl) (fun _ => by kernel_rfl) ⟨(H.blk_cells (i := 0) rfl 0 _ ⟨_, rfl⟩), trivial⟩ (fun β => ?_)
  refine HL_t (i := 3) (m := 5) (fun w hS => run_loadN (t := 39) (vs := [S nm, S sec]) (by kernel_rfl) (by kernel_rfl) hS.1) rfl (by kernel_rfl) (by kernel_rfl) (by kernel_rfl) (by kernel_rfl) (by kernel_rfl) (by kernel_rfl) ⟨(H.blk_cells (i := 0) rfl 0 _ ⟨_, rfl⟩), trivial⟩ rfl ?_
  refine HL_of2 (i := 0) (j := 4) (by kernel_rfl) ?_ ?_
  · --first 0
   refine HI_new (i := 0) (V := fun g => .slice (some ⟨g, 0, none⟩) 0 0) (l := []) (t := 39) H rfl (by kernel_rfl) (by kernel_rfl) (by kernel_rfl) (fun g5 w6 H => ?_)
   refine ⟨(.inr ⟨(H.blk_cells (i := 1) rfl 0 _ ⟨_, rfl⟩), trivial⟩), ?_⟩
   refine HL_of2 (i := 2) (j := 4) (by kernel_rfl) ?_ ?_
   · --first 2
    replace H := H.asRow (i := 0) rfl 2 0 rfl (by decide)
    replace H : Sep w0 w6 (.row (.slice (some ⟨g5, 0, none⟩) 0 0) 39 2 0 [] :: .blk g1 39 [S nm, S sec] :: F) := H
    obtain ⟨A7, c8, w9, hr10, H⟩ := R_append (P := Try.prog) (t := 22) (ty := 22) (e := 39) (z := .agg #[S ([] : List UInt8), S ([] : List UInt8)]) (sz := 2) (by_ := 32) H (i := 0) rfl (by kernel_rfl) rfl (Rd.src RU ((H.drop 1).drop 0)) (us_one _) (by unfold maxLen; omega) (by omega)
    replace H : Sep w0 w9 (.row (.slice A7 (0 + l.length) c8) 39 2 (0 + l.length) ([] ++ us l) :: .blk g1 39 [S nm, S sec] :: F) := H
    refine HI_v (i := 2) hr10 rfl (by kernel_rfl) (by kernel_rfl) (by kernel_rfl) (.inr ⟨(H.blk_cells (i := 1) rfl 0 _ ⟨_, rfl⟩), trivial⟩) ?_
    refine HL_new (i := 4) (V := fun g => .slice (some ⟨g, 0, none⟩) 1 1) (l := [S nm, S sec]) (t := 39) H rfl (by kernel_rfl) (by kernel_rfl) (by kernel_rfl) (by kernel_rfl) (fun g11 w12 H => ?_)
    refine ⟨(.inr ⟨(H.blk_cells (i := 2) rfl 0 _ ⟨_, rfl⟩), trivial⟩), ?_⟩
    obtain ⟨A13, c14, w15, hr16, H⟩ := R_append (P := Try.prog) (t := 22) (ty := 22) (e := 39) (z := .agg #[S ([] : List UInt8), S ([] : List UInt8)]) (sz := 2) (by_ := 32) H (i := 1) rfl (by kernel_rfl) rfl (Src.blkp (m := 1) (c := 1) (off := 0) H (i := 0) rfl [S nm, S sec] rfl ⟨_, rfl⟩) (one_list rfl) (by unfold maxLen; omega) (by omega)
    replace H := H.drop 0
    replace H : Sep w0 w15 (.row (.slice A13 ((0 + l.length) + 1) c14) 39 2 ((0 + l.length) + 1) ([] ++ us l ++ [S nm, S sec]) :: .blk g1 39 [S nm, S sec] :: F) := H
    refine HL_v (i := 5) hr16 rfl (by kernel_rfl) (by kernel_rfl) (by kernel_rfl) (by kernel_rfl) (.inr ⟨(H.blk_cells (i := 1) rfl 0 _ ⟨_, rfl⟩), trivial⟩) ?_
    refine HL_takes [6] [(2, S stamp), (4, Pt g1 0), (7, .slice A13 ((0 + l.length) + 1) c14)] (mkL 7 [1, 3, 0, 2, 4, 5, 6]) 0 (by kernel_rfl) rfl (by kernel_rfl) (fun _ => by kernel_rfl) ⟨(H.blk_cells (i := 1) rfl 0 _ ⟨_, rfl⟩), trivial⟩ (fun β => ?_)
    refine HL_forget [(2, S stamp), (4, Pt g1 0), (7, .slice A13 ((0 + l.length) + 1) c14)] (by kernel_rfl) (fun β => ?_)
    refine HL_fin (by kernel_rfl) ?_
    have hn : (0 + l.length) + 1 = (l ++ [(nm, sec)]).length := by simp
    replace H := H.front (i := 1) rfl
    replace H := H.front (i := 1) rfl
    replace H : Sep w0 w15 (.row (.slice A13 ((0 + l.length) + 1) c14) 39 2 ((0 + l.length) + 1) ([] ++ us l ++ [S nm, S sec]) :: .blk g1 39 [S nm, S sec] :: F) := H
    rw [hn] at H ⊢
    replace H : Sep w0 w15 (.row (.slice A13 ((l ++ [(nm, sec)]).length) c14) 39 2 ((l ++ [(nm, sec)]).length) (us (l ++ [(nm, sec)])) :: .blk g1 39 [S nm, S sec] :: F) := by rw [us_append]; exact H
    exact thn_normal ⟨(A13, c14), Agr_of_keys (by kernel_rfl), H⟩
   · --first 4
    refine HI_new (i := 4) (V := fun g => .slice (some ⟨g, 0, none⟩) 1 1) (l := [S nm, S sec]) (t := 39) H rfl (by kernel_rfl) (by kernel_rfl) (by kernel_rfl) (fun g17 w18 H => ?_)
    refine ⟨(.inr ⟨(H.blk_cells (i := 2) rfl 0 _ ⟨_, rfl⟩), trivial⟩), ?_⟩
    replace H := H.asRow (i := 1) rfl 2 0 rfl (by decide)
    replace H : Sep w0 w18 (.blk g17 39 [S nm, S sec] :: .row (.slice (some ⟨g5, 0, none⟩) 0 0) 39 2 0 [] :: .blk g1 39 [S nm, S sec] :: F) := H
    obtain ⟨A19, c20, w21, hr22, H⟩ := R_append (P := Try.prog) (t := 22) (ty := 22) (e := 39) (z := .agg #[S ([] : List UInt8), S ([] : List UInt8)]) (sz := 2) (by_ := 32) H (i := 1) rfl (by kernel_rfl) rfl (Rd.src RU (((H.drop 2).drop 1).drop 0)) (us_one _) (by unfold maxLen; omega) (by omega)
    replace H : Sep w0 w21 (.blk g17 39 [S nm, S sec] :: .row (.slice A19 (0 + l.length) c20) 39 2 (0 + l.length) ([] ++ us l) :: .blk g1 39 [S nm, S sec] :: F) := H
    refine HL_v (i := 2) hr22 rfl (by kernel_rfl) (by kernel_rfl) (by kernel_rfl) (by kernel_rfl) (.inr ⟨(H.blk_cells (i := 2) rfl 0 _ ⟨_, rfl⟩), trivial⟩) ?_
    obtain ⟨A23, c24, w25, hr26, H⟩ := R_append (P := Try.prog) (t := 22) (ty := 22) (e := 39) (z := .agg #[S ([] : List UInt8), S ([] : List UInt8)]) (sz := 2) (by_ := 32) H (i := 1) rfl (by kernel_rfl) rfl (Src.blkp (m := 1) (c := 1) (off := 0) H (i := 0) rfl [S nm, S sec] rfl ⟨_, rfl⟩) (one_list rfl) (by unfold maxLen; omega) (by omega)
    replace H := H.drop 0
    replace H : Sep w0 w25 (.row (.slice A23 ((0 + l.length) + 1) c24) 39 2 ((0 + l.length) + 1) ([] ++ us l ++ [S nm, S sec]) :: .blk g1 39 [S nm, S sec] :: F) := H
    refine HL_v (i := 5) hr26 rfl (by kernel_rfl) (by kernel_rfl) (by kernel_rfl) (by kernel_rfl) (.inr ⟨(H.blk_cells (i := 1) rfl 0 _ ⟨_, rfl⟩), trivial⟩) ?_
    refine HL_takes [6] [(2, S stamp), (4, Pt g1 0), (7, .slice A23 ((0 + l.length) + 1) c24)] (mkL 7 [1, 3, 0, 4, 2, 5, 6]) 0 (by kernel_rfl) rfl (by kernel_rfl) (fun _ => by kernel_rfl) ⟨(H.blk_cells (i := 1) rfl 0 _ ⟨_, rfl⟩), trivial⟩ (fun β => ?_)
    refine HL_forget [(2, S stamp), (4, Pt g1 0), (7, .slice A23 ((0 + l.length) + 1) c24)] (by kernel_rfl) (fun β => ?_)
    refine HL_fin (by kernel_rfl) ?_
    have hn : (0 + l.length) + 1 = (l ++ [(nm, sec)]).length := by simp
    replace H := H.front (i := 1) rfl
    replace H := H.front (i := 1) rfl
    replace H : Sep w0 w25 (.row (.slice A23 ((0 + l.length) + 1) c24) 39 2 ((0 + l.length) + 1) ([] ++ us l ++ [S nm, S sec]) :: .blk g1 39 [S nm, S sec] :: F) := H
    rw [hn] at H ⊢
    replace H : Sep w0 w25 (.row (.slice A23 ((l ++ [(nm, sec)]).length) c24) 39 2 ((l ++ [(nm, sec)]).length) (us (l ++ [(nm, sec)])) :: .blk g1 39 [S nm, S sec] :: F) := by rw [us_append]; exact H
    exact thn_normal ⟨(A23, c24), Agr_of_keys (by kernel_rfl), H⟩
  · --first 4
   refine HI_new (i := 4) (V := fun g => .slice (some ⟨g, 0, none⟩) 1 1) (l := [S nm, S sec]) (t := 39) H rfl (by kernel_rfl) (by kernel_rfl) (by kernel_rfl) (fun g27 w28 H => ?_)
   refine ⟨(.inr ⟨(H.blk_cells (i := 1) rfl 0 _ ⟨_, rfl⟩), trivial⟩), ?_⟩
   refine HL_new (i := 0) (V := fun g => .slice (some ⟨g, 0, none⟩) 0 0) (l := []) (t := 39) H rfl (by kernel_rfl) (by kernel_rfl) (by kernel_rfl) (by kernel_rfl) (fun g29 w30 H => ?_)
   refine ⟨(.inr ⟨(H.blk_cells (i := 2) rfl 0 _ ⟨_, rfl⟩), trivial⟩), ?_⟩
   replace H := H.asRow (i := 0) rfl 2 0 rfl (by decide)
   replace H : Sep w0 w30 (.row (.slice (some ⟨g29, 0, none⟩) 0 0) 39 2 0 [] :: .blk g27 39 [S nm, S sec] :: .blk g1 39 [S nm, S sec] :: F) := H
   obtain ⟨A31, c32, w33, hr34, H⟩ := R_append (P := Try.prog) (t := 22) (ty := 22) (e := 39) (z := .agg #[S ([] : List UInt8), S ([] : List UInt8)]) (sz := 2) (by_ := 32) H (i := 0) rfl (by kernel_rfl) rfl (Rd.src RU (((H.drop 2).drop 1).drop 0)) (us_one _) (by unfold maxLen; omega) (by omega)
   replace H : Sep w0 w33 (.row (.slice A31 (0 + l.length) c32) 39 2 (0 + l.length) ([] ++ us l) :: .blk g27 39 [S nm, S sec] :: .blk g1 39 [S nm, S sec] :: F) := H
   refine HL_v (i := 2) hr34 rfl (by kernel_rfl) (by kernel_rfl) (by kernel_rfl) (by kernel_rfl) (.inr ⟨(H.blk_cells (i := 2) rfl 0 _ ⟨_, rfl⟩), trivial⟩) ?_
   obtain ⟨A35, c36, w37, hr38, H⟩ := R_append (P := Try.prog) (t := 22) (ty := 22) (e := 39) (z := .agg #[S ([] : List UInt8), S ([] : List UInt8)]) (sz := 2) (by_ := 32) H (i := 0) rfl (by kernel_rfl) rfl (Src.blkp (m := 1) (c := 1) (off := 0) H (i := 1) rfl [S nm, S sec] rfl ⟨_, rfl⟩) (one_list rfl) (by unfold maxLen; omega) (by omega)
   replace H := H.drop 1
   replace H : Sep w0 w37 (.row (.slice A35 ((0 + l.length) + 1) c36) 39 2 ((0 + l.length) + 1) ([] ++ us l ++ [S nm, S sec]) :: .blk g1 39 [S nm, S sec] :: F) := H
   refine HL_v (i := 5) hr38 rfl (by kernel_rfl) (by kernel_rfl) (by kernel_rfl) (by kernel_rfl) (.inr ⟨(H.blk_cells (i := 1) rfl 0 _ ⟨_, rfl⟩), trivial⟩) ?_
   refine HL_takes [6] [(2, S stamp), (4, Pt g1 0), (7, .slice A35 ((0 + l.length) + 1) c36)] (mkL 7 [1, 3, 4, 0, 2, 5, 6]) 0 (by kernel_rfl) rfl (by kernel_rfl) (fun _ => by kernel_rfl) ⟨(H.blk_cells (i := 1) rfl 0 _ ⟨_, rfl⟩), trivial⟩ (fun β => ?_)
   refine HL_forget [(2, S stamp), (4, Pt g1 0), (7, .slice A35 ((0 + l.length) + 1) c36)] (by kernel_rfl) (fun β => ?_)
   refine HL_fin (by kernel_rfl) ?_
   have hn : (0 + l.length) + 1 = (l ++ [(nm, sec)]).length := by simp
   replace H := H.front (i := 1) rfl
   replace H := H.front (i := 1) rfl
   replace H : Sep w0 w37 (.row (.slice A35 ((0 + l.length) + 1) c36) 39 2 ((0 + l.length) + 1) ([] ++ us l ++ [S nm, S sec]) :: .blk g1 39 [S nm, S sec] :: F) := H
   rw [hn] at H ⊢
   replace H : Sep w0 w37 (.row (.slice A35 ((l ++ [(nm, sec)]).length) c36) 39 2 ((l ++ [(nm, sec)]).length) (us (l ++ [(nm, sec)])) :: .blk g1 39 [S nm, S sec] :: F) := by rw [us_append]; exact H
   exact thn_normal ⟨(A35, c36), Agr_of_keys (by kernel_rfl), H⟩
 rintro ⟨A9, c9⟩ β w39 H
 replace H : Sep w0 w39 (.row (.slice A9 ((l ++ [(nm, sec)]).length) c9) 39 2 ((l ++ [(nm, sec)]).length) (us (l ++ [(nm, sec)])) :: .blk g1 39 [S nm, S sec] :: F) := H
 refine G_forget [(2, S stamp), (4, Pt g1 0), (7, .slice A9 ((l ++ [(nm, sec)]).length) c9)] (by kernel_rfl) (fun β => ?_)
 refine G_seq ?_
 obtain ⟨L, hL⟩ : ∃ L, L = l ++ [(nm, sec)] := ⟨_, rfl⟩
 have hLl : L.length = l.length + 1 := by rw [hL]; simp
 rw [← hL] at H
 replace H : Sep w0 w39 (.row (.slice A9 L.length c9) 39 2 L.length (us L) :: .blk g1 39 [S nm, S sec] :: F) := H
 refine G_re [(2, S stamp), (4, Pt g1 0), (7, .slice A9 L.length c9)] (show ([S stamp, Pt g1 0, .slice A9 ((l ++ [(nm, sec)]).length) c9] : List Value) = [S stamp, Pt g1 0, .slice A9 L.length c9] by rw [← hL]) (fun β => ?_)
 have hU : ∀ u ∈ L, u.1.length ≤ 549755813888 ∧ u.2.length ≤ 549755813888 := by
   intro u hu; rw [hL, List.mem_append, List.mem_singleton] at hu; rcases hu with hu | rfl
   · exact hU u hu
   · constructor <;> (dsimp only; omega)
 have hp1 : pairF L nm sec = true := by rw [hL]; exact pair_last _ _ _
 have hc1 : crP T R L stamp nm (dgF T R sec stamp) = true := by rw [hL]; exact cr_last _ _ _ _ _ _
 replace H := H.front (i := 1) rfl
 replace H := H.front (i := 1) rfl
 replace H : Sep w0 w39 (.row (.slice A9 L.length c9) 39 2 L.length (us L) :: .blk g1 39 [S nm, S sec] :: F) := H
 refine G_sr ?_
 refine GL_C (c_Mechs H) ?_
 rintro _ w41 ⟨g40, rfl, H⟩
 replace H : Sep w0 w41 (.blk g40 9 [S [80, 76, 65, 73, 78], S [76, 79, 71, 73, 78], S [67, 82, 65, 77, 45, 77, 68, 53]] :: .row (.slice A9 L.length c9) 39 2 L.length (us L) :: .blk g1 39 [S nm, S sec] :: F) := H
 refine GL_st 2 3 [(2, S stamp), (4, Pt g1 0), (7, .slice A9 L.length c9), (26, .slice (some ⟨g40, 0, none⟩) 3 3), (27, In 3), (28, In 0)] fun β => ?_
 refine G_block ?_
 refine G_un 4 ?_
 refine GU_step ?_
 refine G_forget [(2, S stamp), (4, Pt g1 0), (7, .slice A9 L.length c9), (26, .slice (some ⟨g40, 0, none⟩) 3 3), (27, In 3), (28, In 0)] (by kernel_rfl) (fun β => ?_)
 replace H := H.front (i := 2) rfl
 replace H := H.front (i := 2) rfl
 replace H := H.front (i := 2) rfl
 replace H : Sep w0 w41 (.blk g40 9 [S [80, 76, 65, 73, 78], S [76, 79, 71, 73, 78], S [67, 82, 65, 77, 45, 77, 68, 53]] :: .row (.slice A9 L.length c9) 39 2 L.length (us L) :: .blk g1 39 [S nm, S sec] :: F) := H
 refine G_sr ?_
 refine GL_st 1 1 [(2, S stamp), (4, Pt g1 0), (7, .slice A9 L.length c9), (26, .slice (some ⟨g40, 0, none⟩) 3 3), (27, In 3), (28, In 0), (29, .bool true)] fun β => ?_
 refine G_seq ?_
 refine G_true (by kernel_rfl) ?_
 refine G_skip ?_
 refine thn_normal ?_
 refine G_seq ?_
 refine G_block ?_
 refine G_sr ?_
 refine GL_s 1 1 [(2, S stamp), (4, Pt g1 0), (7, .slice A9 L.length c9), (26, .slice (some ⟨g40, 0, none⟩) 3 3), (27, In 3), (28, In 0), (30, Pt g40 0)] fun β => ?_
 refine GL_V (run_load1 (t := 9) (by kernel_rfl) ((H.blk_cell (i := 0) rfl 0).trans rfl)) ?_
 refine GL_st 1 3 [(2, S stamp), (4, Pt g1 0), (7, .slice A9 L.length c9), (9, S [80, 76, 65, 73, 78]), (26, .slice (some ⟨g40, 0, none⟩) 3 3), (27, In 3), (28, In 0)] fun β => ?_
 refine G_sr ?_
 refine GL_V (run_loadN (t := 39) (vs := [S nm, S sec]) (by kernel_rfl) (by kernel_rfl) (H.blk_cells (i := 2) rfl 0 _ ⟨_, rfl⟩)) ?_
 refine GL_s 1 2 [(2, S stamp), (4, Pt g1 0), (7, .slice A9 L.length c9), (9, S [80, 76, 65, 73, 78]), (26, .slice (some ⟨g40, 0, none⟩) 3 3), (27, In 3), (28, In 0), (33, .agg #[S nm, S sec]), (34, S [80, 76, 65, 73, 78])] fun β => ?_
 refine GL_C (c_Respond_plain nm sec [80, 76, 65, 73, 78] (by omega) (by omega) (by first | omega | decide) (by decide) hy H) ?_
 rintro _ w42 ⟨g43, rfl, H⟩
 replace H : Sep w0 w42 (.blk g43 78 [S nm, S sec, .iface 83 (.agg #[]), .bool true] :: .blk g40 9 [S [80, 76, 65, 73, 78], S [76, 79, 71, 73, 78], S [67, 82, 65, 77, 45, 77, 68, 53]] :: .row (.slice A9 L.length c9) 39 2 L.length (us L) :: .blk g1 39 [S nm, S sec] :: F) := H
 refine GL_st 5 8 [(2, S stamp), (4, Pt g1 0), (7, .slice A9 L.length c9), (9, S [80, 76, 65, 73, 78]), (10, .iface 73 (Pt g43 0)), (11, In 0), (26, .slice (some ⟨g40, 0, none⟩) 3 3), (27, In 3), (28, In 0)] fun β => ?_
 refine G_seq ?_
 refine G_sr ?_
 refine GL_V (run_loadN (t := 39) (vs := [S nm, S sec]) (by kernel_rfl) (by kernel_rfl) (H.blk_cells (i := 3) rfl 0 _ ⟨_, rfl⟩)) ?_
 refine GL_C (c_lmay nm sec (by omega) (by omega) H) ?_
 rintro _ w44 ⟨rfl, H⟩
 rw [may_eq, hy]
 refine GL_st 1 3 [(2, S stamp), (4, Pt g1 0), (7, .slice A9 L.length c9), (9, S [80, 76, 65, 73, 78]), (10, .iface 73 (Pt g43 0)), (11, In 0), (26, .slice (some ⟨g40, 0, none⟩) 3 3), (27, In 3), (28, In 0), (40, .bool false)] fun β => ?_
 refine G_false (by kernel_rfl) ?_
 refine G_skip ?_
 refine thn_normal ?_
 refine G_seq ?_
 refine G_drawS (fun w => (∀ j u, ([S nm, S sec] : List Value)[j]? = some u → w.cell? ((⟨g1, 0, none⟩ : Addr).add j) = some u) ∧ True) 9 9 (by kernel_rfl) (by kernel_rfl) H (fun w45 H => ?_)
 refine HL_t (i := 0) (m := 8) (fun w hS => run_loadN (t := 39) (vs := [S nm, S sec]) (by kernel_rfl) (by kernel_rfl) hS.1) rfl (by kernel_rfl) (by kernel_rfl) (by kernel_rfl) (by kernel_rfl) (by kernel_rfl) (by kernel_rfl) ⟨(H.blk_cells (i := 3) rfl 0 _ ⟨_, rfl⟩), trivial⟩ rfl ?_
 refine HL_takes [1] [(2, S stamp), (4, Pt g1 0), (7, .slice A9 L.length c9), (9, S [80, 76, 65, 73, 78]), (10, .iface 73 (Pt g43 0)), (11, .int .i64 ((0 : Nat) : Int)), (26, .slice (some ⟨g40, 0, none⟩) 3 3), (27, .int .i64 ((3 : Nat) : Int)), (28, .int .i64 ((0 : Nat) : Int)), (44, .agg #[S nm, S sec]), (45, S [80, 76, 65, 73, 78])] (mkL 9 [0, 1]) 7 (by kernel_rfl) rfl (by kernel_rfl) (fun _ => by kernel_rfl) ⟨(H.blk_cells (i := 3) rfl 0 _ ⟨_, rfl⟩), trivial⟩ (fun β => ?_)
 refine HL_call (i := 2) (f := 21) (args := #[S [80, 76, 65, 73, 78]]) rfl (by kernel_rfl) (by kernel_rfl) (by kernel_rfl) (by kernel_rfl) (c_Upper [80, 76, 65, 73, 78] (by decide) H) ?_
 rintro _ w46 ⟨rfl, H⟩
 rw [show ([80, 76, 65, 73, 78] : List UInt8).map up = [80, 76, 65, 73, 78] from by decide]
 refine ⟨(.inr ⟨(H.blk_cells (i := 3) rfl 0 _ ⟨_, rfl⟩), trivial⟩), ?_⟩
 refine HL_call (i := 3) (f := 19) (args := #[.agg #[S nm, S sec], S [80, 76, 65, 73, 78]]) rfl (by kernel_rfl) (by kernel_rfl) (by kernel_rfl) (by kernel_rfl) (c_Respond_plain nm sec [80, 76, 65, 73, 78] (by omega) (by omega) (by first | omega | decide) (by decide) hy H) ?_
 rintro _ w47 ⟨g48, rfl, H⟩
 replace H : Sep w0 w47 (.blk g48 78 [S nm, S sec, .iface 83 (.agg #[]), .bool true] :: .blk g43 78 [S nm, S sec, .iface 83 (.agg #[]), .bool true] :: .blk g40 9 [S [80, 76, 65, 73, 78], S [76, 79, 71, 73, 78], S [67, 82, 65, 77, 45, 77, 68, 53]] :: .row (.slice A9 L.length c9) 39 2 L.length (us L) :: .blk g1 39 [S nm, S sec] :: F) := H
 refine ⟨(.inr ⟨(H.blk_cells (i := 4) rfl 0 _ ⟨_, rfl⟩), trivial⟩), ?_⟩
 refine HL_takes [4, 5, 6, 7, 8] [(2, S stamp), (4, Pt g1 0), (7, .slice A9 L.length c9), (9, S [80, 76, 65, 73, 78]), (10, .iface 73 (Pt g43 0)), (11, .int .i64 ((0 : Nat) : Int)), (12, .iface 73 (Pt g48 0)), (13, .int .i64 ((0 : Nat) : Int)), (26, .slice (some ⟨g40, 0, none⟩) 3 3), (27, .int .i64 ((3 : Nat) : Int)), (28, .int .i64 ((0 : Nat) : Int))] (mkL 9 [0, 1, 2, 3, 4, 5, 6, 7, 8]) 0 (by kernel_rfl) rfl (by kernel_rfl) (fun _ => by kernel_rfl) ⟨(H.blk_cells (i := 4) rfl 0 _ ⟨_, rfl⟩), trivial⟩ (fun β => ?_)
 refine HL_forget [(2, S stamp), (4, Pt g1 0), (7, .slice A9 L.length c9), (9, S [80, 76, 65, 73, 78]), (10, .iface 73 (Pt g43 0)), (11, In 0), (12, .iface 73 (Pt g48 0)), (13, In 0), (26, .slice (some ⟨g40, 0, none⟩) 3 3), (27, In 3), (28, In 0)] (by kernel_rfl) (fun β => ?_)
 refine HL_fin (by kernel_rfl) ?_
 refine thn_normal ?_
 refine G_seq ?_
 refine G_sr ?_
 refine GL_st 6 6 [(2, S stamp), (4, Pt g1 0), (7, .slice A9 L.length c9), (9, S [80, 76, 65, 73, 78]), (10, .iface 73 (Pt g43 0)), (12, .iface 73 (Pt g48 0)), (26, .slice (some ⟨g40, 0, none⟩) 3 3), (27, In 3), (28, In 0), (55, .bool false)] fun β => ?_
 refine G_false (by kernel_rfl) ?_
 refine G_skip ?_
 refine thn_normal ?_
 refine G_sr ?_
 refine GL_s 1 1 [(2, S stamp), (4, Pt g1 0), (7, .slice A9 L.length c9), (9, S [80, 76, 65, 73, 78]), (10, .iface 73 (Pt g43 0)), (12, .iface 73 (Pt g48 0)), (26, .slice (some ⟨g40, 0, none⟩) 3 3), (27, In 3), (28, In 0), (57, .iface 73 (Pt g43 0))] fun β => ?_
 replace H := H.front (i := 1) rfl
 replace H : Sep w0 w47 (.blk g43 78 [S nm, S sec, .iface 83 (.agg #[]), .bool true] :: .blk g48 78 [S nm, S sec, .iface 83 (.agg #[]), .bool true] :: .blk g40 9 [S [80, 76, 65, 73, 78], S [76, 79, 71, 73, 78], S [67, 82, 65, 77, 45, 77, 68, 53]] :: .row (.slice A9 L.length c9) 39 2 L.length (us L) :: .blk g1 39 [S nm, S sec] :: F) := H
 refine GL_C (c_First_true nm sec (.iface 83 (.agg #[])) (by omega) (by omega) H) ?_
 rintro _ w49 ⟨q50, hq51, hql52, rfl, H⟩
 replace H : Sep w0 w49 (.blk g43 78 [S nm, S sec, .iface 83 (.agg #[]), .bool true] :: .blk g48 78 [S nm, S sec, .iface 83 (.agg #[]), .bool true] :: .blk g40 9 [S [80, 76, 65, 73, 78], S [76, 79, 71, 73, 78], S [67, 82, 65, 77, 45, 77, 68, 53]] :: .row (.slice A9 L.length c9) 39 2 L.length (us L) :: .blk g1 39 [S nm, S sec] :: F) := H
 refine GL_st 5 7 [(2, S stamp), (4, Pt g1 0), (7, .slice A9 L.length c9), (9, S [80, 76, 65, 73, 78]), (10, .iface 73 (Pt g43 0)), (12, .iface 73 (Pt g48 0)), (14, S q50), (15, .bool true), (26, .slice (some ⟨g40, 0, none⟩) 3 3), (27, In 3), (28, In 0)] fun β => ?_
 refine G_sr ?_
 refine GL_s 5 5 [(2, S stamp), (4, Pt g1 0), (7, .slice A9 L.length c9), (9, S [80, 76, 65, 73, 78]), (10, .iface 73 (Pt g43 0)), (12, .iface 73 (Pt g48 0)), (26, .slice (some ⟨g40, 0, none⟩) 3 3), (27, In 3), (28, In 0), (62, .slice A9 L.length c9), (63, S [80, 76, 65, 73, 78]), (64, S stamp), (65, S q50), (66, .bool true)] fun β => ?_
 refine GL_C (c_Begin1_plain_ok T hT gT R hR gR L (by first | omega | (decide +kernel) | (simp only [List.length_nil]; omega) | (simp only [List.length_cons, List.length_nil]; omega)) hU [80, 76, 65, 73, 78] stamp q50 (by first | omega | (decide +kernel) | (simp only [List.length_nil]; omega) | (simp only [List.length_cons, List.length_nil]; omega)) (by first | omega | (decide +kernel) | (simp only [List.length_nil]; omega) | (simp only [List.length_cons, List.length_nil]; omega)) (by first | omega | (decide +kernel) | (simp only [List.length_nil]; omega) | (simp only [List.length_cons, List.length_nil]; omega)) (by decide) (Rd.of_row H (i := 3) rfl) H (n2 := 2) (sv2 := .plain) (nm2 := nm) (by rw [hq51]; exact begin_plain hz1 hz2 hp1)) ?_
 rintro _ w56 ⟨g53, A54, c55, rfl, H⟩
 replace H : Sep w0 w56 (.blk g53 60 [.slice A54 L.length c55, In 2, .iface 83 (.agg #[]), S nm] :: .row (.slice A54 L.length c55) 39 2 L.length (us L) :: .blk g43 78 [S nm, S sec, .iface 83 (.agg #[]), .bool true] :: .blk g48 78 [S nm, S sec, .iface 83 (.agg #[]), .bool true] :: .blk g40 9 [S [80, 76, 65, 73, 78], S [76, 79, 71, 73, 78], S [67, 82, 65, 77, 45, 77, 68, 53]] :: .row (.slice A9 L.length c9) 39 2 L.length (us L) :: .blk g1 39 [S nm, S sec] :: F) := H
 refine GL_st 5 11 [(2, S stamp), (4, Pt g1 0), (7, .slice A9 L.length c9), (9, S [80, 76, 65, 73, 78]), (10, .iface 73 (Pt g43 0)), (11, In 0), (12, .iface 73 (Pt g48 0)), (16, Pt g53 0), (26, .slice (some ⟨g40, 0, none⟩) 3 3), (27, In 3), (28, In 0)] fun β => ?_
 refine G_sr ?_
 refine GL_s 3 3 [(2, S stamp), (4, Pt g1 0), (7, .slice A9 L.length c9), (10, .iface 73 (Pt g43 0)), (11, In 0), (12, .iface 73 (Pt g48 0)), (16, Pt g53 0), (26, .slice (some ⟨g40, 0, none⟩) 3 3), (27, In 3), (28, In 0), (71, .slice A9 L.length c9), (72, S [80, 76, 65, 73, 78]), (73, S stamp)] fun β => ?_
 refine GL_C (c_Begin_plain T hT gT R hR gR L (by first | omega | (decide +kernel) | (simp only [List.length_nil]; omega) | (simp only [List.length_cons, List.length_nil]; omega)) hU [80, 76, 65, 73, 78] stamp ([] : List UInt8) (by first | omega | (decide +kernel) | (simp only [List.length_nil]; omega) | (simp only [List.length_cons, List.length_nil]; omega)) (by first | omega | (decide +kernel) | (simp only [List.length_nil]; omega) | (simp only [List.length_cons, List.length_nil]; omega)) (by first | omega | (decide +kernel) | (simp only [List.length_nil]; omega) | (simp only [List.length_cons, List.length_nil]; omega)) (by decide) (Rd.of_row H (i := 5) rfl) H) ?_
 rintro _ w60 ⟨g57, A58, c59, rfl, H⟩
 replace H : Sep w0 w60 (.blk g57 60 [.slice A58 L.length c59, In 1, .iface 83 (.agg #[]), S ([] : List UInt8)] :: .row (.slice A58 L.length c59) 39 2 L.length (us L) :: .blk g53 60 [.slice A54 L.length c55, In 2, .iface 83 (.agg #[]), S nm] :: .row (.slice A54 L.length c55) 39 2 L.length (us L) :: .blk g43 78 [S nm, S sec, .iface 83 (.agg #[]), .bool true] :: .blk g48 78 [S nm, S sec, .iface 83 (.agg #[]), .bool true] :: .blk g40 9 [S [80, 76, 65, 73, 78], S [76, 79, 71, 73, 78], S [67, 82, 65, 77, 45, 77, 68, 53]] :: .row (.slice A9 L.length c9) 39 2 L.length (us L) :: .blk g1 39 [S nm, S sec] :: F) := H
 refine GL_st 5 9 [(2, S stamp), (4, Pt g1 0), (7, .slice A9 L.length c9), (10, .iface 73 (Pt g43 0)), (11, In 0), (12, .iface 73 (Pt g48 0)), (13, In 0), (16, Pt g53 0), (17, Pt g57 0), (26, .slice (some ⟨g40, 0, none⟩) 3 3), (27, In 3), (28, In 0)] fun β => ?_
 refine G_seq ?_
 refine G_drawS (fun w => w.cell? ⟨g1, 0, none⟩ = some (S nm) ∧ True) 47 47 (by kernel_rfl) (by kernel_rfl) H (fun w61 H => ?_)
 refine HL_takes [0, 1, 2, 3, 4, 5, 6, 7, 8] [(2, S stamp), (4, Pt g1 0), (7, .slice A9 L.length c9), (12, .iface 73 (Pt g48 0)), (16, Pt g53 0), (17, Pt g57 0), (26, .slice (some ⟨g40, 0, none⟩) 3 3), (27, .int .i64 ((3 : Nat) : Int)), (28, .int .i64 ((0 : Nat) : Int)), (83, .bool false), (84, Pt g53 0), (85, .iface 73 (Pt g43 0))] (mkL 47 [0, 1, 2, 3, 4, 5, 6, 7, 8]) 38 (by kernel_rfl) rfl (by kernel_rfl) (fun _ => by kernel_rfl) ⟨((H.blk_cell (i := 8) rfl 0).trans rfl), trivial⟩ (fun β => ?_)
 replace H := H.front (i := 2) rfl
 replace H : Sep w0 w61 (.blk g53 60 [.slice A54 L.length c55, In 2, .iface 83 (.agg #[]), S nm] :: .blk g57 60 [.slice A58 L.length c59, In 1, .iface 83 (.agg #[]), S ([] : List UInt8)] :: .row (.slice A58 L.length c59) 39 2 L.length (us L) :: .row (.slice A54 L.length c55) 39 2 L.length (us L) :: .blk g43 78 [S nm, S sec, .iface 83 (.agg #[]), .bool true] :: .blk g48 78 [S nm, S sec, .iface 83 (.agg #[]), .bool true] :: .blk g40 9 [S [80, 76, 65, 73, 78], S [76, 79, 71, 73, 78], S [67, 82, 65, 77, 45, 77, 68, 53]] :: .row (.slice A9 L.length c9) 39 2 L.length (us L) :: .blk g1 39 [S nm, S sec] :: F) := H
 refine HL_call (i := 9) (f := 22) (args := #[Pt g53 0, .iface 73 (Pt g43 0)]) rfl (by kernel_rfl) (by kernel_rfl) (by kernel_rfl) (by kernel_rfl) (c_talk_done (.slice A54 L.length c55) (.iface 83 (.agg #[])) (S nm) (.iface 73 (Pt g43 0)) H) ?_
 rintro _ w62 ⟨rfl, H⟩
 replace H : Sep w0 w62 (.blk g53 60 [.slice A54 L.length c55, In 2, .iface 83 (.agg #[]), S nm] :: .blk g57 60 [.slice A58 L.length c59, In 1, .iface 83 (.agg #[]), S ([] : List UInt8)] :: .row (.slice A58 L.length c59) 39 2 L.length (us L) :: .row (.slice A54 L.length c55) 39 2 L.length (us L) :: .blk g43 78 [S nm, S sec, .iface 83 (.agg #[]), .bool true] :: .blk g48 78 [S nm, S sec, .iface 83 (.agg #[]), .bool true] :: .blk g40 9 [S [80, 76, 65, 73, 78], S [76, 79, 71, 73, 78], S [67, 82, 65, 77, 45, 77, 68, 53]] :: .row (.slice A9 L.length c9) 39 2 L.length (us L) :: .blk g1 39 [S nm, S sec] :: F) := H
 refine ⟨(.inr ⟨((H.blk_cell (i := 8) rfl 0).trans rfl), trivial⟩), ?_⟩
 refine HL_takes [10, 11, 12, 13, 14] [(2, S stamp), (4, Pt g1 0), (7, .slice A9 L.length c9), (16, Pt g53 0), (17, Pt g57 0), (26, .slice (some ⟨g40, 0, none⟩) 3 3), (27, .int .i64 ((3 : Nat) : Int)), (28, .int .i64 ((0 : Nat) : Int)), (89, .bool false), (90, Pt g57 0), (91, .iface 73 (Pt g48 0))] (mkL 47 [0, 1, 2, 3, 4, 5, 6, 7, 8, 9, 10, 11, 12, 13, 14]) 32 (by kernel_rfl) rfl (by kernel_rfl) (fun _ => by kernel_rfl) ⟨((H.blk_cell (i := 8) rfl 0).trans rfl), trivial⟩ (fun β => ?_)
 replace H := H.front (i := 5) rfl
 replace H := H.front (i := 3) rfl
 replace H := H.front (i := 3) rfl
 replace H : Sep w0 w62 (.blk g57 60 [.slice A58 L.length c59, In 1, .iface 83 (.agg #[]), S ([] : List UInt8)] :: .row (.slice A58 L.length c59) 39 2 L.length (us L) :: .blk g48 78 [S nm, S sec, .iface 83 (.agg #[]), .bool true] :: .blk g53 60 [.slice A54 L.length c55, In 2, .iface 83 (.agg #[]), S nm] :: .row (.slice A54 L.length c55) 39 2 L.length (us L) :: .blk g43 78 [S nm, S sec, .iface 83 (.agg #[]), .bool true] :: .blk g40 9 [S [80, 76, 65, 73, 78], S [76, 79, 71, 73, 78], S [67, 82, 65, 77, 45, 77, 68, 53]] :: .row (.slice A9 L.length c9) 39 2 L.length (us L) :: .blk g1 39 [S nm, S sec] :: F) := H
 refine HL_call (i := 15) (f := 22) (args := #[Pt g57 0, .iface 73 (Pt g48 0)]) rfl (by kernel_rfl) (by kernel_rfl) (by kernel_rfl) (by kernel_rfl) (c_talk_plain_true T hT gT R hR gR L (by omega) hU nm sec stamp (by omega) (by omega) (by omega) true hz1 hz2 hp1 H) ?_
 rintro _ w63 ⟨rfl, H⟩
 replace H : Sep w0 w63 (.blk g57 60 [.slice A58 L.length c59, In 2, .iface 83 (.agg #[]), S nm] :: .row (.slice A58 L.length c59) 39 2 L.length (us L) :: .blk g48 78 [S nm, S sec, .nilIface, .bool true] :: .blk g53 60 [.slice A54 L.length c55, In 2, .iface 83 (.agg #[]), S nm] :: .row (.slice A54 L.length c55) 39 2 L.length (us L) :: .blk g43 78 [S nm, S sec, .iface 83 (.agg #[]), .bool true] :: .blk g40 9 [S [80, 76, 65, 73, 78], S [76, 79, 71, 73, 78], S [67, 82, 65, 77, 45, 77, 68, 53]] :: .row (.slice A9 L.length c9) 39 2 L.length (us L) :: .blk g1 39 [S nm, S sec] :: F) := H
 refine ⟨(.inr ⟨((H.blk_cell (i := 8) rfl 0).trans rfl), trivial⟩), ?_⟩
 refine HL_takes [16, 17, 18, 19] [(2, S stamp), (4, Pt g1 0), (7, .slice A9 L.length c9), (16, Pt g53 0), (17, Pt g57 0), (26, .slice (some ⟨g40, 0, none⟩) 3 3), (27, .int .i64 ((3 : Nat) : Int)), (28, .int .i64 ((0 : Nat) : Int)), (95, .bool false), (96, Pt g53 0)] (mkL 47 [0, 1, 2, 3, 4, 5, 6, 7, 8, 9, 10, 11, 12, 13, 14, 15, 16, 17, 18, 19]) 27 (by kernel_rfl) rfl (by kernel_rfl) (fun _ => by kernel_rfl) ⟨((H.blk_cell (i := 8) rfl 0).trans rfl), trivial⟩ (fun β => ?_)
 replace H := H.front (i := 3) rfl
 replace H : Sep w0 w63 (.blk g53 60 [.slice A54 L.length c55, In 2, .iface 83 (.agg #[]), S nm] :: .blk g57 60 [.slice A58 L.length c59, In 2, .iface 83 (.agg #[]), S nm] :: .row (.slice A58 L.length c59) 39 2 L.length (us L) :: .blk g48 78 [S nm, S sec, .nilIface, .bool true] :: .row (.slice A54 L.length c55) 39 2 L.length (us L) :: .blk g43 78 [S nm, S sec, .iface 83 (.agg #[]), .bool true] :: .blk g40 9 [S [80, 76, 65, 73, 78], S [76, 79, 71, 73, 78], S [67, 82, 65, 77, 45, 77, 68, 53]] :: .row (.slice A9 L.length c9) 39 2 L.length (us L) :: .blk g1 39 [S nm, S sec] :: F) := H
 refine HL_call (i := 20) (f := 9) (args := #[Pt g53 0]) rfl (by kernel_rfl) (by kernel_rfl) (by kernel_rfl) (by kernel_rfl) (c_State 2 (.slice A54 L.length c55) (.iface 83 (.agg #[])) (S nm) H) ?_
 rintro _ w64 ⟨rfl, H⟩
 refine ⟨(.inr ⟨((H.blk_cell (i := 8) rfl 0).trans rfl), trivial⟩), ?_⟩
 refine HL_takes [21, 22, 23, 24] [(2, S stamp), (4, Pt g1 0), (7, .slice A9 L.length c9), (16, Pt g53 0), (17, Pt g57 0), (26, .slice (some ⟨g40, 0, none⟩) 3 3), (27, .int .i64 ((3 : Nat) : Int)), (28, .int .i64 ((0 : Nat) : Int)), (100, .bool false), (101, Pt g57 0)] (mkL 47 [0, 1, 2, 3, 4, 5, 6, 7, 8, 9, 10, 11, 12, 13, 14, 15, 16, 17, 18, 19, 20, 21, 22, 23, 24]) 22 (by kernel_rfl) rfl (by kernel_rfl) (fun _ => by kernel_rfl) ⟨((H.blk_cell (i := 8) rfl 0).trans rfl), trivial⟩ (fun β => ?_)
 replace H := H.front (i := 1) rfl
 replace H : Sep w0 w64 (.blk g57 60 [.slice A58 L.length c59, In 2, .iface 83 (.agg #[]), S nm] :: .blk g53 60 [.slice A54 L.length c55, In 2, .iface 83 (.agg #[]), S nm] :: .row (.slice A58 L.length c59) 39 2 L.length (us L) :: .blk g48 78 [S nm, S sec, .nilIface, .bool true] :: .row (.slice A54 L.length c55) 39 2 L.length (us L) :: .blk g43 78 [S nm, S sec, .iface 83 (.agg #[]), .bool true] :: .blk g40 9 [S [80, 76, 65, 73, 78], S [76, 79, 71, 73, 78], S [67, 82, 65, 77, 45, 77, 68, 53]] :: .row (.slice A9 L.length c9) 39 2 L.length (us L) :: .blk g1 39 [S nm, S sec] :: F) := H
 refine HL_call (i := 25) (f := 9) (args := #[Pt g57 0]) rfl (by kernel_rfl) (by kernel_rfl) (by kernel_rfl) (by kernel_rfl) (c_State 2 (.slice A58 L.length c59) (.iface 83 (.agg #[])) (S nm) H) ?_
 rintro _ w65 ⟨rfl, H⟩
 refine ⟨(.inr ⟨((H.blk_cell (i := 8) rfl 0).trans rfl), trivial⟩), ?_⟩
 refine HL_takes [26, 27, 28, 29, 31] [(2, S stamp), (4, Pt g1 0), (7, .slice A9 L.length c9), (16, Pt g53 0), (17, Pt g57 0), (26, .slice (some ⟨g40, 0, none⟩) 3 3), (27, .int .i64 ((3 : Nat) : Int)), (28, .int .i64 ((0 : Nat) : Int)), (105, .bool false), (106, Pt g53 0), (108, Pt g1 0)] (mkL 47 [0, 1, 2, 3, 4, 5, 6, 7, 8, 9, 10, 11, 12, 13, 14, 15, 16, 17, 18, 19, 20, 21, 22, 23, 24, 25, 26, 27, 28, 29, 31]) 16 (by kernel_rfl) rfl (by kernel_rfl) (fun _ => by kernel_rfl) ⟨((H.blk_cell (i := 8) rfl 0).trans rfl), trivial⟩ (fun β => ?_)
 refine HL_t (i := 32) (m := 15) (fun w hS => run_load1 (t := 9) (by kernel_rfl) hS.1) rfl (by kernel_rfl) (by kernel_rfl) (by kernel_rfl) (by kernel_rfl) (by kernel_rfl) (by kernel_rfl) ⟨((H.blk_cell (i := 8) rfl 0).trans rfl), trivial⟩ rfl ?_
 replace H := H.front (i := 1) rfl
 replace H : Sep w0 w65 (.blk g53 60 [.slice A54 L.length c55, In 2, .iface 83 (.agg #[]), S nm] :: .blk g57 60 [.slice A58 L.length c59, In 2, .iface 83 (.agg #[]), S nm] :: .row (.slice A58 L.length c59) 39 2 L.length (us L) :: .blk g48 78 [S nm, S sec, .nilIface, .bool true] :: .row (.slice A54 L.length c55) 39 2 L.length (us L) :: .blk g43 78 [S nm, S sec, .iface 83 (.agg #[]), .bool true] :: .blk g40 9 [S [80, 76, 65, 73, 78], S [76, 79, 71, 73, 78], S [67, 82, 65, 77, 45, 77, 68, 53]] :: .row (.slice A9 L.length c9) 39 2 L.length (us L) :: .blk g1 39 [S nm, S sec] :: F) := H
 refine HL_call (i := 30) (f := 13) (args := #[Pt g53 0]) rfl (by kernel_rfl) (by kernel_rfl) (by kernel_rfl) (by kernel_rfl) (c_User 2 (.slice A54 L.length c55) (.iface 83 (.agg #[])) nm H) ?_
 rintro _ w66 ⟨rfl, H⟩
 refine ⟨(.inr ⟨((H.blk_cell (i := 8) rfl 0).trans rfl), trivial⟩), ?_⟩
 refine HL_t (i := 33) (m := 13) (fun w _ => (R_strneF (t := 9) (l := nm) (m := nm) rfl)) rfl (by kernel_rfl) (by kernel_rfl) (by kernel_rfl) (by kernel_rfl) (by kernel_rfl) (by kernel_rfl) ⟨((H.blk_cell (i := 8) rfl 0).trans rfl), trivial⟩ rfl ?_
 refine HL_takes [34, 35, 36, 38] [(2, S stamp), (4, Pt g1 0), (7, .slice A9 L.length c9), (16, Pt g53 0), (26, .slice (some ⟨g40, 0, none⟩) 3 3), (27, .int .i64 ((3 : Nat) : Int)), (28, .int .i64 ((0 : Nat) : Int)), (112, .bool false), (113, Pt g57 0), (115, Pt g1 0)] (mkL 47 [0, 1, 2, 3, 4, 5, 6, 7, 8, 9, 10, 11, 12, 13, 14, 15, 16, 17, 18, 19, 20, 21, 22, 23, 24, 25, 26, 27, 28, 29, 31, 32, 30, 33, 34, 35, 36, 38]) 9 (by kernel_rfl) rfl (by kernel_rfl) (fun _ => by kernel_rfl) ⟨((H.blk_cell (i := 8) rfl 0).trans rfl), trivial⟩ (fun β => ?_)
 refine HL_t (i := 39) (m := 8) (fun w hS => run_load1 (t := 9) (by kernel_rfl) hS.1) rfl (by kernel_rfl) (by kernel_rfl) (by kernel_rfl) (by kernel_rfl) (by kernel_rfl) (by kernel_rfl) ⟨((H.blk_cell (i := 8) rfl 0).trans rfl), trivial⟩ rfl ?_
 replace H := H.front (i := 1) rfl
 replace H : Sep w0 w66 (.blk g57 60 [.slice A58 L.length c59, In 2, .iface 83 (.agg #[]), S nm] :: .blk g53 60 [.slice A54 L.length c55, In 2, .iface 83 (.agg #[]), S nm] :: .row (.slice A58 L.length c59) 39 2 L.length (us L) :: .blk g48 78 [S nm, S sec, .nilIface, .bool true] :: .row (.slice A54 L.length c55) 39 2 L.length (us L) :: .blk g43 78 [S nm, S sec, .iface 83 (.agg #[]), .bool true] :: .blk g40 9 [S [80, 76, 65, 73, 78], S [76, 79, 71, 73, 78], S [67, 82, 65, 77, 45, 77, 68, 53]] :: .row (.slice A9 L.length c9) 39 2 L.length (us L) :: .blk g1 39 [S nm, S sec] :: F) := H
 refine HL_call (i := 37) (f := 13) (args := #[Pt g57 0]) rfl (by kernel_rfl) (by kernel_rfl) (by kernel_rfl) (by kernel_rfl) (c_User 2 (.slice A58 L.length c59) (.iface 83 (.agg #[])) nm H) ?_
 rintro _ w67 ⟨rfl, H⟩
 refine ⟨(.inr ⟨((H.blk_cell (i := 8) rfl 0).trans rfl), trivial⟩), ?_⟩
 refine HL_t (i := 40) (m := 6) (fun w _ => (R_strneF (t := 9) (l := nm) (m := nm) rfl)) rfl (by kernel_rfl) (by kernel_rfl) (by kernel_rfl) (by kernel_rfl) (by kernel_rfl) (by kernel_rfl) ⟨((H.blk_cell (i := 8) rfl 0).trans rfl), trivial⟩ rfl ?_
 refine HL_takes [41, 42, 43] [(2, S stamp), (4, Pt g1 0), (7, .slice A9 L.length c9), (26, .slice (some ⟨g40, 0, none⟩) 3 3), (27, .int .i64 ((3 : Nat) : Int)), (28, .int .i64 ((0 : Nat) : Int)), (119, .bool false), (120, Pt g53 0)] (mkL 47 [0, 1, 2, 3, 4, 5, 6, 7, 8, 9, 10, 11, 12, 13, 14, 15, 16, 17, 18, 19, 20, 21, 22, 23, 24, 25, 26, 27, 28, 29, 31, 32, 30, 33, 34, 35, 36, 38, 39, 37, 40, 41, 42, 43]) 3 (by kernel_rfl) rfl (by kernel_rfl) (fun _ => by kernel_rfl) ⟨((H.blk_cell (i := 8) rfl 0).trans rfl), trivial⟩ (fun β => ?_)
 replace H := H.front (i := 1) rfl
 replace H : Sep w0 w67 (.blk g53 60 [.slice A54 L.length c55, In 2, .iface 83 (.agg #[]), S nm] :: .blk g57 60 [.slice A58 L.length c59, In 2, .iface 83 (.agg #[]), S nm] :: .row (.slice A58 L.length c59) 39 2 L.length (us L) :: .blk g48 78 [S nm, S sec, .nilIface, .bool true] :: .row (.slice A54 L.length c55) 39 2 L.length (us L) :: .blk g43 78 [S nm, S sec, .iface 83 (.agg #[]), .bool true] :: .blk g40 9 [S [80, 76, 65, 73, 78], S [76, 79, 71, 73, 78], S [67, 82, 65, 77, 45, 77, 68, 53]] :: .row (.slice A9 L.length c9) 39 2 L.length (us L) :: .blk g1 39 [S nm, S sec] :: F) := H
 refine HL_call (i := 44) (f := 11) (args := #[Pt g53 0]) rfl (by kernel_rfl) (by kernel_rfl) (by kernel_rfl) (by kernel_rfl) (c_Ask 2 (.slice A54 L.length c55) (S nm) Stp.plain (by first | trivial | (show nm.length ≤ 68719476736; omega) | (show stamp.length ≤ 68719476736; omega)) H) ?_
 rintro _ w68 ⟨rfl, H⟩
 replace H : Sep w0 w68 (.blk g53 60 [.slice A54 L.length c55, In 2, .iface 83 (.agg #[]), S nm] :: .blk g57 60 [.slice A58 L.length c59, In 2, .iface 83 (.agg #[]), S nm] :: .row (.slice A58 L.length c59) 39 2 L.length (us L) :: .blk g48 78 [S nm, S sec, .nilIface, .bool true] :: .row (.slice A54 L.length c55) 39 2 L.length (us L) :: .blk g43 78 [S nm, S sec, .iface 83 (.agg #[]), .bool true] :: .blk g40 9 [S [80, 76, 65, 73, 78], S [76, 79, 71, 73, 78], S [67, 82, 65, 77, 45, 77, 68, 53]] :: .row (.slice A9 L.length c9) 39 2 L.length (us L) :: .blk g1 39 [S nm, S sec] :: F) := H
 refine ⟨(.inr ⟨((H.blk_cell (i := 8) rfl 0).trans rfl), trivial⟩), ?_⟩
 refine HL_takes [45, 46] [(2, S stamp), (4, Pt g1 0), (7, .slice A9 L.length c9), (26, .slice (some ⟨g40, 0, none⟩) 3 3), (27, .int .i64 ((3 : Nat) : Int)), (28, .int .i64 ((0 : Nat) : Int)), (123, .bool false)] (mkL 47 [0, 1, 2, 3, 4, 5, 6, 7, 8, 9, 10, 11, 12, 13, 14, 15, 16, 17, 18, 19, 20, 21, 22, 23, 24, 25, 26, 27, 28, 29, 31, 32, 30, 33, 34, 35, 36, 38, 39, 37, 40, 41, 42, 43, 44, 45, 46]) 0 (by kernel_rfl) rfl (by kernel_rfl) (fun _ => by kernel_rfl) ⟨((H.blk_cell (i := 8) rfl 0).trans rfl), trivial⟩ (fun β => ?_)
 refine HL_forget [(2, S stamp), (4, Pt g1 0), (7, .slice A9 L.length c9), (26, .slice (some ⟨g40, 0, none⟩) 3 3), (27, In 3), (28, In 0), (123, .bool false)] (by kernel_rfl) (fun β => ?_)
 refine HL_fin (by kernel_rfl) ?_
 refine thn_normal ?_
 refine G_false (by kernel_rfl) ?_
 refine G_skip ?_
 refine inb_normal ?_
 refine thn_normal ?_
 refine G_region ?_
 refine GL_st 2 2 [(2, S stamp), (4, Pt g1 0), (7, .slice A9 L.length c9), (26, .slice (some ⟨g40, 0, none⟩) 3 3), (27, In 3), (28, In 1)] fun β => ?_
 refine GU_step ?_
 refine G_forget [(2, S stamp), (4, Pt g1 0), (7, .slice A9 L.length c9), (26, .slice (some ⟨g40, 0, none⟩) 3 3), (27, In 3), (28, In 1)] (by kernel_rfl) (fun β => ?_)
 replace H := H.drop 5
 replace H := H.drop 4
 replace H := H.drop 3
 replace H := H.drop 2
 replace H := H.drop 1
 replace H := H.drop 0
 replace H := H.front (i := 2) rfl
 replace H := H.front (i := 2) rfl
 replace H := H.front (i := 2) rfl
 replace H : Sep w0 w68 (.blk g40 9 [S [80, 76, 65, 73, 78], S [76, 79, 71, 73, 78], S [67, 82, 65, 77, 45, 77, 68, 53]] :: .row (.slice A9 L.length c9) 39 2 L.length (us L) :: .blk g1 39 [S nm, S sec] :: F) := H
 refine G_sr ?_
 refine GL_st 1 1 [(2, S stamp), (4, Pt g1 0), (7, .slice A9 L.length c9), (26, .slice (some ⟨g40, 0, none⟩) 3 3), (27, In 3), (28, In 1), (29, .bool true)] fun β => ?_
 refine G_seq ?_
 refine G_true (by kernel_rfl) ?_
 refine G_skip ?_
 refine thn_normal ?_
 refine G_seq ?_
 refine G_block ?_
 refine G_sr ?_
 refine GL_s 1 1 [(2, S stamp), (4, Pt g1 0), (7, .slice A9 L.length c9), (26, .slice (some ⟨g40, 0, none⟩) 3 3), (27, In 3), (28, In 1), (30, Pt g40 1)] fun β => ?_
 refine GL_V (run_load1 (t := 9) (by kernel_rfl) ((H.blk_cell (i := 0) rfl 1).trans rfl)) ?_
 refine GL_st 1 3 [(2, S stamp), (4, Pt g1 0), (7, .slice A9 L.length c9), (9, S [76, 79, 71, 73, 78]), (26, .slice (some ⟨g40, 0, none⟩) 3 3), (27, In 3), (28, In 1)] fun β => ?_
 refine G_sr ?_
 refine GL_V (run_loadN (t := 39) (vs := [S nm, S sec]) (by kernel_rfl) (by kernel_rfl) (H.blk_cells (i := 2) rfl 0 _ ⟨_, rfl⟩)) ?_
 refine GL_s 1 2 [(2, S stamp), (4, Pt g1 0), (7, .slice A9 L.length c9), (9, S [76, 79, 71, 73, 78]), (26, .slice (some ⟨g40, 0, none⟩) 3 3), (27, In 3), (28, In 1), (33, .agg #[S nm, S sec]), (34, S [76, 79, 71, 73, 78])] fun β => ?_
 refine GL_C (c_Respond_login nm sec [76, 79, 71, 73, 78] (by omega) (by omega) (by first | omega | decide) (by decide) hy H) ?_
 rintro _ w69 ⟨g70, rfl, H⟩
 replace H : Sep w0 w69 (.blk g70 78 [S nm, S sec, .iface 84 (.agg #[]), .bool false] :: .blk g40 9 [S [80, 76, 65, 73, 78], S [76, 79, 71, 73, 78], S [67, 82, 65, 77, 45, 77, 68, 53]] :: .row (.slice A9 L.length c9) 39 2 L.length (us L) :: .blk g1 39 [S nm, S sec] :: F) := H
 refine GL_st 5 8 [(2, S stamp), (4, Pt g1 0), (7, .slice A9 L.length c9), (9, S [76, 79, 71, 73, 78]), (10, .iface 73 (Pt g70 0)), (11, In 0), (26, .slice (some ⟨g40, 0, none⟩) 3 3), (27, In 3), (28, In 1)] fun β => ?_
 refine G_seq ?_
 refine G_sr ?_
 refine GL_V (run_loadN (t := 39) (vs := [S nm, S sec]) (by kernel_rfl) (by kernel_rfl) (H.blk_cells (i := 3) rfl 0 _ ⟨_, rfl⟩)) ?_
 refine GL_C (c_lmay nm sec (by omega) (by omega) H) ?_
 rintro _ w71 ⟨rfl, H⟩
 rw [may_eq, hy]
 refine GL_st 1 3 [(2, S stamp), (4, Pt g1 0), (7, .slice A9 L.length c9), (9, S [76, 79, 71, 73, 78]), (10, .iface 73 (Pt g70 0)), (11, In 0), (26, .slice (some ⟨g40, 0, none⟩) 3 3), (27, In 3), (28, In 1), (40, .bool false)] fun β => ?_
 refine G_false (by kernel_rfl) ?_
 refine G_skip ?_
 refine thn_normal ?_
 refine G_seq ?_
 refine G_drawS (fun w => (∀ j u, ([S nm, S sec] : List Value)[j]? = some u → w.cell? ((⟨g1, 0, none⟩ : Addr).add j) = some u) ∧ True) 9 9 (by kernel_rfl) (by kernel_rfl) H (fun w72 H => ?_)
 refine HL_t (i := 0) (m := 8) (fun w hS => run_loadN (t := 39) (vs := [S nm, S sec]) (by kernel_rfl) (by kernel_rfl) hS.1) rfl (by kernel_rfl) (by kernel_rfl) (by kernel_rfl) (by kernel_rfl) (by kernel_rfl) (by kernel_rfl) ⟨(H.blk_cells (i := 3) rfl 0 _ ⟨_, rfl⟩), trivial⟩ rfl ?_
 refine HL_takes [1] [(2, S stamp), (4, Pt g1 0), (7, .slice A9 L.length c9), (9, S [76, 79, 71, 73, 78]), (10, .iface 73 (Pt g70 0)), (11, .int .i64 ((0 : Nat) : Int)), (26, .slice (some ⟨g40, 0, none⟩) 3 3), (27, .int .i64 ((3 : Nat) : Int)), (28, .int .i64 ((1 : Nat) : Int)), (44, .agg #[S nm, S sec]), (45, S [76, 79, 71, 73, 78])] (mkL 9 [0, 1]) 7 (by kernel_rfl) rfl (by kernel_rfl) (fun _ => by kernel_rfl) ⟨(H.blk_cells (i := 3) rfl 0 _ ⟨_, rfl⟩), trivial⟩ (fun β => ?_)
 refine HL_call (i := 2) (f := 21) (args := #[S [76, 79, 71, 73, 78]]) rfl (by kernel_rfl) (by kernel_rfl) (by kernel_rfl) (by kernel_rfl) (c_Upper [76, 79, 71, 73, 78] (by decide) H) ?_
 rintro _ w73 ⟨rfl, H⟩
 rw [show ([76, 79, 71, 73, 78] : List UInt8).map up = [76, 79, 71, 73, 78] from by decide]
 refine ⟨(.inr ⟨(H.blk_cells (i := 3) rfl 0 _ ⟨_, rfl⟩), trivial⟩), ?_⟩
 refine HL_call (i := 3) (f := 19) (args := #[.agg #[S nm, S sec], S [76, 79, 71, 73, 78]]) rfl (by kernel_rfl) (by kernel_rfl) (by kernel_rfl) (by kernel_rfl) (c_Respond_login nm sec [76, 79, 71, 73, 78] (by omega) (by omega) (by first | omega | decide) (by decide) hy H) ?_
 rintro _ w74 ⟨g75, rfl, H⟩
 replace H : Sep w0 w74 (.blk g75 78 [S nm, S sec, .iface 84 (.agg #[]), .bool false] :: .blk g70 78 [S nm, S sec, .iface 84 (.agg #[]), .bool false] :: .blk g40 9 [S [80, 76, 65, 73, 78], S [76, 79, 71, 73, 78], S [67, 82, 65, 77, 45, 77, 68, 53]] :: .row (.slice A9 L.length c9) 39 2 L.length (us L) :: .blk g1 39 [S nm, S sec] :: F) := H
 refine ⟨(.inr ⟨(H.blk_cells (i := 4) rfl 0 _ ⟨_, rfl⟩), trivial⟩), ?_⟩
 refine HL_takes [4, 5, 6, 7, 8] [(2, S stamp), (4, Pt g1 0), (7, .slice A9 L.length c9), (9, S [76, 79, 71, 73, 78]), (10, .iface 73 (Pt g70 0)), (11, .int .i64 ((0 : Nat) : Int)), (12, .iface 73 (Pt g75 0)), (13, .int .i64 ((0 : Nat) : Int)), (26, .slice (some ⟨g40, 0, none⟩) 3 3), (27, .int .i64 ((3 : Nat) : Int)), (28, .int .i64 ((1 : Nat) : Int))] (mkL 9 [0, 1, 2, 3, 4, 5, 6, 7, 8]) 0 (by kernel_rfl) rfl (by kernel_rfl) (fun _ => by kernel_rfl) ⟨(H.blk_cells (i := 4) rfl 0 _ ⟨_, rfl⟩), trivial⟩ (fun β => ?_)
 refine HL_forget [(2, S stamp), (4, Pt g1 0), (7, .slice A9 L.length c9), (9, S [76, 79, 71, 73, 78]), (10, .iface 73 (Pt g70 0)), (11, In 0), (12, .iface 73 (Pt g75 0)), (13, In 0), (26, .slice (some ⟨g40, 0, none⟩) 3 3), (27, In 3), (28, In 1)] (by kernel_rfl) (fun β => ?_)
 refine HL_fin (by kernel_rfl) ?_
 refine thn_normal ?_
 refine G_seq ?_
 refine G_sr ?_
 refine GL_st 6 6 [(2, S stamp), (4, Pt g1 0), (7, .slice A9 L.length c9), (9, S [76, 79, 71, 73, 78]), (10, .iface 73 (Pt g70 0)), (12, .iface 73 (Pt g75 0)), (26, .slice (some ⟨g40, 0, none⟩) 3 3), (27, In 3), (28, In 1), (55, .bool false)] fun β => ?_
 refine G_false (by kernel_rfl) ?_
 refine G_skip ?_
 refine thn_normal ?_
 refine G_sr ?_
 refine GL_s 1 1 [(2, S stamp), (4, Pt g1 0), (7, .slice A9 L.length c9), (9, S [76, 79, 71, 73, 78]), (10, .iface 73 (Pt g70 0)), (12, .iface 73 (Pt g75 0)), (26, .slice (some ⟨g40, 0, none⟩) 3 3), (27, In 3), (28, In 1), (57, .iface 73 (Pt g70 0))] fun β => ?_
 replace H := H.front (i := 1) rfl
 replace H : Sep w0 w74 (.blk g70 78 [S nm, S sec, .iface 84 (.agg #[]), .bool false] :: .blk g75 78 [S nm, S sec, .iface 84 (.agg #[]), .bool false] :: .blk g40 9 [S [80, 76, 65, 73, 78], S [76, 79, 71, 73, 78], S [67, 82, 65, 77, 45, 77, 68, 53]] :: .row (.slice A9 L.length c9) 39 2 L.length (us L) :: .blk g1 39 [S nm, S sec] :: F) := H
 refine GL_C (c_First_false nm sec (.iface 84 (.agg #[])) H) ?_
 rintro _ w76 ⟨rfl, H⟩
 replace H : Sep w0 w76 (.blk g70 78 [S nm, S sec, .iface 84 (.agg #[]), .bool false] :: .blk g75 78 [S nm, S sec, .iface 84 (.agg #[]), .bool false] :: .blk g40 9 [S [80, 76, 65, 73, 78], S [76, 79, 71, 73, 78], S [67, 82, 65, 77, 45, 77, 68, 53]] :: .row (.slice A9 L.length c9) 39 2 L.length (us L) :: .blk g1 39 [S nm, S sec] :: F) := H
 refine GL_st 5 7 [(2, S stamp), (4, Pt g1 0), (7, .slice A9 L.length c9), (9, S [76, 79, 71, 73, 78]), (10, .iface 73 (Pt g70 0)), (12, .iface 73 (Pt g75 0)), (14, S ([] : List UInt8)), (15, .bool false), (26, .slice (some ⟨g40, 0, none⟩) 3 3), (27, In 3), (28, In 1)] fun β => ?_
 refine G_sr ?_
 refine GL_s 5 5 [(2, S stamp), (4, Pt g1 0), (7, .slice A9 L.length c9), (9, S [76, 79, 71, 73, 78]), (10, .iface 73 (Pt g70 0)), (12, .iface 73 (Pt g75 0)), (26, .slice (some ⟨g40, 0, none⟩) 3 3), (27, In 3), (28, In 1), (62, .slice A9 L.length c9), (63, S [76, 79, 71, 73, 78]), (64, S stamp), (65, S ([] : List UInt8)), (66, .bool false)] fun β => ?_
 refine GL_C (c_Begin_login T hT gT R hR gR L (by first | omega | (decide +kernel) | (simp only [List.length_nil]; omega) | (simp only [List.length_cons, List.length_nil]; omega)) hU [76, 79, 71, 73, 78] stamp ([] : List UInt8) (by first | omega | (decide +kernel) | (simp only [List.length_nil]; omega) | (simp only [List.length_cons, List.length_nil]; omega)) (by first | omega | (decide +kernel) | (simp only [List.length_nil]; omega) | (simp only [List.length_cons, List.length_nil]; omega)) (by first | omega | (decide +kernel) | (simp only [List.length_nil]; omega) | (simp only [List.length_cons, List.length_nil]; omega)) (by decide) (Rd.of_row H (i := 3) rfl) H) ?_
 rintro _ w80 ⟨g77, A78, c79, rfl, H⟩
 replace H : Sep w0 w80 (.blk g77 60 [.slice A78 L.length c79, In 1, .iface 84 (.agg #[]), S ([] : List UInt8)] :: .row (.slice A78 L.length c79) 39 2 L.length (us L) :: .blk g70 78 [S nm, S sec, .iface 84 (.agg #[]), .bool false] :: .blk g75 78 [S nm, S sec, .iface 84 (.agg #[]), .bool false] :: .blk g40 9 [S [80, 76, 65, 73, 78], S [76, 79, 71, 73, 78], S [67, 82, 65, 77, 45, 77, 68, 53]] :: .row (.slice A9 L.length c9) 39 2 L.length (us L) :: .blk g1 39 [S nm, S sec] :: F) := H
 refine GL_st 5 11 [(2, S stamp), (4, Pt g1 0), (7, .slice A9 L.length c9), (9, S [76, 79, 71, 73, 78]), (10, .iface 73 (Pt g70 0)), (11, In 0), (12, .iface 73 (Pt g75 0)), (16, Pt g77 0), (26, .slice (some ⟨g40, 0, none⟩) 3 3), (27, In 3), (28, In 1)] fun β => ?_
 refine G_sr ?_
 refine GL_s 3 3 [(2, S stamp), (4, Pt g1 0), (7, .slice A9 L.length c9), (10, .iface 73 (Pt g70 0)), (11, In 0), (12, .iface 73 (Pt g75 0)), (16, Pt g77 0), (26, .slice (some ⟨g40, 0, none⟩) 3 3), (27, In 3), (28, In 1), (71, .slice A9 L.length c9), (72, S [76, 79, 71, 73, 78]), (73, S stamp)] fun β => ?_
 refine GL_C (c_Begin_login T hT gT R hR gR L (by first | omega | (decide +kernel) | (simp only [List.length_nil]; omega) | (simp only [List.length_cons, List.length_nil]; omega)) hU [76, 79, 71, 73, 78] stamp ([] : List UInt8) (by first | omega | (decide +kernel) | (simp only [List.length_nil]; omega) | (simp only [List.length_cons, List.length_nil]; omega)) (by first | omega | (decide +kernel) | (simp only [List.length_nil]; omega) | (simp only [List.length_cons, List.length_nil]; omega)) (by first | omega | (decide +kernel) | (simp only [List.length_nil]; omega) | (simp only [List.length_cons, List.length_nil]; omega)) (by decide) (Rd.of_row H (i := 5) rfl) H) ?_
 rintro _ w84 ⟨g81, A82, c83, rfl, H⟩
 replace H : Sep w0 w84 (.blk g81 60 [.slice A82 L.length c83, In 1, .iface 84 (.agg #[]), S ([] : List UInt8)] :: .row (.slice A82 L.length c83) 39 2 L.length (us L) :: .blk g77 60 [.slice A78 L.length c79, In 1, .iface 84 (.agg #[]), S ([] : List UInt8)] :: .row (.slice A78 L.length c79) 39 2 L.length (us L) :: .blk g70 78 [S nm, S sec, .iface 84 (.agg #[]), .bool false] :: .blk g75 78 [S nm, S sec, .iface 84 (.agg #[]), .bool false] :: .blk g40 9 [S [80, 76, 65, 73, 78], S [76, 79, 71, 73, 78], S [67, 82, 65, 77, 45, 77, 68, 53]] :: .row (.slice A9 L.length c9) 39 2 L.length (us L) :: .blk g1 39 [S nm, S sec] :: F) := H
 refine GL_st 5 9 [(2, S stamp), (4, Pt g1 0), (7, .slice A9 L.length c9), (10, .iface 73 (Pt g70 0)), (11, In 0), (12, .iface 73 (Pt g75 0)), (13, In 0), (16, Pt g77 0), (17, Pt g81 0), (26, .slice (some ⟨g40, 0, none⟩) 3 3), (27, In 3), (28, In 1)] fun β => ?_
 refine G_seq ?_
 refine G_drawS (fun w => w.cell? ⟨g1, 0, none⟩ = some (S nm) ∧ True) 47 47 (by kernel_rfl) (by kernel_rfl) H (fun w85 H => ?_)
 refine HL_takes [0, 1, 2, 3, 4, 5, 6, 7, 8] [(2, S stamp), (4, Pt g1 0), (7, .slice A9 L.length c9), (12, .iface 73 (Pt g75 0)), (16, Pt g77 0), (17, Pt g81 0), (26, .slice (some ⟨g40, 0, none⟩) 3 3), (27, .int .i64 ((3 : Nat) : Int)), (28, .int .i64 ((1 : Nat) : Int)), (83, .bool false), (84, Pt g77 0), (85, .iface 73 (Pt g70 0))] (mkL 47 [0, 1, 2, 3, 4, 5, 6, 7, 8]) 38 (by kernel_rfl) rfl (by kernel_rfl) (fun _ => by kernel_rfl) ⟨((H.blk_cell (i := 8) rfl 0).trans rfl), trivial⟩ (fun β => ?_)
 replace H := H.front (i := 4) rfl
 replace H := H.front (i := 4) rfl
 replace H := H.front (i := 4) rfl
 replace H : Sep w0 w85 (.blk g77 60 [.slice A78 L.length c79, In 1, .iface 84 (.agg #[]), S ([] : List UInt8)] :: .row (.slice A78 L.length c79) 39 2 L.length (us L) :: .blk g70 78 [S nm, S sec, .iface 84 (.agg #[]), .bool false] :: .blk g81 60 [.slice A82 L.length c83, In 1, .iface 84 (.agg #[]), S ([] : List UInt8)] :: .row (.slice A82 L.length c83) 39 2 L.length (us L) :: .blk g75 78 [S nm, S sec, .iface 84 (.agg #[]), .bool false] :: .blk g40 9 [S [80, 76, 65, 73, 78], S [76, 79, 71, 73, 78], S [67, 82, 65, 77, 45, 77, 68, 53]] :: .row (.slice A9 L.length c9) 39 2 L.length (us L) :: .blk g1 39 [S nm, S sec] :: F) := H
 refine HL_call (i := 9) (f := 22) (args := #[Pt g77 0, .iface 73 (Pt g70 0)]) rfl (by kernel_rfl) (by kernel_rfl) (by kernel_rfl) (by kernel_rfl) (c_talk_login_true T hT gT R hR gR L (by omega) hU nm sec stamp (by omega) (by omega) (by omega) false hz1 hz2 hp1 H) ?_
 rintro _ w86 ⟨rfl, H⟩
 replace H : Sep w0 w86 (.blk g77 60 [.slice A78 L.length c79, In 2, .iface 170 (.agg #[S nm]), S nm] :: .row (.slice A78 L.length c79) 39 2 L.length (us L) :: .blk g70 78 [S nm, S sec, .nilIface, .bool false] :: .blk g81 60 [.slice A82 L.length c83, In 1, .iface 84 (.agg #[]), S ([] : List UInt8)] :: .row (.slice A82 L.length c83) 39 2 L.length (us L) :: .blk g75 78 [S nm, S sec, .iface 84 (.agg #[]), .bool false] :: .blk g40 9 [S [80, 76, 65, 73, 78], S [76, 79, 71, 73, 78], S [67, 82, 65, 77, 45, 77, 68, 53]] :: .row (.slice A9 L.length c9) 39 2 L.length (us L) :: .blk g1 39 [S nm, S sec] :: F) := H
 refine ⟨(.inr ⟨((H.blk_cell (i := 8) rfl 0).trans rfl), trivial⟩), ?_⟩
 refine HL_takes [10, 11, 12, 13, 14] [(2, S stamp), (4, Pt g1 0), (7, .slice A9 L.length c9), (16, Pt g77 0), (17, Pt g81 0), (26, .slice (some ⟨g40, 0, none⟩) 3 3), (27, .int .i64 ((3 : Nat) : Int)), (28, .int .i64 ((1 : Nat) : Int)), (89, .bool false), (90, Pt g81 0), (91, .iface 73 (Pt g75 0))] (mkL 47 [0, 1, 2, 3, 4, 5, 6, 7, 8, 9, 10, 11, 12, 13, 14]) 32 (by kernel_rfl) rfl (by kernel_rfl) (fun _ => by kernel_rfl) ⟨((H.blk_cell (i := 8) rfl 0).trans rfl), trivial⟩ (fun β => ?_)
 replace H := H.front (i := 5) rfl
 replace H := H.front (i := 5) rfl
 replace H := H.front (i := 5) rfl
 replace H : Sep w0 w86 (.blk g81 60 [.slice A82 L.length c83, In 1, .iface 84 (.agg #[]), S ([] : List UInt8)] :: .row (.slice A82 L.length c83) 39 2 L.length (us L) :: .blk g75 78 [S nm, S sec, .iface 84 (.agg #[]), .bool false] :: .blk g77 60 [.slice A78 L.length c79, In 2, .iface 170 (.agg #[S nm]), S nm] :: .row (.slice A78 L.length c79) 39 2 L.length (us L) :: .blk g70 78 [S nm, S sec, .nilIface, .bool false] :: .blk g40 9 [S [80, 76, 65, 73, 78], S [76, 79, 71, 73, 78], S [67, 82, 65, 77, 45, 77, 68, 53]] :: .row (.slice A9 L.length c9) 39 2 L.length (us L) :: .blk g1 39 [S nm, S sec] :: F) := H
 refine HL_call (i := 15) (f := 22) (args := #[Pt g81 0, .iface 73 (Pt g75 0)]) rfl (by kernel_rfl) (by kernel_rfl) (by kernel_rfl) (by kernel_rfl) (c_talk_login_true T hT gT R hR gR L (by omega) hU nm sec stamp (by omega) (by omega) (by omega) false hz1 hz2 hp1 H) ?_
 rintro _ w87 ⟨rfl, H⟩
 replace H : Sep w0 w87 (.blk g81 60 [.slice A82 L.length c83, In 2, .iface 170 (.agg #[S nm]), S nm] :: .row (.slice A82 L.length c83) 39 2 L.length (us L) :: .blk g75 78 [S nm, S sec, .nilIface, .bool false] :: .blk g77 60 [.slice A78 L.length c79, In 2, .iface 170 (.agg #[S nm]), S nm] :: .row (.slice A78 L.length c79) 39 2 L.length (us L) :: .blk g70 78 [S nm, S sec, .nilIface, .bool false] :: .blk g40 9 [S [80, 76, 65, 73, 78], S [76, 79, 71, 73, 78], S [67, 82, 65, 77, 45, 77, 68, 53]] :: .row (.slice A9 L.length c9) 39 2 L.length (us L) :: .blk g1 39 [S nm, S sec] :: F) := H
 refine ⟨(.inr ⟨((H.blk_cell (i := 8) rfl 0).trans rfl), trivial⟩), ?_⟩
 refine HL_takes [16, 17, 18, 19] [(2, S stamp), (4, Pt g1 0), (7, .slice A9 L.length c9), (16, Pt g77 0), (17, Pt g81 0), (26, .slice (some ⟨g40, 0, none⟩) 3 3), (27, .int .i64 ((3 : Nat) : Int)), (28, .int .i64 ((1 : Nat) : Int)), (95, .bool false), (96, Pt g77 0)] (mkL 47 [0, 1, 2, 3, 4, 5, 6, 7, 8, 9, 10, 11, 12, 13, 14, 15, 16, 17, 18, 19]) 27 (by kernel_rfl) rfl (by kernel_rfl) (fun _ => by kernel_rfl) ⟨((H.blk_cell (i := 8) rfl 0).trans rfl), trivial⟩ (fun β => ?_)
 replace H := H.front (i := 3) rfl
 replace H : Sep w0 w87 (.blk g77 60 [.slice A78 L.length c79, In 2, .iface 170 (.agg #[S nm]), S nm] :: .blk g81 60 [.slice A82 L.length c83, In 2, .iface 170 (.agg #[S nm]), S nm] :: .row (.slice A82 L.length c83) 39 2 L.length (us L) :: .blk g75 78 [S nm, S sec, .nilIface, .bool false] :: .row (.slice A78 L.length c79) 39 2 L.length (us L) :: .blk g70 78 [S nm, S sec, .nilIface, .bool false] :: .blk g40 9 [S [80, 76, 65, 73, 78], S [76, 79, 71, 73, 78], S [67, 82, 65, 77, 45, 77, 68, 53]] :: .row (.slice A9 L.length c9) 39 2 L.length (us L) :: .blk g1 39 [S nm, S sec] :: F) := H
 refine HL_call (i := 20) (f := 9) (args := #[Pt g77 0]) rfl (by kernel_rfl) (by kernel_rfl) (by kernel_rfl) (by kernel_rfl) (c_State 2 (.slice A78 L.length c79) (.iface 170 (.agg #[S nm])) (S nm) H) ?_
 rintro _ w88 ⟨rfl, H⟩
 refine ⟨(.inr ⟨((H.blk_cell (i := 8) rfl 0).trans rfl), trivial⟩), ?_⟩
 refine HL_takes [21, 22, 23, 24] [(2, S stamp), (4, Pt g1 0), (7, .slice A9 L.length c9), (16, Pt g77 0), (17, Pt g81 0), (26, .slice (some ⟨g40, 0, none⟩) 3 3), (27, .int .i64 ((3 : Nat) : Int)), (28, .int .i64 ((1 : Nat) : Int)), (100, .bool false), (101, Pt g81 0)] (mkL 47 [0, 1, 2, 3, 4, 5, 6, 7, 8, 9, 10, 11, 12, 13, 14, 15, 16, 17, 18, 19, 20, 21, 22, 23, 24]) 22 (by kernel_rfl) rfl (by kernel_rfl) (fun _ => by kernel_rfl) ⟨((H.blk_cell (i := 8) rfl 0).trans rfl), trivial⟩ (fun β => ?_)
 replace H := H.front (i := 1) rfl
 replace H : Sep w0 w88 (.blk g81 60 [.slice A82 L.length c83, In 2, .iface 170 (.agg #[S nm]), S nm] :: .blk g77 60 [.slice A78 L.length c79, In 2, .iface 170 (.agg #[S nm]), S nm] :: .row (.slice A82 L.length c83) 39 2 L.length (us L) :: .blk g75 78 [S nm, S sec, .nilIface, .bool false] :: .row (.slice A78 L.length c79) 39 2 L.length (us L) :: .blk g70 78 [S nm, S sec, .nilIface, .bool false] :: .blk g40 9 [S [80, 76, 65, 73, 78], S [76, 79, 71, 73, 78], S [67, 82, 65, 77, 45, 77, 68, 53]] :: .row (.slice A9 L.length c9) 39 2 L.length (us L) :: .blk g1 39 [S nm, S sec] :: F) := H
 refine HL_call (i := 25) (f := 9) (args := #[Pt g81 0]) rfl (by kernel_rfl) (by kernel_rfl) (by kernel_rfl) (by kernel_rfl) (c_State 2 (.slice A82 L.length c83) (.iface 170 (.agg #[S nm])) (S nm) H) ?_
 rintro _ w89 ⟨rfl, H⟩
 refine ⟨(.inr ⟨((H.blk_cell (i := 8) rfl 0).trans rfl), trivial⟩), ?_⟩
 refine HL_takes [26, 27, 28, 29, 31] [(2, S stamp), (4, Pt g1 0), (7, .slice A9 L.length c9), (16, Pt g77 0), (17, Pt g81 0), (26, .slice (some ⟨g40, 0, none⟩) 3 3), (27, .int .i64 ((3 : Nat) : Int)), (28, .int .i64 ((1 : Nat) : Int)), (105, .bool false), (106, Pt g77 0), (108, Pt g1 0)] (mkL 47 [0, 1, 2, 3, 4, 5, 6, 7, 8, 9, 10, 11, 12, 13, 14, 15, 16, 17, 18, 19, 20, 21, 22, 23, 24, 25, 26, 27, 28, 29, 31]) 16 (by kernel_rfl) rfl (by kernel_rfl) (fun _ => by kernel_rfl) ⟨((H.blk_cell (i := 8) rfl 0).trans rfl), trivial⟩ (fun β => ?_)
 refine HL_t (i := 32) (m := 15) (fun w hS => run_load1 (t := 9) (by kernel_rfl) hS.1) rfl (by kernel_rfl) (by kernel_rfl) (by kernel_rfl) (by kernel_rfl) (by kernel_rfl) (by kernel_rfl) ⟨((H.blk_cell (i := 8) rfl 0).trans rfl), trivial⟩ rfl ?_
 replace H := H.front (i := 1) rfl
 replace H : Sep w0 w89 (.blk g77 60 [.slice A78 L.length c79, In 2, .iface 170 (.agg #[S nm]), S nm] :: .blk g81 60 [.slice A82 L.length c83, In 2, .iface 170 (.agg #[S nm]), S nm] :: .row (.slice A82 L.length c83) 39 2 L.length (us L) :: .blk g75 78 [S nm, S sec, .nilIface, .bool false] :: .row (.slice A78 L.length c79) 39 2 L.length (us L) :: .blk g70 78 [S nm, S sec, .nilIface, .bool false] :: .blk g40 9 [S [80, 76, 65, 73, 78], S [76, 79, 71, 73, 78], S [67, 82, 65, 77, 45, 77, 68, 53]] :: .row (.slice A9 L.length c9) 39 2 L.length (us L) :: .blk g1 39 [S nm, S sec] :: F) := H
 refine HL_call (i := 30) (f := 13) (args := #[Pt g77 0]) rfl (by kernel_rfl) (by kernel_rfl) (by kernel_rfl) (by kernel_rfl) (c_User 2 (.slice A78 L.length c79) (.iface 170 (.agg #[S nm])) nm H) ?_
 rintro _ w90 ⟨rfl, H⟩
 refine ⟨(.inr ⟨((H.blk_cell (i := 8) rfl 0).trans rfl), trivial⟩), ?_⟩
 refine HL_t (i := 33) (m := 13) (fun w _ => (R_strneF (t := 9) (l := nm) (m := nm) rfl)) rfl (by kernel_rfl) (by kernel_rfl) (by kernel_rfl) (by kernel_rfl) (by kernel_rfl) (by kernel_rfl) ⟨((H.blk_cell (i := 8) rfl 0).trans rfl), trivial⟩ rfl ?_
 refine HL_takes [34, 35, 36, 38] [(2, S stamp), (4, Pt g1 0), (7, .slice A9 L.length c9), (16, Pt g77 0), (26, .slice (some ⟨g40, 0, none⟩) 3 3), (27, .int .i64 ((3 : Nat) : Int)), (28, .int .i64 ((1 : Nat) : Int)), (112, .bool false), (113, Pt g81 0), (115, Pt g1 0)] (mkL 47 [0, 1, 2, 3, 4, 5, 6, 7, 8, 9, 10, 11, 12, 13, 14, 15, 16, 17, 18, 19, 20, 21, 22, 23, 24, 25, 26, 27, 28, 29, 31, 32, 30, 33, 34, 35, 36, 38]) 9 (by kernel_rfl) rfl (by kernel_rfl) (fun _ => by kernel_rfl) ⟨((H.blk_cell (i := 8) rfl 0).trans rfl), trivial⟩ (fun β => ?_)
 refine HL_t (i := 39) (m := 8) (fun w hS => run_load1 (t := 9) (by kernel_rfl) hS.1) rfl (by kernel_rfl) (by kernel_rfl) (by kernel_rfl) (by kernel_rfl) (by kernel_rfl) (by kernel_rfl) ⟨((H.blk_cell (i := 8) rfl 0).trans rfl), trivial⟩ rfl ?_
 replace H := H.front (i := 1) rfl
 replace H : Sep w0 w90 (.blk g81 60 [.slice A82 L.length c83, In 2, .iface 170 (.agg #[S nm]), S nm] :: .blk g77 60 [.slice A78 L.length c79, In 2, .iface 170 (.agg #[S nm]), S nm] :: .row (.slice A82 L.length c83) 39 2 L.length (us L) :: .blk g75 78 [S nm, S sec, .nilIface, .bool false] :: .row (.slice A78 L.length c79) 39 2 L.length (us L) :: .blk g70 78 [S nm, S sec, .nilIface, .bool false] :: .blk g40 9 [S [80, 76, 65, 73, 78], S [76, 79, 71, 73, 78], S [67, 82, 65, 77, 45, 77, 68, 53]] :: .row (.slice A9 L.length c9) 39 2 L.length (us L) :: .blk g1 39 [S nm, S sec] :: F) := H
 refine HL_call (i := 37) (f := 13) (args := #[Pt g81 0]) rfl (by kernel_rfl) (by kernel_rfl) (by kernel_rfl) (by kernel_rfl) (c_User 2 (.slice A82 L.length c83) (.iface 170 (.agg #[S nm])) nm H) ?_
 rintro _ w91 ⟨rfl, H⟩
 refine ⟨(.inr ⟨((H.blk_cell (i := 8) rfl 0).trans rfl), trivial⟩), ?_⟩
 refine HL_t (i := 40) (m := 6) (fun w _ => (R_strneF (t := 9) (l := nm) (m := nm) rfl)) rfl (by kernel_rfl) (by kernel_rfl) (by kernel_rfl) (by kernel_rfl) (by kernel_rfl) (by kernel_rfl) ⟨((H.blk_cell (i := 8) rfl 0).trans rfl), trivial⟩ rfl ?_
 refine HL_takes [41, 42, 43] [(2, S stamp), (4, Pt g1 0), (7, .slice A9 L.length c9), (26, .slice (some ⟨g40, 0, none⟩) 3 3), (27, .int .i64 ((3 : Nat) : Int)), (28, .int .i64 ((1 : Nat) : Int)), (119, .bool false), (120, Pt g77 0)] (mkL 47 [0, 1, 2, 3, 4, 5, 6, 7, 8, 9, 10, 11, 12, 13, 14, 15, 16, 17, 18, 19, 20, 21, 22, 23, 24, 25, 26, 27, 28, 29, 31, 32, 30, 33, 34, 35, 36, 38, 39, 37, 40, 41, 42, 43]) 3 (by kernel_rfl) rfl (by kernel_rfl) (fun _ => by kernel_rfl) ⟨((H.blk_cell (i := 8) rfl 0).trans rfl), trivial⟩ (fun β => ?_)
 replace H := H.front (i := 1) rfl
 replace H : Sep w0 w91 (.blk g77 60 [.slice A78 L.length c79, In 2, .iface 170 (.agg #[S nm]), S nm] :: .blk g81 60 [.slice A82 L.length c83, In 2, .iface 170 (.agg #[S nm]), S nm] :: .row (.slice A82 L.length c83) 39 2 L.length (us L) :: .blk g75 78 [S nm, S sec, .nilIface, .bool false] :: .row (.slice A78 L.length c79) 39 2 L.length (us L) :: .blk g70 78 [S nm, S sec, .nilIface, .bool false] :: .blk g40 9 [S [80, 76, 65, 73, 78], S [76, 79, 71, 73, 78], S [67, 82, 65, 77, 45, 77, 68, 53]] :: .row (.slice A9 L.length c9) 39 2 L.length (us L) :: .blk g1 39 [S nm, S sec] :: F) := H
 refine HL_call (i := 44) (f := 11) (args := #[Pt g77 0]) rfl (by kernel_rfl) (by kernel_rfl) (by kernel_rfl) (by kernel_rfl) (c_Ask 2 (.slice A78 L.length c79) (S nm) (Stp.word nm) (by first | trivial | (show nm.length ≤ 68719476736; omega) | (show stamp.length ≤ 68719476736; omega)) H) ?_
 rintro _ w92 ⟨rfl, H⟩
 replace H : Sep w0 w92 (.blk g77 60 [.slice A78 L.length c79, In 2, .iface 170 (.agg #[S nm]), S nm] :: .blk g81 60 [.slice A82 L.length c83, In 2, .iface 170 (.agg #[S nm]), S nm] :: .row (.slice A82 L.length c83) 39 2 L.length (us L) :: .blk g75 78 [S nm, S sec, .nilIface, .bool false] :: .row (.slice A78 L.length c79) 39 2 L.length (us L) :: .blk g70 78 [S nm, S sec, .nilIface, .bool false] :: .blk g40 9 [S [80, 76, 65, 73, 78], S [76, 79, 71, 73, 78], S [67, 82, 65, 77, 45, 77, 68, 53]] :: .row (.slice A9 L.length c9) 39 2 L.length (us L) :: .blk g1 39 [S nm, S sec] :: F) := H
 refine ⟨(.inr ⟨((H.blk_cell (i := 8) rfl 0).trans rfl), trivial⟩), ?_⟩
 refine HL_takes [45, 46] [(2, S stamp), (4, Pt g1 0), (7, .slice A9 L.length c9), (26, .slice (some ⟨g40, 0, none⟩) 3 3), (27, .int .i64 ((3 : Nat) : Int)), (28, .int .i64 ((1 : Nat) : Int)), (123, .bool false)] (mkL 47 [0, 1, 2, 3, 4, 5, 6, 7, 8, 9, 10, 11, 12, 13, 14, 15, 16, 17, 18, 19, 20, 21, 22, 23, 24, 25, 26, 27, 28, 29, 31, 32, 30, 33, 34, 35, 36, 38, 39, 37, 40, 41, 42, 43, 44, 45, 46]) 0 (by kernel_rfl) rfl (by kernel_rfl) (fun _ => by kernel_rfl) ⟨((H.blk_cell (i := 8) rfl 0).trans rfl), trivial⟩ (fun β => ?_)
 refine HL_forget [(2, S stamp), (4, Pt g1 0), (7, .slice A9 L.length c9), (26, .slice (some ⟨g40, 0, none⟩) 3 3), (27, In 3), (28, In 1), (123, .bool false)] (by kernel_rfl) (fun β => ?_)
 refine HL_fin (by kernel_rfl) ?_
 refine thn_normal ?_
 refine G_false (by kernel_rfl) ?_
 refine G_skip ?_
 refine inb_normal ?_
 refine thn_normal ?_
 refine G_region ?_
 refine GL_st 2 2 [(2, S stamp), (4, Pt g1 0), (7, .slice A9 L.length c9), (26, .slice (some ⟨g40, 0, none⟩) 3 3), (27, In 3), (28, In 2)] fun β => ?_
 refine GU_step ?_
 refine G_forget [(2, S stamp), (4, Pt g1 0), (7, .slice A9 L.length c9), (26, .slice (some ⟨g40, 0, none⟩) 3 3), (27, In 3), (28, In 2)] (by kernel_rfl) (fun β => ?_)
 replace H := H.drop 5
 replace H := H.drop 4
 replace H := H.drop 3
 replace H := H.drop 2
 replace H := H.drop 1
 replace H := H.drop 0
 replace H := H.front (i := 2) rfl
 replace H := H.front (i := 2) rfl
 replace H := H.front (i := 2) rfl
 replace H : Sep w0 w92 (.blk g40 9 [S [80, 76, 65, 73, 78], S [76, 79, 71, 73, 78], S [67, 82, 65, 77, 45, 77, 68, 53]] :: .row (.slice A9 L.length c9) 39 2 L.length (us L) :: .blk g1 39 [S nm, S sec] :: F) := H
 refine G_sr ?_
 refine GL_st 1 1 [(2, S stamp), (4, Pt g1 0), (7, .slice A9 L.length c9), (26, .slice (some ⟨g40, 0, none⟩) 3 3), (27, In 3), (28, In 2), (29, .bool true)] fun β => ?_
 refine G_seq ?_
 refine G_true (by kernel_rfl) ?_
 refine G_skip ?_
 refine thn_normal ?_
 refine G_seq ?_
 refine G_block ?_
 refine G_sr ?_
 refine GL_s 1 1 [(2, S stamp), (4, Pt g1 0), (7, .slice A9 L.length c9), (26, .slice (some ⟨g40, 0, none⟩) 3 3), (27, In 3), (28, In 2), (30, Pt g40 2)] fun β => ?_
 refine GL_V (run_load1 (t := 9) (by kernel_rfl) ((H.blk_cell (i := 0) rfl 2).trans rfl)) ?_
 refine GL_st 1 3 [(2, S stamp), (4, Pt g1 0), (7, .slice A9 L.length c9), (9, S [67, 82, 65, 77, 45, 77, 68, 53]), (26, .slice (some ⟨g40, 0, none⟩) 3 3), (27, In 3), (28, In 2)] fun β => ?_
 refine G_sr ?_
 refine GL_V (run_loadN (t := 39) (vs := [S nm, S sec]) (by kernel_rfl) (by kernel_rfl) (H.blk_cells (i := 2) rfl 0 _ ⟨_, rfl⟩)) ?_
 refine GL_s 1 2 [(2, S stamp), (4, Pt g1 0), (7, .slice A9 L.length c9), (9, S [67, 82, 65, 77, 45, 77, 68, 53]), (26, .slice (some ⟨g40, 0, none⟩) 3 3), (27, In 3), (28, In 2), (33, .agg #[S nm, S sec]), (34, S [67, 82, 65, 77, 45, 77, 68, 53])] fun β => ?_
 refine GL_C (c_Respond_cram nm sec [67, 82, 65, 77, 45, 77, 68, 53] (by omega) (by omega) (by first | omega | decide) (by decide) hy H) ?_
 rintro _ w93 ⟨g94, rfl, H⟩
 replace H : Sep w0 w93 (.blk g94 78 [S nm, S sec, .iface 62 (.agg #[S ([] : List UInt8)]), .bool false] :: .blk g40 9 [S [80, 76, 65, 73, 78], S [76, 79, 71, 73, 78], S [67, 82, 65, 77, 45, 77, 68, 53]] :: .row (.slice A9 L.length c9) 39 2 L.length (us L) :: .blk g1 39 [S nm, S sec] :: F) := H
 refine GL_st 5 8 [(2, S stamp), (4, Pt g1 0), (7, .slice A9 L.length c9), (9, S [67, 82, 65, 77, 45, 77, 68, 53]), (10, .iface 73 (Pt g94 0)), (11, In 0), (26, .slice (some ⟨g40, 0, none⟩) 3 3), (27, In 3), (28, In 2)] fun β => ?_
 refine G_seq ?_
 refine G_sr ?_
 refine GL_V (run_loadN (t := 39) (vs := [S nm, S sec]) (by kernel_rfl) (by kernel_rfl) (H.blk_cells (i := 3) rfl 0 _ ⟨_, rfl⟩)) ?_
 refine GL_C (c_lmay nm sec (by omega) (by omega) H) ?_
 rintro _ w95 ⟨rfl, H⟩
 rw [may_eq, hy]
 refine GL_st 1 3 [(2, S stamp), (4, Pt g1 0), (7, .slice A9 L.length c9), (9, S [67, 82, 65, 77, 45, 77, 68, 53]), (10, .iface 73 (Pt g94 0)), (11, In 0), (26, .slice (some ⟨g40, 0, none⟩) 3 3), (27, In 3), (28, In 2), (40, .bool false)] fun β => ?_
 refine G_false (by kernel_rfl) ?_
 refine G_skip ?_
 refine thn_normal ?_
 refine G_seq ?_
 refine G_drawS (fun w => (∀ j u, ([S nm, S sec] : List Value)[j]? = some u → w.cell? ((⟨g1, 0, none⟩ : Addr).add j) = some u) ∧ True) 9 9 (by kernel_rfl) (by kernel_rfl) H (fun w96 H => ?_)
 refine HL_t (i := 0) (m := 8) (fun w hS => run_loadN (t := 39) (vs := [S nm, S sec]) (by kernel_rfl) (by kernel_rfl) hS.1) rfl (by kernel_rfl) (by kernel_rfl) (by kernel_rfl) (by kernel_rfl) (by kernel_rfl) (by kernel_rfl) ⟨(H.blk_cells (i := 3) rfl 0 _ ⟨_, rfl⟩), trivial⟩ rfl ?_
 refine HL_takes [1] [(2, S stamp), (4, Pt g1 0), (7, .slice A9 L.length c9), (9, S [67, 82, 65, 77, 45, 77, 68, 53]), (10, .iface 73 (Pt g94 0)), (11, .int .i64 ((0 : Nat) : Int)), (26, .slice (some ⟨g40, 0, none⟩) 3 3), (27, .int .i64 ((3 : Nat) : Int)), (28, .int .i64 ((2 : Nat) : Int)), (44, .agg #[S nm, S sec]), (45, S [67, 82, 65, 77, 45, 77, 68, 53])] (mkL 9 [0, 1]) 7 (by kernel_rfl) rfl (by kernel_rfl) (fun _ => by kernel_rfl) ⟨(H.blk_cells (i := 3) rfl 0 _ ⟨_, rfl⟩), trivial⟩ (fun β => ?_)
 refine HL_call (i := 2) (f := 21) (args := #[S [67, 82, 65, 77, 45, 77, 68, 53]]) rfl (by kernel_rfl) (by kernel_rfl) (by kernel_rfl) (by kernel_rfl) (c_Upper [67, 82, 65, 77, 45, 77, 68, 53] (by decide) H) ?_
 rintro _ w97 ⟨rfl, H⟩
 rw [show ([67, 82, 65, 77, 45, 77, 68, 53] : List UInt8).map up = [67, 82, 65, 77, 45, 77, 68, 53] from by decide]
 refine ⟨(.inr ⟨(H.blk_cells (i := 3) rfl 0 _ ⟨_, rfl⟩), trivial⟩), ?_⟩
 refine HL_call (i := 3) (f := 19) (args := #[.agg #[S nm, S sec], S [67, 82, 65, 77, 45, 77, 68, 53]]) rfl (by kernel_rfl) (by kernel_rfl) (by kernel_rfl) (by kernel_rfl) (c_Respond_cram nm sec [67, 82, 65, 77, 45, 77, 68, 53] (by omega) (by omega) (by first | omega | decide) (by decide) hy H) ?_
 rintro _ w98 ⟨g99, rfl, H⟩
 replace H : Sep w0 w98 (.blk g99 78 [S nm, S sec, .iface 62 (.agg #[S ([] : List UInt8)]), .bool false] :: .blk g94 78 [S nm, S sec, .iface 62 (.agg #[S ([] : List UInt8)]), .bool false] :: .blk g40 9 [S [80, 76, 65, 73, 78], S [76, 79, 71, 73, 78], S [67, 82, 65, 77, 45, 77, 68, 53]] :: .row (.slice A9 L.length c9) 39 2 L.length (us L) :: .blk g1 39 [S nm, S sec] :: F) := H
 refine ⟨(.inr ⟨(H.blk_cells (i := 4) rfl 0 _ ⟨_, rfl⟩), trivial⟩), ?_⟩
 refine HL_takes [4, 5, 6, 7, 8] [(2, S stamp), (4, Pt g1 0), (7, .slice A9 L.length c9), (9, S [67, 82, 65, 77, 45, 77, 68, 53]), (10, .iface 73 (Pt g94 0)), (11, .int .i64 ((0 : Nat) : Int)), (12, .iface 73 (Pt g99 0)), (13, .int .i64 ((0 : Nat) : Int)), (26, .slice (some ⟨g40, 0, none⟩) 3 3), (27, .int .i64 ((3 : Nat) : Int)), (28, .int .i64 ((2 : Nat) : Int))] (mkL 9 [0, 1, 2, 3, 4, 5, 6, 7, 8]) 0 (by kernel_rfl) rfl (by kernel_rfl) (fun _ => by kernel_rfl) ⟨(H.blk_cells (i := 4) rfl 0 _ ⟨_, rfl⟩), trivial⟩ (fun β => ?_)
 refine HL_forget [(2, S stamp), (4, Pt g1 0), (7, .slice A9 L.length c9), (9, S [67, 82, 65, 77, 45, 77, 68, 53]), (10, .iface 73 (Pt g94 0)), (11, In 0), (12, .iface 73 (Pt g99 0)), (13, In 0), (26, .slice (some ⟨g40, 0, none⟩) 3 3), (27, In 3), (28, In 2)] (by kernel_rfl) (fun β => ?_)
 refine HL_fin (by kernel_rfl) ?_
 refine thn_normal ?_
 refine G_seq ?_
 refine G_sr ?_
 refine GL_st 6 6 [(2, S stamp), (4, Pt g1 0), (7, .slice A9 L.length c9), (9, S [67, 82, 65, 77, 45, 77, 68, 53]), (10, .iface 73 (Pt g94 0)), (12, .iface 73 (Pt g99 0)), (26, .slice (some ⟨g40, 0, none⟩) 3 3), (27, In 3), (28, In 2), (55, .bool false)] fun β => ?_
 refine G_false (by kernel_rfl) ?_
 refine G_skip ?_
 refine thn_normal ?_
 refine G_sr ?_
 refine GL_s 1 1 [(2, S stamp), (4, Pt g1 0), (7, .slice A9 L.length c9), (9, S [67, 82, 65, 77, 45, 77, 68, 53]), (10, .iface 73 (Pt g94 0)), (12, .iface 73 (Pt g99 0)), (26, .slice (some ⟨g40, 0, none⟩) 3 3), (27, In 3), (28, In 2), (57, .iface 73 (Pt g94 0))] fun β => ?_
 replace H := H.front (i := 1) rfl
 replace H : Sep w0 w98 (.blk g94 78 [S nm, S sec, .iface 62 (.agg #[S ([] : List UInt8)]), .bool false] :: .blk g99 78 [S nm, S sec, .iface 62 (.agg #[S ([] : List UInt8)]), .bool false] :: .blk g40 9 [S [80, 76, 65, 73, 78], S [76, 79, 71, 73, 78], S [67, 82, 65, 77, 45, 77, 68, 53]] :: .row (.slice A9 L.length c9) 39 2 L.length (us L) :: .blk g1 39 [S nm, S sec] :: F) := H
 refine GL_C (c_First_false nm sec (.iface 62 (.agg #[S ([] : List UInt8)])) H) ?_
 rintro _ w100 ⟨rfl, H⟩
 replace H : Sep w0 w100 (.blk g94 78 [S nm, S sec, .iface 62 (.agg #[S ([] : List UInt8)]), .bool false] :: .blk g99 78 [S nm, S sec, .iface 62 (.agg #[S ([] : List UInt8)]), .bool false] :: .blk g40 9 [S [80, 76, 65, 73, 78], S [76, 79, 71, 73, 78], S [67, 82, 65, 77, 45, 77, 68, 53]] :: .row (.slice A9 L.length c9) 39 2 L.length (us L) :: .blk g1 39 [S nm, S sec] :: F) := H
 refine GL_st 5 7 [(2, S stamp), (4, Pt g1 0), (7, .slice A9 L.length c9), (9, S [67, 82, 65, 77, 45, 77, 68, 53]), (10, .iface 73 (Pt g94 0)), (12, .iface 73 (Pt g99 0)), (14, S ([] : List UInt8)), (15, .bool false), (26, .slice (some ⟨g40, 0, none⟩) 3 3), (27, In 3), (28, In 2)] fun β => ?_
 refine G_sr ?_
 refine GL_s 5 5 [(2, S stamp), (4, Pt g1 0), (7, .slice A9 L.length c9), (9, S [67, 82, 65, 77, 45, 77, 68, 53]), (10, .iface 73 (Pt g94 0)), (12, .iface 73 (Pt g99 0)), (26, .slice (some ⟨g40, 0, none⟩) 3 3), (27, In 3), (28, In 2), (62, .slice A9 L.length c9), (63, S [67, 82, 65, 77, 45, 77, 68, 53]), (64, S stamp), (65, S ([] : List UInt8)), (66, .bool false)] fun β => ?_
 refine GL_C (c_Begin_cram T hT gT R hR gR L (by first | omega | (decide +kernel) | (simp only [List.length_nil]; omega) | (simp only [List.length_cons, List.length_nil]; omega)) hU [67, 82, 65, 77, 45, 77, 68, 53] stamp ([] : List UInt8) (by first | omega | (decide +kernel) | (simp only [List.length_nil]; omega) | (simp only [List.length_cons, List.length_nil]; omega)) (by first | omega | (decide +kernel) | (simp only [List.length_nil]; omega) | (simp only [List.length_cons, List.length_nil]; omega)) (by first | omega | (decide +kernel) | (simp only [List.length_nil]; omega) | (simp only [List.length_cons, List.length_nil]; omega)) (by decide) (Rd.of_row H (i := 3) rfl) H) ?_
 rintro _ w104 ⟨g101, A102, c103, rfl, H⟩
 replace H : Sep w0 w104 (.blk g101 60 [.slice A102 L.length c103, In 1, .iface 62 (.agg #[S stamp]), S ([] : List UInt8)] :: .row (.slice A102 L.length c103) 39 2 L.length (us L) :: .blk g94 78 [S nm, S sec, .iface 62 (.agg #[S ([] : List UInt8)]), .bool false] :: .blk g99 78 [S nm, S sec, .iface 62 (.agg #[S ([] : List UInt8)]), .bool false] :: .blk g40 9 [S [80, 76, 65, 73, 78], S [76, 79, 71, 73, 78], S [67, 82, 65, 77, 45, 77, 68, 53]] :: .row (.slice A9 L.length c9) 39 2 L.length (us L) :: .blk g1 39 [S nm, S sec] :: F) := H
 refine GL_st 5 11 [(2, S stamp), (4, Pt g1 0), (7, .slice A9 L.length c9), (9, S [67, 82, 65, 77, 45, 77, 68, 53]), (10, .iface 73 (Pt g94 0)), (11, In 0), (12, .iface 73 (Pt g99 0)), (16, Pt g101 0), (26, .slice (some ⟨g40, 0, none⟩) 3 3), (27, In 3), (28, In 2)] fun β => ?_
 refine G_sr ?_
 refine GL_s 3 3 [(2, S stamp), (4, Pt g1 0), (7, .slice A9 L.length c9), (10, .iface 73 (Pt g94 0)), (11, In 0), (12, .iface 73 (Pt g99 0)), (16, Pt g101 0), (26, .slice (some ⟨g40, 0, none⟩) 3 3), (27, In 3), (28, In 2), (71, .slice A9 L.length c9), (72, S [67, 82, 65, 77, 45, 77, 68, 53]), (73, S stamp)] fun β => ?_
 refine GL_C (c_Begin_cram T hT gT R hR gR L (by first | omega | (decide +kernel) | (simp only [List.length_nil]; omega) | (simp only [List.length_cons, List.length_nil]; omega)) hU [67, 82, 65, 77, 45, 77, 68, 53] stamp ([] : List UInt8) (by first | omega | (decide +kernel) | (simp only [List.length_nil]; omega) | (simp only [List.length_cons, List.length_nil]; omega)) (by first | omega | (decide +kernel) | (simp only [List.length_nil]; omega) | (simp only [List.length_cons, List.length_nil]; omega)) (by first | omega | (decide +kernel) | (simp only [List.length_nil]; omega) | (simp only [List.length_cons, List.length_nil]; omega)) (by decide) (Rd.of_row H (i := 5) rfl) H) ?_
 rintro _ w108 ⟨g105, A106, c107, rfl, H⟩
 replace H : Sep w0 w108 (.blk g105 60 [.slice A106 L.length c107, In 1, .iface 62 (.agg #[S stamp]), S ([] : List UInt8)] :: .row (.slice A106 L.length c107) 39 2 L.length (us L) :: .blk g101 60 [.slice A102 L.length c103, In 1, .iface 62 (.agg #[S stamp]), S ([] : List UInt8)] :: .row (.slice A102 L.length c103) 39 2 L.length (us L) :: .blk g94 78 [S nm, S sec, .iface 62 (.agg #[S ([] : List UInt8)]), .bool false] :: .blk g99 78 [S nm, S sec, .iface 62 (.agg #[S ([] : List UInt8)]), .bool false] :: .blk g40 9 [S [80, 76, 65, 73, 78], S [76, 79, 71, 73, 78], S [67, 82, 65, 77, 45, 77, 68, 53]] :: .row (.slice A9 L.length c9) 39 2 L.length (us L) :: .blk g1 39 [S nm, S sec] :: F) := H
 refine GL_st 5 9 [(2, S stamp), (4, Pt g1 0), (7, .slice A9 L.length c9), (10, .iface 73 (Pt g94 0)), (11, In 0), (12, .iface 73 (Pt g99 0)), (13, In 0), (16, Pt g101 0), (17, Pt g105 0), (26, .slice (some ⟨g40, 0, none⟩) 3 3), (27, In 3), (28, In 2)] fun β => ?_
 refine G_seq ?_
 refine G_drawS (fun w => w.cell? ⟨g1, 0, none⟩ = some (S nm) ∧ True) 47 47 (by kernel_rfl) (by kernel_rfl) H (fun w109 H => ?_)
 refine HL_takes [0, 1, 2, 3, 4, 5, 6, 7, 8] [(2, S stamp), (4, Pt g1 0), (7, .slice A9 L.length c9), (12, .iface 73 (Pt g99 0)), (16, Pt g101 0), (17, Pt g105 0), (26, .slice (some ⟨g40, 0, none⟩) 3 3), (27, .int .i64 ((3 : Nat) : Int)), (28, .int .i64 ((2 : Nat) : Int)), (83, .bool false), (84, Pt g101 0), (85, .iface 73 (Pt g94 0))] (mkL 47 [0, 1, 2, 3, 4, 5, 6, 7, 8]) 38 (by kernel_rfl) rfl (by kernel_rfl) (fun _ => by kernel_rfl) ⟨((H.blk_cell (i := 8) rfl 0).trans rfl), trivial⟩ (fun β => ?_)
 replace H := H.front (i := 4) rfl
 replace H := H.front (i := 4) rfl
 replace H := H.front (i := 4) rfl
 replace H : Sep w0 w109 (.blk g101 60 [.slice A102 L.length c103, In 1, .iface 62 (.agg #[S stamp]), S ([] : List UInt8)] :: .row (.slice A102 L.length c103) 39 2 L.length (us L) :: .blk g94 78 [S nm, S sec, .iface 62 (.agg #[S ([] : List UInt8)]), .bool false] :: .blk g105 60 [.slice A106 L.length c107, In 1, .iface 62 (.agg #[S stamp]), S ([] : List UInt8)] :: .row (.slice A106 L.length c107) 39 2 L.length (us L) :: .blk g99 78 [S nm, S sec, .iface 62 (.agg #[S ([] : List UInt8)]), .bool false] :: .blk g40 9 [S [80, 76, 65, 73, 78], S [76, 79, 71, 73, 78], S [67, 82, 65, 77, 45, 77, 68, 53]] :: .row (.slice A9 L.length c9) 39 2 L.length (us L) :: .blk g1 39 [S nm, S sec] :: F) := H
 refine HL_call (i := 9) (f := 22) (args := #[Pt g101 0, .iface 73 (Pt g94 0)]) rfl (by kernel_rfl) (by kernel_rfl) (by kernel_rfl) (by kernel_rfl) (c_talk_cram_true T hT gT R hR gR L (by omega) hU nm sec stamp (by omega) (by omega) (by omega) false hz1 hz2 hc1 H) ?_
 rintro _ w110 ⟨rfl, H⟩
 replace H : Sep w0 w110 (.blk g101 60 [.slice A102 L.length c103, In 2, .iface 62 (.agg #[S stamp]), S nm] :: .row (.slice A102 L.length c103) 39 2 L.length (us L) :: .blk g94 78 [S nm, S sec, .nilIface, .bool false] :: .blk g105 60 [.slice A106 L.length c107, In 1, .iface 62 (.agg #[S stamp]), S ([] : List UInt8)] :: .row (.slice A106 L.length c107) 39 2 L.length (us L) :: .blk g99 78 [S nm, S sec, .iface 62 (.agg #[S ([] : List UInt8)]), .bool false] :: .blk g40 9 [S [80, 76, 65, 73, 78], S [76, 79, 71, 73, 78], S [67, 82, 65, 77, 45, 77, 68, 53]] :: .row (.slice A9 L.length c9) 39 2 L.length (us L) :: .blk g1 39 [S nm, S sec] :: F) := H
 refine ⟨(.inr ⟨((H.blk_cell (i := 8) rfl 0).trans rfl), trivial⟩), ?_⟩
 refine HL_takes [10, 11, 12, 13, 14] [(2, S stamp), (4, Pt g1 0), (7, .slice A9 L.length c9), (16, Pt g101 0), (17, Pt g105 0), (26, .slice (some ⟨g40, 0, none⟩) 3 3), (27, .int .i64 ((3 : Nat) : Int)), (28, .int .i64 ((2 : Nat) : Int)), (89, .bool false), (90, Pt g105 0), (91, .iface 73 (Pt g99 0))] (mkL 47 [0, 1, 2, 3, 4, 5, 6, 7, 8, 9, 10, 11, 12, 13, 14]) 32 (by kernel_rfl) rfl (by kernel_rfl) (fun _ => by kernel_rfl) ⟨((H.blk_cell (i := 8) rfl 0).trans rfl), trivial⟩ (fun β => ?_)
 replace H := H.front (i := 5) rfl
 replace H := H.front (i := 5) rfl
 replace H := H.front (i := 5) rfl
 replace H : Sep w0 w110 (.blk g105 60 [.slice A106 L.length c107, In 1, .iface 62 (.agg #[S stamp]), S ([] : List UInt8)] :: .row (.slice A106 L.length c107) 39 2 L.length (us L) :: .blk g99 78 [S nm, S sec, .iface 62 (.agg #[S ([] : List UInt8)]), .bool false] :: .blk g101 60 [.slice A102 L.length c103, In 2, .iface 62 (.agg #[S stamp]), S nm] :: .row (.slice A102 L.length c103) 39 2 L.length (us L) :: .blk g94 78 [S nm, S sec, .nilIface, .bool false] :: .blk g40 9 [S [80, 76, 65, 73, 78], S [76, 79, 71, 73, 78], S [67, 82, 65, 77, 45, 77, 68, 53]] :: .row (.slice A9 L.length c9) 39 2 L.length (us L) :: .blk g1 39 [S nm, S sec] :: F) := H
 refine HL_call (i := 15) (f := 22) (args := #[Pt g105 0, .iface 73 (Pt g99 0)]) rfl (by kernel_rfl) (by kernel_rfl) (by kernel_rfl) (by kernel_rfl) (c_talk_cram_true T hT gT R hR gR L (by omega) hU nm sec stamp (by omega) (by omega) (by omega) false hz1 hz2 hc1 H) ?_
 rintro _ w111 ⟨rfl, H⟩
 replace H : Sep w0 w111 (.blk g105 60 [.slice A106 L.length c107, In 2, .iface 62 (.agg #[S stamp]), S nm] :: .row (.slice A106 L.length c107) 39 2 L.length (us L) :: .blk g99 78 [S nm, S sec, .nilIface, .bool false] :: .blk g101 60 [.slice A102 L.length c103, In 2, .iface 62 (.agg #[S stamp]), S nm] :: .row (.slice A102 L.length c103) 39 2 L.length (us L) :: .blk g94 78 [S nm, S sec, .nilIface, .bool false] :: .blk g40 9 [S [80, 76, 65, 73, 78], S [76, 79, 71, 73, 78], S [67, 82, 65, 77, 45, 77, 68, 53]] :: .row (.slice A9 L.length c9) 39 2 L.length (us L) :: .blk g1 39 [S nm, S sec] :: F) := H
 refine ⟨(.inr ⟨((H.blk_cell (i := 8) rfl 0).trans rfl), trivial⟩), ?_⟩
 refine HL_takes [16, 17, 18, 19] [(2, S stamp), (4, Pt g1 0), (7, .slice A9 L.length c9), (16, Pt g101 0), (17, Pt g105 0), (26, .slice (some ⟨g40, 0, none⟩) 3 3), (27, .int .i64 ((3 : Nat) : Int)), (28, .int .i64 ((2 : Nat) : Int)), (95, .bool false), (96, Pt g101 0)] (mkL 47 [0, 1, 2, 3, 4, 5, 6, 7, 8, 9, 10, 11, 12, 13, 14, 15, 16, 17, 18, 19]) 27 (by kernel_rfl) rfl (by kernel_rfl) (fun _ => by kernel_rfl) ⟨((H.blk_cell (i := 8) rfl 0).trans rfl), trivial⟩ (fun β => ?_)
 replace H := H.front (i := 3) rfl
 replace H : Sep w0 w111 (.blk g101 60 [.slice A102 L.length c103, In 2, .iface 62 (.agg #[S stamp]), S nm] :: .blk g105 60 [.slice A106 L.length c107, In 2, .iface 62 (.agg #[S stamp]), S nm] :: .row (.slice A106 L.length c107) 39 2 L.length (us L) :: .blk g99 78 [S nm, S sec, .nilIface, .bool false] :: .row (.slice A102 L.length c103) 39 2 L.length (us L) :: .blk g94 78 [S nm, S sec, .nilIface, .bool false] :: .blk g40 9 [S [80, 76, 65, 73, 78], S [76, 79, 71, 73, 78], S [67, 82, 65, 77, 45, 77, 68, 53]] :: .row (.slice A9 L.length c9) 39 2 L.length (us L) :: .blk g1 39 [S nm, S sec] :: F) := H
 refine HL_call (i := 20) (f := 9) (args := #[Pt g101 0]) rfl (by kernel_rfl) (by kernel_rfl) (by kernel_rfl) (by kernel_rfl) (c_State 2 (.slice A102 L.length c103) (.iface 62 (.agg #[S stamp])) (S nm) H) ?_
 rintro _ w112 ⟨rfl, H⟩
 refine ⟨(.inr ⟨((H.blk_cell (i := 8) rfl 0).trans rfl), trivial⟩), ?_⟩
 refine HL_takes [21, 22, 23, 24] [(2, S stamp), (4, Pt g1 0), (7, .slice A9 L.length c9), (16, Pt g101 0), (17, Pt g105 0), (26, .slice (some ⟨g40, 0, none⟩) 3 3), (27, .int .i64 ((3 : Nat) : Int)), (28, .int .i64 ((2 : Nat) : Int)), (100, .bool false), (101, Pt g105 0)] (mkL 47 [0, 1, 2, 3, 4, 5, 6, 7, 8, 9, 10, 11, 12, 13, 14, 15, 16, 17, 18, 19, 20, 21, 22, 23, 24]) 22 (by kernel_rfl) rfl (by kernel_rfl) (fun _ => by kernel_rfl) ⟨((H.blk_cell (i := 8) rfl 0).trans rfl), trivial⟩ (fun β => ?_)
 replace H := H.front (i := 1) rfl
 replace H : Sep w0 w112 (.blk g105 60 [.slice A106 L.length c107, In 2, .iface 62 (.agg #[S stamp]), S nm] :: .blk g101 60 [.slice A102 L.length c103, In 2, .iface 62 (.agg #[S stamp]), S nm] :: .row (.slice A106 L.length c107) 39 2 L.length (us L) :: .blk g99 78 [S nm, S sec, .nilIface, .bool false] :: .row (.slice A102 L.length c103) 39 2 L.length (us L) :: .blk g94 78 [S nm, S sec, .nilIface, .bool false] :: .blk g40 9 [S [80, 76, 65, 73, 78], S [76, 79, 71, 73, 78], S [67, 82, 65, 77, 45, 77, 68, 53]] :: .row (.slice A9 L.length c9) 39 2 L.length (us L) :: .blk g1 39 [S nm, S sec] :: F) := H
 refine HL_call (i := 25) (f := 9) (args := #[Pt g105 0]) rfl (by kernel_rfl) (by kernel_rfl) (by kernel_rfl) (by kernel_rfl) (c_State 2 (.slice A106 L.length c107) (.iface 62 (.agg #[S stamp])) (S nm) H) ?_
 rintro _ w113 ⟨rfl, H⟩
 refine ⟨(.inr ⟨((H.blk_cell (i := 8) rfl 0).trans rfl), trivial⟩), ?_⟩
 refine HL_takes [26, 27, 28, 29, 31] [(2, S stamp), (4, Pt g1 0), (7, .slice A9 L.length c9), (16, Pt g101 0), (17, Pt g105 0), (26, .slice (some ⟨g40, 0, none⟩) 3 3), (27, .int .i64 ((3 : Nat) : Int)), (28, .int .i64 ((2 : Nat) : Int)), (105, .bool false), (106, Pt g101 0), (108, Pt g1 0)] (mkL 47 [0, 1, 2, 3, 4, 5, 6, 7, 8, 9, 10, 11, 12, 13, 14, 15, 16, 17, 18, 19, 20, 21, 22, 23, 24, 25, 26, 27, 28, 29, 31]) 16 (by kernel_rfl) rfl (by kernel_rfl) (fun _ => by kernel_rfl) ⟨((H.blk_cell (i := 8) rfl 0).trans rfl), trivial⟩ (fun β => ?_)
 refine HL_t (i := 32) (m := 15) (fun w hS => run_load1 (t := 9) (by kernel_rfl) hS.1) rfl (by kernel_rfl) (by kernel_rfl) (by kernel_rfl) (by kernel_rfl) (by kernel_rfl) (by kernel_rfl) ⟨((H.blk_cell (i := 8) rfl 0).trans rfl), trivial⟩ rfl ?_
 replace H := H.front (i := 1) rfl
 replace H : Sep w0 w113 (.blk g101 60 [.slice A102 L.length c103, In 2, .iface 62 (.agg #[S stamp]), S nm] :: .blk g105 60 [.slice A106 L.length c107, In 2, .iface 62 (.agg #[S stamp]), S nm] :: .row (.slice A106 L.length c107) 39 2 L.length (us L) :: .blk g99 78 [S nm, S sec, .nilIface, .bool false] :: .row (.slice A102 L.length c103) 39 2 L.length (us L) :: .blk g94 78 [S nm, S sec, .nilIface, .bool false] :: .blk g40 9 [S [80, 76, 65, 73, 78], S [76, 79, 71, 73, 78], S [67, 82, 65, 77, 45, 77, 68, 53]] :: .row (.slice A9 L.length c9) 39 2 L.length (us L) :: .blk g1 39 [S nm, S sec] :: F) := H
 refine HL_call (i := 30) (f := 13) (args := #[Pt g101 0]) rfl (by kernel_rfl) (by kernel_rfl) (by kernel_rfl) (by kernel_rfl) (c_User 2 (.slice A102 L.length c103) (.iface 62 (.agg #[S stamp])) nm H) ?_
 rintro _ w114 ⟨rfl, H⟩
 refine ⟨(.inr ⟨((H.blk_cell (i := 8) rfl 0).trans rfl), trivial⟩), ?_⟩
 refine HL_t (i := 33) (m := 13) (fun w _ => (R_strneF (t := 9) (l := nm) (m := nm) rfl)) rfl (by kernel_rfl) (by kernel_rfl) (by kernel_rfl) (by kernel_rfl) (by kernel_rfl) (by kernel_rfl) ⟨((H.blk_cell (i := 8) rfl 0).trans rfl), trivial⟩ rfl ?_
 refine HL_takes [34, 35, 36, 38] [(2, S stamp), (4, Pt g1 0), (7, .slice A9 L.length c9), (16, Pt g101 0), (26, .slice (some ⟨g40, 0, none⟩) 3 3), (27, .int .i64 ((3 : Nat) : Int)), (28, .int .i64 ((2 : Nat) : Int)), (112, .bool false), (113, Pt g105 0), (115, Pt g1 0)] (mkL 47 [0, 1, 2, 3, 4, 5, 6, 7, 8, 9, 10, 11, 12, 13, 14, 15, 16, 17, 18, 19, 20, 21, 22, 23, 24, 25, 26, 27, 28, 29, 31, 32, 30, 33, 34, 35, 36, 38]) 9 (by kernel_rfl) rfl (by kernel_rfl) (fun _ => by kernel_rfl) ⟨((H.blk_cell (i := 8) rfl 0).trans rfl), trivial⟩ (fun β => ?_)
 refine HL_t (i := 39) (m := 8) (fun w hS => run_load1 (t := 9) (by kernel_rfl) hS.1) rfl (by kernel_rfl) (by kernel_rfl) (by kernel_rfl) (by kernel_rfl) (by kernel_rfl) (by kernel_rfl) ⟨((H.blk_cell (i := 8) rfl 0).trans rfl), trivial⟩ rfl ?_
 replace H := H.front (i := 1) rfl
 replace H : Sep w0 w114 (.blk g105 60 [.slice A106 L.length c107, In 2, .iface 62 (.agg #[S stamp]), S nm] :: .blk g101 60 [.slice A102 L.length c103, In 2, .iface 62 (.agg #[S stamp]), S nm] :: .row (.slice A106 L.length c107) 39 2 L.length (us L) :: .blk g99 78 [S nm, S sec, .nilIface, .bool false] :: .row (.slice A102 L.length c103) 39 2 L.length (us L) :: .blk g94 78 [S nm, S sec, .nilIface, .bool false] :: .blk g40 9 [S [80, 76, 65, 73, 78], S [76, 79, 71, 73, 78], S [67, 82, 65, 77, 45, 77, 68, 53]] :: .row (.slice A9 L.length c9) 39 2 L.length (us L) :: .blk g1 39 [S nm, S sec] :: F) := H
 refine HL_call (i := 37) (f := 13) (args := #[Pt g105 0]) rfl (by kernel_rfl) (by kernel_rfl) (by kernel_rfl) (by kernel_rfl) (c_User 2 (.slice A106 L.length c107) (.iface 62 (.agg #[S stamp])) nm H) ?_
 rintro _ w115 ⟨rfl, H⟩
 refine ⟨(.inr ⟨((H.blk_cell (i := 8) rfl 0).trans rfl), trivial⟩), ?_⟩
 refine HL_t (i := 40) (m := 6) (fun w _ => (R_strneF (t := 9) (l := nm) (m := nm) rfl)) rfl (by kernel_rfl) (by kernel_rfl) (by kernel_rfl) (by kernel_rfl) (by kernel_rfl) (by kernel_rfl) ⟨((H.blk_cell (i := 8) rfl 0).trans rfl), trivial⟩ rfl ?_
 refine HL_takes [41, 42, 43] [(2, S stamp), (4, Pt g1 0), (7, .slice A9 L.length c9), (26, .slice (some ⟨g40, 0, none⟩) 3 3), (27, .int .i64 ((3 : Nat) : Int)), (28, .int .i64 ((2 : Nat) : Int)), (119, .bool false), (120, Pt g101 0)] (mkL 47 [0, 1, 2, 3, 4, 5, 6, 7, 8, 9, 10, 11, 12, 13, 14, 15, 16, 17, 18, 19, 20, 21, 22, 23, 24, 25, 26, 27, 28, 29, 31, 32, 30, 33, 34, 35, 36, 38, 39, 37, 40, 41, 42, 43]) 3 (by kernel_rfl) rfl (by kernel_rfl) (fun _ => by kernel_rfl) ⟨((H.blk_cell (i := 8) rfl 0).trans rfl), trivial⟩ (fun β => ?_)
 replace H := H.front (i := 1) rfl
 replace H : Sep w0 w115 (.blk g101 60 [.slice A102 L.length c103, In 2, .iface 62 (.agg #[S stamp]), S nm] :: .blk g105 60 [.slice A106 L.length c107, In 2, .iface 62 (.agg #[S stamp]), S nm] :: .row (.slice A106 L.length c107) 39 2 L.length (us L) :: .blk g99 78 [S nm, S sec, .nilIface, .bool false] :: .row (.slice A102 L.length c103) 39 2 L.length (us L) :: .blk g94 78 [S nm, S sec, .nilIface, .bool false] :: .blk g40 9 [S [80, 76, 65, 73, 78], S [76, 79, 71, 73, 78], S [67, 82, 65, 77, 45, 77, 68, 53]] :: .row (.slice A9 L.length c9) 39 2 L.length (us L) :: .blk g1 39 [S nm, S sec] :: F) := H
 refine HL_call (i := 44) (f := 11) (args := #[Pt g101 0]) rfl (by kernel_rfl) (by kernel_rfl) (by kernel_rfl) (by kernel_rfl) (c_Ask 2 (.slice A102 L.length c103) (S nm) (Stp.cram stamp) (by first | trivial | (show nm.length ≤ 68719476736; omega) | (show stamp.length ≤ 68719476736; omega)) H) ?_
 rintro _ w116 ⟨rfl, H⟩
 replace H : Sep w0 w116 (.blk g101 60 [.slice A102 L.length c103, In 2, .iface 62 (.agg #[S stamp]), S nm] :: .blk g105 60 [.slice A106 L.length c107, In 2, .iface 62 (.agg #[S stamp]), S nm] :: .row (.slice A106 L.length c107) 39 2 L.length (us L) :: .blk g99 78 [S nm, S sec, .nilIface, .bool false] :: .row (.slice A102 L.length c103) 39 2 L.length (us L) :: .blk g94 78 [S nm, S sec, .nilIface, .bool false] :: .blk g40 9 [S [80, 76, 65, 73, 78], S [76, 79, 71, 73, 78], S [67, 82, 65, 77, 45, 77, 68, 53]] :: .row (.slice A9 L.length c9) 39 2 L.length (us L) :: .blk g1 39 [S nm, S sec] :: F) := H
 refine ⟨(.inr ⟨((H.blk_cell (i := 8) rfl 0).trans rfl), trivial⟩), ?_⟩
 refine HL_takes [45, 46] [(2, S stamp), (4, Pt g1 0), (7, .slice A9 L.length c9), (26, .slice (some ⟨g40, 0, none⟩) 3 3), (27, .int .i64 ((3 : Nat) : Int)), (28, .int .i64 ((2 : Nat) : Int)), (123, .bool false)] (mkL 47 [0, 1, 2, 3, 4, 5, 6, 7, 8, 9, 10, 11, 12, 13, 14, 15, 16, 17, 18, 19, 20, 21, 22, 23, 24, 25, 26, 27, 28, 29, 31, 32, 30, 33, 34, 35, 36, 38, 39, 37, 40, 41, 42, 43, 44, 45, 46]) 0 (by kernel_rfl) rfl (by kernel_rfl) (fun _ => by kernel_rfl) ⟨((H.blk_cell (i := 8) rfl 0).trans rfl), trivial⟩ (fun β => ?_)
 refine HL_forget [(2, S stamp), (4, Pt g1 0), (7, .slice A9 L.length c9), (26, .slice (some ⟨g40, 0, none⟩) 3 3), (27, In 3), (28, In 2), (123, .bool false)] (by kernel_rfl) (fun β => ?_)
 refine HL_fin (by kernel_rfl) ?_
 refine thn_normal ?_
 refine G_false (by kernel_rfl) ?_
 refine G_skip ?_
 refine inb_normal ?_
 refine thn_normal ?_
 refine G_region ?_
 refine GL_st 2 2 [(2, S stamp), (4, Pt g1 0), (7, .slice A9 L.length c9), (26, .slice (some ⟨g40, 0, none⟩) 3 3), (27, In 3), (28, In 3)] fun β => ?_
 refine GU_step ?_
 refine G_forget [(2, S stamp), (4, Pt g1 0), (7, .slice A9 L.length c9), (26, .slice (some ⟨g40, 0, none⟩) 3 3), (27, In 3), (28, In 3)] (by kernel_rfl) (fun β => ?_)
 replace H := H.drop 5
 replace H := H.drop 4
 replace H := H.drop 3
 replace H := H.drop 2
 replace H := H.drop 1
 replace H := H.drop 0
 replace H := H.front (i := 2) rfl
 replace H := H.front (i := 2) rfl
 replace H := H.front (i := 2) rfl
 replace H : Sep w0 w116 (.blk g40 9 [S [80, 76, 65, 73, 78], S [76, 79, 71, 73, 78], S [67, 82, 65, 77, 45, 77, 68, 53]] :: .row (.slice A9 L.length c9) 39 2 L.length (us L) :: .blk g1 39 [S nm, S sec] :: F) := H
 refine G_sr ?_
 refine GL_st 1 1 [(2, S stamp), (4, Pt g1 0), (7, .slice A9 L.length c9), (26, .slice (some ⟨g40, 0, none⟩) 3 3), (27, In 3), (28, In 3), (29, .bool false)] fun β => ?_
 refine G_seq ?_
 refine G_false (by kernel_rfl) ?_
 refine G_exit (thn_exit (thn_exit (inb_hit ?_)))
 refine thn_normal ?_
 refine G_sr ?_
 refine GL_st 1 1 [(6, .bool true)] fun β => ?_
 refine G_ret ?_
 refine res1 (v := .bool true) rfl (by kernel_rfl) ?_
 replace H := H.drop 2
 replace H := H.drop 1
 replace H := H.drop 0
 replace H : Sep w0 w116 (F) := H
 exact ⟨rfl, H⟩
theorem c_Both {w0 w : World} {F : List Chunk} (T : List UInt32) (hT : T.length = 64) (gT : Gl w0 1 (u32s T)) (R : List UInt8) (hR : R.length = 16) (gR : Gl w0 2 (bs R)) (l : List Str2) (hl : l.length ≤ 16777216) (hU : ∀ u ∈ l, u.1.length ≤ 549755813888 ∧ u.2.length ≤ 549755813888) (nm sec stamp : List UInt8) (hnm : nm.length ≤ 16777216) (hsec : sec.length ≤ 16777216) (hstamp : stamp.length ≤ 16777216) {B : Option Addr} {d : Nat} (RU : Rd w0 F (.slice B l.length d) 2 l.length (us l)) (H : Sep w0 w F) : Ret Try.prog 4 #[.slice B l.length d, .agg #[S nm, S sec], S stamp] w (fun v w' => v = .bool true ∧ Sep w0 w' F) := by
  rcases Bool.eq_false_or_eq_true (may2 nm sec) with hy | hy
  · exact c_Both_true T hT gT R hR gR l hl hU nm sec stamp hnm hsec hstamp hy RU H
  · exact c_Both_false T hT gT R hR gR l hl hU nm sec stamp hnm hsec hstamp hy RU H
end Go.Proofs.Ytadiljnfkbbmcaa
