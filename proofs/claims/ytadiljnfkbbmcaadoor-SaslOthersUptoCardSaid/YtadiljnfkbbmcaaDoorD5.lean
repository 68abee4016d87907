-- printed by gw.py (my own program), checked by Lean
import Derived.Test.YtadiljnfkbbmcaaDoorD4
set_option linter.unusedVariables false
set_option linter.unusedSimpArgs false
set_option maxRecDepth 100000
set_option maxHeartbeats 400000
namespace Go.Proofs.YtadiljnfkbbmcaaDoor
open Go.Kw Go.RowKit

theorem enc_star (l : List UInt8) : ¬ enc l = [42] := by
  intro h
  have := congrArg List.length h
  rw [enc_len] at this
  simp only [List.length_cons, List.length_nil] at this
  omega
theorem lastK_of {s : List UInt8} {c : UInt8} {m : Nat} (hm : s.getD m 0 = c) : ∀ (k : Nat), m < k → (∀ j, m < j → j < k → s.getD j 0 ≠ c) → lastK s c k = (m : Int)
  | 0, h, _ => by omega
  | k + 1, h, hj => by
    unfold lastK
    by_cases hk : m = k
    · subst hk; rw [if_pos hm]
    · rw [if_neg (hj k (by omega) (by omega))]
      exact lastK_of hm k (by omega) (fun j h1 h2 => hj j h1 (by omega))
theorem lastK_app {a d : List UInt8} {c : UInt8} (h : c ∉ d) : lastK ((a ++ [c]) ++ d) c ((a ++ [c]) ++ d).length = (a.length : Int) := by
  refine lastK_of ?_ _ (by simp) (fun j h1 h2 => ?_)
  · simp [List.getD_eq_getElem?_getD]
  · simp only [List.length_append, List.length_cons, List.length_nil] at h2
    rw [List.getD_eq_getElem?_getD, List.getElem?_append_right (by simp; omega), List.getElem?_eq_getElem (by simp; omega), Option.getD_some]
    intro e
    exact h (e ▸ List.getElem_mem _)
theorem dgF_nosp (T : List UInt32) (R : List UInt8) (k b : List UInt8) : (32 : UInt8) ∉ dgF T R k b := tellF_nosp _
theorem crF_app (T : List UInt32) (R : List UInt8) (l : List Str2) (o nm d : List UInt8) (hd : (32 : UInt8) ∉ d) : crF T R l o ((nm ++ [32]) ++ d) = (nm, crP T R l o nm d, 0) := by
  unfold crF
  rw [lastK_app hd, if_neg (by omega), Int.toNat_natCast]
  have h1 : ((nm ++ [32]) ++ d).take nm.length = nm := by simp
  have h2 : ((nm ++ [32]) ++ d).drop (nm.length + 1) = d := by rw [List.drop_append_of_le_length (by simp)]; simp
  rw [h1, h2]
theorem ans_cram (T : List UInt32) (R : List UInt8) (l : List Str2) (o nm d : List UInt8) (hd : (32 : UInt8) ∉ d) :
    ansF T R l 1 (.cram o) [] (enc ((nm ++ [32]) ++ d)) = (0, if crP T R l o nm d = true then 2 else 3, .cram o, if crP T R l o nm d = true then nm else []) := by
  have hr : readF T R l 1 (.cram o) [] (enc ((nm ++ [32]) ++ d)) = (0, if crP T R l o nm d = true then 2 else 3, .cram o, if crP T R l o nm d = true then nm else []) := by
    unfold readF
    rw [dec_enc]
    simp only [takeF, crF_app T R l o nm d hd, ne_eq, not_true_eq_false, if_false]
    split <;> rfl
  rw [ansF, if_neg (by decide), if_neg (by decide), if_neg (enc_star _), hr]
  rfl
theorem crP_one (T : List UInt32) (R : List UInt8) (nm sec o d : List UInt8) : crP T R [(nm, sec)] o nm d = (dgF T R sec o == d) := by
  unfold crP; simp
theorem c_AnswerE {w0 w : World} {F : List Chunk} (T : List UInt32) (hT : T.length = 64) (gT : Gl w0 0 (u32s T)) (R : List UInt8) (hR : R.length = 16) (gR : Gl w0 1 (bs R)) (n : Nat) (s : Stp) (hs : s.fits) (nm y : List UInt8) (hy : y.length ≤ 68719476736) (l : List Str2) (hl : l.length ≤ 1099511627776) (hU : ∀ u ∈ l, u.1.length ≤ 549755813888 ∧ u.2.length ≤ 549755813888) {g c : Nat} {A : Option Addr} (H : Sep w0 w (.blk g 58 [.slice A l.length c, In n, s.v, S nm] :: .row (.slice A l.length c) 40 2 l.length (us l) :: F)) {e2 n2 : Nat} {s2 : Stp} {nm2 : List UInt8} (he : (ansF T R l n s nm y) = (e2, n2, s2, nm2)) : Ret Tryd.prog 13 #[.pointer (some ⟨g, 0, none⟩), S y] w (fun v w' => v = .int .i64 (e2 : Int) ∧ Sep w0 w' (.blk g 58 [.slice A l.length c, In n2, s2.v, S nm2] :: .row (.slice A l.length c) 40 2 l.length (us l) :: F)) := by
  have := c_Answer T hT gT R hR gR n s hs nm y hy l hl hU H
  rw [he] at this; exact this
theorem c_cAnswer_cramE {w0 w : World} {F : List Chunk} (T : List UInt32) (hT : T.length = 64) (gT : Gl w0 0 (u32s T)) (R : List UInt8) (hR : R.length = 16) (gR : Gl w0 1 (bs R)) (nm sec : List UInt8) (hn : nm.length ≤ 4294967296) (hs : sec.length ≤ 4294967296) (once : Bool) (z x : List UInt8) (hx : (enc x).length ≤ 4294967296) {g : Nat} (H : Sep w0 w (.blk g 80 [S nm, S sec, .iface 60 (.agg #[S z]), .bool once] :: F)) : Ret Tryd.prog 111 #[.pointer (some ⟨g, 0, none⟩), S (enc x)] w (fun v w' => ∃ q, q = enc ((nm ++ [32]) ++ dgF T R sec x) ∧ q.length ≤ 8589934592 ∧ v = .tuple #[S q, .int .i64 ((0 : Nat) : Int)] ∧ Sep w0 w' (.blk g 80 [S nm, S sec, .nilIface, .bool once] :: F)) := by
  refine (c_cAnswer_cram T hT gT R hR gR nm sec (enc x) hn hs hx once z H).mono fun v w' ⟨o, e, p, hd, h⟩ => ?_
  rw [dec_enc] at hd
  cases hd
  rcases h with ⟨h0, _⟩ | ⟨_, hv, H⟩
  · exact absurd rfl h0
  · exact ⟨_, rfl, by rw [enc_len]; simp only [List.length_append, List.length_cons, List.length_nil, dgF_len]; omega, hv, H⟩
/-- posthorn/posthornlaw22.SaslStale -/
theorem c_Stale_true {w0 w : World} {F : List Chunk} (T : List UInt32) (hT : T.length = 64) (gT : Gl w0 0 (u32s T)) (R : List UInt8) (hR : R.length = 16) (gR : Gl w0 1 (bs R)) (nm sec stamp other : List UInt8) (hnm : nm.length ≤ 16777216) (hsec : sec.length ≤ 16777216) (hstamp : stamp.length ≤ 16777216) (hother : other.length ≤ 16777216) (hy : may2 nm sec = true) (H : Sep w0 w F) : Ret Tryd.prog 4 #[.agg #[S nm, S sec], S stamp, S other] w (fun v w' => v = .bool true ∧ Sep w0 w' F) := by
 refine Ret_enter (args := [.agg #[S nm, S sec], S stamp, S other]) Tryd.func4 rfl (by kernel_rfl) ?_
 refine G_forget [(0, .agg #[S nm, S sec]), (1, S stamp), (2, S other)] (by kernel_rfl) (fun β => ?_)
 refine G_sr ?_
 refine GL_new (V := fun g => Pt g 0) (l := [S nm, S sec]) (t := 40) H rfl (by kernel_rfl) (by kernel_rfl) (by kernel_rfl) (fun g1 w2 H => ?_)
 refine GL_st 1 2 [(1, S stamp), (2, S other), (3, Pt g1 0)] fun β => ?_
 refine G_seq ?_
 refine G_sr ?_
 refine GL_C (c_wakes T hT gT R hR gR H) ?_
 rintro _ w3 ⟨rfl, H⟩
 refine GL_st 1 2 [(1, S stamp), (2, S other), (3, Pt g1 0), (14, .bool false)] fun β => ?_
 refine G_false (by kernel_rfl) ?_
 refine G_skip ?_
 refine thn_normal ?_
 refine G_sr ?_
 refine GL_V (run_loadN (t := 40) (vs := [S nm, S sec]) (by kernel_rfl) (by kernel_rfl) (H.blk_cells (i := 0) rfl 0 _ ⟨_, rfl⟩)) ?_
 refine GL_C (c_Respond_cram nm sec [67, 82, 65, 77, 45, 77, 68, 53] (by omega) (by omega) (by first | omega | decide) (by decide) hy H) ?_
 rintro _ w4 ⟨g5, rfl, H⟩
 replace H : Sep w0 w4 (.blk g5 80 [S nm, S sec, .iface 60 (.agg #[S ([] : List UInt8)]), .bool false] :: .blk g1 40 [S nm, S sec] :: F) := H
 refine GL_st 5 7 [(1, S stamp), (2, S other), (3, Pt g1 0), (7, .iface 75 (Pt g5 0)), (8, In 0)] fun β => ?_
 refine G_seq ?_
 refine G_sr ?_
 refine GL_st 2 2 [(1, S stamp), (2, S other), (3, Pt g1 0), (7, .iface 75 (Pt g5 0)), (8, In 0), (21, .bool false)] fun β => ?_
 refine G_false (by kernel_rfl) ?_
 refine G_skip ?_
 refine thn_normal ?_
 refine G_seq ?_
 refine G_drawS (fun w => True) 12 12 (by kernel_rfl) (by kernel_rfl) H (fun w6 H => ?_)
 refine HL_takes [0, 1, 3, 4, 5] [(1, S stamp), (2, S other), (3, Pt g1 0), (31, S stamp), (35, .iface 75 (Pt g5 0))] (mkL 12 [0, 1, 3, 4, 5]) 7 (by kernel_rfl) rfl (by kernel_rfl) (fun _ => by kernel_rfl) trivial (fun β => ?_)
 refine HL_call (i := 2) (f := 16) (args := #[S stamp]) rfl (by kernel_rfl) (by kernel_rfl) (by kernel_rfl) (by kernel_rfl) (c_line stamp (by first | omega | decide) H) ?_
 rintro _ w7 ⟨rfl, H⟩
 refine ⟨(.inr trivial), ?_⟩
 replace H : Sep w0 w7 (.blk g5 80 [S nm, S sec, .iface 60 (.agg #[S ([] : List UInt8)]), .bool false] :: .blk g1 40 [S nm, S sec] :: F) := H
 refine HL_call (i := 6) (f := 111) (args := #[Pt g5 0, S (enc stamp)]) rfl (by kernel_rfl) (by kernel_rfl) (by kernel_rfl) (by kernel_rfl) (c_cAnswer_cramE T hT gT R hR gR nm sec (by omega) (by omega) false ([] : List UInt8) stamp (by rw [enc_len]; omega) H) ?_
 rintro _ w11 ⟨q8, hq9, hql10, rfl, H⟩
 replace H : Sep w0 w11 (.blk g5 80 [S nm, S sec, .nilIface, .bool false] :: .blk g1 40 [S nm, S sec] :: F) := H
 refine ⟨(.inr trivial), ?_⟩
 refine HL_takes [7, 8, 9, 10, 11] [(1, S stamp), (2, S other), (3, Pt g1 0), (9, S q8), (10, .int .i64 ((0 : Nat) : Int))] (mkL 12 [0, 1, 3, 4, 5, 2, 6, 7, 8, 9, 10, 11]) 0 (by kernel_rfl) rfl (by kernel_rfl) (fun _ => by kernel_rfl) trivial (fun β => ?_)
 refine HL_forget [(1, S stamp), (2, S other), (3, Pt g1 0), (9, S q8), (10, In 0)] (by kernel_rfl) (fun β => ?_)
 refine HL_fin (by kernel_rfl) ?_
 refine thn_normal ?_
 refine G_sr ?_
 refine GL_V (run_loadN (t := 40) (vs := [S nm, S sec]) (by kernel_rfl) (by kernel_rfl) (H.blk_cells (i := 1) rfl 0 _ ⟨_, rfl⟩)) ?_
 refine GL_new (V := fun g => .slice (some ⟨g, 0, none⟩) 1 1) (l := [S nm, S sec]) (t := 40) H rfl (by kernel_rfl) (by kernel_rfl) (by kernel_rfl) (fun g12 w13 H => ?_)
 refine GL_s 1 3 [(1, S stamp), (2, S other), (3, Pt g1 0), (9, S q8), (10, In 0), (41, .slice (some ⟨g12, 0, none⟩) 1 1), (42, S other)] fun β => ?_
 replace H : Sep w0 w13 (.blk g12 40 (us [(nm, sec)]) :: .blk g5 80 [S nm, S sec, .nilIface, .bool false] :: .blk g1 40 [S nm, S sec] :: F) := H
 refine GL_C (c_Begin_cram T hT gT R hR gR [(nm, sec)] (by first | omega | (decide +kernel) | (simp only [List.length_nil]; omega) | (simp only [List.length_cons, List.length_nil]; omega)) (by intro u hu; simp only [List.mem_cons, List.not_mem_nil, or_false] at hu; subst hu; constructor <;> first | decide | (dsimp only; omega)) [99, 114, 97, 109, 45, 109, 100, 53] other ([] : List UInt8) (by first | omega | (decide +kernel) | (simp only [List.length_nil]; omega) | (simp only [List.length_cons, List.length_nil]; omega)) (by first | omega | (decide +kernel) | (simp only [List.length_nil]; omega) | (simp only [List.length_cons, List.length_nil]; omega)) (by first | omega | (decide +kernel) | (simp only [List.length_nil]; omega) | (simp only [List.length_cons, List.length_nil]; omega)) (by decide) (Rd.of_blk (i := 0) (nn := 1) (sz := 2) rfl (by rw [us_length]; rfl) (by decide)) H) ?_
 rintro _ w17 ⟨g14, A15, c16, rfl, H⟩
 replace H : Sep w0 w17 (.blk g14 58 [.slice A15 ([(nm, sec)].length) c16, In 1, .iface 60 (.agg #[S other]), S ([] : List UInt8)] :: .row (.slice A15 ([(nm, sec)].length) c16) 40 2 ([(nm, sec)].length) (us [(nm, sec)]) :: .blk g12 40 (us [(nm, sec)]) :: .blk g5 80 [S nm, S sec, .nilIface, .bool false] :: .blk g1 40 [S nm, S sec] :: F) := H
 refine GL_st 5 9 [(1, S stamp), (2, S other), (3, Pt g1 0), (9, S q8), (10, In 0), (11, Pt g14 0), (12, In 0)] fun β => ?_
 refine G_seq ?_
 refine G_sr ?_
 refine GL_s 8 8 [(1, S stamp), (2, S other), (3, Pt g1 0), (9, S q8), (11, Pt g14 0), (52, .bool false), (53, Pt g14 0)] fun β => ?_
 replace H : Sep w0 w17 (.blk g14 58 [.slice A15 ([(nm, sec)].length) c16, In 1, .iface 60 (.agg #[S other]), S ([] : List UInt8)] :: .row (.slice A15 ([(nm, sec)].length) c16) 40 2 ([(nm, sec)].length) (us [(nm, sec)]) :: .blk g12 40 (us [(nm, sec)]) :: .blk g5 80 [S nm, S sec, .nilIface, .bool false] :: .blk g1 40 [S nm, S sec] :: F) := H
 refine GL_C (c_Ask 1 (.slice A15 ([(nm, sec)].length) c16) (S ([] : List UInt8)) (Stp.cram other) (by show other.length ≤ 68719476736; omega) H) ?_
 rintro _ w18 ⟨rfl, H⟩
 replace H : Sep w0 w18 (.blk g14 58 [.slice A15 ([(nm, sec)].length) c16, In 1, .iface 60 (.agg #[S other]), S ([] : List UInt8)] :: .row (.slice A15 ([(nm, sec)].length) c16) 40 2 ([(nm, sec)].length) (us [(nm, sec)]) :: .blk g12 40 (us [(nm, sec)]) :: .blk g5 80 [S nm, S sec, .nilIface, .bool false] :: .blk g1 40 [S nm, S sec] :: F) := H
 refine GL_s 1 10 [(1, S stamp), (2, S other), (3, Pt g1 0), (9, S q8), (11, Pt g14 0), (52, .bool false), (54, S (enc other)), (55, S other)] fun β => ?_
 refine GL_C (c_line other (by first | omega | decide) H) ?_
 rintro _ w19 ⟨rfl, H⟩
 refine GL_V (R_strneF (t := 9) (l := (enc other)) (m := (enc other)) rfl) ?_
 refine GL_s 4 16 [(1, S stamp), (2, S other), (3, Pt g1 0), (11, Pt g14 0), (59, .bool false), (60, Pt g14 0), (61, S q8)] fun β => ?_
 replace H := H.front (i := 1) rfl
 replace H := H.front (i := 1) rfl
 replace H : Sep w0 w19 (.blk g14 58 [.slice A15 ([(nm, sec)].length) c16, In 1, .iface 60 (.agg #[S other]), S ([] : List UInt8)] :: .row (.slice A15 ([(nm, sec)].length) c16) 40 2 ([(nm, sec)].length) (us [(nm, sec)]) :: .blk g12 40 (us [(nm, sec)]) :: .blk g5 80 [S nm, S sec, .nilIface, .bool false] :: .blk g1 40 [S nm, S sec] :: F) := H
 refine GL_C (c_AnswerE (e2 := 0) (n2 := (if crP T R [(nm, sec)] other nm (dgF T R sec stamp) = true then 2 else 3)) (s2 := (Stp.cram other)) (nm2 := (if crP T R [(nm, sec)] other nm (dgF T R sec stamp) = true then nm else [])) T hT gT R hR gR 1 (Stp.cram other) (by show other.length ≤ 68719476736; omega) ([] : List UInt8) q8 (by omega) [(nm, sec)] (by first | omega | decide | (simp only [List.length_cons, List.length_nil]; omega)) (by intro u hu; simp only [List.mem_cons, List.not_mem_nil, or_false] at hu; subst hu; constructor <;> first | decide | (dsimp only; omega)) H (by rw [hq9]; exact ans_cram T R _ _ _ _ (dgF_nosp _ _ _ _))) ?_
 rintro _ w20 ⟨rfl, H⟩
 replace H : Sep w0 w20 (.blk g14 58 [.slice A15 ([(nm, sec)].length) c16, In (if crP T R [(nm, sec)] other nm (dgF T R sec stamp) = true then 2 else 3), .iface 60 (.agg #[S other]), S (if crP T R [(nm, sec)] other nm (dgF T R sec stamp) = true then nm else [])] :: .row (.slice A15 ([(nm, sec)].length) c16) 40 2 ([(nm, sec)].length) (us [(nm, sec)]) :: .blk g12 40 (us [(nm, sec)]) :: .blk g5 80 [S nm, S sec, .nilIface, .bool false] :: .blk g1 40 [S nm, S sec] :: F) := H
 refine GL_st 2 19 [(1, S stamp), (2, S other), (3, Pt g1 0), (11, Pt g14 0), (64, .bool false)] fun β => ?_
 refine G_false (by kernel_rfl) ?_
 refine G_skip ?_
 refine thn_normal ?_
 refine G_seq ?_
 refine G_drawS (fun w => w.cell? ⟨g1, 1, none⟩ = some (S sec) ∧ w.cell? ⟨g1, 1, none⟩ = some (S sec) ∧ True) 14 14 (by kernel_rfl) (by kernel_rfl) H (fun w21 H => ?_)
 refine HL_takes [0, 3] [(1, S stamp), (2, S other), (3, Pt g1 0), (65, Pt g14 0), (68, Pt g1 1)] (mkL 14 [0, 3]) 12 (by kernel_rfl) rfl (by kernel_rfl) (fun _ => by kernel_rfl) ⟨((H.blk_cell (i := 4) rfl 1).trans rfl), ((H.blk_cell (i := 4) rfl 1).trans rfl), trivial⟩ (fun β => ?_)
 refine HL_t (i := 4) (m := 11) (fun w hS => run_load1 (t := 9) (by kernel_rfl) hS.1) rfl (by kernel_rfl) (by kernel_rfl) (by kernel_rfl) (by kernel_rfl) (by kernel_rfl) (by kernel_rfl) ⟨((H.blk_cell (i := 4) rfl 1).trans rfl), ((H.blk_cell (i := 4) rfl 1).trans rfl), trivial⟩ rfl ?_
 refine HL_takes [5, 7] [(2, S other), (65, Pt g14 0), (69, S sec), (70, S stamp), (72, Pt g1 1)] (mkL 14 [0, 3, 4, 5, 7]) 9 (by kernel_rfl) rfl (by kernel_rfl) (fun _ => by kernel_rfl) ⟨((H.blk_cell (i := 4) rfl 1).trans rfl), ((H.blk_cell (i := 4) rfl 1).trans rfl), trivial⟩ (fun β => ?_)
 refine HL_t (i := 8) (m := 8) (fun w hS => run_load1 (t := 9) (by kernel_rfl) hS.2.1) rfl (by kernel_rfl) (by kernel_rfl) (by kernel_rfl) (by kernel_rfl) (by kernel_rfl) (by kernel_rfl) ⟨((H.blk_cell (i := 4) rfl 1).trans rfl), ((H.blk_cell (i := 4) rfl 1).trans rfl), trivial⟩ rfl ?_
 refine HL_takes [9] [(65, Pt g14 0), (69, S sec), (70, S stamp), (73, S sec), (74, S other)] (mkL 14 [0, 3, 4, 5, 7, 8, 9]) 7 (by kernel_rfl) rfl (by kernel_rfl) (fun _ => by kernel_rfl) ⟨((H.blk_cell (i := 4) rfl 1).trans rfl), ((H.blk_cell (i := 4) rfl 1).trans rfl), trivial⟩ (fun β => ?_)
 replace H : Sep w0 w21 (.blk g14 58 [.slice A15 ([(nm, sec)].length) c16, In (if crP T R [(nm, sec)] other nm (dgF T R sec stamp) = true then 2 else 3), .iface 60 (.agg #[S other]), S (if crP T R [(nm, sec)] other nm (dgF T R sec stamp) = true then nm else [])] :: .row (.slice A15 ([(nm, sec)].length) c16) 40 2 ([(nm, sec)].length) (us [(nm, sec)]) :: .blk g12 40 (us [(nm, sec)]) :: .blk g5 80 [S nm, S sec, .nilIface, .bool false] :: .blk g1 40 [S nm, S sec] :: F) := H
 refine HL_call (i := 1) (f := 9) (args := #[Pt g14 0]) rfl (by kernel_rfl) (by kernel_rfl) (by kernel_rfl) (by kernel_rfl) (c_State (if crP T R [(nm, sec)] other nm (dgF T R sec stamp) = true then 2 else 3) (.slice A15 ([(nm, sec)].length) c16) (.iface 60 (.agg #[S other])) (S (if crP T R [(nm, sec)] other nm (dgF T R sec stamp) = true then nm else [])) H) ?_
 rintro _ w22 ⟨rfl, H⟩
 refine ⟨(.inr ⟨((H.blk_cell (i := 4) rfl 1).trans rfl), ((H.blk_cell (i := 4) rfl 1).trans rfl), trivial⟩), ?_⟩
 refine HL_takes [2] [(67, .bool (((if crP T R [(nm, sec)] other nm (dgF T R sec stamp) = true then 2 else 3 : Nat) : Int) == ((2 : Nat) : Int))), (69, S sec), (70, S stamp), (73, S sec), (74, S other)] (mkL 14 [0, 3, 4, 5, 7, 8, 9, 1, 2]) 5 (by kernel_rfl) rfl (by kernel_rfl) (fun _ => by kernel_rfl) ⟨((H.blk_cell (i := 4) rfl 1).trans rfl), ((H.blk_cell (i := 4) rfl 1).trans rfl), trivial⟩ (fun β => ?_)
 refine HL_forgetr [(67, .bool ((if crP T R [(nm, sec)] other nm (dgF T R sec stamp) = true then 2 else 3) == 2)), (69, S sec), (70, S stamp), (73, S sec), (74, S other)] (show ([.bool (((if crP T R [(nm, sec)] other nm (dgF T R sec stamp) = true then 2 else 3 : Nat) : Int) == ((2 : Nat) : Int)), S sec, S stamp, S sec, S other] : List Value) = [.bool ((if crP T R [(nm, sec)] other nm (dgF T R sec stamp) = true then 2 else 3) == 2), S sec, S stamp, S sec, S other] by rw [neql (if crP T R [(nm, sec)] other nm (dgF T R sec stamp) = true then 2 else 3) 2]) (by kernel_rfl) rfl (fun β => ?_)
 refine HL_call (i := 6) (f := 17) (args := #[S sec, S stamp]) rfl (by kernel_rfl) (by kernel_rfl) (by kernel_rfl) (by kernel_rfl) (c_ldigest T hT gT R hR gR sec stamp (by omega) (by omega) H) ?_
 rintro _ w23 ⟨rfl, H⟩
 refine ⟨(.inr ⟨((H.blk_cell (i := 4) rfl 1).trans rfl), ((H.blk_cell (i := 4) rfl 1).trans rfl), trivial⟩), ?_⟩
 refine HL_call (i := 10) (f := 17) (args := #[S sec, S other]) rfl (by kernel_rfl) (by kernel_rfl) (by kernel_rfl) (by kernel_rfl) (c_ldigest T hT gT R hR gR sec other (by omega) (by omega) H) ?_
 rintro _ w24 ⟨rfl, H⟩
 refine ⟨(.inr ⟨((H.blk_cell (i := 4) rfl 1).trans rfl), ((H.blk_cell (i := 4) rfl 1).trans rfl), trivial⟩), ?_⟩
 refine HL_t (i := 11) (m := 2) (fun w _ => (R_streq (t := 9) (l := (dgF T R sec stamp)) (m := (dgF T R sec other)))) rfl (by kernel_rfl) (by kernel_rfl) (by kernel_rfl) (by kernel_rfl) (by kernel_rfl) (by kernel_rfl) ⟨((H.blk_cell (i := 4) rfl 1).trans rfl), ((H.blk_cell (i := 4) rfl 1).trans rfl), trivial⟩ rfl ?_
 refine HL_takes [12, 13] [(6, .bool (((if crP T R [(nm, sec)] other nm (dgF T R sec stamp) = true then 2 else 3) == 2) == ((dgF T R sec stamp) == (dgF T R sec other))))] (mkL 14 [0, 3, 4, 5, 7, 8, 9, 1, 2, 6, 10, 11, 12, 13]) 0 (by kernel_rfl) rfl (by kernel_rfl) (fun _ => by kernel_rfl) ⟨((H.blk_cell (i := 4) rfl 1).trans rfl), ((H.blk_cell (i := 4) rfl 1).trans rfl), trivial⟩ (fun β => ?_)
 refine HL_forget [(6, .bool (((if crP T R [(nm, sec)] other nm (dgF T R sec stamp) = true then 2 else 3) == 2) == ((dgF T R sec stamp) == (dgF T R sec other))))] (by kernel_rfl) (fun β => ?_)
 refine HL_fin (by kernel_rfl) ?_
 refine thn_normal ?_
 refine G_ret ?_
 refine res1 (v := .bool (((if crP T R [(nm, sec)] other nm (dgF T R sec stamp) = true then 2 else 3) == 2) == ((dgF T R sec stamp) == (dgF T R sec other)))) rfl (by kernel_rfl) ?_
 replace H := H.drop 4
 replace H := H.drop 3
 replace H := H.drop 2
 replace H := H.drop 1
 replace H := H.drop 0
 replace H : Sep w0 w24 (F) := H
 refine ⟨?_, H⟩
 rw [crP_one]
 by_cases e1 : dgF T R sec other = dgF T R sec stamp
 · simp [e1]
 · have e2 : ¬ dgF T R sec stamp = dgF T R sec other := fun e => e1 e.symm
   simp [e1, e2]
/-- posthorn/posthornlaw22.SaslStale -/
theorem c_Stale_false {w0 w : World} {F : List Chunk} (T : List UInt32) (hT : T.length = 64) (gT : Gl w0 0 (u32s T)) (R : List UInt8) (hR : R.length = 16) (gR : Gl w0 1 (bs R)) (nm sec stamp other : List UInt8) (hnm : nm.length ≤ 16777216) (hsec : sec.length ≤ 16777216) (hstamp : stamp.length ≤ 16777216) (hother : other.length ≤ 16777216) (hy : may2 nm sec = false) (H : Sep w0 w F) : Ret Tryd.prog 4 #[.agg #[S nm, S sec], S stamp, S other] w (fun v w' => v = .bool true ∧ Sep w0 w' F) := by
 refine Ret_enter (args := [.agg #[S nm, S sec], S stamp, S other]) Tryd.func4 rfl (by kernel_rfl) ?_
 refine G_forget [(0, .agg #[S nm, S sec]), (1, S stamp), (2, S other)] (by kernel_rfl) (fun β => ?_)
 refine G_sr ?_
 refine GL_new (V := fun g => Pt g 0) (l := [S nm, S sec]) (t := 40) H rfl (by kernel_rfl) (by kernel_rfl) (by kernel_rfl) (fun g1 w2 H => ?_)
 refine GL_st 1 2 [(1, S stamp), (2, S other), (3, Pt g1 0)] fun β => ?_
 refine G_seq ?_
 refine G_sr ?_
 refine GL_C (c_wakes T hT gT R hR gR H) ?_
 rintro _ w3 ⟨rfl, H⟩
 refine GL_st 1 2 [(1, S stamp), (2, S other), (3, Pt g1 0), (14, .bool false)] fun β => ?_
 refine G_false (by kernel_rfl) ?_
 refine G_skip ?_
 refine thn_normal ?_
 refine G_sr ?_
 refine GL_V (run_loadN (t := 40) (vs := [S nm, S sec]) (by kernel_rfl) (by kernel_rfl) (H.blk_cells (i := 0) rfl 0 _ ⟨_, rfl⟩)) ?_
 refine GL_C (c_RespondNo_cram nm sec [67, 82, 65, 77, 45, 77, 68, 53] (by omega) (by omega) (by first | omega | decide) (by decide) hy H) ?_
 rintro _ w4 ⟨rfl, H⟩
 refine GL_st 5 7 [(1, S stamp), (2, S other), (3, Pt g1 0), (7, .nilIface), (8, In 2)] fun β => ?_
 refine G_seq ?_
 refine G_sr ?_
 refine GL_st 2 2 [(1, S stamp), (2, S other), (3, Pt g1 0), (7, .nilIface), (8, In 2), (21, .bool true)] fun β => ?_
 refine G_true (by kernel_rfl) ?_
 refine G_sr ?_
 refine GL_s 3 3 [(3, Pt g1 0), (24, .bool true)] fun β => ?_
 refine GL_V (run_loadN (t := 40) (vs := [S nm, S sec]) (by kernel_rfl) (by kernel_rfl) (H.blk_cells (i := 0) rfl 0 _ ⟨_, rfl⟩)) ?_
 refine GL_C (c_lmay nm sec (by omega) (by omega) H) ?_
 rintro _ w5 ⟨rfl, H⟩
 rw [may_eq, hy]
 refine GL_st 3 8 [(6, .bool true)] fun β => ?_
 refine G_ret ?_
 refine thn_ret (res1 (v := .bool true) rfl (by kernel_rfl) ?_)
 replace H := H.drop 0
 replace H : Sep w0 w5 (F) := H
 exact ⟨rfl, H⟩
end Go.Proofs.YtadiljnfkbbmcaaDoor
