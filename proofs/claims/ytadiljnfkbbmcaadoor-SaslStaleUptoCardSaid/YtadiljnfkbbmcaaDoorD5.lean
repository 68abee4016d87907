-- printed by gw.py (my own program), checked by Lean
import Derived.Test.YtadiljnfkbbmcaaDoorD4
set_option linter.unusedVariables false
set_option linter.unusedSimpArgs false
set_option maxRecDepth 100000
set_option maxHeartbeats 400000
namespace Go.Proofs.YtadiljnfkbbmcaaDoor
open Go.Kw Go.RowKit

theorem enc_star (l : List UInt8) : ¬ enc l = [42] := by
  intro h
  have := congrArg List.length h
  rw [enc_len] at this
  simp only [List.length_cons, List.length_nil] at this
  omega
theorem lastK_of {s : List UInt8} {c : UInt8} {m : Nat} (hm : s.getD m 0 = c) : ∀ (k : Nat), m < k → (∀ j, m < j → j < k → s.getD j 0 ≠ c) → lastK s c k = (m : Int)
  | 0, h, _ => by omega
  | k + 1, h, hj => by
    unfold lastK
    by_cases hk : m = k
    · subst hk; rw [if_pos hm]
    · rw [if_neg (hj k (by omega) (by omega))]
      exact lastK_of hm k (by omega) (fun j h1 h2 => hj j h1 (by omega))
theorem lastK_app {a d : List UInt8} {c : UInt8} (h : c ∉ d) : lastK ((a ++ [c]) ++ d) c ((a ++ [c]) ++ d).length = (a.length : Int) := by
  refine lastK_of ?_ _ (by simp) (fun j h1 h2 => ?_)
  · simp [List.getD_eq_getElem?_getD]
  · simp only [List.length_append, List.length_cons, List.length_nil] at h2
    rw [List.getD_eq_getElem?_getD, List.getElem?_append_right (by simp; omega), List.getElem?_eq_getElem (by simp; omega), Option.getD_some]
    intro e
    exact h (e ▸ List.getElem_mem _)
theorem dgF_nosp (T : List UInt32) (R : List UInt8) (k b : List UInt8) : (32 : UInt8) ∉ dgF T R k b := tellF_nosp _
theorem crF_app (T : List UInt32) (R : List UInt8) (l : List Str2) (o nm d : List UInt8) (hd : (32 : UInt8) ∉ d) : crF T R l o ((nm ++ [32]) ++ d) = (nm, crP T R l o nm d, 0) := by
  unfold crF
  rw [lastK_app hd, if_neg (by omega), Int.toNat_natCast]
  have h1 : ((nm ++ [32]) ++ d).take nm.length = nm := by simp
  have h2 : ((nm ++ [32]) ++ d).drop (nm.length + 1) = d := by rw [List.drop_append_of_le_length (by simp)]; simp
  rw [h1, h2]
theorem ans_cram (T : List UInt32) (R : List UInt8) (l : List Str2) (o nm d : List UInt8) (hd : (32 : UInt8) ∉ d) :
    ansF T R l 1 (.cram o) [] (enc ((nm ++ [32]) ++ d)) = (0, if crP T R l o nm d = true then 2 else 3, .cram o, if crP T R l o nm d = true then nm else []) := by
  have hr : readF T R l 1 (.cram o) [] (enc ((nm ++ [32]) ++ d)) = (0, if crP T R l o nm d = true then 2 else 3, .cram o, if crP T R l o nm d = true then nm else []) := by
    unfold readF
    rw [dec_enc]
    simp only [takeF, crF_app T R l o nm d hd, ne_eq, not_true_eq_false, if_false]
    split <;> rfl
  rw [ansF, if_neg (by decide), if_neg (by decide), if_neg (enc_star _), hr]
  rfl
theorem crP_one (T : List UInt32) (R : List UInt8) (nm sec o d : List UInt8) : crP T R [(nm, sec)] o nm d = (dgF T R sec o == d) := by
  unfold crP; simp
theorem c_AnswerE {w0 w : World} {F : List Chunk} (T : List UInt32) (hT : T.length = 64) (gT : Gl w0 0 (u32s T)) (R : List UInt8) (hR : R.length = 16) (gR : Gl w0 1 (bs R)) (n : Nat) (s : Stp) (hs : s.fits) (nm y : List UInt8) (hy : y.length ≤ 68719476736) (l : List Str2) (hl : l.length ≤ 1099511627776) (hU : ∀ u ∈ l, u.1.length ≤ 549755813888 ∧ u.2.length ≤ 549755813888) {g c : Nat} {A : Option Addr} (H : Sep w0 w (.blk g 58 [.slice A l.length c, .int .i64 (n : Int), s.v, .string ⟨nm.toArray⟩] :: .row (.slice A l.length c) 40 2 l.length (us l) :: F)) {e2 n2 : Nat} {s2 : Stp} {nm2 : List UInt8} (he : (ansF T R l n s nm y) = (e2, n2, s2, nm2)) : Ret Tryd.prog 13 #[.pointer (some ⟨g, 0, none⟩), S y] w (fun v w' => v = .int .i64 (e2 : Int) ∧ Sep w0 w' (.blk g 58 [.slice A l.length c, .int .i64 (n2 : Int), s2.v, .string ⟨nm2.toArray⟩] :: .row (.slice A l.length c) 40 2 l.length (us l) :: F)) := by
  have := c_Answer T hT gT R hR gR n s hs nm y hy l hl hU H
  rw [he] at this; exact this
theorem c_cAnswer_cramE {w0 w : World} {F : List Chunk} (T : List UInt32) (hT : T.length = 64) (gT : Gl w0 0 (u32s T)) (R : List UInt8) (hR : R.length = 16) (gR : Gl w0 1 (bs R)) (nm sec : List UInt8) (hn : nm.length ≤ 4294967296) (hs : sec.length ≤ 4294967296) (once : Bool) (z x : List UInt8) (hx : (enc x).length ≤ 4294967296) {g : Nat} (H : Sep w0 w (.blk g 80 [.string ⟨nm.toArray⟩, .string ⟨sec.toArray⟩, .iface 60 (.agg #[.string ⟨z.toArray⟩]), .bool once] :: F)) : Ret Tryd.prog 111 #[.pointer (some ⟨g, 0, none⟩), S (enc x)] w (fun v w' => ∃ q, q = enc ((nm ++ [32]) ++ dgF T R sec x) ∧ q.length ≤ 8589934592 ∧ v = .tuple #[S q, .int .i64 ((0 : Nat) : Int)] ∧ Sep w0 w' (.blk g 80 [.string ⟨nm.toArray⟩, .string ⟨sec.toArray⟩, .nilIface, .bool once] :: F)) := by
  refine (c_cAnswer_cram T hT gT R hR gR nm sec (enc x) hn hs hx once z H).mono fun v w' ⟨o, e, p, hd, h⟩ => ?_
  rw [dec_enc] at hd
  cases hd
  rcases h with ⟨h0, _⟩ | ⟨_, hv, H⟩
  · exact absurd rfl h0
  · exact ⟨_, rfl, by rw [enc_len]; simp only [List.length_append, List.length_cons, List.length_nil, dgF_len]; omega, hv, H⟩
/-- posthorn/posthornlaw22.SaslStale -/
theorem c_Stale_true {w0 w : World} {F : List Chunk} (T : List UInt32) (hT : T.length = 64) (gT : Gl w0 0 (u32s T)) (R : List UInt8) (hR : R.length = 16) (gR : Gl w0 1 (bs R)) (nm sec stamp other : List UInt8) (hnm : nm.length ≤ 16777216) (hsec : sec.length ≤ 16777216) (hstamp : stamp.length ≤ 16777216) (hother : other.length ≤ 16777216) (hy : may2 nm sec = true) (H : Sep w0 w F) : Ret Tryd.prog 4 #[.agg #[S nm, S sec], S stamp, S other] w (fun v w' => v = .bool true ∧ Sep w0 w' F) := by
  refine Ret_enter (args := [.agg #[.string ⟨nm.toArray⟩, .string ⟨sec.toArray⟩], .string ⟨stamp.toArray⟩, .string ⟨other.toArray⟩]) Tryd.func4 rfl (by kernel_rfl) ?_
  refine G_forget [(0, .agg #[.string ⟨nm.toArray⟩, .string ⟨sec.toArray⟩]), (1, .string ⟨stamp.toArray⟩), (2, .string ⟨other.toArray⟩)] (by kernel_rfl) (fun β => ?_)
  refine G_seq ?_
  refine G_region ?_
  refine GL_new (V := fun g => .pointer (some ⟨g, 0, none⟩)) (l := [.string ⟨nm.toArray⟩, .string ⟨sec.toArray⟩]) (t := 40) H rfl (by kernel_rfl) (by kernel_rfl) (by kernel_rfl) (fun g1 w2 H => ?_)
  refine GL_seg0 1 2 [(1, .string ⟨stamp.toArray⟩), (2, .string ⟨other.toArray⟩), (3, .pointer (some ⟨g1, 0, none⟩))] rfl (by kernel_rfl) (fun β => ?_)
  refine GL_end (by kernel_rfl) ?_
  refine thn_normal ?_
  refine G_seq ?_
  refine G_seq ?_
  refine G_region ?_
  refine GL_call (f := 6) (args := #[]) rfl (by kernel_rfl) (by kernel_rfl) (by kernel_rfl) (c_wakes T hT gT R hR gR H) ?_
  rintro _ w3 ⟨rfl, H⟩
  refine GL_seg0 1 2 [(1, .string ⟨stamp.toArray⟩), (2, .string ⟨other.toArray⟩), (3, .pointer (some ⟨g1, 0, none⟩)), (14, .bool false)] rfl (by kernel_rfl) (fun β => ?_)
  refine GL_end (by kernel_rfl) ?_
  refine thn_normal ?_
  refine G_false (by kernel_rfl) ?_
  refine G_skip ?_
  refine thn_normal ?_
  refine G_seq ?_
  refine G_region ?_
  refine GL_v (run_loadN (t := 40) (vs := [.string ⟨nm.toArray⟩, .string ⟨sec.toArray⟩]) (by kernel_rfl) (by kernel_rfl) (H.blk_cells (i := 0) rfl 0 _ ⟨_, rfl⟩)) rfl (by kernel_rfl) (by kernel_rfl) (by kernel_rfl) ?_
  refine GL_call (f := 14) (args := #[.agg #[.string ⟨nm.toArray⟩, .string ⟨sec.toArray⟩], .string ⟨[67, 82, 65, 77, 45, 77, 68, 53].toArray⟩]) rfl (by kernel_rfl) (by kernel_rfl) (by kernel_rfl) (c_Respond_cram nm sec [67, 82, 65, 77, 45, 77, 68, 53] (by omega) (by omega) (by first | omega | decide) (by decide) hy H) ?_
  rintro _ w4 ⟨g5, rfl, H⟩
  replace H : Sep w0 w4 (.blk g5 80 [.string ⟨nm.toArray⟩, .string ⟨sec.toArray⟩, .iface 60 (.agg #[.string ⟨([] : List UInt8).toArray⟩]), .bool false] :: .blk g1 40 [.string ⟨nm.toArray⟩, .string ⟨sec.toArray⟩] :: F) := H
  refine GL_seg0 5 7 [(1, .string ⟨stamp.toArray⟩), (2, .string ⟨other.toArray⟩), (3, .pointer (some ⟨g1, 0, none⟩)), (7, .iface 75 (.pointer (some ⟨g5, 0, none⟩))), (8, .int .i64 ((0 : Nat) : Int))] rfl (by kernel_rfl) (fun β => ?_)
  refine GL_end (by kernel_rfl) ?_
  refine thn_normal ?_
  refine G_seq ?_
  refine G_seq ?_
  refine G_region ?_
  refine GL_seg0 2 2 [(1, .string ⟨stamp.toArray⟩), (2, .string ⟨other.toArray⟩), (3, .pointer (some ⟨g1, 0, none⟩)), (7, .iface 75 (.pointer (some ⟨g5, 0, none⟩))), (8, .int .i64 ((0 : Nat) : Int)), (21, .bool false)] rfl (by kernel_rfl) (fun β => ?_)
  refine GL_end (by kernel_rfl) ?_
  refine thn_normal ?_
  refine G_false (by kernel_rfl) ?_
  refine G_skip ?_
  refine thn_normal ?_
  refine G_seq ?_
  refine G_drawS (fun w => True) 12 12 (by kernel_rfl) (by kernel_rfl) H (fun w6 H => ?_)
  refine HL_takes [0, 1, 3, 4, 5] [(1, .string ⟨stamp.toArray⟩), (2, .string ⟨other.toArray⟩), (3, .pointer (some ⟨g1, 0, none⟩)), (31, .string ⟨stamp.toArray⟩), (35, .iface 75 (.pointer (some ⟨g5, 0, none⟩)))] (mkL 12 [0, 1, 3, 4, 5]) 7 (by kernel_rfl) rfl (by kernel_rfl) (fun _ => by kernel_rfl) trivial (fun β => ?_)
  refine HL_call (i := 2) (f := 16) (args := #[.string ⟨stamp.toArray⟩]) rfl (by kernel_rfl) (by kernel_rfl) (by kernel_rfl) (by kernel_rfl) (c_line stamp (by first | omega | decide) H) ?_
  rintro _ w7 ⟨rfl, H⟩
  refine ⟨(.inr trivial), ?_⟩
  replace H : Sep w0 w7 (.blk g5 80 [.string ⟨nm.toArray⟩, .string ⟨sec.toArray⟩, .iface 60 (.agg #[.string ⟨([] : List UInt8).toArray⟩]), .bool false] :: .blk g1 40 [.string ⟨nm.toArray⟩, .string ⟨sec.toArray⟩] :: F) := H
  refine HL_call (i := 6) (f := 111) (args := #[.pointer (some ⟨g5, 0, none⟩), .string ⟨(enc stamp).toArray⟩]) rfl (by kernel_rfl) (by kernel_rfl) (by kernel_rfl) (by kernel_rfl) (c_cAnswer_cramE T hT gT R hR gR nm sec (by omega) (by omega) false ([] : List UInt8) stamp (by rw [enc_len]; omega) H) ?_
  rintro _ w11 ⟨q8, hq9, hql10, rfl, H⟩
  replace H : Sep w0 w11 (.blk g5 80 [.string ⟨nm.toArray⟩, .string ⟨sec.toArray⟩, .nilIface, .bool false] :: .blk g1 40 [.string ⟨nm.toArray⟩, .string ⟨sec.toArray⟩] :: F) := H
  refine ⟨(.inr trivial), ?_⟩
  refine HL_takes [7, 8, 9, 10, 11] [(1, .string ⟨stamp.toArray⟩), (2, .string ⟨other.toArray⟩), (3, .pointer (some ⟨g1, 0, none⟩)), (9, .string ⟨q8.toArray⟩), (10, .int .i64 ((0 : Nat) : Int))] (mkL 12 [0, 1, 3, 4, 5, 2, 6, 7, 8, 9, 10, 11]) 0 (by kernel_rfl) rfl (by kernel_rfl) (fun _ => by kernel_rfl) trivial (fun β => ?_)
  refine HL_forget [(1, .string ⟨stamp.toArray⟩), (2, .string ⟨other.toArray⟩), (3, .pointer (some ⟨g1, 0, none⟩)), (9, .string ⟨q8.toArray⟩), (10, .int .i64 ((0 : Nat) : Int))] (by kernel_rfl) (fun β => ?_)
  refine HL_fin (by kernel_rfl) ?_
  refine thn_normal ?_
  refine G_seq ?_
  refine G_region ?_
  refine GL_v (run_loadN (t := 40) (vs := [.string ⟨nm.toArray⟩, .string ⟨sec.toArray⟩]) (by kernel_rfl) (by kernel_rfl) (H.blk_cells (i := 1) rfl 0 _ ⟨_, rfl⟩)) rfl (by kernel_rfl) (by kernel_rfl) (by kernel_rfl) ?_
  refine GL_new (V := fun g => .slice (some ⟨g, 0, none⟩) 1 1) (l := [.string ⟨nm.toArray⟩, .string ⟨sec.toArray⟩]) (t := 40) H rfl (by kernel_rfl) (by kernel_rfl) (by kernel_rfl) (fun g12 w13 H => ?_)
  refine GL_seg0 1 3 [(1, .string ⟨stamp.toArray⟩), (2, .string ⟨other.toArray⟩), (3, .pointer (some ⟨g1, 0, none⟩)), (9, .string ⟨q8.toArray⟩), (10, .int .i64 ((0 : Nat) : Int)), (41, .slice (some ⟨g12, 0, none⟩) 1 1), (42, .string ⟨other.toArray⟩)] rfl (by kernel_rfl) (fun β => ?_)
  replace H : Sep w0 w13 (.blk g12 40 (us [(nm, sec)]) :: .blk g5 80 [.string ⟨nm.toArray⟩, .string ⟨sec.toArray⟩, .nilIface, .bool false] :: .blk g1 40 [.string ⟨nm.toArray⟩, .string ⟨sec.toArray⟩] :: F) := H
  refine GL_call (f := 7) (args := #[.slice (some ⟨g12, 0, none⟩) 1 1, .string ⟨[99, 114, 97, 109, 45, 109, 100, 53].toArray⟩, .string ⟨other.toArray⟩, .string ⟨([] : List UInt8).toArray⟩, .bool false]) rfl (by kernel_rfl) (by kernel_rfl) (by kernel_rfl) (c_Begin_cram T hT gT R hR gR [(nm, sec)] (by first | omega | (decide +kernel) | (simp only [List.length_nil]; omega) | (simp only [List.length_cons, List.length_nil]; omega)) (by intro u hu; simp only [List.mem_cons, List.not_mem_nil, or_false] at hu; subst hu; constructor <;> first | decide | (dsimp only; omega)) [99, 114, 97, 109, 45, 109, 100, 53] other ([] : List UInt8) (by first | omega | (decide +kernel) | (simp only [List.length_nil]; omega) | (simp only [List.length_cons, List.length_nil]; omega)) (by first | omega | (decide +kernel) | (simp only [List.length_nil]; omega) | (simp only [List.length_cons, List.length_nil]; omega)) (by first | omega | (decide +kernel) | (simp only [List.length_nil]; omega) | (simp only [List.length_cons, List.length_nil]; omega)) (by decide) (Rd.of_blk (i := 0) (nn := 1) (sz := 2) rfl (by rw [us_length]; rfl) (by decide)) H) ?_
  rintro _ w17 ⟨g14, A15, c16, rfl, H⟩
  replace H : Sep w0 w17 (.blk g14 58 [.slice A15 ([(nm, sec)].length) c16, .int .i64 ((1 : Nat) : Int), .iface 60 (.agg #[.string ⟨other.toArray⟩]), .string ⟨([] : List UInt8).toArray⟩] :: .row (.slice A15 ([(nm, sec)].length) c16) 40 2 ([(nm, sec)].length) (us [(nm, sec)]) :: .blk g12 40 (us [(nm, sec)]) :: .blk g5 80 [.string ⟨nm.toArray⟩, .string ⟨sec.toArray⟩, .nilIface, .bool false] :: .blk g1 40 [.string ⟨nm.toArray⟩, .string ⟨sec.toArray⟩] :: F) := H
  refine GL_seg0 5 9 [(1, .string ⟨stamp.toArray⟩), (2, .string ⟨other.toArray⟩), (3, .pointer (some ⟨g1, 0, none⟩)), (9, .string ⟨q8.toArray⟩), (10, .int .i64 ((0 : Nat) : Int)), (11, .pointer (some ⟨g14, 0, none⟩)), (12, .int .i64 ((0 : Nat) : Int))] rfl (by kernel_rfl) (fun β => ?_)
  refine GL_end (by kernel_rfl) ?_
  refine thn_normal ?_
  refine G_seq ?_
  refine G_seq ?_
  refine G_region ?_
  refine GL_seg0 8 8 [(1, .string ⟨stamp.toArray⟩), (2, .string ⟨other.toArray⟩), (3, .pointer (some ⟨g1, 0, none⟩)), (9, .string ⟨q8.toArray⟩), (11, .pointer (some ⟨g14, 0, none⟩)), (52, .bool false), (53, .pointer (some ⟨g14, 0, none⟩))] rfl (by kernel_rfl) (fun β => ?_)
  replace H : Sep w0 w17 (.blk g14 58 [.slice A15 ([(nm, sec)].length) c16, .int .i64 ((1 : Nat) : Int), .iface 60 (.agg #[.string ⟨other.toArray⟩]), .string ⟨([] : List UInt8).toArray⟩] :: .row (.slice A15 ([(nm, sec)].length) c16) 40 2 ([(nm, sec)].length) (us [(nm, sec)]) :: .blk g12 40 (us [(nm, sec)]) :: .blk g5 80 [.string ⟨nm.toArray⟩, .string ⟨sec.toArray⟩, .nilIface, .bool false] :: .blk g1 40 [.string ⟨nm.toArray⟩, .string ⟨sec.toArray⟩] :: F) := H
  refine GL_call (f := 12) (args := #[.pointer (some ⟨g14, 0, none⟩)]) rfl (by kernel_rfl) (by kernel_rfl) (by kernel_rfl) (c_Ask 1 (.slice A15 ([(nm, sec)].length) c16) (.string ⟨([] : List UInt8).toArray⟩) (Stp.cram other) (by show other.length ≤ 68719476736; omega) H) ?_
  rintro _ w18 ⟨rfl, H⟩
  replace H : Sep w0 w18 (.blk g14 58 [.slice A15 ([(nm, sec)].length) c16, .int .i64 ((1 : Nat) : Int), .iface 60 (.agg #[.string ⟨other.toArray⟩]), .string ⟨([] : List UInt8).toArray⟩] :: .row (.slice A15 ([(nm, sec)].length) c16) 40 2 ([(nm, sec)].length) (us [(nm, sec)]) :: .blk g12 40 (us [(nm, sec)]) :: .blk g5 80 [.string ⟨nm.toArray⟩, .string ⟨sec.toArray⟩, .nilIface, .bool false] :: .blk g1 40 [.string ⟨nm.toArray⟩, .string ⟨sec.toArray⟩] :: F) := H
  refine GL_seg0 1 10 [(1, .string ⟨stamp.toArray⟩), (2, .string ⟨other.toArray⟩), (3, .pointer (some ⟨g1, 0, none⟩)), (9, .string ⟨q8.toArray⟩), (11, .pointer (some ⟨g14, 0, none⟩)), (52, .bool false), (54, .string ⟨(enc other).toArray⟩), (55, .string ⟨other.toArray⟩)] rfl (by kernel_rfl) (fun β => ?_)
  refine GL_call (f := 16) (args := #[.string ⟨other.toArray⟩]) rfl (by kernel_rfl) (by kernel_rfl) (by kernel_rfl) (c_line other (by first | omega | decide) H) ?_
  rintro _ w19 ⟨rfl, H⟩
  refine GL_v (R_strneF (t := 9) (l := (enc other)) (m := (enc other)) rfl) rfl (by kernel_rfl) (by kernel_rfl) (by kernel_rfl) ?_
  refine GL_seg0 4 16 [(1, .string ⟨stamp.toArray⟩), (2, .string ⟨other.toArray⟩), (3, .pointer (some ⟨g1, 0, none⟩)), (11, .pointer (some ⟨g14, 0, none⟩)), (59, .bool false), (60, .pointer (some ⟨g14, 0, none⟩)), (61, .string ⟨q8.toArray⟩)] rfl (by kernel_rfl) (fun β => ?_)
  replace H := H.front (i := 1) rfl
  replace H := H.front (i := 1) rfl
  replace H : Sep w0 w19 (.blk g14 58 [.slice A15 ([(nm, sec)].length) c16, .int .i64 ((1 : Nat) : Int), .iface 60 (.agg #[.string ⟨other.toArray⟩]), .string ⟨([] : List UInt8).toArray⟩] :: .row (.slice A15 ([(nm, sec)].length) c16) 40 2 ([(nm, sec)].length) (us [(nm, sec)]) :: .blk g12 40 (us [(nm, sec)]) :: .blk g5 80 [.string ⟨nm.toArray⟩, .string ⟨sec.toArray⟩, .nilIface, .bool false] :: .blk g1 40 [.string ⟨nm.toArray⟩, .string ⟨sec.toArray⟩] :: F) := H
  refine GL_call (f := 13) (args := #[.pointer (some ⟨g14, 0, none⟩), .string ⟨q8.toArray⟩]) rfl (by kernel_rfl) (by kernel_rfl) (by kernel_rfl) (c_AnswerE (e2 := 0) (n2 := (if crP T R [(nm, sec)] other nm (dgF T R sec stamp) = true then 2 else 3)) (s2 := (Stp.cram other)) (nm2 := (if crP T R [(nm, sec)] other nm (dgF T R sec stamp) = true then nm else [])) T hT gT R hR gR 1 (Stp.cram other) (by show other.length ≤ 68719476736; omega) ([] : List UInt8) q8 (by omega) [(nm, sec)] (by first | omega | decide | (simp only [List.length_cons, List.length_nil]; omega)) (by intro u hu; simp only [List.mem_cons, List.not_mem_nil, or_false] at hu; subst hu; constructor <;> first | decide | (dsimp only; omega)) H (by rw [hq9]; exact ans_cram T R _ _ _ _ (dgF_nosp _ _ _ _))) ?_
  rintro _ w20 ⟨rfl, H⟩
  replace H : Sep w0 w20 (.blk g14 58 [.slice A15 ([(nm, sec)].length) c16, .int .i64 ((if crP T R [(nm, sec)] other nm (dgF T R sec stamp) = true then 2 else 3 : Nat) : Int), .iface 60 (.agg #[.string ⟨other.toArray⟩]), .string ⟨(if crP T R [(nm, sec)] other nm (dgF T R sec stamp) = true then nm else []).toArray⟩] :: .row (.slice A15 ([(nm, sec)].length) c16) 40 2 ([(nm, sec)].length) (us [(nm, sec)]) :: .blk g12 40 (us [(nm, sec)]) :: .blk g5 80 [.string ⟨nm.toArray⟩, .string ⟨sec.toArray⟩, .nilIface, .bool false] :: .blk g1 40 [.string ⟨nm.toArray⟩, .string ⟨sec.toArray⟩] :: F) := H
  refine GL_seg0 2 19 [(1, .string ⟨stamp.toArray⟩), (2, .string ⟨other.toArray⟩), (3, .pointer (some ⟨g1, 0, none⟩)), (11, .pointer (some ⟨g14, 0, none⟩)), (64, .bool false)] rfl (by kernel_rfl) (fun β => ?_)
  refine GL_end (by kernel_rfl) ?_
  refine thn_normal ?_
  refine G_false (by kernel_rfl) ?_
  refine G_skip ?_
  refine thn_normal ?_
  refine G_seq ?_
  refine G_drawS (fun w => w.cell? ⟨g1, 1, none⟩ = some (.string ⟨sec.toArray⟩) ∧ w.cell? ⟨g1, 1, none⟩ = some (.string ⟨sec.toArray⟩) ∧ True) 14 14 (by kernel_rfl) (by kernel_rfl) H (fun w21 H => ?_)
  refine HL_takes [0, 3] [(1, .string ⟨stamp.toArray⟩), (2, .string ⟨other.toArray⟩), (3, .pointer (some ⟨g1, 0, none⟩)), (65, .pointer (some ⟨g14, 0, none⟩)), (68, .pointer (some ⟨g1, 1, none⟩))] (mkL 14 [0, 3]) 12 (by kernel_rfl) rfl (by kernel_rfl) (fun _ => by kernel_rfl) ⟨((H.blk_cell (i := 4) rfl 1).trans rfl), ((H.blk_cell (i := 4) rfl 1).trans rfl), trivial⟩ (fun β => ?_)
  refine HL_t (i := 4) (m := 11) (fun w hS => run_load1 (t := 9) (by kernel_rfl) hS.1) rfl (by kernel_rfl) (by kernel_rfl) (by kernel_rfl) (by kernel_rfl) (by kernel_rfl) (by kernel_rfl) ⟨((H.blk_cell (i := 4) rfl 1).trans rfl), ((H.blk_cell (i := 4) rfl 1).trans rfl), trivial⟩ rfl ?_
  refine HL_takes [5, 7] [(2, .string ⟨other.toArray⟩), (65, .pointer (some ⟨g14, 0, none⟩)), (69, .string ⟨sec.toArray⟩), (70, .string ⟨stamp.toArray⟩), (72, .pointer (some ⟨g1, 1, none⟩))] (mkL 14 [0, 3, 4, 5, 7]) 9 (by kernel_rfl) rfl (by kernel_rfl) (fun _ => by kernel_rfl) ⟨((H.blk_cell (i := 4) rfl 1).trans rfl), ((H.blk_cell (i := 4) rfl 1).trans rfl), trivial⟩ (fun β => ?_)
  refine HL_t (i := 8) (m := 8) (fun w hS => run_load1 (t := 9) (by kernel_rfl) hS.2.1) rfl (by kernel_rfl) (by kernel_rfl) (by kernel_rfl) (by kernel_rfl) (by kernel_rfl) (by kernel_rfl) ⟨((H.blk_cell (i := 4) rfl 1).trans rfl), ((H.blk_cell (i := 4) rfl 1).trans rfl), trivial⟩ rfl ?_
  refine HL_takes [9] [(65, .pointer (some ⟨g14, 0, none⟩)), (69, .string ⟨sec.toArray⟩), (70, .string ⟨stamp.toArray⟩), (73, .string ⟨sec.toArray⟩), (74, .string ⟨other.toArray⟩)] (mkL 14 [0, 3, 4, 5, 7, 8, 9]) 7 (by kernel_rfl) rfl (by kernel_rfl) (fun _ => by kernel_rfl) ⟨((H.blk_cell (i := 4) rfl 1).trans rfl), ((H.blk_cell (i := 4) rfl 1).trans rfl), trivial⟩ (fun β => ?_)
  replace H : Sep w0 w21 (.blk g14 58 [.slice A15 ([(nm, sec)].length) c16, .int .i64 ((if crP T R [(nm, sec)] other nm (dgF T R sec stamp) = true then 2 else 3 : Nat) : Int), .iface 60 (.agg #[.string ⟨other.toArray⟩]), .string ⟨(if crP T R [(nm, sec)] other nm (dgF T R sec stamp) = true then nm else []).toArray⟩] :: .row (.slice A15 ([(nm, sec)].length) c16) 40 2 ([(nm, sec)].length) (us [(nm, sec)]) :: .blk g12 40 (us [(nm, sec)]) :: .blk g5 80 [.string ⟨nm.toArray⟩, .string ⟨sec.toArray⟩, .nilIface, .bool false] :: .blk g1 40 [.string ⟨nm.toArray⟩, .string ⟨sec.toArray⟩] :: F) := H
  refine HL_call (i := 1) (f := 9) (args := #[.pointer (some ⟨g14, 0, none⟩)]) rfl (by kernel_rfl) (by kernel_rfl) (by kernel_rfl) (by kernel_rfl) (c_State (if crP T R [(nm, sec)] other nm (dgF T R sec stamp) = true then 2 else 3) (.slice A15 ([(nm, sec)].length) c16) (.iface 60 (.agg #[.string ⟨other.toArray⟩])) (.string ⟨(if crP T R [(nm, sec)] other nm (dgF T R sec stamp) = true then nm else []).toArray⟩) H) ?_
  rintro _ w22 ⟨rfl, H⟩
  refine ⟨(.inr ⟨((H.blk_cell (i := 4) rfl 1).trans rfl), ((H.blk_cell (i := 4) rfl 1).trans rfl), trivial⟩), ?_⟩
  refine HL_takes [2] [(67, .bool (((if crP T R [(nm, sec)] other nm (dgF T R sec stamp) = true then 2 else 3 : Nat) : Int) == ((2 : Nat) : Int))), (69, .string ⟨sec.toArray⟩), (70, .string ⟨stamp.toArray⟩), (73, .string ⟨sec.toArray⟩), (74, .string ⟨other.toArray⟩)] (mkL 14 [0, 3, 4, 5, 7, 8, 9, 1, 2]) 5 (by kernel_rfl) rfl (by kernel_rfl) (fun _ => by kernel_rfl) ⟨((H.blk_cell (i := 4) rfl 1).trans rfl), ((H.blk_cell (i := 4) rfl 1).trans rfl), trivial⟩ (fun β => ?_)
  refine HL_forgetr [(67, .bool ((if crP T R [(nm, sec)] other nm (dgF T R sec stamp) = true then 2 else 3) == 2)), (69, .string ⟨sec.toArray⟩), (70, .string ⟨stamp.toArray⟩), (73, .string ⟨sec.toArray⟩), (74, .string ⟨other.toArray⟩)] (show ([.bool (((if crP T R [(nm, sec)] other nm (dgF T R sec stamp) = true then 2 else 3 : Nat) : Int) == ((2 : Nat) : Int)), .string ⟨sec.toArray⟩, .string ⟨stamp.toArray⟩, .string ⟨sec.toArray⟩, .string ⟨other.toArray⟩] : List Value) = [.bool ((if crP T R [(nm, sec)] other nm (dgF T R sec stamp) = true then 2 else 3) == 2), .string ⟨sec.toArray⟩, .string ⟨stamp.toArray⟩, .string ⟨sec.toArray⟩, .string ⟨other.toArray⟩] by rw [neql (if crP T R [(nm, sec)] other nm (dgF T R sec stamp) = true then 2 else 3) 2]) (by kernel_rfl) rfl (fun β => ?_)
  refine HL_call (i := 6) (f := 17) (args := #[.string ⟨sec.toArray⟩, .string ⟨stamp.toArray⟩]) rfl (by kernel_rfl) (by kernel_rfl) (by kernel_rfl) (by kernel_rfl) (c_ldigest T hT gT R hR gR sec stamp (by omega) (by omega) H) ?_
  rintro _ w23 ⟨rfl, H⟩
  refine ⟨(.inr ⟨((H.blk_cell (i := 4) rfl 1).trans rfl), ((H.blk_cell (i := 4) rfl 1).trans rfl), trivial⟩), ?_⟩
  refine HL_call (i := 10) (f := 17) (args := #[.string ⟨sec.toArray⟩, .string ⟨other.toArray⟩]) rfl (by kernel_rfl) (by kernel_rfl) (by kernel_rfl) (by kernel_rfl) (c_ldigest T hT gT R hR gR sec other (by omega) (by omega) H) ?_
  rintro _ w24 ⟨rfl, H⟩
  refine ⟨(.inr ⟨((H.blk_cell (i := 4) rfl 1).trans rfl), ((H.blk_cell (i := 4) rfl 1).trans rfl), trivial⟩), ?_⟩
  refine HL_t (i := 11) (m := 2) (fun w _ => (R_streq (t := 9) (l := (dgF T R sec stamp)) (m := (dgF T R sec other)))) rfl (by kernel_rfl) (by kernel_rfl) (by kernel_rfl) (by kernel_rfl) (by kernel_rfl) (by kernel_rfl) ⟨((H.blk_cell (i := 4) rfl 1).trans rfl), ((H.blk_cell (i := 4) rfl 1).trans rfl), trivial⟩ rfl ?_
  refine HL_takes [12, 13] [(6, .bool (((if crP T R [(nm, sec)] other nm (dgF T R sec stamp) = true then 2 else 3) == 2) == ((dgF T R sec stamp) == (dgF T R sec other))))] (mkL 14 [0, 3, 4, 5, 7, 8, 9, 1, 2, 6, 10, 11, 12, 13]) 0 (by kernel_rfl) rfl (by kernel_rfl) (fun _ => by kernel_rfl) ⟨((H.blk_cell (i := 4) rfl 1).trans rfl), ((H.blk_cell (i := 4) rfl 1).trans rfl), trivial⟩ (fun β => ?_)
  refine HL_forget [(6, .bool (((if crP T R [(nm, sec)] other nm (dgF T R sec stamp) = true then 2 else 3) == 2) == ((dgF T R sec stamp) == (dgF T R sec other))))] (by kernel_rfl) (fun β => ?_)
  refine HL_fin (by kernel_rfl) ?_
  refine thn_normal ?_
  refine G_ret ?_
  refine res1 (v := .bool (((if crP T R [(nm, sec)] other nm (dgF T R sec stamp) = true then 2 else 3) == 2) == ((dgF T R sec stamp) == (dgF T R sec other)))) rfl (by kernel_rfl) ?_
  replace H := H.drop 4
  replace H := H.drop 3
  replace H := H.drop 2
  replace H := H.drop 1
  replace H := H.drop 0
  replace H : Sep w0 w24 (F) := H
  refine ⟨?_, H⟩
  rw [crP_one]
  by_cases e1 : dgF T R sec other = dgF T R sec stamp
  · simp [e1]
  · have e2 : ¬ dgF T R sec stamp = dgF T R sec other := fun e => e1 e.symm
    simp [e1, e2]
/-- posthorn/posthornlaw22.SaslStale -/
theorem c_Stale_false {w0 w : World} {F : List Chunk} (T : List UInt32) (hT : T.length = 64) (gT : Gl w0 0 (u32s T)) (R : List UInt8) (hR : R.length = 16) (gR : Gl w0 1 (bs R)) (nm sec stamp other : List UInt8) (hnm : nm.length ≤ 16777216) (hsec : sec.length ≤ 16777216) (hstamp : stamp.length ≤ 16777216) (hother : other.length ≤ 16777216) (hy : may2 nm sec = false) (H : Sep w0 w F) : Ret Tryd.prog 4 #[.agg #[S nm, S sec], S stamp, S other] w (fun v w' => v = .bool true ∧ Sep w0 w' F) := by
  refine Ret_enter (args := [.agg #[.string ⟨nm.toArray⟩, .string ⟨sec.toArray⟩], .string ⟨stamp.toArray⟩, .string ⟨other.toArray⟩]) Tryd.func4 rfl (by kernel_rfl) ?_
  refine G_forget [(0, .agg #[.string ⟨nm.toArray⟩, .string ⟨sec.toArray⟩]), (1, .string ⟨stamp.toArray⟩), (2, .string ⟨other.toArray⟩)] (by kernel_rfl) (fun β => ?_)
  refine G_seq ?_
  refine G_region ?_
  refine GL_new (V := fun g => .pointer (some ⟨g, 0, none⟩)) (l := [.string ⟨nm.toArray⟩, .string ⟨sec.toArray⟩]) (t := 40) H rfl (by kernel_rfl) (by kernel_rfl) (by kernel_rfl) (fun g1 w2 H => ?_)
  refine GL_seg0 1 2 [(1, .string ⟨stamp.toArray⟩), (2, .string ⟨other.toArray⟩), (3, .pointer (some ⟨g1, 0, none⟩))] rfl (by kernel_rfl) (fun β => ?_)
  refine GL_end (by kernel_rfl) ?_
  refine thn_normal ?_
  refine G_seq ?_
  refine G_seq ?_
  refine G_region ?_
  refine GL_call (f := 6) (args := #[]) rfl (by kernel_rfl) (by kernel_rfl) (by kernel_rfl) (c_wakes T hT gT R hR gR H) ?_
  rintro _ w3 ⟨rfl, H⟩
  refine GL_seg0 1 2 [(1, .string ⟨stamp.toArray⟩), (2, .string ⟨other.toArray⟩), (3, .pointer (some ⟨g1, 0, none⟩)), (14, .bool false)] rfl (by kernel_rfl) (fun β => ?_)
  refine GL_end (by kernel_rfl) ?_
  refine thn_normal ?_
  refine G_false (by kernel_rfl) ?_
  refine G_skip ?_
  refine thn_normal ?_
  refine G_seq ?_
  refine G_region ?_
  refine GL_v (run_loadN (t := 40) (vs := [.string ⟨nm.toArray⟩, .string ⟨sec.toArray⟩]) (by kernel_rfl) (by kernel_rfl) (H.blk_cells (i := 0) rfl 0 _ ⟨_, rfl⟩)) rfl (by kernel_rfl) (by kernel_rfl) (by kernel_rfl) ?_
  refine GL_call (f := 14) (args := #[.agg #[.string ⟨nm.toArray⟩, .string ⟨sec.toArray⟩], .string ⟨[67, 82, 65, 77, 45, 77, 68, 53].toArray⟩]) rfl (by kernel_rfl) (by kernel_rfl) (by kernel_rfl) (c_RespondNo_cram nm sec [67, 82, 65, 77, 45, 77, 68, 53] (by omega) (by omega) (by first | omega | decide) (by decide) hy H) ?_
  rintro _ w4 ⟨rfl, H⟩
  refine GL_seg0 5 7 [(1, .string ⟨stamp.toArray⟩), (2, .string ⟨other.toArray⟩), (3, .pointer (some ⟨g1, 0, none⟩)), (7, .nilIface), (8, .int .i64 ((2 : Nat) : Int))] rfl (by kernel_rfl) (fun β => ?_)
  refine GL_end (by kernel_rfl) ?_
  refine thn_normal ?_
  refine G_seq ?_
  refine G_seq ?_
  refine G_region ?_
  refine GL_seg0 2 2 [(1, .string ⟨stamp.toArray⟩), (2, .string ⟨other.toArray⟩), (3, .pointer (some ⟨g1, 0, none⟩)), (7, .nilIface), (8, .int .i64 ((2 : Nat) : Int)), (21, .bool true)] rfl (by kernel_rfl) (fun β => ?_)
  refine GL_end (by kernel_rfl) ?_
  refine thn_normal ?_
  refine G_true (by kernel_rfl) ?_
  refine G_seq ?_
  refine G_region ?_
  refine GL_seg0 3 3 [(3, .pointer (some ⟨g1, 0, none⟩)), (24, .bool true)] rfl (by kernel_rfl) (fun β => ?_)
  refine GL_v (run_loadN (t := 40) (vs := [.string ⟨nm.toArray⟩, .string ⟨sec.toArray⟩]) (by kernel_rfl) (by kernel_rfl) (H.blk_cells (i := 0) rfl 0 _ ⟨_, rfl⟩)) rfl (by kernel_rfl) (by kernel_rfl) (by kernel_rfl) ?_
  refine GL_call (f := 15) (args := #[.agg #[.string ⟨nm.toArray⟩, .string ⟨sec.toArray⟩]]) rfl (by kernel_rfl) (by kernel_rfl) (by kernel_rfl) (c_lmay nm sec (by omega) (by omega) H) ?_
  rintro _ w5 ⟨rfl, H⟩
  rw [may_eq, hy]
  refine GL_seg0 3 8 [(6, .bool true)] rfl (by kernel_rfl) (fun β => ?_)
  refine GL_end (by kernel_rfl) ?_
  refine thn_normal ?_
  refine G_ret ?_
  refine thn_ret (res1 (v := .bool true) rfl (by kernel_rfl) ?_)
  replace H := H.drop 0
  replace H : Sep w0 w5 (F) := H
  exact ⟨rfl, H⟩
end Go.Proofs.YtadiljnfkbbmcaaDoor
