-- printed by gw.py (my own program), checked by Lean
import Derived.Test.YtadiljnfkbbmcaaDoorD1
set_option linter.unusedVariables false
set_option linter.unusedSimpArgs false
set_option maxRecDepth 100000
set_option maxHeartbeats 400000
namespace Go.Proofs.YtadiljnfkbbmcaaDoor
open Go.Kw Go.RowKit
/-- (*posthorn/sasl.client).Answer -/
theorem c_cAnswer_cram {w0 w : World} {F : List Chunk} (T : List UInt32) (hT : T.length = 64) (gT : Gl w0 0 (u32s T)) (R : List UInt8) (hR : R.length = 16) (gR : Gl w0 1 (bs R)) (nm sec y : List UInt8) (hn : nm.length ≤ 4294967296) (hs : sec.length ≤ 4294967296) (hy : y.length ≤ 4294967296) (once : Bool) (x : List UInt8) {g : Nat} (H : Sep w0 w (.blk g 80 [.string ⟨nm.toArray⟩, .string ⟨sec.toArray⟩, .iface 60 (.agg #[.string ⟨x.toArray⟩]), .bool once] :: F)) : Ret Tryd.prog 111 #[.pointer (some ⟨g, 0, none⟩), S y] w (fun v w' => ∃ o e p, dec y = (o, e, p) ∧ ((¬ e = 0 ∧ v = .tuple #[S [], .int .i64 ((221 : Nat) : Int)] ∧ Sep w0 w' (.blk g 80 [.string ⟨nm.toArray⟩, .string ⟨sec.toArray⟩, .iface 60 (.agg #[.string ⟨x.toArray⟩]), .bool once] :: F)) ∨ (e = 0 ∧ v = .tuple #[S (enc ((nm ++ [32]) ++ dgF T R sec o)), .int .i64 ((0 : Nat) : Int)] ∧ Sep w0 w' (.blk g 80 [.string ⟨nm.toArray⟩, .string ⟨sec.toArray⟩, .nilIface, .bool once] :: F)))) := by
  refine Ret_enter (args := [.pointer (some ⟨g, 0, none⟩), .string ⟨y.toArray⟩]) Tryd.func111 rfl (by kernel_rfl) ?_
  refine G_forget [(0, .pointer (some ⟨g, 0, none⟩)), (1, .string ⟨y.toArray⟩)] (by kernel_rfl) (fun β => ?_)
  refine G_seq ?_
  refine G_region ?_
  refine GL_seg0 2 2 [(0, .pointer (some ⟨g, 0, none⟩)), (1, .string ⟨y.toArray⟩)] rfl (by kernel_rfl) (fun β => ?_)
  refine GL_end (by kernel_rfl) ?_
  refine thn_normal ?_
  refine G_seq ?_
  refine G_seq ?_
  refine G_region ?_
  refine GL_seg0 3 3 [(0, .pointer (some ⟨g, 0, none⟩)), (1, .string ⟨y.toArray⟩), (11, .pointer (some ⟨g, 2, none⟩))] rfl (by kernel_rfl) (fun β => ?_)
  refine GL_v (run_load1 (t := 55) (by kernel_rfl) ((H.blk_cell (i := 0) rfl 2).trans rfl)) rfl (by kernel_rfl) (by kernel_rfl) (by kernel_rfl) ?_
  refine GL_seg0 1 5 [(0, .pointer (some ⟨g, 0, none⟩)), (1, .string ⟨y.toArray⟩), (13, .bool false)] rfl (by kernel_rfl) (fun β => ?_)
  refine GL_end (by kernel_rfl) ?_
  refine thn_normal ?_
  refine G_false (by kernel_rfl) ?_
  refine G_skip ?_
  refine thn_normal ?_
  refine G_seq ?_
  refine G_region ?_
  refine GL_seg0 1 1 [(0, .pointer (some ⟨g, 0, none⟩)), (15, .string ⟨y.toArray⟩)] rfl (by kernel_rfl) (fun β => ?_)
  refine GL_call (f := 25) (args := #[.string ⟨y.toArray⟩]) rfl (by kernel_rfl) (by kernel_rfl) (by kernel_rfl) (c_Unb y (by omega) H) ?_
  rintro _ w8 ⟨o1, e2, p3, A4, c5, hd6, hl7, rfl, H⟩
  refine GL_seg0 3 5 [(0, .pointer (some ⟨g, 0, none⟩)), (17, .slice A4 o1.length c5), (18, .agg #[.int .i64 (e2 : Int), .int .i64 (p3 : Int)])] rfl (by kernel_rfl) (fun β => ?_)
  refine GL_new (V := fun g => .pointer (some ⟨g, 0, none⟩)) (l := [.int .i64 ((0 : Nat) : Int), .int .i64 ((0 : Nat) : Int)]) (t := 70) H rfl (by kernel_rfl) (by kernel_rfl) (by kernel_rfl) (fun g9 w10 H => ?_)
  refine GL_seg0 1 7 [(0, .pointer (some ⟨g, 0, none⟩)), (6, .slice A4 o1.length c5), (7, .pointer (some ⟨g9, 0, none⟩)), (18, .agg #[.int .i64 (e2 : Int), .int .i64 (p3 : Int)])] rfl (by kernel_rfl) (fun β => ?_)
  obtain ⟨w11, hr12, H⟩ := R_store (P := Tryd.prog) (t := 70) (v := .agg #[.int .i64 (e2 : Int), .int .i64 (p3 : Int)]) (off := 0) H (i := 0) rfl (by kernel_rfl) (by kernel_rfl) (by kernel_rfl)
  replace H : Sep w0 w11 (.blk g9 70 [.int .i64 (e2 : Int), .int .i64 (p3 : Int)] :: .row (.slice A4 o1.length c5) 5 1 o1.length (bs o1) :: .blk g 80 [.string ⟨nm.toArray⟩, .string ⟨sec.toArray⟩, .iface 60 (.agg #[.string ⟨x.toArray⟩]), .bool once] :: F) := H
  refine GL_u hr12 rfl (by kernel_rfl) (by kernel_rfl) (by kernel_rfl) ?_
  refine GL_end (by kernel_rfl) ?_
  refine thn_normal ?_
  refine G_seq ?_
  refine G_seq ?_
  refine G_region ?_
  refine GL_seg0 1 1 [(0, .pointer (some ⟨g, 0, none⟩)), (6, .slice A4 o1.length c5), (19, .pointer (some ⟨g9, 0, none⟩))] rfl (by kernel_rfl) (fun β => ?_)
  refine GL_v (run_load1 (t := 28) (by kernel_rfl) ((H.blk_cell (i := 0) rfl 0).trans rfl)) rfl (by kernel_rfl) (by kernel_rfl) (by kernel_rfl) ?_
  refine GL_segr 1 3 [(0, .pointer (some ⟨g, 0, none⟩)), (6, .slice A4 o1.length c5), (21, .bool (e2 != 0))] rfl (by kernel_rfl) (show ([.pointer (some ⟨g, 0, none⟩), .slice A4 o1.length c5, .bool ((e2 : Int) != ((0 : Nat) : Int))] : List Value) = [.pointer (some ⟨g, 0, none⟩), .slice A4 o1.length c5, .bool (e2 != 0)] by rw [nneq e2 0]) rfl (fun β => ?_)
  refine GL_end (by kernel_rfl) ?_
  refine thn_normal ?_
  refine G_cond (e2 != 0) (by kernel_rfl) (fun h0 => ?_) (fun h0 => ?_)
  · --yes
    replace h0 : ¬ (e2 = 0) := neq_T h0
    refine G_seq ?_
    refine G_region ?_
    refine GL_seg0 2 2 [(4, .string ⟨([] : List UInt8).toArray⟩), (5, .int .i64 ((221 : Nat) : Int))] rfl (by kernel_rfl) (fun β => ?_)
    refine GL_end (by kernel_rfl) ?_
    refine thn_normal ?_
    refine G_ret ?_
    refine thn_ret (res2 (v := .string ⟨([] : List UInt8).toArray⟩) (x := .int .i64 ((221 : Nat) : Int)) rfl (by kernel_rfl) (by kernel_rfl) ?_)
    replace H := H.drop 1
    replace H := H.drop 0
    replace H : Sep w0 w11 (.blk g 80 [.string ⟨nm.toArray⟩, .string ⟨sec.toArray⟩, .iface 60 (.agg #[.string ⟨x.toArray⟩]), .bool once] :: F) := H
    exact ⟨_, _, _, hd6, .inl ⟨by assumption, rfl, H⟩⟩
  · --no
    replace h0 : e2 = 0 := neq_F h0
    refine G_skip ?_
    refine thn_normal ?_
    refine G_seq ?_
    refine G_region ?_
    refine GL_seg0 1 1 [(0, .pointer (some ⟨g, 0, none⟩)), (6, .slice A4 o1.length c5), (8, .string ⟨([] : List UInt8).toArray⟩)] rfl (by kernel_rfl) (fun β => ?_)
    refine GL_end (by kernel_rfl) ?_
    refine thn_normal ?_
    refine G_seq ?_
    refine G_seq ?_
    refine G_region ?_
    refine GL_seg0 3 3 [(0, .pointer (some ⟨g, 0, none⟩)), (6, .slice A4 o1.length c5), (8, .string ⟨([] : List UInt8).toArray⟩), (24, .pointer (some ⟨g, 2, none⟩))] rfl (by kernel_rfl) (fun β => ?_)
    refine GL_v (run_load1 (t := 55) (by kernel_rfl) ((H.blk_cell (i := 2) rfl 2).trans rfl)) rfl (by kernel_rfl) (by kernel_rfl) (by kernel_rfl) ?_
    refine GL_end (by kernel_rfl) ?_
    refine thn_normal ?_
    refine G_block ?_
    refine G_seq ?_
    refine G_region ?_
    refine GL_seg0 3 3 [(0, .pointer (some ⟨g, 0, none⟩)), (6, .slice A4 o1.length c5), (8, .string ⟨([] : List UInt8).toArray⟩), (25, .iface 60 (.agg #[.string ⟨x.toArray⟩])), (27, .bool false)] rfl (by kernel_rfl) (fun β => ?_)
    refine GL_end (by kernel_rfl) ?_
    refine thn_normal ?_
    refine G_false (by kernel_rfl) ?_
    refine G_seq ?_
    refine G_region ?_
    refine GL_seg0 3 3 [(0, .pointer (some ⟨g, 0, none⟩)), (6, .slice A4 o1.length c5), (8, .string ⟨([] : List UInt8).toArray⟩), (25, .iface 60 (.agg #[.string ⟨x.toArray⟩])), (46, .bool false)] rfl (by kernel_rfl) (fun β => ?_)
    refine GL_end (by kernel_rfl) ?_
    refine thn_normal ?_
    refine G_false (by kernel_rfl) ?_
    refine G_seq ?_
    refine G_region ?_
    refine GL_seg0 3 3 [(0, .pointer (some ⟨g, 0, none⟩)), (6, .slice A4 o1.length c5), (8, .string ⟨([] : List UInt8).toArray⟩), (25, .iface 60 (.agg #[.string ⟨x.toArray⟩])), (64, .bool false)] rfl (by kernel_rfl) (fun β => ?_)
    refine GL_end (by kernel_rfl) ?_
    refine thn_normal ?_
    refine G_false (by kernel_rfl) ?_
    refine G_seq ?_
    refine G_region ?_
    refine GL_seg0 3 3 [(0, .pointer (some ⟨g, 0, none⟩)), (6, .slice A4 o1.length c5), (8, .string ⟨([] : List UInt8).toArray⟩), (75, .bool true)] rfl (by kernel_rfl) (fun β => ?_)
    refine GL_end (by kernel_rfl) ?_
    refine thn_normal ?_
    refine G_true (by kernel_rfl) ?_
    refine G_drawS (fun w => w.cell? ⟨g, 0, none⟩ = some (.string ⟨nm.toArray⟩) ∧ w.cell? ⟨g, 1, none⟩ = some (.string ⟨sec.toArray⟩) ∧ True) 20 20 (by kernel_rfl) (by kernel_rfl) H (fun w13 H => ?_)
    refine HL_takes [0, 1, 2, 3, 4] [(0, .pointer (some ⟨g, 0, none⟩)), (6, .slice A4 o1.length c5), (8, .string ⟨([] : List UInt8).toArray⟩), (77, .pointer (some ⟨g, 0, none⟩)), (81, .pointer (some ⟨g, 0, none⟩))] (mkL 20 [0, 1, 2, 3, 4]) 15 (by kernel_rfl) rfl (by kernel_rfl) (fun _ => by kernel_rfl) ⟨((H.blk_cell (i := 2) rfl 0).trans rfl), ((H.blk_cell (i := 2) rfl 1).trans rfl), trivial⟩ (fun β => ?_)
    refine HL_t (i := 5) (m := 14) (fun w hS => run_load1 (t := 9) (by kernel_rfl) hS.1) rfl (by kernel_rfl) (by kernel_rfl) (by kernel_rfl) (by kernel_rfl) (by kernel_rfl) (by kernel_rfl) ⟨((H.blk_cell (i := 2) rfl 0).trans rfl), ((H.blk_cell (i := 2) rfl 1).trans rfl), trivial⟩ rfl ?_
    refine HL_t (i := 6) (m := 13) (fun w _ => (R_cat (t := 9) (l := nm) (m := [32]) (by simp only [List.length_cons, List.length_nil]; omega))) rfl (by kernel_rfl) (by kernel_rfl) (by kernel_rfl) (by kernel_rfl) (by kernel_rfl) (by kernel_rfl) ⟨((H.blk_cell (i := 2) rfl 0).trans rfl), ((H.blk_cell (i := 2) rfl 1).trans rfl), trivial⟩ rfl ?_
    refine HL_takes [7, 8, 9, 10] [(6, .slice A4 o1.length c5), (8, .string ⟨([] : List UInt8).toArray⟩), (77, .pointer (some ⟨g, 0, none⟩)), (83, .string ⟨(nm ++ [32]).toArray⟩), (87, .pointer (some ⟨g, 1, none⟩))] (mkL 20 [0, 1, 2, 3, 4, 5, 6, 7, 8, 9, 10]) 9 (by kernel_rfl) rfl (by kernel_rfl) (fun _ => by kernel_rfl) ⟨((H.blk_cell (i := 2) rfl 0).trans rfl), ((H.blk_cell (i := 2) rfl 1).trans rfl), trivial⟩ (fun β => ?_)
    refine HL_t (i := 11) (m := 8) (fun w hS => run_load1 (t := 9) (by kernel_rfl) hS.2.1) rfl (by kernel_rfl) (by kernel_rfl) (by kernel_rfl) (by kernel_rfl) (by kernel_rfl) (by kernel_rfl) ⟨((H.blk_cell (i := 2) rfl 0).trans rfl), ((H.blk_cell (i := 2) rfl 1).trans rfl), trivial⟩ rfl ?_
    refine HL_takes [12] [(8, .string ⟨([] : List UInt8).toArray⟩), (77, .pointer (some ⟨g, 0, none⟩)), (83, .string ⟨(nm ++ [32]).toArray⟩), (88, .string ⟨sec.toArray⟩), (89, .slice A4 o1.length c5)] (mkL 20 [0, 1, 2, 3, 4, 5, 6, 7, 8, 9, 10, 11, 12]) 7 (by kernel_rfl) rfl (by kernel_rfl) (fun _ => by kernel_rfl) ⟨((H.blk_cell (i := 2) rfl 0).trans rfl), ((H.blk_cell (i := 2) rfl 1).trans rfl), trivial⟩ (fun β => ?_)
    refine HL_v (i := 13) (R_conv_bs (s := 68) (t := 9) (e := 5) (l := o1) (by kernel_rfl) (by kernel_rfl) (by kernel_rfl) (Src.row H (i := 1) rfl)) rfl (by kernel_rfl) (by kernel_rfl) (by kernel_rfl) (by kernel_rfl) (.inr ⟨((H.blk_cell (i := 2) rfl 0).trans rfl), ((H.blk_cell (i := 2) rfl 1).trans rfl), trivial⟩) ?_
    refine HL_call (i := 14) (f := 107) (args := #[.string ⟨sec.toArray⟩, .string ⟨o1.toArray⟩]) rfl (by kernel_rfl) (by kernel_rfl) (by kernel_rfl) (by kernel_rfl) (c_digest T hT gT R hR gR sec o1 (by omega) (by omega) H) ?_
    rintro _ w14 ⟨rfl, H⟩
    refine ⟨(.inr ⟨((H.blk_cell (i := 2) rfl 0).trans rfl), ((H.blk_cell (i := 2) rfl 1).trans rfl), trivial⟩), ?_⟩
    refine HL_t (i := 15) (m := 4) (fun w _ => (R_cat (t := 9) (l := (nm ++ [32])) (m := (dgF T R sec o1)) (by simp only [List.length_append, List.length_cons, List.length_nil, dgF_len]; omega))) rfl (by kernel_rfl) (by kernel_rfl) (by kernel_rfl) (by kernel_rfl) (by kernel_rfl) (by kernel_rfl) ⟨((H.blk_cell (i := 2) rfl 0).trans rfl), ((H.blk_cell (i := 2) rfl 1).trans rfl), trivial⟩ rfl ?_
    refine HL_takes [16, 17, 18] [(8, .string ⟨((nm ++ [32]) ++ (dgF T R sec o1)).toArray⟩), (94, .pointer (some ⟨g, 2, none⟩))] (mkL 20 [0, 1, 2, 3, 4, 5, 6, 7, 8, 9, 10, 11, 12, 13, 14, 15, 16, 17, 18]) 1 (by kernel_rfl) rfl (by kernel_rfl) (fun _ => by kernel_rfl) ⟨((H.blk_cell (i := 2) rfl 0).trans rfl), ((H.blk_cell (i := 2) rfl 1).trans rfl), trivial⟩ (fun β => ?_)
    obtain ⟨w15, hr16, H⟩ := R_store (P := Tryd.prog) (t := 55) (v := .nilIface) (off := 2) H (i := 2) rfl (by kernel_rfl) (by kernel_rfl) (by kernel_rfl)
    replace H : Sep w0 w15 (.blk g9 70 [.int .i64 (e2 : Int), .int .i64 (p3 : Int)] :: .row (.slice A4 o1.length c5) 5 1 o1.length (bs o1) :: .blk g 80 [.string ⟨nm.toArray⟩, .string ⟨sec.toArray⟩, .nilIface, .bool once] :: F) := H
    refine HL_u (i := 19) hr16 rfl (by kernel_rfl) (by kernel_rfl) (by kernel_rfl) (by kernel_rfl) (.inr ⟨((H.blk_cell (i := 2) rfl 0).trans rfl), ((H.blk_cell (i := 2) rfl 1).trans rfl), trivial⟩) ?_
    refine HL_forget [(8, .string ⟨((nm ++ [32]) ++ (dgF T R sec o1)).toArray⟩)] (by kernel_rfl) (fun β => ?_)
    refine HL_fin (by kernel_rfl) ?_
    refine inb_normal ?_
    refine thn_normal ?_
    refine G_seq ?_
    obtain ⟨q, hq⟩ : ∃ q, q = ((nm ++ [32]) ++ (dgF T R sec o1)) := ⟨_, rfl⟩
    have hql : q.length = nm.length + 33 := by rw [hq]; simp only [List.length_append, List.length_cons, List.length_nil, dgF_len]
    refine G_re [(8, .string ⟨q.toArray⟩)] (show ([.string ⟨((nm ++ [32]) ++ (dgF T R sec o1)).toArray⟩] : List Value) = [.string ⟨q.toArray⟩] by rw [← hq]) (fun β => ?_)
    refine G_region ?_
    refine GL_seg0 1 1 [(95, .string ⟨q.toArray⟩)] rfl (by kernel_rfl) (fun β => ?_)
    obtain ⟨A17, c18, w19, hr20, H⟩ := R_conv_sb (P := Tryd.prog) (s := 9) (t := 68) (e := 5) (u := .string) (l := q) H (by kernel_rfl) (by kernel_rfl) (by kernel_rfl) (by unfold maxLen; omega)
    replace H : Sep w0 w19 (.row (.slice A17 q.length c18) 5 1 q.length (bs q) :: .blk g9 70 [.int .i64 (e2 : Int), .int .i64 (p3 : Int)] :: .row (.slice A4 o1.length c5) 5 1 o1.length (bs o1) :: .blk g 80 [.string ⟨nm.toArray⟩, .string ⟨sec.toArray⟩, .nilIface, .bool once] :: F) := H
    refine GL_v hr20 rfl (by kernel_rfl) (by kernel_rfl) (by kernel_rfl) ?_
    refine GL_call (f := 26) (args := #[.slice A17 q.length c18]) rfl (by kernel_rfl) (by kernel_rfl) (by kernel_rfl) (c_Base64 (l := q) (hl := by omega) (R := (Rd.of_row H (i := 0) rfl)) (H := H)) ?_
    rintro _ w21 ⟨rfl, H⟩
    refine GL_seg0 2 5 [(4, .string ⟨(enc q).toArray⟩), (5, .int .i64 ((0 : Nat) : Int))] rfl (by kernel_rfl) (fun β => ?_)
    refine GL_end (by kernel_rfl) ?_
    refine thn_normal ?_
    refine G_ret ?_
    refine res2 (v := .string ⟨(enc q).toArray⟩) (x := .int .i64 ((0 : Nat) : Int)) rfl (by kernel_rfl) (by kernel_rfl) ?_
    replace H := H.drop 2
    replace H := H.drop 1
    replace H := H.drop 0
    replace H : Sep w0 w21 (.blk g 80 [.string ⟨nm.toArray⟩, .string ⟨sec.toArray⟩, .nilIface, .bool once] :: F) := H
    have HF := H
    subst hq
    exact ⟨_, _, _, hd6, .inr ⟨by assumption, rfl, HF⟩⟩
end Go.Proofs.YtadiljnfkbbmcaaDoor
