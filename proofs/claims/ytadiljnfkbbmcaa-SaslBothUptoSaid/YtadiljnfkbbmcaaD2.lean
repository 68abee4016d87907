-- printed by gw.py (my own program), checked by Lean
import Derived.Test.YtadiljnfkbbmcaaD1
set_option linter.unusedVariables false
set_option linter.unusedSimpArgs false
set_option maxRecDepth 100000
set_option maxHeartbeats 400000
namespace Go.Proofs.Ytadiljnfkbbmcaa
open Go.Kw Go.RowKit
/-- (*posthorn/sasl.client).Answer -/
theorem c_cAnswer_cram {w0 w : World} {F : List Chunk} (T : List UInt32) (hT : T.length = 64) (gT : Gl w0 1 (u32s T)) (R : List UInt8) (hR : R.length = 16) (gR : Gl w0 2 (bs R)) (nm sec y : List UInt8) (hn : nm.length ≤ 4294967296) (hs : sec.length ≤ 4294967296) (hy : y.length ≤ 4294967296) (once : Bool) (x : List UInt8) {g : Nat} (H : Sep w0 w (.blk g 78 [S nm, S sec, .iface 62 (.agg #[S x]), .bool once] :: F)) : Ret Try.prog 112 #[.pointer (some ⟨g, 0, none⟩), S y] w (fun v w' => ∃ o e p, dec y = (o, e, p) ∧ ((¬ e = 0 ∧ v = .tuple #[S [], .int .i64 ((221 : Nat) : Int)] ∧ Sep w0 w' (.blk g 78 [S nm, S sec, .iface 62 (.agg #[S x]), .bool once] :: F)) ∨ (e = 0 ∧ v = .tuple #[S (enc ((nm ++ [32]) ++ dgF T R sec o)), .int .i64 ((0 : Nat) : Int)] ∧ Sep w0 w' (.blk g 78 [S nm, S sec, .nilIface, .bool once] :: F)))) := by
 refine Ret_enter (args := [Pt g 0, S y]) Try.func112 rfl (by kernel_rfl) ?_
 refine G_forget [(0, Pt g 0), (1, S y)] (by kernel_rfl) (fun β => ?_)
 refine G_sr ?_
 refine GL_st 2 2 [(0, Pt g 0), (1, S y)] fun β => ?_
 refine G_seq ?_
 refine G_sr ?_
 refine GL_s 3 3 [(0, Pt g 0), (1, S y), (11, Pt g 2)] fun β => ?_
 refine GL_V (run_load1 (t := 57) (by kernel_rfl) ((H.blk_cell (i := 0) rfl 2).trans rfl)) ?_
 refine GL_st 1 5 [(0, Pt g 0), (1, S y), (13, .bool false)] fun β => ?_
 refine G_false (by kernel_rfl) ?_
 refine G_skip ?_
 refine thn_normal ?_
 refine G_sr ?_
 refine GL_s 1 1 [(0, Pt g 0), (15, S y)] fun β => ?_
 refine GL_C (c_Unb y (by omega) H) ?_
 rintro _ w8 ⟨o1, e2, p3, A4, c5, hd6, hl7, rfl, H⟩
 refine GL_s 3 5 [(0, Pt g 0), (17, .slice A4 o1.length c5), (18, .agg #[In e2, In p3])] fun β => ?_
 refine GL_new (V := fun g => Pt g 0) (l := [In 0, In 0]) (t := 86) H rfl (by kernel_rfl) (by kernel_rfl) (by kernel_rfl) (fun g9 w10 H => ?_)
 refine GL_s 1 7 [(0, Pt g 0), (6, .slice A4 o1.length c5), (7, Pt g9 0), (18, .agg #[In e2, In p3])] fun β => ?_
 obtain ⟨w11, hr12, H⟩ := R_store (P := Try.prog) (t := 86) (v := .agg #[In e2, In p3]) (off := 0) H (i := 0) rfl (by kernel_rfl) (by kernel_rfl) (by kernel_rfl)
 replace H : Sep w0 w11 (.blk g9 86 [In e2, In p3] :: .row (.slice A4 o1.length c5) 5 1 o1.length (bs o1) :: .blk g 78 [S nm, S sec, .iface 62 (.agg #[S x]), .bool once] :: F) := H
 refine GL_U hr12 ?_
 refine GL_et ?_
 refine G_seq ?_
 refine G_sr ?_
 refine GL_s 1 1 [(0, Pt g 0), (6, .slice A4 o1.length c5), (19, Pt g9 0)] fun β => ?_
 refine GL_V (run_load1 (t := 32) (by kernel_rfl) ((H.blk_cell (i := 0) rfl 0).trans rfl)) ?_
 refine GL_srt 1 3 [(0, Pt g 0), (6, .slice A4 o1.length c5), (21, .bool (e2 != 0))] (show ([Pt g 0, .slice A4 o1.length c5, .bool ((e2 : Int) != ((0 : Nat) : Int))] : List Value) = [Pt g 0, .slice A4 o1.length c5, .bool (e2 != 0)] by rw [nneq e2 0]) fun β => ?_
 refine G_cond (e2 != 0) (by kernel_rfl) (fun h0 => ?_) (fun h0 => ?_)
 · --yes
  replace h0 : ¬ (e2 = 0) := neq_T h0
  refine G_sr ?_
  refine GL_st 2 2 [(4, S ([] : List UInt8)), (5, In 221)] fun β => ?_
  refine G_ret ?_
  refine thn_ret (res2 (v := S ([] : List UInt8)) (x := In 221) rfl (by kernel_rfl) (by kernel_rfl) ?_)
  replace H := H.drop 1
  replace H := H.drop 0
  replace H : Sep w0 w11 (.blk g 78 [S nm, S sec, .iface 62 (.agg #[S x]), .bool once] :: F) := H
  exact ⟨_, _, _, hd6, .inl ⟨by assumption, rfl, H⟩⟩
 · --no
  replace h0 : e2 = 0 := neq_F h0
  refine G_skip ?_
  refine thn_normal ?_
  refine G_sr ?_
  refine GL_st 1 1 [(0, Pt g 0), (6, .slice A4 o1.length c5), (8, S ([] : List UInt8))] fun β => ?_
  refine G_seq ?_
  refine G_sr ?_
  refine GL_s 3 3 [(0, Pt g 0), (6, .slice A4 o1.length c5), (8, S ([] : List UInt8)), (24, Pt g 2)] fun β => ?_
  refine GL_V (run_load1 (t := 57) (by kernel_rfl) ((H.blk_cell (i := 2) rfl 2).trans rfl)) ?_
  refine GL_et ?_
  refine G_block ?_
  refine G_sr ?_
  refine GL_st 3 3 [(0, Pt g 0), (6, .slice A4 o1.length c5), (8, S ([] : List UInt8)), (25, .iface 62 (.agg #[S x])), (27, .bool false)] fun β => ?_
  refine G_false (by kernel_rfl) ?_
  refine G_sr ?_
  refine GL_st 3 3 [(0, Pt g 0), (6, .slice A4 o1.length c5), (8, S ([] : List UInt8)), (25, .iface 62 (.agg #[S x])), (46, .bool false)] fun β => ?_
  refine G_false (by kernel_rfl) ?_
  refine G_sr ?_
  refine GL_st 3 3 [(0, Pt g 0), (6, .slice A4 o1.length c5), (8, S ([] : List UInt8)), (25, .iface 62 (.agg #[S x])), (64, .bool false)] fun β => ?_
  refine G_false (by kernel_rfl) ?_
  refine G_sr ?_
  refine GL_st 3 3 [(0, Pt g 0), (6, .slice A4 o1.length c5), (8, S ([] : List UInt8)), (75, .bool true)] fun β => ?_
  refine G_true (by kernel_rfl) ?_
  refine G_drawS (fun w => w.cell? ⟨g, 0, none⟩ = some (S nm) ∧ w.cell? ⟨g, 1, none⟩ = some (S sec) ∧ True) 20 20 (by kernel_rfl) (by kernel_rfl) H (fun w13 H => ?_)
  refine HL_takes [0, 1, 2, 3, 4] [(0, Pt g 0), (6, .slice A4 o1.length c5), (8, S ([] : List UInt8)), (77, Pt g 0), (81, Pt g 0)] (mkL 20 [0, 1, 2, 3, 4]) 15 (by kernel_rfl) rfl (by kernel_rfl) (fun _ => by kernel_rfl) ⟨((H.blk_cell (i := 2) rfl 0).trans rfl), ((H.blk_cell (i := 2) rfl 1).trans rfl), trivial⟩ (fun β => ?_)
  refine HL_t (i := 5) (m := 14) (fun w hS => run_load1 (t := 9) (by kernel_rfl) hS.1) rfl (by kernel_rfl) (by kernel_rfl) (by kernel_rfl) (by kernel_rfl) (by kernel_rfl) (by kernel_rfl) ⟨((H.blk_cell (i := 2) rfl 0).trans rfl), ((H.blk_cell (i := 2) rfl 1).trans rfl), trivial⟩ rfl ?_
  refine HL_t (i := 6) (m := 13) (fun w _ => (R_cat (t := 9) (l := nm) (m := [32]) (by simp only [List.length_cons, List.length_nil]; omega))) rfl (by kernel_rfl) (by kernel_rfl) (by kernel_rfl) (by kernel_rfl) (by kernel_rfl) (by kernel_rfl) ⟨((H.blk_cell (i := 2) rfl 0).trans rfl), ((H.blk_cell (i := 2) rfl 1).trans rfl), trivial⟩ rfl ?_
  refine HL_takes [7, 8, 9, 10] [(6, .slice A4 o1.length c5), (8, S ([] : List UInt8)), (77, Pt g 0), (83, S (nm ++ [32])), (87, Pt g 1)] (mkL 20 [0, 1, 2, 3, 4, 5, 6, 7, 8, 9, 10]) 9 (by kernel_rfl) rfl (by kernel_rfl) (fun _ => by kernel_rfl) ⟨((H.blk_cell (i := 2) rfl 0).trans rfl), ((H.blk_cell (i := 2) rfl 1).trans rfl), trivial⟩ (fun β => ?_)
  refine HL_t (i := 11) (m := 8) (fun w hS => run_load1 (t := 9) (by kernel_rfl) hS.2.1) rfl (by kernel_rfl) (by kernel_rfl) (by kernel_rfl) (by kernel_rfl) (by kernel_rfl) (by kernel_rfl) ⟨((H.blk_cell (i := 2) rfl 0).trans rfl), ((H.blk_cell (i := 2) rfl 1).trans rfl), trivial⟩ rfl ?_
  refine HL_takes [12] [(8, S ([] : List UInt8)), (77, Pt g 0), (83, S (nm ++ [32])), (88, S sec), (89, .slice A4 o1.length c5)] (mkL 20 [0, 1, 2, 3, 4, 5, 6, 7, 8, 9, 10, 11, 12]) 7 (by kernel_rfl) rfl (by kernel_rfl) (fun _ => by kernel_rfl) ⟨((H.blk_cell (i := 2) rfl 0).trans rfl), ((H.blk_cell (i := 2) rfl 1).trans rfl), trivial⟩ (fun β => ?_)
  refine HL_v (i := 13) (R_conv_bs (s := 71) (t := 9) (e := 5) (l := o1) (by kernel_rfl) (by kernel_rfl) (by kernel_rfl) (Src.row H (i := 1) rfl)) rfl (by kernel_rfl) (by kernel_rfl) (by kernel_rfl) (by kernel_rfl) (.inr ⟨((H.blk_cell (i := 2) rfl 0).trans rfl), ((H.blk_cell (i := 2) rfl 1).trans rfl), trivial⟩) ?_
  refine HL_call (i := 14) (f := 97) (args := #[S sec, S o1]) rfl (by kernel_rfl) (by kernel_rfl) (by kernel_rfl) (by kernel_rfl) (c_digest T hT gT R hR gR sec o1 (by omega) (by omega) H) ?_
  rintro _ w14 ⟨rfl, H⟩
  refine ⟨(.inr ⟨((H.blk_cell (i := 2) rfl 0).trans rfl), ((H.blk_cell (i := 2) rfl 1).trans rfl), trivial⟩), ?_⟩
  refine HL_t (i := 15) (m := 4) (fun w _ => (R_cat (t := 9) (l := (nm ++ [32])) (m := (dgF T R sec o1)) (by simp only [List.length_append, List.length_cons, List.length_nil, dgF_len]; omega))) rfl (by kernel_rfl) (by kernel_rfl) (by kernel_rfl) (by kernel_rfl) (by kernel_rfl) (by kernel_rfl) ⟨((H.blk_cell (i := 2) rfl 0).trans rfl), ((H.blk_cell (i := 2) rfl 1).trans rfl), trivial⟩ rfl ?_
  refine HL_takes [16, 17, 18] [(8, S ((nm ++ [32]) ++ (dgF T R sec o1))), (94, Pt g 2)] (mkL 20 [0, 1, 2, 3, 4, 5, 6, 7, 8, 9, 10, 11, 12, 13, 14, 15, 16, 17, 18]) 1 (by kernel_rfl) rfl (by kernel_rfl) (fun _ => by kernel_rfl) ⟨((H.blk_cell (i := 2) rfl 0).trans rfl), ((H.blk_cell (i := 2) rfl 1).trans rfl), trivial⟩ (fun β => ?_)
  obtain ⟨w15, hr16, H⟩ := R_store (P := Try.prog) (t := 57) (v := .nilIface) (off := 2) H (i := 2) rfl (by kernel_rfl) (by kernel_rfl) (by kernel_rfl)
  replace H : Sep w0 w15 (.blk g9 86 [In e2, In p3] :: .row (.slice A4 o1.length c5) 5 1 o1.length (bs o1) :: .blk g 78 [S nm, S sec, .nilIface, .bool once] :: F) := H
  refine HL_u (i := 19) hr16 rfl (by kernel_rfl) (by kernel_rfl) (by kernel_rfl) (by kernel_rfl) (.inr ⟨((H.blk_cell (i := 2) rfl 0).trans rfl), ((H.blk_cell (i := 2) rfl 1).trans rfl), trivial⟩) ?_
  refine HL_forget [(8, S ((nm ++ [32]) ++ (dgF T R sec o1)))] (by kernel_rfl) (fun β => ?_)
  refine HL_fin (by kernel_rfl) ?_
  refine inb_normal ?_
  refine thn_normal ?_
  obtain ⟨q, hq⟩ : ∃ q, q = ((nm ++ [32]) ++ (dgF T R sec o1)) := ⟨_, rfl⟩
  have hql : q.length = nm.length + 33 := by rw [hq]; simp only [List.length_append, List.length_cons, List.length_nil, dgF_len]
  refine G_re [(8, S q)] (show ([S ((nm ++ [32]) ++ (dgF T R sec o1))] : List Value) = [S q] by rw [← hq]) (fun β => ?_)
  refine G_sr ?_
  refine GL_s 1 1 [(95, S q)] fun β => ?_
  obtain ⟨A17, c18, w19, hr20, H⟩ := R_conv_sb (P := Try.prog) (s := 9) (t := 71) (e := 5) (u := .string) (l := q) H (by kernel_rfl) (by kernel_rfl) (by kernel_rfl) (by unfold maxLen; omega)
  replace H : Sep w0 w19 (.row (.slice A17 q.length c18) 5 1 q.length (bs q) :: .blk g9 86 [In e2, In p3] :: .row (.slice A4 o1.length c5) 5 1 o1.length (bs o1) :: .blk g 78 [S nm, S sec, .nilIface, .bool once] :: F) := H
  refine GL_V hr20 ?_
  refine GL_C (c_Base64 (l := q) (hl := by omega) (R := (Rd.of_row H (i := 0) rfl)) (H := H)) ?_
  rintro _ w21 ⟨rfl, H⟩
  refine GL_st 2 5 [(4, S (enc q)), (5, In 0)] fun β => ?_
  refine G_ret ?_
  refine res2 (v := S (enc q)) (x := In 0) rfl (by kernel_rfl) (by kernel_rfl) ?_
  replace H := H.drop 2
  replace H := H.drop 1
  replace H := H.drop 0
  replace H : Sep w0 w21 (.blk g 78 [S nm, S sec, .nilIface, .bool once] :: F) := H
  have HF := H
  subst hq
  exact ⟨_, _, _, hd6, .inr ⟨by assumption, rfl, HF⟩⟩
end Go.Proofs.Ytadiljnfkbbmcaa
