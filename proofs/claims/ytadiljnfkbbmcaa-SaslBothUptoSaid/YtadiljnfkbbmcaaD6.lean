-- printed by gw.py (my own program), checked by Lean
import Derived.Test.YtadiljnfkbbmcaaD5
set_option linter.unusedVariables false
set_option linter.unusedSimpArgs false
set_option maxRecDepth 100000
set_option maxHeartbeats 400000
namespace Go.Proofs.Ytadiljnfkbbmcaa
open Go.Kw Go.RowKit

theorem splitL_none {z : UInt8} : ∀ {l : List UInt8}, z ∉ l → splitL z l = [l]
  | [], _ => rfl
  | c :: l, h => by
    simp only [List.mem_cons, not_or] at h
    rw [splitL, if_neg (fun e => h.1 e.symm), splitL_none h.2]
theorem splitL_app {z : UInt8} : ∀ {a b : List UInt8}, z ∉ a → splitL z (a ++ z :: b) = a :: splitL z b
  | [], b, _ => by rw [List.nil_append, splitL, if_pos rfl]
  | c :: a, b, h => by
    simp only [List.mem_cons, not_or] at h
    rw [List.cons_append, splitL, if_neg (fun e => h.1 e.symm), splitL_app h.2]
theorem split3 {a b : List UInt8} (ha : (0 : UInt8) ∉ a) (hb : (0 : UInt8) ∉ b) : splitL 0 ((([0] ++ a) ++ [0]) ++ b) = [[], a, b] := by
  have e : ((([0] ++ a) ++ [0]) ++ b) = 0 :: (a ++ 0 :: b) := by simp
  rw [e, splitL, if_pos rfl, splitL_app ha, splitL_none hb]
theorem plF_app {l : List Str2} {a b : List UInt8} (ha : (0 : UInt8) ∉ a) (hb : (0 : UInt8) ∉ b) : plF l ((([0] ++ a) ++ [0]) ++ b) = (a, pairF l a b, 0) := by
  unfold plF
  rw [split3 ha hb]
  simp
theorem may_zero {l : List UInt8} {m : Nat} (h : sMay l m = true) : (0 : UInt8) ∉ l := by
  intro hm
  unfold sMay at h
  have : l.any badB = true := List.any_eq_true.2 ⟨0, hm, rfl⟩
  rw [this] at h
  simp at h
theorem may_len {l : List UInt8} {m : Nat} (h : sMay l m = true) : 1 ≤ l.length ∧ l.length ≤ m := by
  unfold sMay at h
  simp only [Bool.and_eq_true, decide_eq_true_eq] at h
  exact h.1
theorem ans_plain (T : List UInt32) (R : List UInt8) (l : List Str2) (a b : List UInt8) (ha : (0 : UInt8) ∉ a) (hb : (0 : UInt8) ∉ b) :
    ansF T R l 1 .plain [] (enc ((([0] ++ a) ++ [0]) ++ b)) = (0, if pairF l a b = true then 2 else 3, .plain, if pairF l a b = true then a else []) := by
  have hr : readF T R l 1 .plain [] (enc ((([0] ++ a) ++ [0]) ++ b)) = (0, if pairF l a b = true then 2 else 3, .plain, if pairF l a b = true then a else []) := by
    unfold readF
    rw [dec_enc]
    simp only [takeF, plF_app ha hb, ne_eq, not_true_eq_false, if_false]
    split <;> rfl
  rw [ansF, if_neg (by decide), if_neg (by decide), if_neg (enc_star _), hr]
  rfl
theorem ans_login (T : List UInt32) (R : List UInt8) (l : List Str2) (a : List UInt8) : ansF T R l 1 .login [] (enc a) = (0, 1, .word a, []) := by
  have hr : readF T R l 1 .login [] (enc a) = (0, 1, .word a, []) := by
    unfold readF
    rw [dec_enc]
    rfl
  rw [ansF, if_neg (by decide), if_neg (by decide), if_neg (enc_star _), hr]
  rfl
theorem ans_word (T : List UInt32) (R : List UInt8) (l : List Str2) (a b : List UInt8) :
    ansF T R l 1 (.word a) [] (enc b) = (0, if pairF l a b = true then 2 else 3, .word a, if pairF l a b = true then a else []) := by
  have hr : readF T R l 1 (.word a) [] (enc b) = (0, if pairF l a b = true then 2 else 3, .word a, if pairF l a b = true then a else []) := by
    unfold readF
    rw [dec_enc]
    simp only [takeF, ne_eq, not_true_eq_false, if_false]
    rcases Bool.eq_false_or_eq_true (pairF l a b) with h | h <;> simp only [h, if_true, if_false, Bool.false_eq_true]
  rw [ansF, if_neg (by decide), if_neg (by decide), if_neg (enc_star _), hr]
  rfl
/-- (*posthorn/sasl.client).Answer -/
theorem c_cAnswer_plain {w0 w : World} {F : List Chunk} (T : List UInt32) (hT : T.length = 64) (gT : Gl w0 1 (u32s T)) (R : List UInt8) (hR : R.length = 16) (gR : Gl w0 2 (bs R)) (nm sec y : List UInt8) (hn : nm.length ≤ 4294967296) (hs : sec.length ≤ 4294967296) (hy : y.length ≤ 4294967296) (once : Bool) {g : Nat} (H : Sep w0 w (.blk g 78 [S nm, S sec, .iface 83 (.agg #[]), .bool once] :: F)) : Ret Try.prog 112 #[.pointer (some ⟨g, 0, none⟩), S y] w (fun v w' => ∃ o e p, dec y = (o, e, p) ∧ ((¬ e = 0 ∧ v = .tuple #[S [], .int .i64 ((221 : Nat) : Int)] ∧ Sep w0 w' (.blk g 78 [S nm, S sec, .iface 83 (.agg #[]), .bool once] :: F)) ∨ (e = 0 ∧ v = .tuple #[S (enc ((([0] ++ nm) ++ [0]) ++ sec)), .int .i64 ((0 : Nat) : Int)] ∧ Sep w0 w' (.blk g 78 [S nm, S sec, .nilIface, .bool once] :: F)))) := by
 refine Ret_enter (args := [Pt g 0, S y]) Try.func112 rfl (by kernel_rfl) ?_
 refine G_forget [(0, Pt g 0), (1, S y)] (by kernel_rfl) (fun β => ?_)
 refine G_sr ?_
 refine GL_st 2 2 [(0, Pt g 0), (1, S y)] fun β => ?_
 refine G_seq ?_
 refine G_sr ?_
 refine GL_s 3 3 [(0, Pt g 0), (1, S y), (11, Pt g 2)] fun β => ?_
 refine GL_V (run_load1 (t := 57) (by kernel_rfl) ((H.blk_cell (i := 0) rfl 2).trans rfl)) ?_
 refine GL_st 1 5 [(0, Pt g 0), (1, S y), (13, .bool false)] fun β => ?_
 refine G_false (by kernel_rfl) ?_
 refine G_skip ?_
 refine thn_normal ?_
 refine G_sr ?_
 refine GL_s 1 1 [(0, Pt g 0), (15, S y)] fun β => ?_
 refine GL_C (c_Unb y (by omega) H) ?_
 rintro _ w8 ⟨o1, e2, p3, A4, c5, hd6, hl7, rfl, H⟩
 refine GL_s 3 5 [(0, Pt g 0), (17, .slice A4 o1.length c5), (18, .agg #[In e2, In p3])] fun β => ?_
 refine GL_new (V := fun g => Pt g 0) (l := [In 0, In 0]) (t := 86) H rfl (by kernel_rfl) (by kernel_rfl) (by kernel_rfl) (fun g9 w10 H => ?_)
 refine GL_s 1 7 [(0, Pt g 0), (6, .slice A4 o1.length c5), (7, Pt g9 0), (18, .agg #[In e2, In p3])] fun β => ?_
 obtain ⟨w11, hr12, H⟩ := R_store (P := Try.prog) (t := 86) (v := .agg #[In e2, In p3]) (off := 0) H (i := 0) rfl (by kernel_rfl) (by kernel_rfl) (by kernel_rfl)
 replace H : Sep w0 w11 (.blk g9 86 [In e2, In p3] :: .row (.slice A4 o1.length c5) 5 1 o1.length (bs o1) :: .blk g 78 [S nm, S sec, .iface 83 (.agg #[]), .bool once] :: F) := H
 refine GL_U hr12 ?_
 refine GL_et ?_
 refine G_seq ?_
 refine G_sr ?_
 refine GL_s 1 1 [(0, Pt g 0), (6, .slice A4 o1.length c5), (19, Pt g9 0)] fun β => ?_
 refine GL_V (run_load1 (t := 32) (by kernel_rfl) ((H.blk_cell (i := 0) rfl 0).trans rfl)) ?_
 refine GL_srt 1 3 [(0, Pt g 0), (6, .slice A4 o1.length c5), (21, .bool (e2 != 0))] (show ([Pt g 0, .slice A4 o1.length c5, .bool ((e2 : Int) != ((0 : Nat) : Int))] : List Value) = [Pt g 0, .slice A4 o1.length c5, .bool (e2 != 0)] by rw [nneq e2 0]) fun β => ?_
 refine G_cond (e2 != 0) (by kernel_rfl) (fun h0 => ?_) (fun h0 => ?_)
 · --yes
  replace h0 : ¬ (e2 = 0) := neq_T h0
  refine G_sr ?_
  refine GL_st 2 2 [(4, S ([] : List UInt8)), (5, In 221)] fun β => ?_
  refine G_ret ?_
  refine thn_ret (res2 (v := S ([] : List UInt8)) (x := In 221) rfl (by kernel_rfl) (by kernel_rfl) ?_)
  replace H := H.drop 1
  replace H := H.drop 0
  replace H : Sep w0 w11 (.blk g 78 [S nm, S sec, .iface 83 (.agg #[]), .bool once] :: F) := H
  exact ⟨_, _, _, hd6, .inl ⟨by assumption, rfl, H⟩⟩
 · --no
  replace h0 : e2 = 0 := neq_F h0
  refine G_skip ?_
  refine thn_normal ?_
  refine G_sr ?_
  refine GL_st 1 1 [(0, Pt g 0), (6, .slice A4 o1.length c5), (8, S ([] : List UInt8))] fun β => ?_
  refine G_seq ?_
  refine G_sr ?_
  refine GL_s 3 3 [(0, Pt g 0), (6, .slice A4 o1.length c5), (8, S ([] : List UInt8)), (24, Pt g 2)] fun β => ?_
  refine GL_V (run_load1 (t := 57) (by kernel_rfl) ((H.blk_cell (i := 2) rfl 2).trans rfl)) ?_
  refine GL_et ?_
  refine G_block ?_
  refine G_sr ?_
  refine GL_st 3 3 [(0, Pt g 0), (6, .slice A4 o1.length c5), (8, S ([] : List UInt8)), (25, .iface 83 (.agg #[])), (27, .bool true)] fun β => ?_
  refine G_true (by kernel_rfl) ?_
  refine G_drawS (fun w => w.cell? ⟨g, 0, none⟩ = some (S nm) ∧ w.cell? ⟨g, 1, none⟩ = some (S sec) ∧ True) 18 18 (by kernel_rfl) (by kernel_rfl) H (fun w13 H => ?_)
  refine HL_takes [0, 1, 2, 3, 4] [(0, Pt g 0), (8, S ([] : List UInt8)), (29, Pt g 0), (33, Pt g 0)] (mkL 18 [0, 1, 2, 3, 4]) 13 (by kernel_rfl) rfl (by kernel_rfl) (fun _ => by kernel_rfl) ⟨((H.blk_cell (i := 2) rfl 0).trans rfl), ((H.blk_cell (i := 2) rfl 1).trans rfl), trivial⟩ (fun β => ?_)
  refine HL_t (i := 5) (m := 12) (fun w hS => run_load1 (t := 9) (by kernel_rfl) hS.1) rfl (by kernel_rfl) (by kernel_rfl) (by kernel_rfl) (by kernel_rfl) (by kernel_rfl) (by kernel_rfl) ⟨((H.blk_cell (i := 2) rfl 0).trans rfl), ((H.blk_cell (i := 2) rfl 1).trans rfl), trivial⟩ rfl ?_
  refine HL_t (i := 6) (m := 11) (fun w _ => (R_cat (t := 9) (l := [0]) (m := nm) (by (try simp only [List.length_append, List.length_cons, List.length_nil]); omega))) rfl (by kernel_rfl) (by kernel_rfl) (by kernel_rfl) (by kernel_rfl) (by kernel_rfl) (by kernel_rfl) ⟨((H.blk_cell (i := 2) rfl 0).trans rfl), ((H.blk_cell (i := 2) rfl 1).trans rfl), trivial⟩ rfl ?_
  refine HL_t (i := 7) (m := 10) (fun w _ => (R_cat (t := 9) (l := ([0] ++ nm)) (m := [0]) (by (try simp only [List.length_append, List.length_cons, List.length_nil]); omega))) rfl (by kernel_rfl) (by kernel_rfl) (by kernel_rfl) (by kernel_rfl) (by kernel_rfl) (by kernel_rfl) ⟨((H.blk_cell (i := 2) rfl 0).trans rfl), ((H.blk_cell (i := 2) rfl 1).trans rfl), trivial⟩ rfl ?_
  refine HL_takes [8, 9, 10, 11] [(8, S ([] : List UInt8)), (29, Pt g 0), (36, S (([0] ++ nm) ++ [0])), (40, Pt g 1)] (mkL 18 [0, 1, 2, 3, 4, 5, 6, 7, 8, 9, 10, 11]) 6 (by kernel_rfl) rfl (by kernel_rfl) (fun _ => by kernel_rfl) ⟨((H.blk_cell (i := 2) rfl 0).trans rfl), ((H.blk_cell (i := 2) rfl 1).trans rfl), trivial⟩ (fun β => ?_)
  refine HL_t (i := 12) (m := 5) (fun w hS => run_load1 (t := 9) (by kernel_rfl) hS.2.1) rfl (by kernel_rfl) (by kernel_rfl) (by kernel_rfl) (by kernel_rfl) (by kernel_rfl) (by kernel_rfl) ⟨((H.blk_cell (i := 2) rfl 0).trans rfl), ((H.blk_cell (i := 2) rfl 1).trans rfl), trivial⟩ rfl ?_
  refine HL_t (i := 13) (m := 4) (fun w _ => (R_cat (t := 9) (l := (([0] ++ nm) ++ [0])) (m := sec) (by (try simp only [List.length_append, List.length_cons, List.length_nil]); omega))) rfl (by kernel_rfl) (by kernel_rfl) (by kernel_rfl) (by kernel_rfl) (by kernel_rfl) (by kernel_rfl) ⟨((H.blk_cell (i := 2) rfl 0).trans rfl), ((H.blk_cell (i := 2) rfl 1).trans rfl), trivial⟩ rfl ?_
  refine HL_takes [14, 15, 16] [(8, S ((([0] ++ nm) ++ [0]) ++ sec)), (44, Pt g 2)] (mkL 18 [0, 1, 2, 3, 4, 5, 6, 7, 8, 9, 10, 11, 12, 13, 14, 15, 16]) 1 (by kernel_rfl) rfl (by kernel_rfl) (fun _ => by kernel_rfl) ⟨((H.blk_cell (i := 2) rfl 0).trans rfl), ((H.blk_cell (i := 2) rfl 1).trans rfl), trivial⟩ (fun β => ?_)
  obtain ⟨w14, hr15, H⟩ := R_store (P := Try.prog) (t := 57) (v := .nilIface) (off := 2) H (i := 2) rfl (by kernel_rfl) (by kernel_rfl) (by kernel_rfl)
  replace H : Sep w0 w14 (.blk g9 86 [In e2, In p3] :: .row (.slice A4 o1.length c5) 5 1 o1.length (bs o1) :: .blk g 78 [S nm, S sec, .nilIface, .bool once] :: F) := H
  refine HL_u (i := 17) hr15 rfl (by kernel_rfl) (by kernel_rfl) (by kernel_rfl) (by kernel_rfl) (.inr ⟨((H.blk_cell (i := 2) rfl 0).trans rfl), ((H.blk_cell (i := 2) rfl 1).trans rfl), trivial⟩) ?_
  refine HL_forget [(8, S ((([0] ++ nm) ++ [0]) ++ sec))] (by kernel_rfl) (fun β => ?_)
  refine HL_fin (by kernel_rfl) ?_
  refine inb_normal ?_
  refine thn_normal ?_
  obtain ⟨q, hq⟩ : ∃ q, q = ((([0] ++ nm) ++ [0]) ++ sec) := ⟨_, rfl⟩
  have hql : q.length = nm.length + sec.length + 2 := by rw [hq]; simp only [List.length_append, List.length_cons, List.length_nil]; omega
  refine G_re [(8, S q)] (show ([S ((([0] ++ nm) ++ [0]) ++ sec)] : List Value) = [S q] by rw [← hq]) (fun β => ?_)
  refine G_sr ?_
  refine GL_s 1 1 [(95, S q)] fun β => ?_
  obtain ⟨A16, c17, w18, hr19, H⟩ := R_conv_sb (P := Try.prog) (s := 9) (t := 71) (e := 5) (u := .string) (l := q) H (by kernel_rfl) (by kernel_rfl) (by kernel_rfl) (by unfold maxLen; omega)
  replace H : Sep w0 w18 (.row (.slice A16 q.length c17) 5 1 q.length (bs q) :: .blk g9 86 [In e2, In p3] :: .row (.slice A4 o1.length c5) 5 1 o1.length (bs o1) :: .blk g 78 [S nm, S sec, .nilIface, .bool once] :: F) := H
  refine GL_V hr19 ?_
  refine GL_C (c_Base64 (l := q) (hl := by omega) (R := (Rd.of_row H (i := 0) rfl)) (H := H)) ?_
  rintro _ w20 ⟨rfl, H⟩
  refine GL_st 2 5 [(4, S (enc q)), (5, In 0)] fun β => ?_
  refine G_ret ?_
  refine res2 (v := S (enc q)) (x := In 0) rfl (by kernel_rfl) (by kernel_rfl) ?_
  replace H := H.drop 2
  replace H := H.drop 1
  replace H := H.drop 0
  replace H : Sep w0 w20 (.blk g 78 [S nm, S sec, .nilIface, .bool once] :: F) := H
  have HF := H
  subst hq
  exact ⟨_, _, _, hd6, .inr ⟨by assumption, rfl, HF⟩⟩
theorem c_cAnswer_plainE {w0 w : World} {F : List Chunk} (T : List UInt32) (hT : T.length = 64) (gT : Gl w0 1 (u32s T)) (R : List UInt8) (hR : R.length = 16) (gR : Gl w0 2 (bs R)) (nm sec : List UInt8) (hn : nm.length ≤ 4294967296) (hs : sec.length ≤ 4294967296) (once : Bool) (x : List UInt8) (hx : (enc x).length ≤ 4294967296) {g : Nat} (H : Sep w0 w (.blk g 78 [S nm, S sec, .iface 83 (.agg #[]), .bool once] :: F)) : Ret Try.prog 112 #[.pointer (some ⟨g, 0, none⟩), S (enc x)] w (fun v w' => ∃ q, q = enc ((([0] ++ nm) ++ [0]) ++ sec) ∧ q.length ≤ 34359738368 ∧ v = .tuple #[S q, .int .i64 ((0 : Nat) : Int)] ∧ Sep w0 w' (.blk g 78 [S nm, S sec, .nilIface, .bool once] :: F)) := by
  refine (c_cAnswer_plain T hT gT R hR gR nm sec (enc x) hn hs hx once H).mono fun v w' ⟨o, e, p, hd, h⟩ => ?_
  rw [dec_enc] at hd
  cases hd
  rcases h with ⟨h0, _⟩ | ⟨_, hv, H⟩
  · exact absurd rfl h0
  · exact ⟨_, rfl, by rw [enc_len]; (try simp only [List.length_append, List.length_cons, List.length_nil]); omega, hv, H⟩
/-- (*posthorn/sasl.client).Answer -/
theorem c_cAnswer_login {w0 w : World} {F : List Chunk} (T : List UInt32) (hT : T.length = 64) (gT : Gl w0 1 (u32s T)) (R : List UInt8) (hR : R.length = 16) (gR : Gl w0 2 (bs R)) (nm sec y : List UInt8) (hn : nm.length ≤ 4294967296) (hs : sec.length ≤ 4294967296) (hy : y.length ≤ 4294967296) (once : Bool) {g : Nat} (H : Sep w0 w (.blk g 78 [S nm, S sec, .iface 84 (.agg #[]), .bool once] :: F)) : Ret Try.prog 112 #[.pointer (some ⟨g, 0, none⟩), S y] w (fun v w' => ∃ o e p, dec y = (o, e, p) ∧ ((¬ e = 0 ∧ v = .tuple #[S [], .int .i64 ((221 : Nat) : Int)] ∧ Sep w0 w' (.blk g 78 [S nm, S sec, .iface 84 (.agg #[]), .bool once] :: F)) ∨ (e = 0 ∧ v = .tuple #[S (enc nm), .int .i64 ((0 : Nat) : Int)] ∧ Sep w0 w' (.blk g 78 [S nm, S sec, .iface 170 (.agg #[S nm]), .bool once] :: F)))) := by
 refine Ret_enter (args := [Pt g 0, S y]) Try.func112 rfl (by kernel_rfl) ?_
 refine G_forget [(0, Pt g 0), (1, S y)] (by kernel_rfl) (fun β => ?_)
 refine G_sr ?_
 refine GL_st 2 2 [(0, Pt g 0), (1, S y)] fun β => ?_
 refine G_seq ?_
 refine G_sr ?_
 refine GL_s 3 3 [(0, Pt g 0), (1, S y), (11, Pt g 2)] fun β => ?_
 refine GL_V (run_load1 (t := 57) (by kernel_rfl) ((H.blk_cell (i := 0) rfl 2).trans rfl)) ?_
 refine GL_st 1 5 [(0, Pt g 0), (1, S y), (13, .bool false)] fun β => ?_
 refine G_false (by kernel_rfl) ?_
 refine G_skip ?_
 refine thn_normal ?_
 refine G_sr ?_
 refine GL_s 1 1 [(0, Pt g 0), (15, S y)] fun β => ?_
 refine GL_C (c_Unb y (by omega) H) ?_
 rintro _ w8 ⟨o1, e2, p3, A4, c5, hd6, hl7, rfl, H⟩
 refine GL_s 3 5 [(0, Pt g 0), (17, .slice A4 o1.length c5), (18, .agg #[In e2, In p3])] fun β => ?_
 refine GL_new (V := fun g => Pt g 0) (l := [In 0, In 0]) (t := 86) H rfl (by kernel_rfl) (by kernel_rfl) (by kernel_rfl) (fun g9 w10 H => ?_)
 refine GL_s 1 7 [(0, Pt g 0), (6, .slice A4 o1.length c5), (7, Pt g9 0), (18, .agg #[In e2, In p3])] fun β => ?_
 obtain ⟨w11, hr12, H⟩ := R_store (P := Try.prog) (t := 86) (v := .agg #[In e2, In p3]) (off := 0) H (i := 0) rfl (by kernel_rfl) (by kernel_rfl) (by kernel_rfl)
 replace H : Sep w0 w11 (.blk g9 86 [In e2, In p3] :: .row (.slice A4 o1.length c5) 5 1 o1.length (bs o1) :: .blk g 78 [S nm, S sec, .iface 84 (.agg #[]), .bool once] :: F) := H
 refine GL_U hr12 ?_
 refine GL_et ?_
 refine G_seq ?_
 refine G_sr ?_
 refine GL_s 1 1 [(0, Pt g 0), (6, .slice A4 o1.length c5), (19, Pt g9 0)] fun β => ?_
 refine GL_V (run_load1 (t := 32) (by kernel_rfl) ((H.blk_cell (i := 0) rfl 0).trans rfl)) ?_
 refine GL_srt 1 3 [(0, Pt g 0), (6, .slice A4 o1.length c5), (21, .bool (e2 != 0))] (show ([Pt g 0, .slice A4 o1.length c5, .bool ((e2 : Int) != ((0 : Nat) : Int))] : List Value) = [Pt g 0, .slice A4 o1.length c5, .bool (e2 != 0)] by rw [nneq e2 0]) fun β => ?_
 refine G_cond (e2 != 0) (by kernel_rfl) (fun h0 => ?_) (fun h0 => ?_)
 · --yes
  replace h0 : ¬ (e2 = 0) := neq_T h0
  refine G_sr ?_
  refine GL_st 2 2 [(4, S ([] : List UInt8)), (5, In 221)] fun β => ?_
  refine G_ret ?_
  refine thn_ret (res2 (v := S ([] : List UInt8)) (x := In 221) rfl (by kernel_rfl) (by kernel_rfl) ?_)
  replace H := H.drop 1
  replace H := H.drop 0
  replace H : Sep w0 w11 (.blk g 78 [S nm, S sec, .iface 84 (.agg #[]), .bool once] :: F) := H
  exact ⟨_, _, _, hd6, .inl ⟨by assumption, rfl, H⟩⟩
 · --no
  replace h0 : e2 = 0 := neq_F h0
  refine G_skip ?_
  refine thn_normal ?_
  refine G_sr ?_
  refine GL_st 1 1 [(0, Pt g 0), (6, .slice A4 o1.length c5), (8, S ([] : List UInt8))] fun β => ?_
  refine G_seq ?_
  refine G_sr ?_
  refine GL_s 3 3 [(0, Pt g 0), (6, .slice A4 o1.length c5), (8, S ([] : List UInt8)), (24, Pt g 2)] fun β => ?_
  refine GL_V (run_load1 (t := 57) (by kernel_rfl) ((H.blk_cell (i := 2) rfl 2).trans rfl)) ?_
  refine GL_et ?_
  refine G_block ?_
  refine G_sr ?_
  refine GL_st 3 3 [(0, Pt g 0), (6, .slice A4 o1.length c5), (8, S ([] : List UInt8)), (25, .iface 84 (.agg #[])), (27, .bool false)] fun β => ?_
  refine G_false (by kernel_rfl) ?_
  refine G_sr ?_
  refine GL_st 3 3 [(0, Pt g 0), (6, .slice A4 o1.length c5), (8, S ([] : List UInt8)), (25, .iface 84 (.agg #[])), (46, .bool true)] fun β => ?_
  refine G_true (by kernel_rfl) ?_
  refine G_drawS (fun w => w.cell? ⟨g, 0, none⟩ = some (S nm) ∧ True) 17 17 (by kernel_rfl) (by kernel_rfl) H (fun w13 H => ?_)
  refine HL_takes [0, 1, 2, 3, 4] [(0, Pt g 0), (8, S ([] : List UInt8)), (48, Pt g 0), (52, Pt g 0)] (mkL 17 [0, 1, 2, 3, 4]) 12 (by kernel_rfl) rfl (by kernel_rfl) (fun _ => by kernel_rfl) ⟨((H.blk_cell (i := 2) rfl 0).trans rfl), trivial⟩ (fun β => ?_)
  refine HL_t (i := 5) (m := 11) (fun w hS => run_load1 (t := 9) (by kernel_rfl) hS.1) rfl (by kernel_rfl) (by kernel_rfl) (by kernel_rfl) (by kernel_rfl) (by kernel_rfl) (by kernel_rfl) ⟨((H.blk_cell (i := 2) rfl 0).trans rfl), trivial⟩ rfl ?_
  refine HL_takes [6, 7, 8, 9] [(8, S ([] : List UInt8)), (48, Pt g 0), (53, S nm), (57, Pt g 0)] (mkL 17 [0, 1, 2, 3, 4, 5, 6, 7, 8, 9]) 7 (by kernel_rfl) rfl (by kernel_rfl) (fun _ => by kernel_rfl) ⟨((H.blk_cell (i := 2) rfl 0).trans rfl), trivial⟩ (fun β => ?_)
  refine HL_t (i := 10) (m := 6) (fun w hS => run_load1 (t := 9) (by kernel_rfl) hS.1) rfl (by kernel_rfl) (by kernel_rfl) (by kernel_rfl) (by kernel_rfl) (by kernel_rfl) (by kernel_rfl) ⟨((H.blk_cell (i := 2) rfl 0).trans rfl), trivial⟩ rfl ?_
  refine HL_takes [11, 12, 13, 14, 15] [(8, S nm), (60, .iface 170 (.agg #[S nm])), (62, Pt g 2)] (mkL 17 [0, 1, 2, 3, 4, 5, 6, 7, 8, 9, 10, 11, 12, 13, 14, 15]) 1 (by kernel_rfl) rfl (by kernel_rfl) (fun _ => by kernel_rfl) ⟨((H.blk_cell (i := 2) rfl 0).trans rfl), trivial⟩ (fun β => ?_)
  obtain ⟨w14, hr15, H⟩ := R_store (P := Try.prog) (t := 57) (v := .iface 170 (.agg #[S nm])) (off := 2) H (i := 2) rfl (by kernel_rfl) (by kernel_rfl) (by kernel_rfl)
  replace H : Sep w0 w14 (.blk g9 86 [In e2, In p3] :: .row (.slice A4 o1.length c5) 5 1 o1.length (bs o1) :: .blk g 78 [S nm, S sec, .iface 170 (.agg #[S nm]), .bool once] :: F) := H
  refine HL_u (i := 16) hr15 rfl (by kernel_rfl) (by kernel_rfl) (by kernel_rfl) (by kernel_rfl) (.inr ⟨((H.blk_cell (i := 2) rfl 0).trans rfl), trivial⟩) ?_
  refine HL_forget [(8, S nm)] (by kernel_rfl) (fun β => ?_)
  refine HL_fin (by kernel_rfl) ?_
  refine inb_normal ?_
  refine thn_normal ?_
  refine G_sr ?_
  refine GL_s 1 1 [(95, S nm)] fun β => ?_
  obtain ⟨A16, c17, w18, hr19, H⟩ := R_conv_sb (P := Try.prog) (s := 9) (t := 71) (e := 5) (u := .string) (l := nm) H (by kernel_rfl) (by kernel_rfl) (by kernel_rfl) (by unfold maxLen; omega)
  replace H : Sep w0 w18 (.row (.slice A16 nm.length c17) 5 1 nm.length (bs nm) :: .blk g9 86 [In e2, In p3] :: .row (.slice A4 o1.length c5) 5 1 o1.length (bs o1) :: .blk g 78 [S nm, S sec, .iface 170 (.agg #[S nm]), .bool once] :: F) := H
  refine GL_V hr19 ?_
  refine GL_C (c_Base64 (l := nm) (hl := by omega) (R := (Rd.of_row H (i := 0) rfl)) (H := H)) ?_
  rintro _ w20 ⟨rfl, H⟩
  refine GL_st 2 5 [(4, S (enc nm)), (5, In 0)] fun β => ?_
  refine G_ret ?_
  refine res2 (v := S (enc nm)) (x := In 0) rfl (by kernel_rfl) (by kernel_rfl) ?_
  replace H := H.drop 2
  replace H := H.drop 1
  replace H := H.drop 0
  replace H : Sep w0 w20 (.blk g 78 [S nm, S sec, .iface 170 (.agg #[S nm]), .bool once] :: F) := H
  exact ⟨_, _, _, hd6, .inr ⟨by assumption, rfl, H⟩⟩
theorem c_cAnswer_loginE {w0 w : World} {F : List Chunk} (T : List UInt32) (hT : T.length = 64) (gT : Gl w0 1 (u32s T)) (R : List UInt8) (hR : R.length = 16) (gR : Gl w0 2 (bs R)) (nm sec : List UInt8) (hn : nm.length ≤ 4294967296) (hs : sec.length ≤ 4294967296) (once : Bool) (x : List UInt8) (hx : (enc x).length ≤ 4294967296) {g : Nat} (H : Sep w0 w (.blk g 78 [S nm, S sec, .iface 84 (.agg #[]), .bool once] :: F)) : Ret Try.prog 112 #[.pointer (some ⟨g, 0, none⟩), S (enc x)] w (fun v w' => ∃ q, q = enc nm ∧ q.length ≤ 34359738368 ∧ v = .tuple #[S q, .int .i64 ((0 : Nat) : Int)] ∧ Sep w0 w' (.blk g 78 [S nm, S sec, .iface 170 (.agg #[S nm]), .bool once] :: F)) := by
  refine (c_cAnswer_login T hT gT R hR gR nm sec (enc x) hn hs hx once H).mono fun v w' ⟨o, e, p, hd, h⟩ => ?_
  rw [dec_enc] at hd
  cases hd
  rcases h with ⟨h0, _⟩ | ⟨_, hv, H⟩
  · exact absurd rfl h0
  · exact ⟨_, rfl, by rw [enc_len]; (try simp only [List.length_append, List.length_cons, List.length_nil]); omega, hv, H⟩
/-- (*posthorn/sasl.client).Answer -/
theorem c_cAnswer_word {w0 w : World} {F : List Chunk} (T : List UInt32) (hT : T.length = 64) (gT : Gl w0 1 (u32s T)) (R : List UInt8) (hR : R.length = 16) (gR : Gl w0 2 (bs R)) (nm sec y : List UInt8) (hn : nm.length ≤ 4294967296) (hs : sec.length ≤ 4294967296) (hy : y.length ≤ 4294967296) (once : Bool) (z : List UInt8) {g : Nat} (H : Sep w0 w (.blk g 78 [S nm, S sec, .iface 170 (.agg #[S z]), .bool once] :: F)) : Ret Try.prog 112 #[.pointer (some ⟨g, 0, none⟩), S y] w (fun v w' => ∃ o e p, dec y = (o, e, p) ∧ ((¬ e = 0 ∧ v = .tuple #[S [], .int .i64 ((221 : Nat) : Int)] ∧ Sep w0 w' (.blk g 78 [S nm, S sec, .iface 170 (.agg #[S z]), .bool once] :: F)) ∨ (e = 0 ∧ v = .tuple #[S (enc sec), .int .i64 ((0 : Nat) : Int)] ∧ Sep w0 w' (.blk g 78 [S nm, S sec, .nilIface, .bool once] :: F)))) := by
 refine Ret_enter (args := [Pt g 0, S y]) Try.func112 rfl (by kernel_rfl) ?_
 refine G_forget [(0, Pt g 0), (1, S y)] (by kernel_rfl) (fun β => ?_)
 refine G_sr ?_
 refine GL_st 2 2 [(0, Pt g 0), (1, S y)] fun β => ?_
 refine G_seq ?_
 refine G_sr ?_
 refine GL_s 3 3 [(0, Pt g 0), (1, S y), (11, Pt g 2)] fun β => ?_
 refine GL_V (run_load1 (t := 57) (by kernel_rfl) ((H.blk_cell (i := 0) rfl 2).trans rfl)) ?_
 refine GL_st 1 5 [(0, Pt g 0), (1, S y), (13, .bool false)] fun β => ?_
 refine G_false (by kernel_rfl) ?_
 refine G_skip ?_
 refine thn_normal ?_
 refine G_sr ?_
 refine GL_s 1 1 [(0, Pt g 0), (15, S y)] fun β => ?_
 refine GL_C (c_Unb y (by omega) H) ?_
 rintro _ w8 ⟨o1, e2, p3, A4, c5, hd6, hl7, rfl, H⟩
 refine GL_s 3 5 [(0, Pt g 0), (17, .slice A4 o1.length c5), (18, .agg #[In e2, In p3])] fun β => ?_
 refine GL_new (V := fun g => Pt g 0) (l := [In 0, In 0]) (t := 86) H rfl (by kernel_rfl) (by kernel_rfl) (by kernel_rfl) (fun g9 w10 H => ?_)
 refine GL_s 1 7 [(0, Pt g 0), (6, .slice A4 o1.length c5), (7, Pt g9 0), (18, .agg #[In e2, In p3])] fun β => ?_
 obtain ⟨w11, hr12, H⟩ := R_store (P := Try.prog) (t := 86) (v := .agg #[In e2, In p3]) (off := 0) H (i := 0) rfl (by kernel_rfl) (by kernel_rfl) (by kernel_rfl)
 replace H : Sep w0 w11 (.blk g9 86 [In e2, In p3] :: .row (.slice A4 o1.length c5) 5 1 o1.length (bs o1) :: .blk g 78 [S nm, S sec, .iface 170 (.agg #[S z]), .bool once] :: F) := H
 refine GL_U hr12 ?_
 refine GL_et ?_
 refine G_seq ?_
 refine G_sr ?_
 refine GL_s 1 1 [(0, Pt g 0), (6, .slice A4 o1.length c5), (19, Pt g9 0)] fun β => ?_
 refine GL_V (run_load1 (t := 32) (by kernel_rfl) ((H.blk_cell (i := 0) rfl 0).trans rfl)) ?_
 refine GL_srt 1 3 [(0, Pt g 0), (6, .slice A4 o1.length c5), (21, .bool (e2 != 0))] (show ([Pt g 0, .slice A4 o1.length c5, .bool ((e2 : Int) != ((0 : Nat) : Int))] : List Value) = [Pt g 0, .slice A4 o1.length c5, .bool (e2 != 0)] by rw [nneq e2 0]) fun β => ?_
 refine G_cond (e2 != 0) (by kernel_rfl) (fun h0 => ?_) (fun h0 => ?_)
 · --yes
  replace h0 : ¬ (e2 = 0) := neq_T h0
  refine G_sr ?_
  refine GL_st 2 2 [(4, S ([] : List UInt8)), (5, In 221)] fun β => ?_
  refine G_ret ?_
  refine thn_ret (res2 (v := S ([] : List UInt8)) (x := In 221) rfl (by kernel_rfl) (by kernel_rfl) ?_)
  replace H := H.drop 1
  replace H := H.drop 0
  replace H : Sep w0 w11 (.blk g 78 [S nm, S sec, .iface 170 (.agg #[S z]), .bool once] :: F) := H
  exact ⟨_, _, _, hd6, .inl ⟨by assumption, rfl, H⟩⟩
 · --no
  replace h0 : e2 = 0 := neq_F h0
  refine G_skip ?_
  refine thn_normal ?_
  refine G_sr ?_
  refine GL_st 1 1 [(0, Pt g 0), (6, .slice A4 o1.length c5), (8, S ([] : List UInt8))] fun β => ?_
  refine G_seq ?_
  refine G_sr ?_
  refine GL_s 3 3 [(0, Pt g 0), (6, .slice A4 o1.length c5), (8, S ([] : List UInt8)), (24, Pt g 2)] fun β => ?_
  refine GL_V (run_load1 (t := 57) (by kernel_rfl) ((H.blk_cell (i := 2) rfl 2).trans rfl)) ?_
  refine GL_et ?_
  refine G_block ?_
  refine G_sr ?_
  refine GL_st 3 3 [(0, Pt g 0), (6, .slice A4 o1.length c5), (8, S ([] : List UInt8)), (25, .iface 170 (.agg #[S z])), (27, .bool false)] fun β => ?_
  refine G_false (by kernel_rfl) ?_
  refine G_sr ?_
  refine GL_st 3 3 [(0, Pt g 0), (6, .slice A4 o1.length c5), (8, S ([] : List UInt8)), (25, .iface 170 (.agg #[S z])), (46, .bool false)] fun β => ?_
  refine G_false (by kernel_rfl) ?_
  refine G_sr ?_
  refine GL_st 3 3 [(0, Pt g 0), (6, .slice A4 o1.length c5), (8, S ([] : List UInt8)), (25, .iface 170 (.agg #[S z])), (64, .bool true)] fun β => ?_
  refine G_true (by kernel_rfl) ?_
  refine G_region ?_
  refine GL_s 5 5 [(66, Pt g 0), (70, Pt g 1)] fun β => ?_
  refine GL_V (run_load1 (t := 9) (by kernel_rfl) ((H.blk_cell (i := 2) rfl 1).trans rfl)) ?_
  refine GL_s 3 9 [(8, S sec), (73, Pt g 2)] fun β => ?_
  obtain ⟨w13, hr14, H⟩ := R_store (P := Try.prog) (t := 57) (v := .nilIface) (off := 2) H (i := 2) rfl (by kernel_rfl) (by kernel_rfl) (by kernel_rfl)
  replace H : Sep w0 w13 (.blk g9 86 [In e2, In p3] :: .row (.slice A4 o1.length c5) 5 1 o1.length (bs o1) :: .blk g 78 [S nm, S sec, .nilIface, .bool once] :: F) := H
  refine GL_U hr14 ?_
  refine GL_end (by kernel_rfl) ?_
  refine inb_normal ?_
  refine thn_normal ?_
  refine G_sr ?_
  refine GL_s 1 1 [(95, S sec)] fun β => ?_
  obtain ⟨A15, c16, w17, hr18, H⟩ := R_conv_sb (P := Try.prog) (s := 9) (t := 71) (e := 5) (u := .string) (l := sec) H (by kernel_rfl) (by kernel_rfl) (by kernel_rfl) (by unfold maxLen; omega)
  replace H : Sep w0 w17 (.row (.slice A15 sec.length c16) 5 1 sec.length (bs sec) :: .blk g9 86 [In e2, In p3] :: .row (.slice A4 o1.length c5) 5 1 o1.length (bs o1) :: .blk g 78 [S nm, S sec, .nilIface, .bool once] :: F) := H
  refine GL_V hr18 ?_
  refine GL_C (c_Base64 (l := sec) (hl := by omega) (R := (Rd.of_row H (i := 0) rfl)) (H := H)) ?_
  rintro _ w19 ⟨rfl, H⟩
  refine GL_st 2 5 [(4, S (enc sec)), (5, In 0)] fun β => ?_
  refine G_ret ?_
  refine res2 (v := S (enc sec)) (x := In 0) rfl (by kernel_rfl) (by kernel_rfl) ?_
  replace H := H.drop 2
  replace H := H.drop 1
  replace H := H.drop 0
  replace H : Sep w0 w19 (.blk g 78 [S nm, S sec, .nilIface, .bool once] :: F) := H
  exact ⟨_, _, _, hd6, .inr ⟨by assumption, rfl, H⟩⟩
theorem c_cAnswer_wordE {w0 w : World} {F : List Chunk} (T : List UInt32) (hT : T.length = 64) (gT : Gl w0 1 (u32s T)) (R : List UInt8) (hR : R.length = 16) (gR : Gl w0 2 (bs R)) (nm sec : List UInt8) (hn : nm.length ≤ 4294967296) (hs : sec.length ≤ 4294967296) (once : Bool) (z : List UInt8) (x : List UInt8) (hx : (enc x).length ≤ 4294967296) {g : Nat} (H : Sep w0 w (.blk g 78 [S nm, S sec, .iface 170 (.agg #[S z]), .bool once] :: F)) : Ret Try.prog 112 #[.pointer (some ⟨g, 0, none⟩), S (enc x)] w (fun v w' => ∃ q, q = enc sec ∧ q.length ≤ 34359738368 ∧ v = .tuple #[S q, .int .i64 ((0 : Nat) : Int)] ∧ Sep w0 w' (.blk g 78 [S nm, S sec, .nilIface, .bool once] :: F)) := by
  refine (c_cAnswer_word T hT gT R hR gR nm sec (enc x) hn hs hx once z H).mono fun v w' ⟨o, e, p, hd, h⟩ => ?_
  rw [dec_enc] at hd
  cases hd
  rcases h with ⟨h0, _⟩ | ⟨_, hv, H⟩
  · exact absurd rfl h0
  · exact ⟨_, rfl, by rw [enc_len]; (try simp only [List.length_append, List.length_cons, List.length_nil]); omega, hv, H⟩
/-- posthorn/sasl.Mechanisms -/
theorem c_Mechs {w0 w : World} {F : List Chunk} (H : Sep w0 w F) : Ret Try.prog 18 #[] w (fun v w' => ∃ g, v = .slice (some ⟨g, 0, none⟩) 3 3 ∧ Sep w0 w' (.blk g 9 [S [80, 76, 65, 73, 78], S [76, 79, 71, 73, 78], S [67, 82, 65, 77, 45, 77, 68, 53]] :: F)) := by
 refine Ret_enter (args := []) Try.func18 rfl (by kernel_rfl) ?_
 refine G_forget [] (by kernel_rfl) (fun β => ?_)
 refine G_sr ?_
 refine GL_st 1 1 [] fun β => ?_
 refine G_sr ?_
 refine GL_new (V := fun g => .slice (some ⟨g, 0, none⟩) 3 3) (l := [S [80, 76, 65, 73, 78], S [76, 79, 71, 73, 78], S [67, 82, 65, 77, 45, 77, 68, 53]]) (t := 9) H rfl (by kernel_rfl) (by kernel_rfl) (by kernel_rfl) (fun g1 w2 H => ?_)
 refine GL_st 1 2 [(0, .slice (some ⟨g1, 0, none⟩) 3 3)] fun β => ?_
 refine G_ret ?_
 refine res1 (v := .slice (some ⟨g1, 0, none⟩) 3 3) rfl (by kernel_rfl) ?_
 exact ⟨_, rfl, H⟩
/-- posthorn/posthornlaw22.talk -/
theorem c_talk_plain_true {w0 w : World} {F : List Chunk} (T : List UInt32) (hT : T.length = 64) (gT : Gl w0 1 (u32s T)) (R : List UInt8) (hR : R.length = 16) (gR : Gl w0 2 (bs R)) (l : List Str2) (hl : l.length ≤ 1099511627776) (hU : ∀ u ∈ l, u.1.length ≤ 549755813888 ∧ u.2.length ≤ 549755813888) (nm sec st : List UInt8) (hn : nm.length ≤ 16777216) (hs : sec.length ≤ 16777216) (hst : st.length ≤ 16777216) (once : Bool) (hz1 : (0 : UInt8) ∉ nm) (hz2 : (0 : UInt8) ∉ sec) (hb : (pairF l nm sec) = true) {g c h : Nat} {A : Option Addr} (H : Sep w0 w (.blk g 60 [.slice A l.length c, In 1, .iface 83 (.agg #[]), S ([] : List UInt8)] :: .row (.slice A l.length c) 39 2 l.length (us l) :: .blk h 78 [S nm, S sec, .iface 83 (.agg #[]), .bool once] :: F)) : Ret Try.prog 22 #[Pt g 0, .iface 73 (Pt h 0)] w (fun v w' => v = .bool true ∧ Sep w0 w' (.blk g 60 [.slice A l.length c, In 2, .iface 83 (.agg #[]), S nm] :: .row (.slice A l.length c) 39 2 l.length (us l) :: .blk h 78 [S nm, S sec, .nilIface, .bool once] :: F)) := by
 refine Ret_enter (args := [Pt g 0, .iface 73 (Pt h 0)]) Try.func22 rfl (by kernel_rfl) ?_
 refine G_forget [(0, Pt g 0), (1, .iface 73 (Pt h 0))] (by kernel_rfl) (fun β => ?_)
 refine G_sr ?_
 refine GL_st 1 1 [(0, Pt g 0), (1, .iface 73 (Pt h 0))] fun β => ?_
 refine G_seq ?_
 refine G_sr ?_
 refine GL_st 1 1 [(0, Pt g 0), (1, .iface 73 (Pt h 0)), (7, In 0)] fun β => ?_
 refine G_block ?_
 refine G_un 4 ?_
 refine GU_step ?_
 refine G_forget [(0, Pt g 0), (1, .iface 73 (Pt h 0)), (7, In 0)] (by kernel_rfl) (fun β => ?_)
 refine G_sr ?_
 refine GL_st 1 1 [(0, Pt g 0), (1, .iface 73 (Pt h 0)), (7, In 0), (8, .bool true)] fun β => ?_
 refine G_seq ?_
 refine G_true (by kernel_rfl) ?_
 refine G_skip ?_
 refine thn_normal ?_
 refine G_seq ?_
 refine G_block ?_
 refine G_seq ?_
 refine G_sr ?_
 refine GL_s 1 1 [(0, Pt g 0), (1, .iface 73 (Pt h 0)), (7, In 0), (9, Pt g 0)] fun β => ?_
 replace H : Sep w0 w (.blk g 60 [.slice A l.length c, In 1, .iface 83 (.agg #[]), S ([] : List UInt8)] :: .row (.slice A l.length c) 39 2 l.length (us l) :: .blk h 78 [S nm, S sec, .iface 83 (.agg #[]), .bool once] :: F) := H
 refine GL_C (c_State 1 (.slice A l.length c) (.iface 83 (.agg #[])) (S ([] : List UInt8)) H) ?_
 rintro _ w1 ⟨rfl, H⟩
 refine GL_st 1 3 [(0, Pt g 0), (1, .iface 73 (Pt h 0)), (7, In 0), (11, .bool false)] fun β => ?_
 refine G_false (by kernel_rfl) ?_
 refine G_skip ?_
 refine thn_normal ?_
 refine G_seq ?_
 refine G_drawS (fun w => True) 12 12 (by kernel_rfl) (by kernel_rfl) H (fun w2 H => ?_)
 refine HL_takes [0, 1, 3, 4, 5] [(0, Pt g 0), (1, .iface 73 (Pt h 0)), (7, .int .i64 ((0 : Nat) : Int)), (14, Pt g 0), (18, .iface 73 (Pt h 0))] (mkL 12 [0, 1, 3, 4, 5]) 7 (by kernel_rfl) rfl (by kernel_rfl) (fun _ => by kernel_rfl) trivial (fun β => ?_)
 replace H : Sep w0 w2 (.blk g 60 [.slice A l.length c, In 1, .iface 83 (.agg #[]), S ([] : List UInt8)] :: .row (.slice A l.length c) 39 2 l.length (us l) :: .blk h 78 [S nm, S sec, .iface 83 (.agg #[]), .bool once] :: F) := H
 refine HL_call (i := 2) (f := 11) (args := #[Pt g 0]) rfl (by kernel_rfl) (by kernel_rfl) (by kernel_rfl) (by kernel_rfl) (c_Ask 1 (.slice A l.length c) (S ([] : List UInt8)) Stp.plain (by first | trivial | (show nm.length ≤ 68719476736; omega) | (show st.length ≤ 68719476736; omega)) H) ?_
 rintro _ w3 ⟨rfl, H⟩
 replace H : Sep w0 w3 (.blk g 60 [.slice A l.length c, In 1, .iface 83 (.agg #[]), S ([] : List UInt8)] :: .row (.slice A l.length c) 39 2 l.length (us l) :: .blk h 78 [S nm, S sec, .iface 83 (.agg #[]), .bool once] :: F) := H
 refine ⟨(.inr trivial), ?_⟩
 replace H := H.front (i := 2) rfl
 replace H : Sep w0 w3 (.blk h 78 [S nm, S sec, .iface 83 (.agg #[]), .bool once] :: .blk g 60 [.slice A l.length c, In 1, .iface 83 (.agg #[]), S ([] : List UInt8)] :: .row (.slice A l.length c) 39 2 l.length (us l) :: F) := H
 refine HL_call (i := 6) (f := 112) (args := #[Pt h 0, S (enc [])]) rfl (by kernel_rfl) (by kernel_rfl) (by kernel_rfl) (by kernel_rfl) (c_cAnswer_plainE T hT gT R hR gR nm sec (by omega) (by omega) once [] (by rw [enc_len]; first | omega | (simp only [List.length_cons, List.length_nil]; omega)) H) ?_
 rintro _ w7 ⟨q4, hq5, hql6, rfl, H⟩
 replace H : Sep w0 w7 (.blk h 78 [S nm, S sec, .nilIface, .bool once] :: .blk g 60 [.slice A l.length c, In 1, .iface 83 (.agg #[]), S ([] : List UInt8)] :: .row (.slice A l.length c) 39 2 l.length (us l) :: F) := H
 refine ⟨(.inr trivial), ?_⟩
 refine HL_takes [7, 8, 9, 10, 11] [(0, Pt g 0), (1, .iface 73 (Pt h 0)), (5, S q4), (6, .int .i64 ((0 : Nat) : Int)), (7, .int .i64 ((0 : Nat) : Int))] (mkL 12 [0, 1, 3, 4, 5, 2, 6, 7, 8, 9, 10, 11]) 0 (by kernel_rfl) rfl (by kernel_rfl) (fun _ => by kernel_rfl) trivial (fun β => ?_)
 refine HL_forget [(0, Pt g 0), (1, .iface 73 (Pt h 0)), (5, S q4), (6, In 0), (7, In 0)] (by kernel_rfl) (fun β => ?_)
 refine HL_fin (by kernel_rfl) ?_
 refine thn_normal ?_
 refine G_sr ?_
 refine GL_s 5 5 [(0, Pt g 0), (1, .iface 73 (Pt h 0)), (7, In 0), (24, .bool false), (25, Pt g 0), (26, S q4)] fun β => ?_
 replace H := H.front (i := 2) rfl
 replace H := H.front (i := 2) rfl
 replace H : Sep w0 w7 (.blk g 60 [.slice A l.length c, In 1, .iface 83 (.agg #[]), S ([] : List UInt8)] :: .row (.slice A l.length c) 39 2 l.length (us l) :: .blk h 78 [S nm, S sec, .nilIface, .bool once] :: F) := H
 refine GL_C (c_AnswerE (e2 := 0) (n2 := 2) (s2 := Stp.plain) (nm2 := nm) T hT gT R hR gR 1 Stp.plain (by trivial) ([] : List UInt8) q4 (by omega) l (by first | omega | decide | (simp only [List.length_cons, List.length_nil]; omega)) hU H (by rw [hq5, ans_plain T R _ _ _ hz1 hz2, hb]; rfl)) ?_
 rintro _ w8 ⟨rfl, H⟩
 replace H : Sep w0 w8 (.blk g 60 [.slice A l.length c, In 2, .iface 83 (.agg #[]), S nm] :: .row (.slice A l.length c) 39 2 l.length (us l) :: .blk h 78 [S nm, S sec, .nilIface, .bool once] :: F) := H
 refine GL_st 2 8 [(0, Pt g 0), (1, .iface 73 (Pt h 0)), (7, In 0), (29, .bool false)] fun β => ?_
 refine G_false (by kernel_rfl) ?_
 refine G_skip ?_
 refine inb_normal ?_
 refine thn_normal ?_
 refine G_region ?_
 refine GL_st 2 2 [(0, Pt g 0), (1, .iface 73 (Pt h 0)), (7, In 1)] fun β => ?_
 refine GU_step ?_
 refine G_forget [(0, Pt g 0), (1, .iface 73 (Pt h 0)), (7, In 1)] (by kernel_rfl) (fun β => ?_)
 refine G_sr ?_
 refine GL_st 1 1 [(0, Pt g 0), (1, .iface 73 (Pt h 0)), (7, In 1), (8, .bool true)] fun β => ?_
 refine G_seq ?_
 refine G_true (by kernel_rfl) ?_
 refine G_skip ?_
 refine thn_normal ?_
 refine G_seq ?_
 refine G_block ?_
 refine G_seq ?_
 refine G_sr ?_
 refine GL_s 1 1 [(0, Pt g 0), (1, .iface 73 (Pt h 0)), (7, In 1), (9, Pt g 0)] fun β => ?_
 replace H : Sep w0 w8 (.blk g 60 [.slice A l.length c, In 2, .iface 83 (.agg #[]), S nm] :: .row (.slice A l.length c) 39 2 l.length (us l) :: .blk h 78 [S nm, S sec, .nilIface, .bool once] :: F) := H
 refine GL_C (c_State 2 (.slice A l.length c) (.iface 83 (.agg #[])) (S nm) H) ?_
 rintro _ w9 ⟨rfl, H⟩
 refine GL_st 1 3 [(0, Pt g 0), (1, .iface 73 (Pt h 0)), (7, In 1), (11, .bool true)] fun β => ?_
 refine G_true (by kernel_rfl) ?_
 refine G_sr ?_
 refine GL_st 1 1 [(4, .bool true)] fun β => ?_
 refine G_ret ?_
 refine thn_ret (inb_ret (thn_ret (thn_ret (inb_ret (thn_ret (res1 (v := .bool true) rfl (by kernel_rfl) ?_))))))
 replace H := H.front (i := 2) rfl
 replace H := H.front (i := 2) rfl
 replace H := H.front (i := 2) rfl
 replace H : Sep w0 w9 (.blk g 60 [.slice A l.length c, In 2, .iface 83 (.agg #[]), S nm] :: .row (.slice A l.length c) 39 2 l.length (us l) :: .blk h 78 [S nm, S sec, .nilIface, .bool once] :: F) := H
 exact ⟨rfl, H⟩
/-- posthorn/posthornlaw22.talk -/
theorem c_talk_plain_false {w0 w : World} {F : List Chunk} (T : List UInt32) (hT : T.length = 64) (gT : Gl w0 1 (u32s T)) (R : List UInt8) (hR : R.length = 16) (gR : Gl w0 2 (bs R)) (l : List Str2) (hl : l.length ≤ 1099511627776) (hU : ∀ u ∈ l, u.1.length ≤ 549755813888 ∧ u.2.length ≤ 549755813888) (nm sec st : List UInt8) (hn : nm.length ≤ 16777216) (hs : sec.length ≤ 16777216) (hst : st.length ≤ 16777216) (once : Bool) (hz1 : (0 : UInt8) ∉ nm) (hz2 : (0 : UInt8) ∉ sec) (hb : (pairF l nm sec) = false) {g c h : Nat} {A : Option Addr} (H : Sep w0 w (.blk g 60 [.slice A l.length c, In 1, .iface 83 (.agg #[]), S ([] : List UInt8)] :: .row (.slice A l.length c) 39 2 l.length (us l) :: .blk h 78 [S nm, S sec, .iface 83 (.agg #[]), .bool once] :: F)) : Ret Try.prog 22 #[Pt g 0, .iface 73 (Pt h 0)] w (fun v w' => v = .bool true ∧ Sep w0 w' (.blk g 60 [.slice A l.length c, In 3, .iface 83 (.agg #[]), S ([] : List UInt8)] :: .row (.slice A l.length c) 39 2 l.length (us l) :: .blk h 78 [S nm, S sec, .nilIface, .bool once] :: F)) := by
 refine Ret_enter (args := [Pt g 0, .iface 73 (Pt h 0)]) Try.func22 rfl (by kernel_rfl) ?_
 refine G_forget [(0, Pt g 0), (1, .iface 73 (Pt h 0))] (by kernel_rfl) (fun β => ?_)
 refine G_sr ?_
 refine GL_st 1 1 [(0, Pt g 0), (1, .iface 73 (Pt h 0))] fun β => ?_
 refine G_seq ?_
 refine G_sr ?_
 refine GL_st 1 1 [(0, Pt g 0), (1, .iface 73 (Pt h 0)), (7, In 0)] fun β => ?_
 refine G_block ?_
 refine G_un 4 ?_
 refine GU_step ?_
 refine G_forget [(0, Pt g 0), (1, .iface 73 (Pt h 0)), (7, In 0)] (by kernel_rfl) (fun β => ?_)
 refine G_sr ?_
 refine GL_st 1 1 [(0, Pt g 0), (1, .iface 73 (Pt h 0)), (7, In 0), (8, .bool true)] fun β => ?_
 refine G_seq ?_
 refine G_true (by kernel_rfl) ?_
 refine G_skip ?_
 refine thn_normal ?_
 refine G_seq ?_
 refine G_block ?_
 refine G_seq ?_
 refine G_sr ?_
 refine GL_s 1 1 [(0, Pt g 0), (1, .iface 73 (Pt h 0)), (7, In 0), (9, Pt g 0)] fun β => ?_
 replace H : Sep w0 w (.blk g 60 [.slice A l.length c, In 1, .iface 83 (.agg #[]), S ([] : List UInt8)] :: .row (.slice A l.length c) 39 2 l.length (us l) :: .blk h 78 [S nm, S sec, .iface 83 (.agg #[]), .bool once] :: F) := H
 refine GL_C (c_State 1 (.slice A l.length c) (.iface 83 (.agg #[])) (S ([] : List UInt8)) H) ?_
 rintro _ w1 ⟨rfl, H⟩
 refine GL_st 1 3 [(0, Pt g 0), (1, .iface 73 (Pt h 0)), (7, In 0), (11, .bool false)] fun β => ?_
 refine G_false (by kernel_rfl) ?_
 refine G_skip ?_
 refine thn_normal ?_
 refine G_seq ?_
 refine G_drawS (fun w => True) 12 12 (by kernel_rfl) (by kernel_rfl) H (fun w2 H => ?_)
 refine HL_takes [0, 1, 3, 4, 5] [(0, Pt g 0), (1, .iface 73 (Pt h 0)), (7, .int .i64 ((0 : Nat) : Int)), (14, Pt g 0), (18, .iface 73 (Pt h 0))] (mkL 12 [0, 1, 3, 4, 5]) 7 (by kernel_rfl) rfl (by kernel_rfl) (fun _ => by kernel_rfl) trivial (fun β => ?_)
 replace H : Sep w0 w2 (.blk g 60 [.slice A l.length c, In 1, .iface 83 (.agg #[]), S ([] : List UInt8)] :: .row (.slice A l.length c) 39 2 l.length (us l) :: .blk h 78 [S nm, S sec, .iface 83 (.agg #[]), .bool once] :: F) := H
 refine HL_call (i := 2) (f := 11) (args := #[Pt g 0]) rfl (by kernel_rfl) (by kernel_rfl) (by kernel_rfl) (by kernel_rfl) (c_Ask 1 (.slice A l.length c) (S ([] : List UInt8)) Stp.plain (by first | trivial | (show nm.length ≤ 68719476736; omega) | (show st.length ≤ 68719476736; omega)) H) ?_
 rintro _ w3 ⟨rfl, H⟩
 replace H : Sep w0 w3 (.blk g 60 [.slice A l.length c, In 1, .iface 83 (.agg #[]), S ([] : List UInt8)] :: .row (.slice A l.length c) 39 2 l.length (us l) :: .blk h 78 [S nm, S sec, .iface 83 (.agg #[]), .bool once] :: F) := H
 refine ⟨(.inr trivial), ?_⟩
 replace H := H.front (i := 2) rfl
 replace H : Sep w0 w3 (.blk h 78 [S nm, S sec, .iface 83 (.agg #[]), .bool once] :: .blk g 60 [.slice A l.length c, In 1, .iface 83 (.agg #[]), S ([] : List UInt8)] :: .row (.slice A l.length c) 39 2 l.length (us l) :: F) := H
 refine HL_call (i := 6) (f := 112) (args := #[Pt h 0, S (enc [])]) rfl (by kernel_rfl) (by kernel_rfl) (by kernel_rfl) (by kernel_rfl) (c_cAnswer_plainE T hT gT R hR gR nm sec (by omega) (by omega) once [] (by rw [enc_len]; first | omega | (simp only [List.length_cons, List.length_nil]; omega)) H) ?_
 rintro _ w7 ⟨q4, hq5, hql6, rfl, H⟩
 replace H : Sep w0 w7 (.blk h 78 [S nm, S sec, .nilIface, .bool once] :: .blk g 60 [.slice A l.length c, In 1, .iface 83 (.agg #[]), S ([] : List UInt8)] :: .row (.slice A l.length c) 39 2 l.length (us l) :: F) := H
 refine ⟨(.inr trivial), ?_⟩
 refine HL_takes [7, 8, 9, 10, 11] [(0, Pt g 0), (1, .iface 73 (Pt h 0)), (5, S q4), (6, .int .i64 ((0 : Nat) : Int)), (7, .int .i64 ((0 : Nat) : Int))] (mkL 12 [0, 1, 3, 4, 5, 2, 6, 7, 8, 9, 10, 11]) 0 (by kernel_rfl) rfl (by kernel_rfl) (fun _ => by kernel_rfl) trivial (fun β => ?_)
 refine HL_forget [(0, Pt g 0), (1, .iface 73 (Pt h 0)), (5, S q4), (6, In 0), (7, In 0)] (by kernel_rfl) (fun β => ?_)
 refine HL_fin (by kernel_rfl) ?_
 refine thn_normal ?_
 refine G_sr ?_
 refine GL_s 5 5 [(0, Pt g 0), (1, .iface 73 (Pt h 0)), (7, In 0), (24, .bool false), (25, Pt g 0), (26, S q4)] fun β => ?_
 replace H := H.front (i := 2) rfl
 replace H := H.front (i := 2) rfl
 replace H : Sep w0 w7 (.blk g 60 [.slice A l.length c, In 1, .iface 83 (.agg #[]), S ([] : List UInt8)] :: .row (.slice A l.length c) 39 2 l.length (us l) :: .blk h 78 [S nm, S sec, .nilIface, .bool once] :: F) := H
 refine GL_C (c_AnswerE (e2 := 0) (n2 := 3) (s2 := Stp.plain) (nm2 := ([] : List UInt8)) T hT gT R hR gR 1 Stp.plain (by trivial) ([] : List UInt8) q4 (by omega) l (by first | omega | decide | (simp only [List.length_cons, List.length_nil]; omega)) hU H (by rw [hq5, ans_plain T R _ _ _ hz1 hz2, hb]; rfl)) ?_
 rintro _ w8 ⟨rfl, H⟩
 replace H : Sep w0 w8 (.blk g 60 [.slice A l.length c, In 3, .iface 83 (.agg #[]), S ([] : List UInt8)] :: .row (.slice A l.length c) 39 2 l.length (us l) :: .blk h 78 [S nm, S sec, .nilIface, .bool once] :: F) := H
 refine GL_st 2 8 [(0, Pt g 0), (1, .iface 73 (Pt h 0)), (7, In 0), (29, .bool false)] fun β => ?_
 refine G_false (by kernel_rfl) ?_
 refine G_skip ?_
 refine inb_normal ?_
 refine thn_normal ?_
 refine G_region ?_
 refine GL_st 2 2 [(0, Pt g 0), (1, .iface 73 (Pt h 0)), (7, In 1)] fun β => ?_
 refine GU_step ?_
 refine G_forget [(0, Pt g 0), (1, .iface 73 (Pt h 0)), (7, In 1)] (by kernel_rfl) (fun β => ?_)
 refine G_sr ?_
 refine GL_st 1 1 [(0, Pt g 0), (1, .iface 73 (Pt h 0)), (7, In 1), (8, .bool true)] fun β => ?_
 refine G_seq ?_
 refine G_true (by kernel_rfl) ?_
 refine G_skip ?_
 refine thn_normal ?_
 refine G_seq ?_
 refine G_block ?_
 refine G_seq ?_
 refine G_sr ?_
 refine GL_s 1 1 [(0, Pt g 0), (1, .iface 73 (Pt h 0)), (7, In 1), (9, Pt g 0)] fun β => ?_
 replace H : Sep w0 w8 (.blk g 60 [.slice A l.length c, In 3, .iface 83 (.agg #[]), S ([] : List UInt8)] :: .row (.slice A l.length c) 39 2 l.length (us l) :: .blk h 78 [S nm, S sec, .nilIface, .bool once] :: F) := H
 refine GL_C (c_State 3 (.slice A l.length c) (.iface 83 (.agg #[])) (S ([] : List UInt8)) H) ?_
 rintro _ w9 ⟨rfl, H⟩
 refine GL_st 1 3 [(0, Pt g 0), (1, .iface 73 (Pt h 0)), (7, In 1), (11, .bool true)] fun β => ?_
 refine G_true (by kernel_rfl) ?_
 refine G_sr ?_
 refine GL_st 1 1 [(4, .bool true)] fun β => ?_
 refine G_ret ?_
 refine thn_ret (inb_ret (thn_ret (thn_ret (inb_ret (thn_ret (res1 (v := .bool true) rfl (by kernel_rfl) ?_))))))
 replace H := H.front (i := 2) rfl
 replace H := H.front (i := 2) rfl
 replace H := H.front (i := 2) rfl
 replace H : Sep w0 w9 (.blk g 60 [.slice A l.length c, In 3, .iface 83 (.agg #[]), S ([] : List UInt8)] :: .row (.slice A l.length c) 39 2 l.length (us l) :: .blk h 78 [S nm, S sec, .nilIface, .bool once] :: F) := H
 exact ⟨rfl, H⟩
/-- posthorn/posthornlaw22.talk -/
theorem c_talk_login_true {w0 w : World} {F : List Chunk} (T : List UInt32) (hT : T.length = 64) (gT : Gl w0 1 (u32s T)) (R : List UInt8) (hR : R.length = 16) (gR : Gl w0 2 (bs R)) (l : List Str2) (hl : l.length ≤ 1099511627776) (hU : ∀ u ∈ l, u.1.length ≤ 549755813888 ∧ u.2.length ≤ 549755813888) (nm sec st : List UInt8) (hn : nm.length ≤ 16777216) (hs : sec.length ≤ 16777216) (hst : st.length ≤ 16777216) (once : Bool) (hz1 : (0 : UInt8) ∉ nm) (hz2 : (0 : UInt8) ∉ sec) (hb : (pairF l nm sec) = true) {g c h : Nat} {A : Option Addr} (H : Sep w0 w (.blk g 60 [.slice A l.length c, In 1, .iface 84 (.agg #[]), S ([] : List UInt8)] :: .row (.slice A l.length c) 39 2 l.length (us l) :: .blk h 78 [S nm, S sec, .iface 84 (.agg #[]), .bool once] :: F)) : Ret Try.prog 22 #[Pt g 0, .iface 73 (Pt h 0)] w (fun v w' => v = .bool true ∧ Sep w0 w' (.blk g 60 [.slice A l.length c, In 2, .iface 170 (.agg #[S nm]), S nm] :: .row (.slice A l.length c) 39 2 l.length (us l) :: .blk h 78 [S nm, S sec, .nilIface, .bool once] :: F)) := by
 refine Ret_enter (args := [Pt g 0, .iface 73 (Pt h 0)]) Try.func22 rfl (by kernel_rfl) ?_
 refine G_forget [(0, Pt g 0), (1, .iface 73 (Pt h 0))] (by kernel_rfl) (fun β => ?_)
 refine G_sr ?_
 refine GL_st 1 1 [(0, Pt g 0), (1, .iface 73 (Pt h 0))] fun β => ?_
 refine G_seq ?_
 refine G_sr ?_
 refine GL_st 1 1 [(0, Pt g 0), (1, .iface 73 (Pt h 0)), (7, In 0)] fun β => ?_
 refine G_block ?_
 refine G_un 4 ?_
 refine GU_step ?_
 refine G_forget [(0, Pt g 0), (1, .iface 73 (Pt h 0)), (7, In 0)] (by kernel_rfl) (fun β => ?_)
 refine G_sr ?_
 refine GL_st 1 1 [(0, Pt g 0), (1, .iface 73 (Pt h 0)), (7, In 0), (8, .bool true)] fun β => ?_
 refine G_seq ?_
 refine G_true (by kernel_rfl) ?_
 refine G_skip ?_
 refine thn_normal ?_
 refine G_seq ?_
 refine G_block ?_
 refine G_seq ?_
 refine G_sr ?_
 refine GL_s 1 1 [(0, Pt g 0), (1, .iface 73 (Pt h 0)), (7, In 0), (9, Pt g 0)] fun β => ?_
 replace H : Sep w0 w (.blk g 60 [.slice A l.length c, In 1, .iface 84 (.agg #[]), S ([] : List UInt8)] :: .row (.slice A l.length c) 39 2 l.length (us l) :: .blk h 78 [S nm, S sec, .iface 84 (.agg #[]), .bool once] :: F) := H
 refine GL_C (c_State 1 (.slice A l.length c) (.iface 84 (.agg #[])) (S ([] : List UInt8)) H) ?_
 rintro _ w1 ⟨rfl, H⟩
 refine GL_st 1 3 [(0, Pt g 0), (1, .iface 73 (Pt h 0)), (7, In 0), (11, .bool false)] fun β => ?_
 refine G_false (by kernel_rfl) ?_
 refine G_skip ?_
 refine thn_normal ?_
 refine G_seq ?_
 refine G_drawS (fun w => True) 12 12 (by kernel_rfl) (by kernel_rfl) H (fun w2 H => ?_)
 refine HL_takes [0, 1, 3, 4, 5] [(0, Pt g 0), (1, .iface 73 (Pt h 0)), (7, .int .i64 ((0 : Nat) : Int)), (14, Pt g 0), (18, .iface 73 (Pt h 0))] (mkL 12 [0, 1, 3, 4, 5]) 7 (by kernel_rfl) rfl (by kernel_rfl) (fun _ => by kernel_rfl) trivial (fun β => ?_)
 replace H : Sep w0 w2 (.blk g 60 [.slice A l.length c, In 1, .iface 84 (.agg #[]), S ([] : List UInt8)] :: .row (.slice A l.length c) 39 2 l.length (us l) :: .blk h 78 [S nm, S sec, .iface 84 (.agg #[]), .bool once] :: F) := H
 refine HL_call (i := 2) (f := 11) (args := #[Pt g 0]) rfl (by kernel_rfl) (by kernel_rfl) (by kernel_rfl) (by kernel_rfl) (c_Ask 1 (.slice A l.length c) (S ([] : List UInt8)) Stp.login (by first | trivial | (show nm.length ≤ 68719476736; omega) | (show st.length ≤ 68719476736; omega)) H) ?_
 rintro _ w3 ⟨rfl, H⟩
 replace H : Sep w0 w3 (.blk g 60 [.slice A l.length c, In 1, .iface 84 (.agg #[]), S ([] : List UInt8)] :: .row (.slice A l.length c) 39 2 l.length (us l) :: .blk h 78 [S nm, S sec, .iface 84 (.agg #[]), .bool once] :: F) := H
 refine ⟨(.inr trivial), ?_⟩
 replace H := H.front (i := 2) rfl
 replace H : Sep w0 w3 (.blk h 78 [S nm, S sec, .iface 84 (.agg #[]), .bool once] :: .blk g 60 [.slice A l.length c, In 1, .iface 84 (.agg #[]), S ([] : List UInt8)] :: .row (.slice A l.length c) 39 2 l.length (us l) :: F) := H
 refine HL_call (i := 6) (f := 112) (args := #[Pt h 0, S (enc [85, 115, 101, 114, 110, 97, 109, 101, 58])]) rfl (by kernel_rfl) (by kernel_rfl) (by kernel_rfl) (by kernel_rfl) (c_cAnswer_loginE T hT gT R hR gR nm sec (by omega) (by omega) once [85, 115, 101, 114, 110, 97, 109, 101, 58] (by rw [enc_len]; first | omega | (simp only [List.length_cons, List.length_nil]; omega)) H) ?_
 rintro _ w7 ⟨q4, hq5, hql6, rfl, H⟩
 replace H : Sep w0 w7 (.blk h 78 [S nm, S sec, .iface 170 (.agg #[S nm]), .bool once] :: .blk g 60 [.slice A l.length c, In 1, .iface 84 (.agg #[]), S ([] : List UInt8)] :: .row (.slice A l.length c) 39 2 l.length (us l) :: F) := H
 refine ⟨(.inr trivial), ?_⟩
 refine HL_takes [7, 8, 9, 10, 11] [(0, Pt g 0), (1, .iface 73 (Pt h 0)), (5, S q4), (6, .int .i64 ((0 : Nat) : Int)), (7, .int .i64 ((0 : Nat) : Int))] (mkL 12 [0, 1, 3, 4, 5, 2, 6, 7, 8, 9, 10, 11]) 0 (by kernel_rfl) rfl (by kernel_rfl) (fun _ => by kernel_rfl) trivial (fun β => ?_)
 refine HL_forget [(0, Pt g 0), (1, .iface 73 (Pt h 0)), (5, S q4), (6, In 0), (7, In 0)] (by kernel_rfl) (fun β => ?_)
 refine HL_fin (by kernel_rfl) ?_
 refine thn_normal ?_
 refine G_sr ?_
 refine GL_s 5 5 [(0, Pt g 0), (1, .iface 73 (Pt h 0)), (7, In 0), (24, .bool false), (25, Pt g 0), (26, S q4)] fun β => ?_
 replace H := H.front (i := 2) rfl
 replace H := H.front (i := 2) rfl
 replace H : Sep w0 w7 (.blk g 60 [.slice A l.length c, In 1, .iface 84 (.agg #[]), S ([] : List UInt8)] :: .row (.slice A l.length c) 39 2 l.length (us l) :: .blk h 78 [S nm, S sec, .iface 170 (.agg #[S nm]), .bool once] :: F) := H
 refine GL_C (c_AnswerE (e2 := 0) (n2 := 1) (s2 := (Stp.word nm)) (nm2 := ([] : List UInt8)) T hT gT R hR gR 1 Stp.login (by trivial) ([] : List UInt8) q4 (by omega) l (by first | omega | decide | (simp only [List.length_cons, List.length_nil]; omega)) hU H (by rw [hq5]; exact ans_login T R _ _)) ?_
 rintro _ w8 ⟨rfl, H⟩
 replace H : Sep w0 w8 (.blk g 60 [.slice A l.length c, In 1, .iface 170 (.agg #[S nm]), S ([] : List UInt8)] :: .row (.slice A l.length c) 39 2 l.length (us l) :: .blk h 78 [S nm, S sec, .iface 170 (.agg #[S nm]), .bool once] :: F) := H
 refine GL_st 2 8 [(0, Pt g 0), (1, .iface 73 (Pt h 0)), (7, In 0), (29, .bool false)] fun β => ?_
 refine G_false (by kernel_rfl) ?_
 refine G_skip ?_
 refine inb_normal ?_
 refine thn_normal ?_
 refine G_region ?_
 refine GL_st 2 2 [(0, Pt g 0), (1, .iface 73 (Pt h 0)), (7, In 1)] fun β => ?_
 refine GU_step ?_
 refine G_forget [(0, Pt g 0), (1, .iface 73 (Pt h 0)), (7, In 1)] (by kernel_rfl) (fun β => ?_)
 refine G_sr ?_
 refine GL_st 1 1 [(0, Pt g 0), (1, .iface 73 (Pt h 0)), (7, In 1), (8, .bool true)] fun β => ?_
 refine G_seq ?_
 refine G_true (by kernel_rfl) ?_
 refine G_skip ?_
 refine thn_normal ?_
 refine G_seq ?_
 refine G_block ?_
 refine G_seq ?_
 refine G_sr ?_
 refine GL_s 1 1 [(0, Pt g 0), (1, .iface 73 (Pt h 0)), (7, In 1), (9, Pt g 0)] fun β => ?_
 replace H : Sep w0 w8 (.blk g 60 [.slice A l.length c, In 1, .iface 170 (.agg #[S nm]), S ([] : List UInt8)] :: .row (.slice A l.length c) 39 2 l.length (us l) :: .blk h 78 [S nm, S sec, .iface 170 (.agg #[S nm]), .bool once] :: F) := H
 refine GL_C (c_State 1 (.slice A l.length c) (.iface 170 (.agg #[S nm])) (S ([] : List UInt8)) H) ?_
 rintro _ w9 ⟨rfl, H⟩
 refine GL_st 1 3 [(0, Pt g 0), (1, .iface 73 (Pt h 0)), (7, In 1), (11, .bool false)] fun β => ?_
 refine G_false (by kernel_rfl) ?_
 refine G_skip ?_
 refine thn_normal ?_
 refine G_seq ?_
 refine G_drawS (fun w => True) 12 12 (by kernel_rfl) (by kernel_rfl) H (fun w10 H => ?_)
 refine HL_takes [0, 1, 3, 4, 5] [(0, Pt g 0), (1, .iface 73 (Pt h 0)), (7, .int .i64 ((1 : Nat) : Int)), (14, Pt g 0), (18, .iface 73 (Pt h 0))] (mkL 12 [0, 1, 3, 4, 5]) 7 (by kernel_rfl) rfl (by kernel_rfl) (fun _ => by kernel_rfl) trivial (fun β => ?_)
 replace H : Sep w0 w10 (.blk g 60 [.slice A l.length c, In 1, .iface 170 (.agg #[S nm]), S ([] : List UInt8)] :: .row (.slice A l.length c) 39 2 l.length (us l) :: .blk h 78 [S nm, S sec, .iface 170 (.agg #[S nm]), .bool once] :: F) := H
 refine HL_call (i := 2) (f := 11) (args := #[Pt g 0]) rfl (by kernel_rfl) (by kernel_rfl) (by kernel_rfl) (by kernel_rfl) (c_Ask 1 (.slice A l.length c) (S ([] : List UInt8)) (Stp.word nm) (by first | trivial | (show nm.length ≤ 68719476736; omega) | (show st.length ≤ 68719476736; omega)) H) ?_
 rintro _ w11 ⟨rfl, H⟩
 replace H : Sep w0 w11 (.blk g 60 [.slice A l.length c, In 1, .iface 170 (.agg #[S nm]), S ([] : List UInt8)] :: .row (.slice A l.length c) 39 2 l.length (us l) :: .blk h 78 [S nm, S sec, .iface 170 (.agg #[S nm]), .bool once] :: F) := H
 refine ⟨(.inr trivial), ?_⟩
 replace H := H.front (i := 2) rfl
 replace H : Sep w0 w11 (.blk h 78 [S nm, S sec, .iface 170 (.agg #[S nm]), .bool once] :: .blk g 60 [.slice A l.length c, In 1, .iface 170 (.agg #[S nm]), S ([] : List UInt8)] :: .row (.slice A l.length c) 39 2 l.length (us l) :: F) := H
 refine HL_call (i := 6) (f := 112) (args := #[Pt h 0, S (enc [80, 97, 115, 115, 119, 111, 114, 100, 58])]) rfl (by kernel_rfl) (by kernel_rfl) (by kernel_rfl) (by kernel_rfl) (c_cAnswer_wordE T hT gT R hR gR nm sec (by omega) (by omega) once nm [80, 97, 115, 115, 119, 111, 114, 100, 58] (by rw [enc_len]; first | omega | (simp only [List.length_cons, List.length_nil]; omega)) H) ?_
 rintro _ w15 ⟨q12, hq13, hql14, rfl, H⟩
 replace H : Sep w0 w15 (.blk h 78 [S nm, S sec, .nilIface, .bool once] :: .blk g 60 [.slice A l.length c, In 1, .iface 170 (.agg #[S nm]), S ([] : List UInt8)] :: .row (.slice A l.length c) 39 2 l.length (us l) :: F) := H
 refine ⟨(.inr trivial), ?_⟩
 refine HL_takes [7, 8, 9, 10, 11] [(0, Pt g 0), (1, .iface 73 (Pt h 0)), (5, S q12), (6, .int .i64 ((0 : Nat) : Int)), (7, .int .i64 ((1 : Nat) : Int))] (mkL 12 [0, 1, 3, 4, 5, 2, 6, 7, 8, 9, 10, 11]) 0 (by kernel_rfl) rfl (by kernel_rfl) (fun _ => by kernel_rfl) trivial (fun β => ?_)
 refine HL_forget [(0, Pt g 0), (1, .iface 73 (Pt h 0)), (5, S q12), (6, In 0), (7, In 1)] (by kernel_rfl) (fun β => ?_)
 refine HL_fin (by kernel_rfl) ?_
 refine thn_normal ?_
 refine G_sr ?_
 refine GL_s 5 5 [(0, Pt g 0), (1, .iface 73 (Pt h 0)), (7, In 1), (24, .bool false), (25, Pt g 0), (26, S q12)] fun β => ?_
 replace H := H.front (i := 2) rfl
 replace H := H.front (i := 2) rfl
 replace H : Sep w0 w15 (.blk g 60 [.slice A l.length c, In 1, .iface 170 (.agg #[S nm]), S ([] : List UInt8)] :: .row (.slice A l.length c) 39 2 l.length (us l) :: .blk h 78 [S nm, S sec, .nilIface, .bool once] :: F) := H
 refine GL_C (c_AnswerE (e2 := 0) (n2 := 2) (s2 := (Stp.word nm)) (nm2 := nm) T hT gT R hR gR 1 (Stp.word nm) (by show nm.length ≤ 68719476736; omega) ([] : List UInt8) q12 (by omega) l (by first | omega | decide | (simp only [List.length_cons, List.length_nil]; omega)) hU H (by rw [hq13, ans_word T R _ _ _, hb]; rfl)) ?_
 rintro _ w16 ⟨rfl, H⟩
 replace H : Sep w0 w16 (.blk g 60 [.slice A l.length c, In 2, .iface 170 (.agg #[S nm]), S nm] :: .row (.slice A l.length c) 39 2 l.length (us l) :: .blk h 78 [S nm, S sec, .nilIface, .bool once] :: F) := H
 refine GL_st 2 8 [(0, Pt g 0), (1, .iface 73 (Pt h 0)), (7, In 1), (29, .bool false)] fun β => ?_
 refine G_false (by kernel_rfl) ?_
 refine G_skip ?_
 refine inb_normal ?_
 refine thn_normal ?_
 refine G_region ?_
 refine GL_st 2 2 [(0, Pt g 0), (1, .iface 73 (Pt h 0)), (7, In 2)] fun β => ?_
 refine GU_step ?_
 refine G_forget [(0, Pt g 0), (1, .iface 73 (Pt h 0)), (7, In 2)] (by kernel_rfl) (fun β => ?_)
 refine G_sr ?_
 refine GL_st 1 1 [(0, Pt g 0), (1, .iface 73 (Pt h 0)), (7, In 2), (8, .bool true)] fun β => ?_
 refine G_seq ?_
 refine G_true (by kernel_rfl) ?_
 refine G_skip ?_
 refine thn_normal ?_
 refine G_seq ?_
 refine G_block ?_
 refine G_seq ?_
 refine G_sr ?_
 refine GL_s 1 1 [(0, Pt g 0), (1, .iface 73 (Pt h 0)), (7, In 2), (9, Pt g 0)] fun β => ?_
 replace H : Sep w0 w16 (.blk g 60 [.slice A l.length c, In 2, .iface 170 (.agg #[S nm]), S nm] :: .row (.slice A l.length c) 39 2 l.length (us l) :: .blk h 78 [S nm, S sec, .nilIface, .bool once] :: F) := H
 refine GL_C (c_State 2 (.slice A l.length c) (.iface 170 (.agg #[S nm])) (S nm) H) ?_
 rintro _ w17 ⟨rfl, H⟩
 refine GL_st 1 3 [(0, Pt g 0), (1, .iface 73 (Pt h 0)), (7, In 2), (11, .bool true)] fun β => ?_
 refine G_true (by kernel_rfl) ?_
 refine G_sr ?_
 refine GL_st 1 1 [(4, .bool true)] fun β => ?_
 refine G_ret ?_
 refine thn_ret (inb_ret (thn_ret (thn_ret (inb_ret (thn_ret (res1 (v := .bool true) rfl (by kernel_rfl) ?_))))))
 replace H := H.front (i := 2) rfl
 replace H := H.front (i := 2) rfl
 replace H := H.front (i := 2) rfl
 replace H : Sep w0 w17 (.blk g 60 [.slice A l.length c, In 2, .iface 170 (.agg #[S nm]), S nm] :: .row (.slice A l.length c) 39 2 l.length (us l) :: .blk h 78 [S nm, S sec, .nilIface, .bool once] :: F) := H
 exact ⟨rfl, H⟩
/-- posthorn/posthornlaw22.talk -/
theorem c_talk_login_false {w0 w : World} {F : List Chunk} (T : List UInt32) (hT : T.length = 64) (gT : Gl w0 1 (u32s T)) (R : List UInt8) (hR : R.length = 16) (gR : Gl w0 2 (bs R)) (l : List Str2) (hl : l.length ≤ 1099511627776) (hU : ∀ u ∈ l, u.1.length ≤ 549755813888 ∧ u.2.length ≤ 549755813888) (nm sec st : List UInt8) (hn : nm.length ≤ 16777216) (hs : sec.length ≤ 16777216) (hst : st.length ≤ 16777216) (once : Bool) (hz1 : (0 : UInt8) ∉ nm) (hz2 : (0 : UInt8) ∉ sec) (hb : (pairF l nm sec) = false) {g c h : Nat} {A : Option Addr} (H : Sep w0 w (.blk g 60 [.slice A l.length c, In 1, .iface 84 (.agg #[]), S ([] : List UInt8)] :: .row (.slice A l.length c) 39 2 l.length (us l) :: .blk h 78 [S nm, S sec, .iface 84 (.agg #[]), .bool once] :: F)) : Ret Try.prog 22 #[Pt g 0, .iface 73 (Pt h 0)] w (fun v w' => v = .bool true ∧ Sep w0 w' (.blk g 60 [.slice A l.length c, In 3, .iface 170 (.agg #[S nm]), S ([] : List UInt8)] :: .row (.slice A l.length c) 39 2 l.length (us l) :: .blk h 78 [S nm, S sec, .nilIface, .bool once] :: F)) := by
 refine Ret_enter (args := [Pt g 0, .iface 73 (Pt h 0)]) Try.func22 rfl (by kernel_rfl) ?_
 refine G_forget [(0, Pt g 0), (1, .iface 73 (Pt h 0))] (by kernel_rfl) (fun β => ?_)
 refine G_sr ?_
 refine GL_st 1 1 [(0, Pt g 0), (1, .iface 73 (Pt h 0))] fun β => ?_
 refine G_seq ?_
 refine G_sr ?_
 refine GL_st 1 1 [(0, Pt g 0), (1, .iface 73 (Pt h 0)), (7, In 0)] fun β => ?_
 refine G_block ?_
 refine G_un 4 ?_
 refine GU_step ?_
 refine G_forget [(0, Pt g 0), (1, .iface 73 (Pt h 0)), (7, In 0)] (by kernel_rfl) (fun β => ?_)
 refine G_sr ?_
 refine GL_st 1 1 [(0, Pt g 0), (1, .iface 73 (Pt h 0)), (7, In 0), (8, .bool true)] fun β => ?_
 refine G_seq ?_
 refine G_true (by kernel_rfl) ?_
 refine G_skip ?_
 refine thn_normal ?_
 refine G_seq ?_
 refine G_block ?_
 refine G_seq ?_
 refine G_sr ?_
 refine GL_s 1 1 [(0, Pt g 0), (1, .iface 73 (Pt h 0)), (7, In 0), (9, Pt g 0)] fun β => ?_
 replace H : Sep w0 w (.blk g 60 [.slice A l.length c, In 1, .iface 84 (.agg #[]), S ([] : List UInt8)] :: .row (.slice A l.length c) 39 2 l.length (us l) :: .blk h 78 [S nm, S sec, .iface 84 (.agg #[]), .bool once] :: F) := H
 refine GL_C (c_State 1 (.slice A l.length c) (.iface 84 (.agg #[])) (S ([] : List UInt8)) H) ?_
 rintro _ w1 ⟨rfl, H⟩
 refine GL_st 1 3 [(0, Pt g 0), (1, .iface 73 (Pt h 0)), (7, In 0), (11, .bool false)] fun β => ?_
 refine G_false (by kernel_rfl) ?_
 refine G_skip ?_
 refine thn_normal ?_
 refine G_seq ?_
 refine G_drawS (fun w => True) 12 12 (by kernel_rfl) (by kernel_rfl) H (fun w2 H => ?_)
 refine HL_takes [0, 1, 3, 4, 5] [(0, Pt g 0), (1, .iface 73 (Pt h 0)), (7, .int .i64 ((0 : Nat) : Int)), (14, Pt g 0), (18, .iface 73 (Pt h 0))] (mkL 12 [0, 1, 3, 4, 5]) 7 (by kernel_rfl) rfl (by kernel_rfl) (fun _ => by kernel_rfl) trivial (fun β => ?_)
 replace H : Sep w0 w2 (.blk g 60 [.slice A l.length c, In 1, .iface 84 (.agg #[]), S ([] : List UInt8)] :: .row (.slice A l.length c) 39 2 l.length (us l) :: .blk h 78 [S nm, S sec, .iface 84 (.agg #[]), .bool once] :: F) := H
 refine HL_call (i := 2) (f := 11) (args := #[Pt g 0]) rfl (by kernel_rfl) (by kernel_rfl) (by kernel_rfl) (by kernel_rfl) (c_Ask 1 (.slice A l.length c) (S ([] : List UInt8)) Stp.login (by first | trivial | (show nm.length ≤ 68719476736; omega) | (show st.length ≤ 68719476736; omega)) H) ?_
 rintro _ w3 ⟨rfl, H⟩
 replace H : Sep w0 w3 (.blk g 60 [.slice A l.length c, In 1, .iface 84 (.agg #[]), S ([] : List UInt8)] :: .row (.slice A l.length c) 39 2 l.length (us l) :: .blk h 78 [S nm, S sec, .iface 84 (.agg #[]), .bool once] :: F) := H
 refine ⟨(.inr trivial), ?_⟩
 replace H := H.front (i := 2) rfl
 replace H : Sep w0 w3 (.blk h 78 [S nm, S sec, .iface 84 (.agg #[]), .bool once] :: .blk g 60 [.slice A l.length c, In 1, .iface 84 (.agg #[]), S ([] : List UInt8)] :: .row (.slice A l.length c) 39 2 l.length (us l) :: F) := H
 refine HL_call (i := 6) (f := 112) (args := #[Pt h 0, S (enc [85, 115, 101, 114, 110, 97, 109, 101, 58])]) rfl (by kernel_rfl) (by kernel_rfl) (by kernel_rfl) (by kernel_rfl) (c_cAnswer_loginE T hT gT R hR gR nm sec (by omega) (by omega) once [85, 115, 101, 114, 110, 97, 109, 101, 58] (by rw [enc_len]; first | omega | (simp only [List.length_cons, List.length_nil]; omega)) H) ?_
 rintro _ w7 ⟨q4, hq5, hql6, rfl, H⟩
 replace H : Sep w0 w7 (.blk h 78 [S nm, S sec, .iface 170 (.agg #[S nm]), .bool once] :: .blk g 60 [.slice A l.length c, In 1, .iface 84 (.agg #[]), S ([] : List UInt8)] :: .row (.slice A l.length c) 39 2 l.length (us l) :: F) := H
 refine ⟨(.inr trivial), ?_⟩
 refine HL_takes [7, 8, 9, 10, 11] [(0, Pt g 0), (1, .iface 73 (Pt h 0)), (5, S q4), (6, .int .i64 ((0 : Nat) : Int)), (7, .int .i64 ((0 : Nat) : Int))] (mkL 12 [0, 1, 3, 4, 5, 2, 6, 7, 8, 9, 10, 11]) 0 (by kernel_rfl) rfl (by kernel_rfl) (fun _ => by kernel_rfl) trivial (fun β => ?_)
 refine HL_forget [(0, Pt g 0), (1, .iface 73 (Pt h 0)), (5, S q4), (6, In 0), (7, In 0)] (by kernel_rfl) (fun β => ?_)
 refine HL_fin (by kernel_rfl) ?_
 refine thn_normal ?_
 refine G_sr ?_
 refine GL_s 5 5 [(0, Pt g 0), (1, .iface 73 (Pt h 0)), (7, In 0), (24, .bool false), (25, Pt g 0), (26, S q4)] fun β => ?_
 replace H := H.front (i := 2) rfl
 replace H := H.front (i := 2) rfl
 replace H : Sep w0 w7 (.blk g 60 [.slice A l.length c, In 1, .iface 84 (.agg #[]), S ([] : List UInt8)] :: .row (.slice A l.length c) 39 2 l.length (us l) :: .blk h 78 [S nm, S sec, .iface 170 (.agg #[S nm]), .bool once] :: F) := H
 refine GL_C (c_AnswerE (e2 := 0) (n2 := 1) (s2 := (Stp.word nm)) (nm2 := ([] : List UInt8)) T hT gT R hR gR 1 Stp.login (by trivial) ([] : List UInt8) q4 (by omega) l (by first | omega | decide | (simp only [List.length_cons, List.length_nil]; omega)) hU H (by rw [hq5]; exact ans_login T R _ _)) ?_
 rintro _ w8 ⟨rfl, H⟩
 replace H : Sep w0 w8 (.blk g 60 [.slice A l.length c, In 1, .iface 170 (.agg #[S nm]), S ([] : List UInt8)] :: .row (.slice A l.length c) 39 2 l.length (us l) :: .blk h 78 [S nm, S sec, .iface 170 (.agg #[S nm]), .bool once] :: F) := H
 refine GL_st 2 8 [(0, Pt g 0), (1, .iface 73 (Pt h 0)), (7, In 0), (29, .bool false)] fun β => ?_
 refine G_false (by kernel_rfl) ?_
 refine G_skip ?_
 refine inb_normal ?_
 refine thn_normal ?_
 refine G_region ?_
 refine GL_st 2 2 [(0, Pt g 0), (1, .iface 73 (Pt h 0)), (7, In 1)] fun β => ?_
 refine GU_step ?_
 refine G_forget [(0, Pt g 0), (1, .iface 73 (Pt h 0)), (7, In 1)] (by kernel_rfl) (fun β => ?_)
 refine G_sr ?_
 refine GL_st 1 1 [(0, Pt g 0), (1, .iface 73 (Pt h 0)), (7, In 1), (8, .bool true)] fun β => ?_
 refine G_seq ?_
 refine G_true (by kernel_rfl) ?_
 refine G_skip ?_
 refine thn_normal ?_
 refine G_seq ?_
 refine G_block ?_
 refine G_seq ?_
 refine G_sr ?_
 refine GL_s 1 1 [(0, Pt g 0), (1, .iface 73 (Pt h 0)), (7, In 1), (9, Pt g 0)] fun β => ?_
 replace H : Sep w0 w8 (.blk g 60 [.slice A l.length c, In 1, .iface 170 (.agg #[S nm]), S ([] : List UInt8)] :: .row (.slice A l.length c) 39 2 l.length (us l) :: .blk h 78 [S nm, S sec, .iface 170 (.agg #[S nm]), .bool once] :: F) := H
 refine GL_C (c_State 1 (.slice A l.length c) (.iface 170 (.agg #[S nm])) (S ([] : List UInt8)) H) ?_
 rintro _ w9 ⟨rfl, H⟩
 refine GL_st 1 3 [(0, Pt g 0), (1, .iface 73 (Pt h 0)), (7, In 1), (11, .bool false)] fun β => ?_
 refine G_false (by kernel_rfl) ?_
 refine G_skip ?_
 refine thn_normal ?_
 refine G_seq ?_
 refine G_drawS (fun w => True) 12 12 (by kernel_rfl) (by kernel_rfl) H (fun w10 H => ?_)
 refine HL_takes [0, 1, 3, 4, 5] [(0, Pt g 0), (1, .iface 73 (Pt h 0)), (7, .int .i64 ((1 : Nat) : Int)), (14, Pt g 0), (18, .iface 73 (Pt h 0))] (mkL 12 [0, 1, 3, 4, 5]) 7 (by kernel_rfl) rfl (by kernel_rfl) (fun _ => by kernel_rfl) trivial (fun β => ?_)
 replace H : Sep w0 w10 (.blk g 60 [.slice A l.length c, In 1, .iface 170 (.agg #[S nm]), S ([] : List UInt8)] :: .row (.slice A l.length c) 39 2 l.length (us l) :: .blk h 78 [S nm, S sec, .iface 170 (.agg #[S nm]), .bool once] :: F) := H
 refine HL_call (i := 2) (f := 11) (args := #[Pt g 0]) rfl (by kernel_rfl) (by kernel_rfl) (by kernel_rfl) (by kernel_rfl) (c_Ask 1 (.slice A l.length c) (S ([] : List UInt8)) (Stp.word nm) (by first | trivial | (show nm.length ≤ 68719476736; omega) | (show st.length ≤ 68719476736; omega)) H) ?_
 rintro _ w11 ⟨rfl, H⟩
 replace H : Sep w0 w11 (.blk g 60 [.slice A l.length c, In 1, .iface 170 (.agg #[S nm]), S ([] : List UInt8)] :: .row (.slice A l.length c) 39 2 l.length (us l) :: .blk h 78 [S nm, S sec, .iface 170 (.agg #[S nm]), .bool once] :: F) := H
 refine ⟨(.inr trivial), ?_⟩
 replace H := H.front (i := 2) rfl
 replace H : Sep w0 w11 (.blk h 78 [S nm, S sec, .iface 170 (.agg #[S nm]), .bool once] :: .blk g 60 [.slice A l.length c, In 1, .iface 170 (.agg #[S nm]), S ([] : List UInt8)] :: .row (.slice A l.length c) 39 2 l.length (us l) :: F) := H
 refine HL_call (i := 6) (f := 112) (args := #[Pt h 0, S (enc [80, 97, 115, 115, 119, 111, 114, 100, 58])]) rfl (by kernel_rfl) (by kernel_rfl) (by kernel_rfl) (by kernel_rfl) (c_cAnswer_wordE T hT gT R hR gR nm sec (by omega) (by omega) once nm [80, 97, 115, 115, 119, 111, 114, 100, 58] (by rw [enc_len]; first | omega | (simp only [List.length_cons, List.length_nil]; omega)) H) ?_
 rintro _ w15 ⟨q12, hq13, hql14, rfl, H⟩
 replace H : Sep w0 w15 (.blk h 78 [S nm, S sec, .nilIface, .bool once] :: .blk g 60 [.slice A l.length c, In 1, .iface 170 (.agg #[S nm]), S ([] : List UInt8)] :: .row (.slice A l.length c) 39 2 l.length (us l) :: F) := H
 refine ⟨(.inr trivial), ?_⟩
 refine HL_takes [7, 8, 9, 10, 11] [(0, Pt g 0), (1, .iface 73 (Pt h 0)), (5, S q12), (6, .int .i64 ((0 : Nat) : Int)), (7, .int .i64 ((1 : Nat) : Int))] (mkL 12 [0, 1, 3, 4, 5, 2, 6, 7, 8, 9, 10, 11]) 0 (by kernel_rfl) rfl (by kernel_rfl) (fun _ => by kernel_rfl) trivial (fun β => ?_)
 refine HL_forget [(0, Pt g 0), (1, .iface 73 (Pt h 0)), (5, S q12), (6, In 0), (7, In 1)] (by kernel_rfl) (fun β => ?_)
 refine HL_fin (by kernel_rfl) ?_
 refine thn_normal ?_
 refine G_sr ?_
 refine GL_s 5 5 [(0, Pt g 0), (1, .iface 73 (Pt h 0)), (7, In 1), (24, .bool false), (25, Pt g 0), (26, S q12)] fun β => ?_
 replace H := H.front (i := 2) rfl
 replace H := H.front (i := 2) rfl
 replace H : Sep w0 w15 (.blk g 60 [.slice A l.length c, In 1, .iface 170 (.agg #[S nm]), S ([] : List UInt8)] :: .row (.slice A l.length c) 39 2 l.length (us l) :: .blk h 78 [S nm, S sec, .nilIface, .bool once] :: F) := H
 refine GL_C (c_AnswerE (e2 := 0) (n2 := 3) (s2 := (Stp.word nm)) (nm2 := ([] : List UInt8)) T hT gT R hR gR 1 (Stp.word nm) (by show nm.length ≤ 68719476736; omega) ([] : List UInt8) q12 (by omega) l (by first | omega | decide | (simp only [List.length_cons, List.length_nil]; omega)) hU H (by rw [hq13, ans_word T R _ _ _, hb]; rfl)) ?_
 rintro _ w16 ⟨rfl, H⟩
 replace H : Sep w0 w16 (.blk g 60 [.slice A l.length c, In 3, .iface 170 (.agg #[S nm]), S ([] : List UInt8)] :: .row (.slice A l.length c) 39 2 l.length (us l) :: .blk h 78 [S nm, S sec, .nilIface, .bool once] :: F) := H
 refine GL_st 2 8 [(0, Pt g 0), (1, .iface 73 (Pt h 0)), (7, In 1), (29, .bool false)] fun β => ?_
 refine G_false (by kernel_rfl) ?_
 refine G_skip ?_
 refine inb_normal ?_
 refine thn_normal ?_
 refine G_region ?_
 refine GL_st 2 2 [(0, Pt g 0), (1, .iface 73 (Pt h 0)), (7, In 2)] fun β => ?_
 refine GU_step ?_
 refine G_forget [(0, Pt g 0), (1, .iface 73 (Pt h 0)), (7, In 2)] (by kernel_rfl) (fun β => ?_)
 refine G_sr ?_
 refine GL_st 1 1 [(0, Pt g 0), (1, .iface 73 (Pt h 0)), (7, In 2), (8, .bool true)] fun β => ?_
 refine G_seq ?_
 refine G_true (by kernel_rfl) ?_
 refine G_skip ?_
 refine thn_normal ?_
 refine G_seq ?_
 refine G_block ?_
 refine G_seq ?_
 refine G_sr ?_
 refine GL_s 1 1 [(0, Pt g 0), (1, .iface 73 (Pt h 0)), (7, In 2), (9, Pt g 0)] fun β => ?_
 replace H : Sep w0 w16 (.blk g 60 [.slice A l.length c, In 3, .iface 170 (.agg #[S nm]), S ([] : List UInt8)] :: .row (.slice A l.length c) 39 2 l.length (us l) :: .blk h 78 [S nm, S sec, .nilIface, .bool once] :: F) := H
 refine GL_C (c_State 3 (.slice A l.length c) (.iface 170 (.agg #[S nm])) (S ([] : List UInt8)) H) ?_
 rintro _ w17 ⟨rfl, H⟩
 refine GL_st 1 3 [(0, Pt g 0), (1, .iface 73 (Pt h 0)), (7, In 2), (11, .bool true)] fun β => ?_
 refine G_true (by kernel_rfl) ?_
 refine G_sr ?_
 refine GL_st 1 1 [(4, .bool true)] fun β => ?_
 refine G_ret ?_
 refine thn_ret (inb_ret (thn_ret (thn_ret (inb_ret (thn_ret (res1 (v := .bool true) rfl (by kernel_rfl) ?_))))))
 replace H := H.front (i := 2) rfl
 replace H := H.front (i := 2) rfl
 replace H := H.front (i := 2) rfl
 replace H : Sep w0 w17 (.blk g 60 [.slice A l.length c, In 3, .iface 170 (.agg #[S nm]), S ([] : List UInt8)] :: .row (.slice A l.length c) 39 2 l.length (us l) :: .blk h 78 [S nm, S sec, .nilIface, .bool once] :: F) := H
 exact ⟨rfl, H⟩
/-- posthorn/posthornlaw22.talk -/
theorem c_talk_cram_true {w0 w : World} {F : List Chunk} (T : List UInt32) (hT : T.length = 64) (gT : Gl w0 1 (u32s T)) (R : List UInt8) (hR : R.length = 16) (gR : Gl w0 2 (bs R)) (l : List Str2) (hl : l.length ≤ 1099511627776) (hU : ∀ u ∈ l, u.1.length ≤ 549755813888 ∧ u.2.length ≤ 549755813888) (nm sec st : List UInt8) (hn : nm.length ≤ 16777216) (hs : sec.length ≤ 16777216) (hst : st.length ≤ 16777216) (once : Bool) (hz1 : (0 : UInt8) ∉ nm) (hz2 : (0 : UInt8) ∉ sec) (hb : (crP T R l st nm (dgF T R sec st)) = true) {g c h : Nat} {A : Option Addr} (H : Sep w0 w (.blk g 60 [.slice A l.length c, In 1, .iface 62 (.agg #[S st]), S ([] : List UInt8)] :: .row (.slice A l.length c) 39 2 l.length (us l) :: .blk h 78 [S nm, S sec, .iface 62 (.agg #[S ([] : List UInt8)]), .bool once] :: F)) : Ret Try.prog 22 #[Pt g 0, .iface 73 (Pt h 0)] w (fun v w' => v = .bool true ∧ Sep w0 w' (.blk g 60 [.slice A l.length c, In 2, .iface 62 (.agg #[S st]), S nm] :: .row (.slice A l.length c) 39 2 l.length (us l) :: .blk h 78 [S nm, S sec, .nilIface, .bool once] :: F)) := by
 refine Ret_enter (args := [Pt g 0, .iface 73 (Pt h 0)]) Try.func22 rfl (by kernel_rfl) ?_
 refine G_forget [(0, Pt g 0), (1, .iface 73 (Pt h 0))] (by kernel_rfl) (fun β => ?_)
 refine G_sr ?_
 refine GL_st 1 1 [(0, Pt g 0), (1, .iface 73 (Pt h 0))] fun β => ?_
 refine G_seq ?_
 refine G_sr ?_
 refine GL_st 1 1 [(0, Pt g 0), (1, .iface 73 (Pt h 0)), (7, In 0)] fun β => ?_
 refine G_block ?_
 refine G_un 4 ?_
 refine GU_step ?_
 refine G_forget [(0, Pt g 0), (1, .iface 73 (Pt h 0)), (7, In 0)] (by kernel_rfl) (fun β => ?_)
 refine G_sr ?_
 refine GL_st 1 1 [(0, Pt g 0), (1, .iface 73 (Pt h 0)), (7, In 0), (8, .bool true)] fun β => ?_
 refine G_seq ?_
 refine G_true (by kernel_rfl) ?_
 refine G_skip ?_
 refine thn_normal ?_
 refine G_seq ?_
 refine G_block ?_
 refine G_seq ?_
 refine G_sr ?_
 refine GL_s 1 1 [(0, Pt g 0), (1, .iface 73 (Pt h 0)), (7, In 0), (9, Pt g 0)] fun β => ?_
 replace H : Sep w0 w (.blk g 60 [.slice A l.length c, In 1, .iface 62 (.agg #[S st]), S ([] : List UInt8)] :: .row (.slice A l.length c) 39 2 l.length (us l) :: .blk h 78 [S nm, S sec, .iface 62 (.agg #[S ([] : List UInt8)]), .bool once] :: F) := H
 refine GL_C (c_State 1 (.slice A l.length c) (.iface 62 (.agg #[S st])) (S ([] : List UInt8)) H) ?_
 rintro _ w1 ⟨rfl, H⟩
 refine GL_st 1 3 [(0, Pt g 0), (1, .iface 73 (Pt h 0)), (7, In 0), (11, .bool false)] fun β => ?_
 refine G_false (by kernel_rfl) ?_
 refine G_skip ?_
 refine thn_normal ?_
 refine G_seq ?_
 refine G_drawS (fun w => True) 12 12 (by kernel_rfl) (by kernel_rfl) H (fun w2 H => ?_)
 refine HL_takes [0, 1, 3, 4, 5] [(0, Pt g 0), (1, .iface 73 (Pt h 0)), (7, .int .i64 ((0 : Nat) : Int)), (14, Pt g 0), (18, .iface 73 (Pt h 0))] (mkL 12 [0, 1, 3, 4, 5]) 7 (by kernel_rfl) rfl (by kernel_rfl) (fun _ => by kernel_rfl) trivial (fun β => ?_)
 replace H : Sep w0 w2 (.blk g 60 [.slice A l.length c, In 1, .iface 62 (.agg #[S st]), S ([] : List UInt8)] :: .row (.slice A l.length c) 39 2 l.length (us l) :: .blk h 78 [S nm, S sec, .iface 62 (.agg #[S ([] : List UInt8)]), .bool once] :: F) := H
 refine HL_call (i := 2) (f := 11) (args := #[Pt g 0]) rfl (by kernel_rfl) (by kernel_rfl) (by kernel_rfl) (by kernel_rfl) (c_Ask 1 (.slice A l.length c) (S ([] : List UInt8)) (Stp.cram st) (by first | trivial | (show nm.length ≤ 68719476736; omega) | (show st.length ≤ 68719476736; omega)) H) ?_
 rintro _ w3 ⟨rfl, H⟩
 replace H : Sep w0 w3 (.blk g 60 [.slice A l.length c, In 1, .iface 62 (.agg #[S st]), S ([] : List UInt8)] :: .row (.slice A l.length c) 39 2 l.length (us l) :: .blk h 78 [S nm, S sec, .iface 62 (.agg #[S ([] : List UInt8)]), .bool once] :: F) := H
 refine ⟨(.inr trivial), ?_⟩
 replace H := H.front (i := 2) rfl
 replace H : Sep w0 w3 (.blk h 78 [S nm, S sec, .iface 62 (.agg #[S ([] : List UInt8)]), .bool once] :: .blk g 60 [.slice A l.length c, In 1, .iface 62 (.agg #[S st]), S ([] : List UInt8)] :: .row (.slice A l.length c) 39 2 l.length (us l) :: F) := H
 replace H : Sep w0 w3 (.blk h 78 [S nm, S sec, .iface 62 (.agg #[S ([] : List UInt8)]), .bool once] :: .blk g 60 [.slice A l.length c, In 1, .iface 62 (.agg #[S st]), S ([] : List UInt8)] :: .row (.slice A l.length c) 39 2 l.length (us l) :: F) := H
 refine HL_call (i := 6) (f := 112) (args := #[Pt h 0, S (enc st)]) rfl (by kernel_rfl) (by kernel_rfl) (by kernel_rfl) (by kernel_rfl) (c_cAnswer_cramE T hT gT R hR gR nm sec (by omega) (by omega) once ([] : List UInt8) st (by rw [enc_len]; omega) H) ?_
 rintro _ w7 ⟨q4, hq5, hql6, rfl, H⟩
 replace H : Sep w0 w7 (.blk h 78 [S nm, S sec, .nilIface, .bool once] :: .blk g 60 [.slice A l.length c, In 1, .iface 62 (.agg #[S st]), S ([] : List UInt8)] :: .row (.slice A l.length c) 39 2 l.length (us l) :: F) := H
 refine ⟨(.inr trivial), ?_⟩
 refine HL_takes [7, 8, 9, 10, 11] [(0, Pt g 0), (1, .iface 73 (Pt h 0)), (5, S q4), (6, .int .i64 ((0 : Nat) : Int)), (7, .int .i64 ((0 : Nat) : Int))] (mkL 12 [0, 1, 3, 4, 5, 2, 6, 7, 8, 9, 10, 11]) 0 (by kernel_rfl) rfl (by kernel_rfl) (fun _ => by kernel_rfl) trivial (fun β => ?_)
 refine HL_forget [(0, Pt g 0), (1, .iface 73 (Pt h 0)), (5, S q4), (6, In 0), (7, In 0)] (by kernel_rfl) (fun β => ?_)
 refine HL_fin (by kernel_rfl) ?_
 refine thn_normal ?_
 refine G_sr ?_
 refine GL_s 5 5 [(0, Pt g 0), (1, .iface 73 (Pt h 0)), (7, In 0), (24, .bool false), (25, Pt g 0), (26, S q4)] fun β => ?_
 replace H := H.front (i := 2) rfl
 replace H := H.front (i := 2) rfl
 replace H : Sep w0 w7 (.blk g 60 [.slice A l.length c, In 1, .iface 62 (.agg #[S st]), S ([] : List UInt8)] :: .row (.slice A l.length c) 39 2 l.length (us l) :: .blk h 78 [S nm, S sec, .nilIface, .bool once] :: F) := H
 refine GL_C (c_AnswerE (e2 := 0) (n2 := 2) (s2 := (Stp.cram st)) (nm2 := nm) T hT gT R hR gR 1 (Stp.cram st) (by show st.length ≤ 68719476736; omega) ([] : List UInt8) q4 (by omega) l (by first | omega | decide | (simp only [List.length_cons, List.length_nil]; omega)) hU H (by rw [hq5, ans_cram T R _ _ _ _ (dgF_nosp _ _ _ _), hb]; rfl)) ?_
 rintro _ w8 ⟨rfl, H⟩
 replace H : Sep w0 w8 (.blk g 60 [.slice A l.length c, In 2, .iface 62 (.agg #[S st]), S nm] :: .row (.slice A l.length c) 39 2 l.length (us l) :: .blk h 78 [S nm, S sec, .nilIface, .bool once] :: F) := H
 refine GL_st 2 8 [(0, Pt g 0), (1, .iface 73 (Pt h 0)), (7, In 0), (29, .bool false)] fun β => ?_
 refine G_false (by kernel_rfl) ?_
 refine G_skip ?_
 refine inb_normal ?_
 refine thn_normal ?_
 refine G_region ?_
 refine GL_st 2 2 [(0, Pt g 0), (1, .iface 73 (Pt h 0)), (7, In 1)] fun β => ?_
 refine GU_step ?_
 refine G_forget [(0, Pt g 0), (1, .iface 73 (Pt h 0)), (7, In 1)] (by kernel_rfl) (fun β => ?_)
 refine G_sr ?_
 refine GL_st 1 1 [(0, Pt g 0), (1, .iface 73 (Pt h 0)), (7, In 1), (8, .bool true)] fun β => ?_
 refine G_seq ?_
 refine G_true (by kernel_rfl) ?_
 refine G_skip ?_
 refine thn_normal ?_
 refine G_seq ?_
 refine G_block ?_
 refine G_seq ?_
 refine G_sr ?_
 refine GL_s 1 1 [(0, Pt g 0), (1, .iface 73 (Pt h 0)), (7, In 1), (9, Pt g 0)] fun β => ?_
 replace H : Sep w0 w8 (.blk g 60 [.slice A l.length c, In 2, .iface 62 (.agg #[S st]), S nm] :: .row (.slice A l.length c) 39 2 l.length (us l) :: .blk h 78 [S nm, S sec, .nilIface, .bool once] :: F) := H
 refine GL_C (c_State 2 (.slice A l.length c) (.iface 62 (.agg #[S st])) (S nm) H) ?_
 rintro _ w9 ⟨rfl, H⟩
 refine GL_st 1 3 [(0, Pt g 0), (1, .iface 73 (Pt h 0)), (7, In 1), (11, .bool true)] fun β => ?_
 refine G_true (by kernel_rfl) ?_
 refine G_sr ?_
 refine GL_st 1 1 [(4, .bool true)] fun β => ?_
 refine G_ret ?_
 refine thn_ret (inb_ret (thn_ret (thn_ret (inb_ret (thn_ret (res1 (v := .bool true) rfl (by kernel_rfl) ?_))))))
 replace H := H.front (i := 2) rfl
 replace H := H.front (i := 2) rfl
 replace H := H.front (i := 2) rfl
 replace H : Sep w0 w9 (.blk g 60 [.slice A l.length c, In 2, .iface 62 (.agg #[S st]), S nm] :: .row (.slice A l.length c) 39 2 l.length (us l) :: .blk h 78 [S nm, S sec, .nilIface, .bool once] :: F) := H
 exact ⟨rfl, H⟩
/-- posthorn/posthornlaw22.talk -/
theorem c_talk_cram_false {w0 w : World} {F : List Chunk} (T : List UInt32) (hT : T.length = 64) (gT : Gl w0 1 (u32s T)) (R : List UInt8) (hR : R.length = 16) (gR : Gl w0 2 (bs R)) (l : List Str2) (hl : l.length ≤ 1099511627776) (hU : ∀ u ∈ l, u.1.length ≤ 549755813888 ∧ u.2.length ≤ 549755813888) (nm sec st : List UInt8) (hn : nm.length ≤ 16777216) (hs : sec.length ≤ 16777216) (hst : st.length ≤ 16777216) (once : Bool) (hz1 : (0 : UInt8) ∉ nm) (hz2 : (0 : UInt8) ∉ sec) (hb : (crP T R l st nm (dgF T R sec st)) = false) {g c h : Nat} {A : Option Addr} (H : Sep w0 w (.blk g 60 [.slice A l.length c, In 1, .iface 62 (.agg #[S st]), S ([] : List UInt8)] :: .row (.slice A l.length c) 39 2 l.length (us l) :: .blk h 78 [S nm, S sec, .iface 62 (.agg #[S ([] : List UInt8)]), .bool once] :: F)) : Ret Try.prog 22 #[Pt g 0, .iface 73 (Pt h 0)] w (fun v w' => v = .bool true ∧ Sep w0 w' (.blk g 60 [.slice A l.length c, In 3, .iface 62 (.agg #[S st]), S ([] : List UInt8)] :: .row (.slice A l.length c) 39 2 l.length (us l) :: .blk h 78 [S nm, S sec, .nilIface, .bool once] :: F)) := by
 refine Ret_enter (args := [Pt g 0, .iface 73 (Pt h 0)]) Try.func22 rfl (by kernel_rfl) ?_
 refine G_forget [(0, Pt g 0), (1, .iface 73 (Pt h 0))] (by kernel_rfl) (fun β => ?_)
 refine G_sr ?_
 refine GL_st 1 1 [(0, Pt g 0), (1, .iface 73 (Pt h 0))] fun β => ?_
 refine G_seq ?_
 refine G_sr ?_
 refine GL_st 1 1 [(0, Pt g 0), (1, .iface 73 (Pt h 0)), (7, In 0)] fun β => ?_
 refine G_block ?_
 refine G_un 4 ?_
 refine GU_step ?_
 refine G_forget [(0, Pt g 0), (1, .iface 73 (Pt h 0)), (7, In 0)] (by kernel_rfl) (fun β => ?_)
 refine G_sr ?_
 refine GL_st 1 1 [(0, Pt g 0), (1, .iface 73 (Pt h 0)), (7, In 0), (8, .bool true)] fun β => ?_
 refine G_seq ?_
 refine G_true (by kernel_rfl) ?_
 refine G_skip ?_
 refine thn_normal ?_
 refine G_seq ?_
 refine G_block ?_
 refine G_seq ?_
 refine G_sr ?_
 refine GL_s 1 1 [(0, Pt g 0), (1, .iface 73 (Pt h 0)), (7, In 0), (9, Pt g 0)] fun β => ?_
 replace H : Sep w0 w (.blk g 60 [.slice A l.length c, In 1, .iface 62 (.agg #[S st]), S ([] : List UInt8)] :: .row (.slice A l.length c) 39 2 l.length (us l) :: .blk h 78 [S nm, S sec, .iface 62 (.agg #[S ([] : List UInt8)]), .bool once] :: F) := H
 refine GL_C (c_State 1 (.slice A l.length c) (.iface 62 (.agg #[S st])) (S ([] : List UInt8)) H) ?_
 rintro _ w1 ⟨rfl, H⟩
 refine GL_st 1 3 [(0, Pt g 0), (1, .iface 73 (Pt h 0)), (7, In 0), (11, .bool false)] fun β => ?_
 refine G_false (by kernel_rfl) ?_
 refine G_skip ?_
 refine thn_normal ?_
 refine G_seq ?_
 refine G_drawS (fun w => True) 12 12 (by kernel_rfl) (by kernel_rfl) H (fun w2 H => ?_)
 refine HL_takes [0, 1, 3, 4, 5] [(0, Pt g 0), (1, .iface 73 (Pt h 0)), (7, .int .i64 ((0 : Nat) : Int)), (14, Pt g 0), (18, .iface 73 (Pt h 0))] (mkL 12 [0, 1, 3, 4, 5]) 7 (by kernel_rfl) rfl (by kernel_rfl) (fun _ => by kernel_rfl) trivial (fun β => ?_)
 replace H : Sep w0 w2 (.blk g 60 [.slice A l.length c, In 1, .iface 62 (.agg #[S st]), S ([] : List UInt8)] :: .row (.slice A l.length c) 39 2 l.length (us l) :: .blk h 78 [S nm, S sec, .iface 62 (.agg #[S ([] : List UInt8)]), .bool once] :: F) := H
 refine HL_call (i := 2) (f := 11) (args := #[Pt g 0]) rfl (by kernel_rfl) (by kernel_rfl) (by kernel_rfl) (by kernel_rfl) (c_Ask 1 (.slice A l.length c) (S ([] : List UInt8)) (Stp.cram st) (by first | trivial | (show nm.length ≤ 68719476736; omega) | (show st.length ≤ 68719476736; omega)) H) ?_
 rintro _ w3 ⟨rfl, H⟩
 replace H : Sep w0 w3 (.blk g 60 [.slice A l.length c, In 1, .iface 62 (.agg #[S st]), S ([] : List UInt8)] :: .row (.slice A l.length c) 39 2 l.length (us l) :: .blk h 78 [S nm, S sec, .iface 62 (.agg #[S ([] : List UInt8)]), .bool once] :: F) := H
 refine ⟨(.inr trivial), ?_⟩
 replace H := H.front (i := 2) rfl
 replace H : Sep w0 w3 (.blk h 78 [S nm, S sec, .iface 62 (.agg #[S ([] : List UInt8)]), .bool once] :: .blk g 60 [.slice A l.length c, In 1, .iface 62 (.agg #[S st]), S ([] : List UInt8)] :: .row (.slice A l.length c) 39 2 l.length (us l) :: F) := H
 replace H : Sep w0 w3 (.blk h 78 [S nm, S sec, .iface 62 (.agg #[S ([] : List UInt8)]), .bool once] :: .blk g 60 [.slice A l.length c, In 1, .iface 62 (.agg #[S st]), S ([] : List UInt8)] :: .row (.slice A l.length c) 39 2 l.length (us l) :: F) := H
 refine HL_call (i := 6) (f := 112) (args := #[Pt h 0, S (enc st)]) rfl (by kernel_rfl) (by kernel_rfl) (by kernel_rfl) (by kernel_rfl) (c_cAnswer_cramE T hT gT R hR gR nm sec (by omega) (by omega) once ([] : List UInt8) st (by rw [enc_len]; omega) H) ?_
 rintro _ w7 ⟨q4, hq5, hql6, rfl, H⟩
 replace H : Sep w0 w7 (.blk h 78 [S nm, S sec, .nilIface, .bool once] :: .blk g 60 [.slice A l.length c, In 1, .iface 62 (.agg #[S st]), S ([] : List UInt8)] :: .row (.slice A l.length c) 39 2 l.length (us l) :: F) := H
 refine ⟨(.inr trivial), ?_⟩
 refine HL_takes [7, 8, 9, 10, 11] [(0, Pt g 0), (1, .iface 73 (Pt h 0)), (5, S q4), (6, .int .i64 ((0 : Nat) : Int)), (7, .int .i64 ((0 : Nat) : Int))] (mkL 12 [0, 1, 3, 4, 5, 2, 6, 7, 8, 9, 10, 11]) 0 (by kernel_rfl) rfl (by kernel_rfl) (fun _ => by kernel_rfl) trivial (fun β => ?_)
 refine HL_forget [(0, Pt g 0), (1, .iface 73 (Pt h 0)), (5, S q4), (6, In 0), (7, In 0)] (by kernel_rfl) (fun β => ?_)
 refine HL_fin (by kernel_rfl) ?_
 refine thn_normal ?_
 refine G_sr ?_
 refine GL_s 5 5 [(0, Pt g 0), (1, .iface 73 (Pt h 0)), (7, In 0), (24, .bool false), (25, Pt g 0), (26, S q4)] fun β => ?_
 replace H := H.front (i := 2) rfl
 replace H := H.front (i := 2) rfl
 replace H : Sep w0 w7 (.blk g 60 [.slice A l.length c, In 1, .iface 62 (.agg #[S st]), S ([] : List UInt8)] :: .row (.slice A l.length c) 39 2 l.length (us l) :: .blk h 78 [S nm, S sec, .nilIface, .bool once] :: F) := H
 refine GL_C (c_AnswerE (e2 := 0) (n2 := 3) (s2 := (Stp.cram st)) (nm2 := ([] : List UInt8)) T hT gT R hR gR 1 (Stp.cram st) (by show st.length ≤ 68719476736; omega) ([] : List UInt8) q4 (by omega) l (by first | omega | decide | (simp only [List.length_cons, List.length_nil]; omega)) hU H (by rw [hq5, ans_cram T R _ _ _ _ (dgF_nosp _ _ _ _), hb]; rfl)) ?_
 rintro _ w8 ⟨rfl, H⟩
 replace H : Sep w0 w8 (.blk g 60 [.slice A l.length c, In 3, .iface 62 (.agg #[S st]), S ([] : List UInt8)] :: .row (.slice A l.length c) 39 2 l.length (us l) :: .blk h 78 [S nm, S sec, .nilIface, .bool once] :: F) := H
 refine GL_st 2 8 [(0, Pt g 0), (1, .iface 73 (Pt h 0)), (7, In 0), (29, .bool false)] fun β => ?_
 refine G_false (by kernel_rfl) ?_
 refine G_skip ?_
 refine inb_normal ?_
 refine thn_normal ?_
 refine G_region ?_
 refine GL_st 2 2 [(0, Pt g 0), (1, .iface 73 (Pt h 0)), (7, In 1)] fun β => ?_
 refine GU_step ?_
 refine G_forget [(0, Pt g 0), (1, .iface 73 (Pt h 0)), (7, In 1)] (by kernel_rfl) (fun β => ?_)
 refine G_sr ?_
 refine GL_st 1 1 [(0, Pt g 0), (1, .iface 73 (Pt h 0)), (7, In 1), (8, .bool true)] fun β => ?_
 refine G_seq ?_
 refine G_true (by kernel_rfl) ?_
 refine G_skip ?_
 refine thn_normal ?_
 refine G_seq ?_
 refine G_block ?_
 refine G_seq ?_
 refine G_sr ?_
 refine GL_s 1 1 [(0, Pt g 0), (1, .iface 73 (Pt h 0)), (7, In 1), (9, Pt g 0)] fun β => ?_
 replace H : Sep w0 w8 (.blk g 60 [.slice A l.length c, In 3, .iface 62 (.agg #[S st]), S ([] : List UInt8)] :: .row (.slice A l.length c) 39 2 l.length (us l) :: .blk h 78 [S nm, S sec, .nilIface, .bool once] :: F) := H
 refine GL_C (c_State 3 (.slice A l.length c) (.iface 62 (.agg #[S st])) (S ([] : List UInt8)) H) ?_
 rintro _ w9 ⟨rfl, H⟩
 refine GL_st 1 3 [(0, Pt g 0), (1, .iface 73 (Pt h 0)), (7, In 1), (11, .bool true)] fun β => ?_
 refine G_true (by kernel_rfl) ?_
 refine G_sr ?_
 refine GL_st 1 1 [(4, .bool true)] fun β => ?_
 refine G_ret ?_
 refine thn_ret (inb_ret (thn_ret (thn_ret (inb_ret (thn_ret (res1 (v := .bool true) rfl (by kernel_rfl) ?_))))))
 replace H := H.front (i := 2) rfl
 replace H := H.front (i := 2) rfl
 replace H := H.front (i := 2) rfl
 replace H : Sep w0 w9 (.blk g 60 [.slice A l.length c, In 3, .iface 62 (.agg #[S st]), S ([] : List UInt8)] :: .row (.slice A l.length c) 39 2 l.length (us l) :: .blk h 78 [S nm, S sec, .nilIface, .bool once] :: F) := H
 exact ⟨rfl, H⟩
end Go.Proofs.Ytadiljnfkbbmcaa
