-- printed by gw.py (my own program), checked by Lean
import Derived.Test.YtadiljnfkbbmcaaDoorS1
set_option linter.unusedVariables false
set_option linter.unusedSimpArgs false
set_option maxRecDepth 100000
set_option maxHeartbeats 400000
namespace Go.Proofs.YtadiljnfkbbmcaaDoor
open Go.Kw Go.RowKit

theorem any_no {A : Type} {f : A → Bool} {l : List A} {k : Nat} {d : A} (hk : k < l.length) (h : (l.take k).any f = false) (e : f (l.getD k d) = false) : (l.take (k + 1)).any f = false := by
  simp only [List.getD_eq_getElem?_getD, List.getElem?_eq_getElem hk, Option.getD_some] at e
  rw [List.take_add_one, List.getElem?_eq_getElem hk, List.any_append, h]
  simp [e]
theorem range_no {f : Nat → Bool} {n : Nat} (h : (List.range n).any f = false) (e : f n = false) : (List.range (n + 1)).any f = false := by
  rw [List.range_succ, List.any_append, h]; simp [e]
def rowF (T : List UInt32) (R : List UInt8) (st nm : List UInt8) (said : List (List UInt8)) (u : Str2) : Bool := u.1 == nm && (List.range said.length).any fun i => hitA T R st nm u.2 said i
theorem mem_getD {l : List (List UInt8)} {k : Nat} (h : k < l.length) : l.getD k [] ∈ l := by
  simp only [List.getD_eq_getElem?_getD, List.getElem?_eq_getElem h, Option.getD_some]; exact List.getElem_mem h
theorem hit_yes {T : List UInt32} {R : List UInt8} {l : List Str2} {st nm : List UInt8} {said : List (List UInt8)} {k i : Nat} (hk : k < l.length) (hi : i < said.length) (hn : (l.getD k ([], [])).1 = nm) (h : hitA T R st nm (l.getD k ([], [])).2 said i = true) : showsF T R l st nm said = true := by
  have hu := getD_mem hk
  generalize l.getD k ([], []) = u at *
  subst hn
  exact shows_of (sec := u.2) hu hi h
/-- posthorn/posthornlaw22.shows -/
theorem c_shows {w0 w : World} {F : List Chunk} (T : List UInt32) (hT : T.length = 64) (gT : Gl w0 0 (u32s T)) (R : List UInt8) (hR : R.length = 16) (gR : Gl w0 1 (bs R)) (l : List Str2) (hl : l.length ≤ 16777216) (hU : ∀ u ∈ l, u.1.length ≤ 549755813888 ∧ u.2.length ≤ 549755813888) (mech st y nm : List UInt8) (has : Bool) (hst : st.length ≤ 16777216) (hnm : nm.length ≤ 4294967296) (ls : List (List UInt8)) (said : List (List UInt8)) (hsl : said.length ≤ 16777216) (hsa : ∀ x ∈ said, x.length ≤ 16777216) {B E A : Option Addr} {d e c : Nat} (RU : Rd w0 F (.slice B l.length d) 2 l.length (us l)) (RL : Rd w0 F (.slice E ls.length e) 1 ls.length (ss ls)) (RS : Rd w0 F (.slice A said.length c) 1 said.length (ss said)) (H : Sep w0 w F) : Ret Tryd.prog 11 #[.agg #[.slice B l.length d, S mech, S st, S y, .bool has, .slice E ls.length e], S nm, .slice A said.length c] w (fun v w' => v = .bool (showsF T R l st nm said) ∧ Sep w0 w' F) := by
 refine Ret_enter (args := [.agg #[.slice B l.length d, S mech, S st, S y, .bool has, .slice E ls.length e], S nm, .slice A said.length c]) Tryd.func11 rfl (by kernel_rfl) ?_
 refine G_forget [(0, .agg #[.slice B l.length d, S mech, S st, S y, .bool has, .slice E ls.length e]), (1, S nm), (2, .slice A said.length c)] (by kernel_rfl) (fun β => ?_)
 refine G_sr ?_
 refine GL_new (V := fun g => Pt g 0) (l := [.slice B l.length d, S mech, S st, S y, .bool has, .slice E ls.length e]) (t := 25) H rfl (by kernel_rfl) (by kernel_rfl) (by kernel_rfl) (fun g1 w2 H => ?_)
 refine GL_st 1 2 [(1, S nm), (2, .slice A said.length c), (3, Pt g1 0)] fun β => ?_
 refine G_seq ?_
 refine G_sr ?_
 refine GL_s 1 1 [(1, S nm), (2, .slice A said.length c), (3, Pt g1 0), (16, Pt g1 0)] fun β => ?_
 refine GL_V (run_load1 (t := 22) (by kernel_rfl) ((H.blk_cell (i := 0) rfl 0).trans rfl)) ?_
 refine GL_st 2 4 [(1, S nm), (2, .slice A said.length c), (3, Pt g1 0), (17, .slice B l.length d), (18, In l.length), (19, In 0)] fun β => ?_
 refine G_block ?_
 refine G_loop (X := Nat) (fun k => [(1, S nm), (2, .slice A said.length c), (3, Pt g1 0), (17, .slice B l.length d), (18, In l.length), (19, In k)]) (fun k w_ => Sep w0 w_ (.blk g1 25 [.slice B l.length d, S mech, S st, S y, .bool has, .slice E ls.length e] :: F) ∧ (k ≤ l.length ∧ (l.take k).any (rowF T R st nm said) = false)) (fun k => l.length - k) (0) (by kernel_rfl) ⟨H, ⟨by omega, rfl⟩⟩ ?_
 rintro k β w3 ⟨H, hI⟩
 refine G_forget [(1, S nm), (2, .slice A said.length c), (3, Pt g1 0), (17, .slice B l.length d), (18, In l.length), (19, In k)] (by kernel_rfl) (fun β => ?_)
 replace H : Sep w0 w3 (.blk g1 25 [.slice B l.length d, S mech, S st, S y, .bool has, .slice E ls.length e] :: F) := H
 replace hI : k ≤ l.length ∧ (l.take k).any (rowF T R st nm said) = false := hI
 obtain ⟨hI1, hI2⟩ := hI
 refine G_sr ?_
 refine GL_srt 1 1 [(1, S nm), (2, .slice A said.length c), (3, Pt g1 0), (17, .slice B l.length d), (18, In l.length), (19, In k), (20, .bool (decide (k < l.length)))] (show ([S nm, .slice A said.length c, Pt g1 0, .slice B l.length d, .int .i64 (l.length : Int), .int .i64 (k : Int), .bool (decide ((k : Int) < (l.length : Int)))] : List Value) = [S nm, .slice A said.length c, Pt g1 0, .slice B l.length d, In l.length, In k, .bool (decide (k < l.length))] by rw [nlss k l.length]) fun β => ?_
 refine G_seq ?_
 refine G_cond (decide (k < l.length)) (by kernel_rfl) (fun h0 => ?_) (fun h0 => ?_)
 · --yes
  replace h0 : k < l.length := of_decide_eq_true h0
  refine G_skip ?_
  refine thn_normal ?_
  refine G_seq ?_
  refine G_block ?_
  refine G_sr ?_
  obtain ⟨ad5, hr4, hc6⟩ := R_place (P := Tryd.prog) (t := 22) (e := 40) (i := k) (ki := .i64) RU (by omega) (by kernel_rfl) (by kernel_rfl)
  refine GL_V (hr4 _) ?_
  refine GL_V (run_loadN (t := 40) (vs := [S ((l.getD k ([], [])).1), S ((l.getD k ([], [])).2)]) (by kernel_rfl) (by kernel_rfl) (us_at hc6 (H.drop 0) (by omega))) ?_
  refine GL_new (V := fun g => Pt g 0) (l := [S ([] : List UInt8), S ([] : List UInt8)]) (t := 40) H rfl (by kernel_rfl) (by kernel_rfl) (by kernel_rfl) (fun g7 w8 H => ?_)
  obtain ⟨w9, hr10, H⟩ := R_store (P := Tryd.prog) (t := 40) (v := .agg #[S ((l.getD k ([], [])).1), S ((l.getD k ([], [])).2)]) (off := 0) H (i := 0) rfl (by kernel_rfl) (by kernel_rfl) (by kernel_rfl)
  replace H : Sep w0 w9 (.blk g7 40 [S ((l.getD k ([], [])).1), S ((l.getD k ([], [])).2)] :: .blk g1 25 [.slice B l.length d, S mech, S st, S y, .bool has, .slice E ls.length e] :: F) := H
  refine GL_U hr10 ?_
  refine GL_et ?_
  refine G_seq ?_
  refine G_sr ?_
  refine GL_s 1 1 [(1, S nm), (2, .slice A said.length c), (3, Pt g1 0), (8, Pt g7 0), (17, .slice B l.length d), (18, In l.length), (19, In k), (23, Pt g7 0)] fun β => ?_
  refine GL_V (run_load1 (t := 9) (by kernel_rfl) ((H.blk_cell (i := 0) rfl 0).trans rfl)) ?_
  refine GL_s 1 3 [(1, S nm), (2, .slice A said.length c), (3, Pt g1 0), (8, Pt g7 0), (17, .slice B l.length d), (18, In l.length), (19, In k), (24, S ((l.getD k ([], [])).1)), (25, S nm)] fun β => ?_
  refine GL_V (R_strne (t := 9) (l := (l.getD k ([], [])).1) (m := nm)) ?_
  refine GL_et ?_
  refine G_cond (!(((l.getD k ([], [])).1) == nm)) (by kernel_rfl) (fun h1 => ?_) (fun h1 => ?_)
  · --yes
   have h1 := not_F h1
   replace h1 : ¬ ((l.getD k ([], [])).1 = nm) := eql_F h1
   refine G_exit (thn_exit (inb_hit ?_))
   refine thn_normal ?_
   refine G_region ?_
   refine GL_sr 2 2 [(1, S nm), (2, .slice A said.length c), (3, Pt g1 0), (17, .slice B l.length d), (18, In l.length), (19, In (k + 1))] (show ([S nm, .slice A said.length c, Pt g1 0, .slice B l.length d, .int .i64 (l.length : Int), .int .i64 (IntKind.i64.wrap ((k : Int) + ((1 : Nat) : Int)))] : List Value) = [S nm, .slice A said.length c, Pt g1 0, .slice B l.length d, In l.length, In (k + 1)] by rw [nadd64 k 1 (by omega)]) fun β => ?_
   refine GL_end (by kernel_rfl) ?_
   replace H := H.drop 0
   replace H : Sep w0 w9 (.blk g1 25 [.slice B l.length d, S mech, S st, S y, .bool has, .slice E ls.length e] :: F) := H
   refine thn_normal ⟨(k + 1), Agr_of_keys (by kernel_rfl), ⟨H, ?_⟩, ?_⟩
   · first | exact ⟨by omega, any_no (d := ([], [])) (by omega) hI2 (by rw [rowF, beq_eq_false_iff_ne.2 h1]; rfl)⟩ | (have hi : i = said.length := (by omega); exact ⟨by omega, any_no (d := ([], [])) (by omega) hI2 (by unfold rowF; rw [← hi, hJ2, Bool.and_false])⟩)
   · first | (dsimp only; omega) | omega
  · --no
   have h1 := not_T h1
   replace h1 : (l.getD k ([], [])).1 = nm := eql_T h1
   refine G_skip ?_
   refine thn_normal ?_
   refine G_sr ?_
   refine GL_st 3 3 [(1, S nm), (2, .slice A said.length c), (3, Pt g1 0), (8, Pt g7 0), (17, .slice B l.length d), (18, In l.length), (19, In k), (27, .slice A said.length c), (28, In said.length), (29, In 0)] fun β => ?_
   refine G_block ?_
   have hu := hU _ (getD_mem (l := l) (k := k) (by omega))
   refine G_loop (X := Nat) (fun i => [(1, S nm), (2, .slice A said.length c), (3, Pt g1 0), (8, Pt g7 0), (17, .slice B l.length d), (18, In l.length), (19, In k), (27, .slice A said.length c), (28, In said.length), (29, In i)]) (fun i w_ => Sep w0 w_ (.blk g7 40 [S ((l.getD k ([], [])).1), S ((l.getD k ([], [])).2)] :: .blk g1 25 [.slice B l.length d, S mech, S st, S y, .bool has, .slice E ls.length e] :: F) ∧ (i ≤ said.length ∧ (List.range i).any (fun i => hitA T R st nm (l.getD k ([], [])).2 said i) = false)) (fun i => said.length - i) (0) (by kernel_rfl) ⟨H, ⟨by omega, rfl⟩⟩ ?_
   rintro i β w11 ⟨H, hI⟩
   refine G_forget [(1, S nm), (2, .slice A said.length c), (3, Pt g1 0), (8, Pt g7 0), (17, .slice B l.length d), (18, In l.length), (19, In k), (27, .slice A said.length c), (28, In said.length), (29, In i)] (by kernel_rfl) (fun β => ?_)
   replace H : Sep w0 w11 (.blk g7 40 [S ((l.getD k ([], [])).1), S ((l.getD k ([], [])).2)] :: .blk g1 25 [.slice B l.length d, S mech, S st, S y, .bool has, .slice E ls.length e] :: F) := H
   replace hI : i ≤ said.length ∧ (List.range i).any (fun i => hitA T R st nm (l.getD k ([], [])).2 said i) = false := hI
   obtain ⟨hJ1, hJ2⟩ := hI
   refine G_sr ?_
   refine GL_srt 1 1 [(1, S nm), (2, .slice A said.length c), (3, Pt g1 0), (8, Pt g7 0), (17, .slice B l.length d), (18, In l.length), (19, In k), (27, .slice A said.length c), (28, In said.length), (29, In i), (30, .bool (decide (i < said.length)))] (show ([S nm, .slice A said.length c, Pt g1 0, Pt g7 0, .slice B l.length d, .int .i64 (l.length : Int), .int .i64 (k : Int), .slice A said.length c, .int .i64 (said.length : Int), .int .i64 (i : Int), .bool (decide ((i : Int) < (said.length : Int)))] : List Value) = [S nm, .slice A said.length c, Pt g1 0, Pt g7 0, .slice B l.length d, In l.length, In k, .slice A said.length c, In said.length, In i, .bool (decide (i < said.length))] by rw [nlss i said.length]) fun β => ?_
   refine G_seq ?_
   refine G_cond (decide (i < said.length)) (by kernel_rfl) (fun h2 => ?_) (fun h2 => ?_)
   · --yes
    replace h2 : i < said.length := of_decide_eq_true h2
    refine G_skip ?_
    refine thn_normal ?_
    refine G_seq ?_
    refine G_block ?_
    refine G_sr ?_
    refine GL_s 1 1 [(1, S nm), (2, .slice A said.length c), (3, Pt g1 0), (8, Pt g7 0), (17, .slice B l.length d), (18, In l.length), (19, In k), (27, .slice A said.length c), (28, In said.length), (29, In i), (31, In i)] fun β => ?_
    obtain ⟨ad13, hr12, hc14⟩ := R_place (P := Tryd.prog) (t := 23) (e := 9) (i := i) (ki := .i64) RS (by omega) (by kernel_rfl) (by kernel_rfl)
    refine GL_V (hr12 _) ?_
    refine GL_V (run_load1 (t := 9) (by kernel_rfl) (ss_at hc14 ((H.drop 1).drop 0) (by omega))) ?_
    refine GL_st 2 5 [(1, S nm), (2, .slice A said.length c), (3, Pt g1 0), (8, Pt g7 0), (9, In i), (10, S (said.getD i [])), (17, .slice B l.length d), (18, In l.length), (19, In k), (27, .slice A said.length c), (28, In said.length), (29, In i)] fun β => ?_
    have hsi := hsa _ (mem_getD (l := said) (k := i) (by omega))
    refine G_sr ?_
    refine GL_s 1 1 [(1, S nm), (2, .slice A said.length c), (3, Pt g1 0), (8, Pt g7 0), (9, In i), (17, .slice B l.length d), (18, In l.length), (19, In k), (27, .slice A said.length c), (28, In said.length), (29, In i), (35, S (said.getD i []))] fun β => ?_
    refine GL_C (c_Unb (said.getD i []) (by omega) H) ?_
    rintro _ w22 ⟨o15, e16, p17, A18, c19, hd20, hl21, rfl, H⟩
    refine GL_s 3 5 [(1, S nm), (2, .slice A said.length c), (3, Pt g1 0), (8, Pt g7 0), (9, In i), (17, .slice B l.length d), (18, In l.length), (19, In k), (27, .slice A said.length c), (28, In said.length), (29, In i), (37, .slice A18 o15.length c19), (38, .agg #[In e16, In p17])] fun β => ?_
    refine GL_new (V := fun g => Pt g 0) (l := [In 0, In 0]) (t := 70) H rfl (by kernel_rfl) (by kernel_rfl) (by kernel_rfl) (fun g23 w24 H => ?_)
    refine GL_s 1 7 [(1, S nm), (2, .slice A said.length c), (3, Pt g1 0), (8, Pt g7 0), (9, In i), (11, .slice A18 o15.length c19), (12, Pt g23 0), (17, .slice B l.length d), (18, In l.length), (19, In k), (27, .slice A said.length c), (28, In said.length), (29, In i), (38, .agg #[In e16, In p17])] fun β => ?_
    obtain ⟨w25, hr26, H⟩ := R_store (P := Tryd.prog) (t := 70) (v := .agg #[In e16, In p17]) (off := 0) H (i := 0) rfl (by kernel_rfl) (by kernel_rfl) (by kernel_rfl)
    replace H : Sep w0 w25 (.blk g23 70 [In e16, In p17] :: .row (.slice A18 o15.length c19) 5 1 o15.length (bs o15) :: .blk g7 40 [S ((l.getD k ([], [])).1), S ((l.getD k ([], [])).2)] :: .blk g1 25 [.slice B l.length d, S mech, S st, S y, .bool has, .slice E ls.length e] :: F) := H
    refine GL_U hr26 ?_
    refine GL_et ?_
    have hd1 : (dec (said.getD i [])).1 = o15 := by rw [hd20]
    refine G_sr ?_
    refine GL_s 1 1 [(1, S nm), (2, .slice A said.length c), (3, Pt g1 0), (8, Pt g7 0), (9, In i), (17, .slice B l.length d), (18, In l.length), (19, In k), (27, .slice A said.length c), (28, In said.length), (29, In i), (39, .slice A18 o15.length c19)] fun β => ?_
    refine GL_V (R_conv_bs (s := 68) (t := 9) (e := 5) (l := o15) (by kernel_rfl) (by kernel_rfl) (by kernel_rfl) (Src.row H (i := 1) rfl)) ?_
    refine GL_st 1 3 [(1, S nm), (2, .slice A said.length c), (3, Pt g1 0), (8, Pt g7 0), (9, In i), (13, S o15), (17, .slice B l.length d), (18, In l.length), (19, In k), (27, .slice A said.length c), (28, In said.length), (29, In i)] fun β => ?_
    refine G_seq ?_
    refine G_sr ?_
    refine GL_s 2 2 [(1, S nm), (2, .slice A said.length c), (3, Pt g1 0), (8, Pt g7 0), (9, In i), (13, S o15), (17, .slice B l.length d), (18, In l.length), (19, In k), (27, .slice A said.length c), (28, In said.length), (29, In i), (41, S o15), (42, S nm)] fun β => ?_
    refine GL_V (R_cat (t := 9) (l := [0]) (m := nm) (by (try simp only [List.length_append, List.length_cons, List.length_nil, dgF_len]); omega)) ?_
    refine GL_V (R_cat (t := 9) (l := ([0] ++ nm)) (m := [0]) (by (try simp only [List.length_append, List.length_cons, List.length_nil, dgF_len]); omega)) ?_
    refine GL_s 1 5 [(1, S nm), (2, .slice A said.length c), (3, Pt g1 0), (8, Pt g7 0), (9, In i), (13, S o15), (17, .slice B l.length d), (18, In l.length), (19, In k), (27, .slice A said.length c), (28, In said.length), (29, In i), (41, S o15), (44, S (([0] ++ nm) ++ [0])), (45, Pt g7 1)] fun β => ?_
    refine GL_V (run_load1 (t := 9) (by kernel_rfl) ((H.blk_cell (i := 2) rfl 1).trans rfl)) ?_
    refine GL_V (R_cat (t := 9) (l := (([0] ++ nm) ++ [0])) (m := (l.getD k ([], [])).2) (by (try simp only [List.length_append, List.length_cons, List.length_nil, dgF_len]); omega)) ?_
    refine GL_V (R_streq (t := 9) (l := o15) (m := ((([0] ++ nm) ++ [0]) ++ ((l.getD k ([], [])).2)))) ?_
    refine GL_s 1 9 [(1, S nm), (2, .slice A said.length c), (3, Pt g1 0), (8, Pt g7 0), (9, In i), (13, S o15), (17, .slice B l.length d), (18, In l.length), (19, In k), (27, .slice A said.length c), (28, In said.length), (29, In i), (49, .bool (o15 == ((([0] ++ nm) ++ [0]) ++ ((l.getD k ([], [])).2))))] fun β => ?_
    rcases Bool.eq_false_or_eq_true (o15 == ((([0] ++ nm) ++ [0]) ++ ((l.getD k ([], [])).2))) with h3 | h3
    · --yes
     refine GL_re [(1, S nm), (2, .slice A said.length c), (3, Pt g1 0), (8, Pt g7 0), (9, In i), (13, S o15), (17, .slice B l.length d), (18, In l.length), (19, In k), (27, .slice A said.length c), (28, In said.length), (29, In i), (49, .bool true)] (show ([S nm, .slice A said.length c, Pt g1 0, Pt g7 0, In i, S o15, .slice B l.length d, In l.length, In k, .slice A said.length c, In said.length, In i, .bool (o15 == ((([0] ++ nm) ++ [0]) ++ ((l.getD k ([], [])).2)))] : List Value) = [S nm, .slice A said.length c, Pt g1 0, Pt g7 0, In i, S o15, .slice B l.length d, In l.length, In k, .slice A said.length c, In said.length, In i, .bool true] by rw [h3]) (fun β => ?_)
     replace h3 : o15 = ((([0] ++ nm) ++ [0]) ++ ((l.getD k ([], [])).2)) := eql_T h3
     refine GL_st 23 32 [(1, S nm), (2, .slice A said.length c), (3, Pt g1 0), (8, Pt g7 0), (9, In i), (13, S o15), (17, .slice B l.length d), (18, In l.length), (19, In k), (27, .slice A said.length c), (28, In said.length), (29, In i), (72, .bool true)] fun β => ?_
     refine G_true (by kernel_rfl) ?_
     refine G_sr ?_
     refine GL_st 1 1 [(6, .bool true)] fun β => ?_
     refine G_ret ?_
     refine thn_ret (inb_ret (thn_ret (thn_ret (inb_ret (inb_ret (thn_ret (thn_ret (inb_ret (thn_ret (res1 (v := .bool true) rfl (by kernel_rfl) ?_))))))))))
     replace H := H.drop 3
     replace H := H.drop 2
     replace H := H.drop 1
     replace H := H.drop 0
     replace H : Sep w0 w25 (F) := H
     have hyes : hitA T R st nm (l.getD k ([], [])).2 said i = true := by
       clear H
       unfold hitA
       rw [hd1]
       simp only [hitF, Bool.or_eq_true, Bool.and_eq_true, beq_iff_eq]
       first | exact .inl (.inl (.inl (by assumption))) | exact .inl (.inl (.inr (by assumption))) | exact .inl (.inr (by assumption)) | exact .inr ⟨by assumption, by assumption⟩
     exact ⟨by rw [hit_yes (by omega) (by omega) h1 hyes], H⟩
    · --no
     refine GL_re [(1, S nm), (2, .slice A said.length c), (3, Pt g1 0), (8, Pt g7 0), (9, In i), (13, S o15), (17, .slice B l.length d), (18, In l.length), (19, In k), (27, .slice A said.length c), (28, In said.length), (29, In i), (49, .bool false)] (show ([S nm, .slice A said.length c, Pt g1 0, Pt g7 0, In i, S o15, .slice B l.length d, In l.length, In k, .slice A said.length c, In said.length, In i, .bool (o15 == ((([0] ++ nm) ++ [0]) ++ ((l.getD k ([], [])).2)))] : List Value) = [S nm, .slice A said.length c, Pt g1 0, Pt g7 0, In i, S o15, .slice B l.length d, In l.length, In k, .slice A said.length c, In said.length, In i, .bool false] by rw [h3]) (fun β => ?_)
     replace h3 : ¬ (o15 = ((([0] ++ nm) ++ [0]) ++ ((l.getD k ([], [])).2))) := eql_F h3
     refine GL_s 2 11 [(1, S nm), (2, .slice A said.length c), (3, Pt g1 0), (8, Pt g7 0), (9, In i), (13, S o15), (17, .slice B l.length d), (18, In l.length), (19, In k), (27, .slice A said.length c), (28, In said.length), (29, In i), (49, .bool false), (50, S o15), (51, S nm)] fun β => ?_
     refine GL_V (R_cat (t := 9) (l := nm) (m := [0]) (by (try simp only [List.length_append, List.length_cons, List.length_nil, dgF_len]); omega)) ?_
     refine GL_s 1 13 [(1, S nm), (2, .slice A said.length c), (3, Pt g1 0), (8, Pt g7 0), (9, In i), (13, S o15), (17, .slice B l.length d), (18, In l.length), (19, In k), (27, .slice A said.length c), (28, In said.length), (29, In i), (49, .bool false), (50, S o15), (52, S (nm ++ [0])), (53, S nm)] fun β => ?_
     refine GL_V (R_cat (t := 9) (l := (nm ++ [0])) (m := nm) (by (try simp only [List.length_append, List.length_cons, List.length_nil, dgF_len]); omega)) ?_
     refine GL_V (R_cat (t := 9) (l := ((nm ++ [0]) ++ nm)) (m := [0]) (by (try simp only [List.length_append, List.length_cons, List.length_nil, dgF_len]); omega)) ?_
     refine GL_s 1 16 [(1, S nm), (2, .slice A said.length c), (3, Pt g1 0), (8, Pt g7 0), (9, In i), (13, S o15), (17, .slice B l.length d), (18, In l.length), (19, In k), (27, .slice A said.length c), (28, In said.length), (29, In i), (49, .bool false), (50, S o15), (55, S (((nm ++ [0]) ++ nm) ++ [0])), (56, Pt g7 1)] fun β => ?_
     refine GL_V (run_load1 (t := 9) (by kernel_rfl) ((H.blk_cell (i := 2) rfl 1).trans rfl)) ?_
     refine GL_V (R_cat (t := 9) (l := (((nm ++ [0]) ++ nm) ++ [0])) (m := (l.getD k ([], [])).2) (by (try simp only [List.length_append, List.length_cons, List.length_nil, dgF_len]); omega)) ?_
     refine GL_V (R_streq (t := 9) (l := o15) (m := ((((nm ++ [0]) ++ nm) ++ [0]) ++ ((l.getD k ([], [])).2)))) ?_
     refine GL_s 2 21 [(1, S nm), (2, .slice A said.length c), (3, Pt g1 0), (8, Pt g7 0), (9, In i), (13, S o15), (17, .slice B l.length d), (18, In l.length), (19, In k), (27, .slice A said.length c), (28, In said.length), (29, In i), (61, .bool (o15 == ((((nm ++ [0]) ++ nm) ++ [0]) ++ ((l.getD k ([], [])).2))))] fun β => ?_
     rcases Bool.eq_false_or_eq_true (o15 == ((((nm ++ [0]) ++ nm) ++ [0]) ++ ((l.getD k ([], [])).2))) with h4 | h4
     · --yes
      refine GL_re [(1, S nm), (2, .slice A said.length c), (3, Pt g1 0), (8, Pt g7 0), (9, In i), (13, S o15), (17, .slice B l.length d), (18, In l.length), (19, In k), (27, .slice A said.length c), (28, In said.length), (29, In i), (61, .bool true)] (show ([S nm, .slice A said.length c, Pt g1 0, Pt g7 0, In i, S o15, .slice B l.length d, In l.length, In k, .slice A said.length c, In said.length, In i, .bool (o15 == ((((nm ++ [0]) ++ nm) ++ [0]) ++ ((l.getD k ([], [])).2)))] : List Value) = [S nm, .slice A said.length c, Pt g1 0, Pt g7 0, In i, S o15, .slice B l.length d, In l.length, In k, .slice A said.length c, In said.length, In i, .bool true] by rw [h4]) (fun β => ?_)
      replace h4 : o15 = ((((nm ++ [0]) ++ nm) ++ [0]) ++ ((l.getD k ([], [])).2)) := eql_T h4
      refine GL_st 11 32 [(1, S nm), (2, .slice A said.length c), (3, Pt g1 0), (8, Pt g7 0), (9, In i), (13, S o15), (17, .slice B l.length d), (18, In l.length), (19, In k), (27, .slice A said.length c), (28, In said.length), (29, In i), (72, .bool true)] fun β => ?_
      refine G_true (by kernel_rfl) ?_
      refine G_sr ?_
      refine GL_st 1 1 [(6, .bool true)] fun β => ?_
      refine G_ret ?_
      refine thn_ret (inb_ret (thn_ret (thn_ret (inb_ret (inb_ret (thn_ret (thn_ret (inb_ret (thn_ret (res1 (v := .bool true) rfl (by kernel_rfl) ?_))))))))))
      replace H := H.drop 3
      replace H := H.drop 2
      replace H := H.drop 1
      replace H := H.drop 0
      replace H : Sep w0 w25 (F) := H
      have hyes : hitA T R st nm (l.getD k ([], [])).2 said i = true := by
        clear H
        unfold hitA
        rw [hd1]
        simp only [hitF, Bool.or_eq_true, Bool.and_eq_true, beq_iff_eq]
        first | exact .inl (.inl (.inl (by assumption))) | exact .inl (.inl (.inr (by assumption))) | exact .inl (.inr (by assumption)) | exact .inr ⟨by assumption, by assumption⟩
      exact ⟨by rw [hit_yes (by omega) (by omega) h1 hyes], H⟩
     · --no
      refine GL_re [(1, S nm), (2, .slice A said.length c), (3, Pt g1 0), (8, Pt g7 0), (9, In i), (13, S o15), (17, .slice B l.length d), (18, In l.length), (19, In k), (27, .slice A said.length c), (28, In said.length), (29, In i), (61, .bool false)] (show ([S nm, .slice A said.length c, Pt g1 0, Pt g7 0, In i, S o15, .slice B l.length d, In l.length, In k, .slice A said.length c, In said.length, In i, .bool (o15 == ((((nm ++ [0]) ++ nm) ++ [0]) ++ ((l.getD k ([], [])).2)))] : List Value) = [S nm, .slice A said.length c, Pt g1 0, Pt g7 0, In i, S o15, .slice B l.length d, In l.length, In k, .slice A said.length c, In said.length, In i, .bool false] by rw [h4]) (fun β => ?_)
      replace h4 : ¬ (o15 = ((((nm ++ [0]) ++ nm) ++ [0]) ++ ((l.getD k ([], [])).2))) := eql_F h4
      refine GL_s 2 23 [(1, S nm), (2, .slice A said.length c), (3, Pt g1 0), (8, Pt g7 0), (9, In i), (13, S o15), (17, .slice B l.length d), (18, In l.length), (19, In k), (27, .slice A said.length c), (28, In said.length), (29, In i), (61, .bool false), (62, S o15), (63, S nm)] fun β => ?_
      refine GL_V (R_cat (t := 9) (l := nm) (m := [32]) (by (try simp only [List.length_append, List.length_cons, List.length_nil, dgF_len]); omega)) ?_
      refine GL_s 1 25 [(1, S nm), (2, .slice A said.length c), (3, Pt g1 0), (8, Pt g7 0), (9, In i), (13, S o15), (17, .slice B l.length d), (18, In l.length), (19, In k), (27, .slice A said.length c), (28, In said.length), (29, In i), (61, .bool false), (62, S o15), (64, S (nm ++ [32])), (65, Pt g7 1)] fun β => ?_
      refine GL_V (run_load1 (t := 9) (by kernel_rfl) ((H.blk_cell (i := 2) rfl 1).trans rfl)) ?_
      refine GL_s 1 27 [(1, S nm), (2, .slice A said.length c), (3, Pt g1 0), (8, Pt g7 0), (9, In i), (13, S o15), (17, .slice B l.length d), (18, In l.length), (19, In k), (27, .slice A said.length c), (28, In said.length), (29, In i), (61, .bool false), (62, S o15), (64, S (nm ++ [32])), (66, S ((l.getD k ([], [])).2)), (67, Pt g1 2)] fun β => ?_
      refine GL_V (run_load1 (t := 9) (by kernel_rfl) ((H.blk_cell (i := 3) rfl 2).trans rfl)) ?_
      refine GL_C (c_ldigest T hT gT R hR gR ((l.getD k ([], [])).2) st (by omega) (by omega) H) ?_
      rintro _ w27 ⟨rfl, H⟩
      refine GL_V (R_cat (t := 9) (l := (nm ++ [32])) (m := (dgF T R ((l.getD k ([], [])).2) st)) (by (try simp only [List.length_append, List.length_cons, List.length_nil, dgF_len]); omega)) ?_
      refine GL_V (R_streq (t := 9) (l := o15) (m := ((nm ++ [32]) ++ (dgF T R ((l.getD k ([], [])).2) st)))) ?_
      refine GL_st 1 32 [(1, S nm), (2, .slice A said.length c), (3, Pt g1 0), (8, Pt g7 0), (9, In i), (13, S o15), (17, .slice B l.length d), (18, In l.length), (19, In k), (27, .slice A said.length c), (28, In said.length), (29, In i), (72, .bool (o15 == ((nm ++ [32]) ++ (dgF T R ((l.getD k ([], [])).2) st))))] fun β => ?_
      refine G_cond (o15 == ((nm ++ [32]) ++ (dgF T R ((l.getD k ([], [])).2) st))) (by kernel_rfl) (fun h5 => ?_) (fun h5 => ?_)
      · --yes
       replace h5 : o15 = ((nm ++ [32]) ++ (dgF T R ((l.getD k ([], [])).2) st)) := eql_T h5
       refine G_sr ?_
       refine GL_st 1 1 [(6, .bool true)] fun β => ?_
       refine G_ret ?_
       refine thn_ret (inb_ret (thn_ret (thn_ret (inb_ret (inb_ret (thn_ret (thn_ret (inb_ret (thn_ret (res1 (v := .bool true) rfl (by kernel_rfl) ?_))))))))))
       replace H := H.drop 3
       replace H := H.drop 2
       replace H := H.drop 1
       replace H := H.drop 0
       replace H : Sep w0 w27 (F) := H
       have hyes : hitA T R st nm (l.getD k ([], [])).2 said i = true := by
         clear H
         unfold hitA
         rw [hd1]
         simp only [hitF, Bool.or_eq_true, Bool.and_eq_true, beq_iff_eq]
         first | exact .inl (.inl (.inl (by assumption))) | exact .inl (.inl (.inr (by assumption))) | exact .inl (.inr (by assumption)) | exact .inr ⟨by assumption, by assumption⟩
       exact ⟨by rw [hit_yes (by omega) (by omega) h1 hyes], H⟩
      · --no
       replace h5 : ¬ (o15 = ((nm ++ [32]) ++ (dgF T R ((l.getD k ([], [])).2) st))) := eql_F h5
       refine G_skip ?_
       refine thn_normal ?_
       refine G_sr ?_
       refine GL_s 2 2 [(1, S nm), (2, .slice A said.length c), (3, Pt g1 0), (8, Pt g7 0), (9, In i), (17, .slice B l.length d), (18, In l.length), (19, In k), (27, .slice A said.length c), (28, In said.length), (29, In i), (73, S o15), (74, Pt g7 1)] fun β => ?_
       refine GL_V (run_load1 (t := 9) (by kernel_rfl) ((H.blk_cell (i := 2) rfl 1).trans rfl)) ?_
       refine GL_V (R_streq (t := 9) (l := o15) (m := (l.getD k ([], [])).2)) ?_
       refine GL_s 1 5 [(1, S nm), (2, .slice A said.length c), (3, Pt g1 0), (8, Pt g7 0), (9, In i), (17, .slice B l.length d), (18, In l.length), (19, In k), (27, .slice A said.length c), (28, In said.length), (29, In i), (77, .bool (o15 == ((l.getD k ([], [])).2)))] fun β => ?_
       rcases Bool.eq_false_or_eq_true (o15 == ((l.getD k ([], [])).2)) with h6 | h6
       · --yes
        refine GL_re [(1, S nm), (2, .slice A said.length c), (3, Pt g1 0), (8, Pt g7 0), (9, In i), (17, .slice B l.length d), (18, In l.length), (19, In k), (27, .slice A said.length c), (28, In said.length), (29, In i), (77, .bool true)] (show ([S nm, .slice A said.length c, Pt g1 0, Pt g7 0, In i, .slice B l.length d, In l.length, In k, .slice A said.length c, In said.length, In i, .bool (o15 == ((l.getD k ([], [])).2))] : List Value) = [S nm, .slice A said.length c, Pt g1 0, Pt g7 0, In i, .slice B l.length d, In l.length, In k, .slice A said.length c, In said.length, In i, .bool true] by rw [h6]) (fun β => ?_)
        replace h6 : o15 = (l.getD k ([], [])).2 := eql_T h6
        refine GL_srt 3 8 [(1, S nm), (2, .slice A said.length c), (3, Pt g1 0), (8, Pt g7 0), (9, In i), (17, .slice B l.length d), (18, In l.length), (19, In k), (27, .slice A said.length c), (28, In said.length), (29, In i), (80, .bool (decide (i > 0)))] (show ([S nm, .slice A said.length c, Pt g1 0, Pt g7 0, .int .i64 (i : Int), .slice B l.length d, .int .i64 (l.length : Int), .int .i64 (k : Int), .slice A said.length c, .int .i64 (said.length : Int), .int .i64 (i : Int), .bool (decide ((i : Int) > ((0 : Nat) : Int)))] : List Value) = [S nm, .slice A said.length c, Pt g1 0, Pt g7 0, In i, .slice B l.length d, In l.length, In k, .slice A said.length c, In said.length, In i, .bool (decide (i > 0))] by rw [ngtr i 0]) fun β => ?_
        refine G_cond (decide (i > 0)) (by kernel_rfl) (fun h7 => ?_) (fun h7 => ?_)
        · --yes
         replace h7 : i > 0 := of_decide_eq_true h7
         have hsj := hsa _ (mem_getD (l := said) (k := i - 1) (by omega))
         refine G_sr ?_
         refine GL_sr 3 3 [(1, S nm), (2, .slice A said.length c), (3, Pt g1 0), (8, Pt g7 0), (17, .slice B l.length d), (18, In l.length), (19, In k), (27, .slice A said.length c), (28, In said.length), (29, In i), (82, .slice A said.length c), (84, In (i - 1))] (show ([S nm, .slice A said.length c, Pt g1 0, Pt g7 0, .slice B l.length d, .int .i64 (l.length : Int), .int .i64 (k : Int), .slice A said.length c, .int .i64 (said.length : Int), .int .i64 (i : Int), .slice A said.length c, .int .i64 (IntKind.i64.wrap ((i : Int) - ((1 : Nat) : Int)))] : List Value) = [S nm, .slice A said.length c, Pt g1 0, Pt g7 0, .slice B l.length d, In l.length, In k, .slice A said.length c, In said.length, In i, .slice A said.length c, In (i - 1)] by rw [nsub64 i 1 (by omega)]) fun β => ?_
         obtain ⟨ad29, hr28, hc30⟩ := R_place (P := Tryd.prog) (t := 23) (e := 9) (i := (i - 1)) (ki := .i64) RS (by omega) (by kernel_rfl) (by kernel_rfl)
         refine GL_V (hr28 _) ?_
         refine GL_V (run_load1 (t := 9) (by kernel_rfl) (ss_at hc30 ((((H.drop 3).drop 2).drop 1).drop 0) (by omega))) ?_
         refine GL_C (c_Unb (said.getD (i - 1) []) (by omega) H) ?_
         rintro _ w38 ⟨o31, e32, p33, A34, c35, hd36, hl37, rfl, H⟩
         refine GL_s 3 9 [(1, S nm), (2, .slice A said.length c), (3, Pt g1 0), (8, Pt g7 0), (17, .slice B l.length d), (18, In l.length), (19, In k), (27, .slice A said.length c), (28, In said.length), (29, In i), (88, .slice A34 o31.length c35), (89, .agg #[In e32, In p33])] fun β => ?_
         refine GL_new (V := fun g => Pt g 0) (l := [In 0, In 0]) (t := 70) H rfl (by kernel_rfl) (by kernel_rfl) (by kernel_rfl) (fun g39 w40 H => ?_)
         refine GL_s 1 11 [(1, S nm), (2, .slice A said.length c), (3, Pt g1 0), (8, Pt g7 0), (14, .slice A34 o31.length c35), (15, Pt g39 0), (17, .slice B l.length d), (18, In l.length), (19, In k), (27, .slice A said.length c), (28, In said.length), (29, In i), (89, .agg #[In e32, In p33])] fun β => ?_
         obtain ⟨w41, hr42, H⟩ := R_store (P := Tryd.prog) (t := 70) (v := .agg #[In e32, In p33]) (off := 0) H (i := 0) rfl (by kernel_rfl) (by kernel_rfl) (by kernel_rfl)
         replace H : Sep w0 w41 (.blk g39 70 [In e32, In p33] :: .row (.slice A34 o31.length c35) 5 1 o31.length (bs o31) :: .blk g23 70 [In e16, In p17] :: .row (.slice A18 o15.length c19) 5 1 o15.length (bs o15) :: .blk g7 40 [S ((l.getD k ([], [])).1), S ((l.getD k ([], [])).2)] :: .blk g1 25 [.slice B l.length d, S mech, S st, S y, .bool has, .slice E ls.length e] :: F) := H
         refine GL_U hr42 ?_
         refine GL_et ?_
         refine G_sr ?_
         refine GL_s 1 1 [(1, S nm), (2, .slice A said.length c), (3, Pt g1 0), (8, Pt g7 0), (17, .slice B l.length d), (18, In l.length), (19, In k), (27, .slice A said.length c), (28, In said.length), (29, In i), (90, .slice A34 o31.length c35)] fun β => ?_
         refine GL_V (R_conv_bs (s := 68) (t := 9) (e := 5) (l := o31) (by kernel_rfl) (by kernel_rfl) (by kernel_rfl) (Src.row H (i := 1) rfl)) ?_
         refine GL_s 1 3 [(1, S nm), (2, .slice A said.length c), (3, Pt g1 0), (8, Pt g7 0), (17, .slice B l.length d), (18, In l.length), (19, In k), (27, .slice A said.length c), (28, In said.length), (29, In i), (91, S o31), (92, S nm)] fun β => ?_
         refine GL_V (R_streq (t := 9) (l := o31) (m := nm)) ?_
         refine GL_et ?_
         refine G_cond (o31 == nm) (by kernel_rfl) (fun h8 => ?_) (fun h8 => ?_)
         · --yes
          replace h8 : o31 = nm := eql_T h8
          refine G_sr ?_
          refine GL_st 1 1 [(6, .bool true)] fun β => ?_
          refine G_ret ?_
          refine inb_ret (thn_ret (thn_ret (inb_ret (inb_ret (thn_ret (thn_ret (inb_ret (thn_ret (res1 (v := .bool true) rfl (by kernel_rfl) ?_)))))))))
          replace H := H.drop 5
          replace H := H.drop 4
          replace H := H.drop 3
          replace H := H.drop 2
          replace H := H.drop 1
          replace H := H.drop 0
          replace H : Sep w0 w41 (F) := H
          have hyes : hitA T R st nm (l.getD k ([], [])).2 said i = true := by
            clear H
            unfold hitA
            rw [hd1]
            have hd2 : (dec (said.getD (i - 1) [])).1 = o31 := by rw [hd36]
            rw [befF, if_neg (show ¬ i = 0 by omega)]
            simp only [hitF, Bool.or_eq_true, Bool.and_eq_true, beq_iff_eq, hd2]
            first | exact .inl (.inl (.inl (by assumption))) | exact .inl (.inl (.inr (by assumption))) | exact .inl (.inr (by assumption)) | exact .inr ⟨by assumption, by assumption⟩
          exact ⟨by rw [hit_yes (by omega) (by omega) h1 hyes], H⟩
         · --no
          replace h8 : ¬ (o31 = nm) := eql_F h8
          refine G_skip ?_
          refine inb_normal ?_
          refine thn_normal ?_
          refine G_region ?_
          refine GL_sr 2 2 [(1, S nm), (2, .slice A said.length c), (3, Pt g1 0), (8, Pt g7 0), (17, .slice B l.length d), (18, In l.length), (19, In k), (27, .slice A said.length c), (28, In said.length), (29, In (i + 1))] (show ([S nm, .slice A said.length c, Pt g1 0, Pt g7 0, .slice B l.length d, .int .i64 (l.length : Int), .int .i64 (k : Int), .slice A said.length c, .int .i64 (said.length : Int), .int .i64 (IntKind.i64.wrap ((i : Int) + ((1 : Nat) : Int)))] : List Value) = [S nm, .slice A said.length c, Pt g1 0, Pt g7 0, .slice B l.length d, In l.length, In k, .slice A said.length c, In said.length, In (i + 1)] by rw [nadd64 i 1 (by omega)]) fun β => ?_
          refine GL_end (by kernel_rfl) ?_
          have hno : hitA T R st nm (l.getD k ([], [])).2 said i = false := by
            clear H
            unfold hitA
            rw [hd1]
            have hd2 : (dec (said.getD (i - 1) [])).1 = o31 := by rw [hd36]
            rw [befF, if_neg (show ¬ i = 0 by omega)]
            refine Bool.eq_false_iff.2 fun hh => ?_
            simp only [hitF, Bool.or_eq_true, Bool.and_eq_true, beq_iff_eq, hd2] at hh
            rcases hh with ((hh | hh) | hh) | ⟨hh, hh2⟩ <;> first | exact absurd hh (by assumption) | exact absurd hh2 (by assumption) | (rw [befF, if_pos (show i = 0 by omega)] at hh2; exact absurd hh2 (by simp))
          replace H := H.drop 3
          replace H := H.drop 2
          replace H := H.drop 1
          replace H := H.drop 0
          replace H := H.front (i := 1) rfl
          replace H := H.front (i := 1) rfl
          replace H : Sep w0 w41 (.blk g7 40 [S ((l.getD k ([], [])).1), S ((l.getD k ([], [])).2)] :: .blk g1 25 [.slice B l.length d, S mech, S st, S y, .bool has, .slice E ls.length e] :: F) := H
          refine thn_normal ⟨(i + 1), Agr_of_keys (by kernel_rfl), ⟨H, ?_⟩, ?_⟩
          · exact ⟨by omega, range_no hJ2 hno⟩
          · first | (dsimp only; omega) | omega
        · --no
         replace h7 : ¬ (i > 0) := of_decide_eq_false h7
         refine G_skip ?_
         refine inb_normal ?_
         refine thn_normal ?_
         refine G_region ?_
         refine GL_sr 2 2 [(1, S nm), (2, .slice A said.length c), (3, Pt g1 0), (8, Pt g7 0), (17, .slice B l.length d), (18, In l.length), (19, In k), (27, .slice A said.length c), (28, In said.length), (29, In (i + 1))] (show ([S nm, .slice A said.length c, Pt g1 0, Pt g7 0, .slice B l.length d, .int .i64 (l.length : Int), .int .i64 (k : Int), .slice A said.length c, .int .i64 (said.length : Int), .int .i64 (IntKind.i64.wrap ((i : Int) + ((1 : Nat) : Int)))] : List Value) = [S nm, .slice A said.length c, Pt g1 0, Pt g7 0, .slice B l.length d, In l.length, In k, .slice A said.length c, In said.length, In (i + 1)] by rw [nadd64 i 1 (by omega)]) fun β => ?_
         refine GL_end (by kernel_rfl) ?_
         have hno : hitA T R st nm (l.getD k ([], [])).2 said i = false := by
           clear H
           unfold hitA
           rw [hd1]
           refine Bool.eq_false_iff.2 fun hh => ?_
           simp only [hitF, Bool.or_eq_true, Bool.and_eq_true, beq_iff_eq] at hh
           rcases hh with ((hh | hh) | hh) | ⟨hh, hh2⟩ <;> first | exact absurd hh (by assumption) | exact absurd hh2 (by assumption) | (rw [befF, if_pos (show i = 0 by omega)] at hh2; exact absurd hh2 (by simp))
         replace H := H.drop 1
         replace H := H.drop 0
         replace H := H.front (i := 1) rfl
         replace H := H.front (i := 1) rfl
         replace H : Sep w0 w27 (.blk g7 40 [S ((l.getD k ([], [])).1), S ((l.getD k ([], [])).2)] :: .blk g1 25 [.slice B l.length d, S mech, S st, S y, .bool has, .slice E ls.length e] :: F) := H
         refine thn_normal ⟨(i + 1), Agr_of_keys (by kernel_rfl), ⟨H, ?_⟩, ?_⟩
         · exact ⟨by omega, range_no hJ2 hno⟩
         · first | (dsimp only; omega) | omega
       · --no
        refine GL_re [(1, S nm), (2, .slice A said.length c), (3, Pt g1 0), (8, Pt g7 0), (9, In i), (17, .slice B l.length d), (18, In l.length), (19, In k), (27, .slice A said.length c), (28, In said.length), (29, In i), (77, .bool false)] (show ([S nm, .slice A said.length c, Pt g1 0, Pt g7 0, In i, .slice B l.length d, In l.length, In k, .slice A said.length c, In said.length, In i, .bool (o15 == ((l.getD k ([], [])).2))] : List Value) = [S nm, .slice A said.length c, Pt g1 0, Pt g7 0, In i, .slice B l.length d, In l.length, In k, .slice A said.length c, In said.length, In i, .bool false] by rw [h6]) (fun β => ?_)
        replace h6 : ¬ (o15 = (l.getD k ([], [])).2) := eql_F h6
        refine GL_st 3 8 [(1, S nm), (2, .slice A said.length c), (3, Pt g1 0), (8, Pt g7 0), (9, In i), (17, .slice B l.length d), (18, In l.length), (19, In k), (27, .slice A said.length c), (28, In said.length), (29, In i), (80, .bool false)] fun β => ?_
        refine G_false (by kernel_rfl) ?_
        refine G_skip ?_
        refine inb_normal ?_
        refine thn_normal ?_
        refine G_region ?_
        refine GL_sr 2 2 [(1, S nm), (2, .slice A said.length c), (3, Pt g1 0), (8, Pt g7 0), (17, .slice B l.length d), (18, In l.length), (19, In k), (27, .slice A said.length c), (28, In said.length), (29, In (i + 1))] (show ([S nm, .slice A said.length c, Pt g1 0, Pt g7 0, .slice B l.length d, .int .i64 (l.length : Int), .int .i64 (k : Int), .slice A said.length c, .int .i64 (said.length : Int), .int .i64 (IntKind.i64.wrap ((i : Int) + ((1 : Nat) : Int)))] : List Value) = [S nm, .slice A said.length c, Pt g1 0, Pt g7 0, .slice B l.length d, In l.length, In k, .slice A said.length c, In said.length, In (i + 1)] by rw [nadd64 i 1 (by omega)]) fun β => ?_
        refine GL_end (by kernel_rfl) ?_
        have hno : hitA T R st nm (l.getD k ([], [])).2 said i = false := by
          clear H
          unfold hitA
          rw [hd1]
          refine Bool.eq_false_iff.2 fun hh => ?_
          simp only [hitF, Bool.or_eq_true, Bool.and_eq_true, beq_iff_eq] at hh
          rcases hh with ((hh | hh) | hh) | ⟨hh, hh2⟩ <;> first | exact absurd hh (by assumption) | exact absurd hh2 (by assumption) | (rw [befF, if_pos (show i = 0 by omega)] at hh2; exact absurd hh2 (by simp))
        replace H := H.drop 1
        replace H := H.drop 0
        replace H := H.front (i := 1) rfl
        replace H := H.front (i := 1) rfl
        replace H : Sep w0 w27 (.blk g7 40 [S ((l.getD k ([], [])).1), S ((l.getD k ([], [])).2)] :: .blk g1 25 [.slice B l.length d, S mech, S st, S y, .bool has, .slice E ls.length e] :: F) := H
        refine thn_normal ⟨(i + 1), Agr_of_keys (by kernel_rfl), ⟨H, ?_⟩, ?_⟩
        · exact ⟨by omega, range_no hJ2 hno⟩
        · first | (dsimp only; omega) | omega
   · --no
    replace h2 : ¬ (i < said.length) := of_decide_eq_false h2
    refine G_exit (thn_exit (thn_exit (inb_hit ?_)))
    refine inb_normal ?_
    refine thn_normal ?_
    refine G_region ?_
    refine GL_sr 2 2 [(1, S nm), (2, .slice A said.length c), (3, Pt g1 0), (17, .slice B l.length d), (18, In l.length), (19, In (k + 1))] (show ([S nm, .slice A said.length c, Pt g1 0, .slice B l.length d, .int .i64 (l.length : Int), .int .i64 (IntKind.i64.wrap ((k : Int) + ((1 : Nat) : Int)))] : List Value) = [S nm, .slice A said.length c, Pt g1 0, .slice B l.length d, In l.length, In (k + 1)] by rw [nadd64 k 1 (by omega)]) fun β => ?_
    refine GL_end (by kernel_rfl) ?_
    replace H := H.drop 0
    replace H : Sep w0 w11 (.blk g1 25 [.slice B l.length d, S mech, S st, S y, .bool has, .slice E ls.length e] :: F) := H
    refine thn_normal ⟨(k + 1), Agr_of_keys (by kernel_rfl), ⟨H, ?_⟩, ?_⟩
    · first | exact ⟨by omega, any_no (d := ([], [])) (by omega) hI2 (by rw [rowF, beq_eq_false_iff_ne.2 h1]; rfl)⟩ | (have hi : i = said.length := (by omega); exact ⟨by omega, any_no (d := ([], [])) (by omega) hI2 (by unfold rowF; rw [← hi, hJ2, Bool.and_false])⟩)
    · first | (dsimp only; omega) | omega
 · --no
  replace h0 : ¬ (k < l.length) := of_decide_eq_false h0
  refine G_exit (thn_exit (thn_exit (inb_hit ?_)))
  refine thn_normal ?_
  refine G_sr ?_
  refine GL_st 1 1 [(6, .bool false)] fun β => ?_
  refine G_ret ?_
  refine res1 (v := .bool false) rfl (by kernel_rfl) ?_
  replace H := H.drop 0
  replace H : Sep w0 w3 (F) := H
  have hk : k = l.length := by omega
  rw [hk, List.take_length] at hI2
  exact ⟨by rw [show showsF T R l st nm said = l.any (rowF T R st nm said) from rfl, hI2], H⟩
end Go.Proofs.YtadiljnfkbbmcaaDoor
