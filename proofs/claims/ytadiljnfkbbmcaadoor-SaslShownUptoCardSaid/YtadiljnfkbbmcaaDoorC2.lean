-- printed by gw.py (my own program), checked by Lean
import Derived.Test.YtadiljnfkbbmcaaDoorC1
set_option linter.unusedVariables false
set_option linter.unusedSimpArgs false
set_option maxRecDepth 100000
set_option maxHeartbeats 400000
namespace Go.Proofs.YtadiljnfkbbmcaaDoor
open Go.Kw Go.RowKit

def wrF (T : List UInt32) (R : List UInt8) (x : R4) (l : List UInt8) : R4 × List UInt8 :=
  if 64 ≤ l.length then wrF T R (withF T R (l.take 64) x) (l.drop 64) else (x, l)
termination_by l.length
decreasing_by simp only [List.length_drop]; omega
def endF (T : List UInt32) (R : List UInt8) (x : R4) (l : List UInt8) : R4 :=
  if 64 ≤ l.length then endF T R (withF T R (l.take 64) x) (l.drop 64) else x
termination_by l.length
decreasing_by simp only [List.length_drop]; omega
def padF (l : List UInt8) : List UInt8 := l ++ [128] ++ List.replicate ((119 - l.length % 64) % 64) 0
def bitsF (n : UInt64) (k : Nat) : List UInt8 := (List.range k).map fun i => (shv64 (n * 8) (8 * i)).toUInt8
def sumF (T : List UInt32) (R : List UInt8) (x : R4) (rest : List UInt8) (n : Nat) : List UInt8 := digF (endF T R x (padF rest ++ bitsF (UInt64.ofNat n) 8))
theorem bits_step (n : UInt64) (k : Nat) : bitsF n (k + 1) = bitsF n k ++ [(shv64 (n * 8) (8 * k)).toUInt8] := by simp [bitsF, List.range_succ]
theorem bits_len (n : UInt64) (k : Nat) : (bitsF n k).length = k := by simp [bitsF]
theorem pad_len (l : List UInt8) : (padF l).length % 64 = 56 ∧ (padF l).length ≤ l.length + 64 := by simp only [padF, List.length_append, List.length_cons, List.length_nil, List.length_replicate]; omega
theorem pad_of {l e : List UInt8} {j : Nat} (he : e = l ++ [128] ++ List.replicate j 0) (hj : j ≤ 63) (h : e.length % 64 = 56) : e = padF l := by
  subst he
  unfold padF
  simp only [List.length_append, List.length_cons, List.length_nil, List.length_replicate] at h
  rw [show j = (119 - l.length % 64) % 64 from by omega]
/-- posthorn/hash.New -/
theorem c_hashNew {w0 w : World} {F : List Chunk} (H : Sep w0 w F) : Ret Tryd.prog 41 #[] w (fun v w' => ∃ g, v = .pointer (some ⟨g, 0, none⟩) ∧ Sep w0 w' (.blk g 116 [.bool true, U regF.1, U regF.2.1, U regF.2.2.1, U regF.2.2.2, .slice none (([] : List UInt8).length) 0, In 0] :: .row (.slice none (([] : List UInt8).length) 0) 5 1 (([] : List UInt8).length) (bs []) :: F)) := by
 refine Ret_enter (args := []) Tryd.func41 rfl (by kernel_rfl) ?_
 refine G_forget [] (by kernel_rfl) (fun β => ?_)
 refine G_sr ?_
 refine GL_st 1 1 [] fun β => ?_
 refine G_sr ?_
 refine GL_C (c_hfirst H) ?_
 rintro _ w1 ⟨rfl, H⟩
 refine GL_s 1 2 [(2, .agg #[.bool true, U regF.1, U regF.2.1, U regF.2.2.1, U regF.2.2.2, .slice none 0 0, In 0])] fun β => ?_
 refine GL_new (V := fun g => Pt g 0) (l := [.bool true, U regF.1, U regF.2.1, U regF.2.2.1, U regF.2.2.2, .slice none 0 0, In 0]) (t := 116) H rfl (by kernel_rfl) (by kernel_rfl) (by kernel_rfl) (fun g2 w3 H => ?_)
 refine GL_st 1 4 [(0, Pt g2 0)] fun β => ?_
 refine G_ret ?_
 refine res1 (v := Pt g2 0) rfl (by kernel_rfl) ?_
 replace H := H.nilRow 5 1
 exact ⟨_, rfl, H.front (i := 1) rfl⟩
/-- (*posthorn/hash.Hash).Write -/
theorem c_Write {w0 w : World} {F : List Chunk} (T : List UInt32) (hT : T.length = 64) (gT : Gl w0 0 (u32s T)) (R : List UInt8) (hR : R.length = 16) (gR : Gl w0 1 (bs R)) (r0 r1 r2 r3 : UInt32) (rest : List UInt8) (hr : rest.length ≤ 1099511627776) (n : Nat) (hn : n ≤ 1099511627776) (b : List UInt8) (hb : b.length ≤ 1099511627776) {g c d : Nat} {A B : Option Addr} (Rb : Rd w0 F (.slice B b.length d) 1 b.length (bs b)) (H : Sep w0 w (.blk g 116 [.bool true, U r0, U r1, U r2, U r3, .slice A rest.length c, In n] :: .row (.slice A rest.length c) 5 1 rest.length (bs rest) :: F)) : Ret Tryd.prog 42 #[.pointer (some ⟨g, 0, none⟩), .slice B b.length d] w (fun v w' => ∃ A1 c1, v = .int .i64 ((0 : Nat) : Int) ∧ Sep w0 w' (.blk g 116 [.bool true, U ((wrF T R (r0, r1, r2, r3) (rest ++ b)).1.1), U ((wrF T R (r0, r1, r2, r3) (rest ++ b)).1.2.1), U ((wrF T R (r0, r1, r2, r3) (rest ++ b)).1.2.2.1), U ((wrF T R (r0, r1, r2, r3) (rest ++ b)).1.2.2.2), .slice A1 ((wrF T R (r0, r1, r2, r3) (rest ++ b)).2.length) c1, In (n + b.length)] :: .row (.slice A1 (((wrF T R (r0, r1, r2, r3) (rest ++ b)).2).length) c1) 5 1 (((wrF T R (r0, r1, r2, r3) (rest ++ b)).2).length) (bs ((wrF T R (r0, r1, r2, r3) (rest ++ b)).2)) :: F)) := by
 refine Ret_enter (args := [Pt g 0, .slice B b.length d]) Tryd.func42 rfl (by kernel_rfl) ?_
 refine G_forget [(0, Pt g 0), (1, .slice B b.length d)] (by kernel_rfl) (fun β => ?_)
 refine G_sr ?_
 refine GL_st 1 1 [(0, Pt g 0), (1, .slice B b.length d)] fun β => ?_
 refine G_seq ?_
 refine G_sr ?_
 refine GL_s 6 6 [(0, Pt g 0), (1, .slice B b.length d), (8, .bool false), (11, Pt g 0)] fun β => ?_
 refine GL_V (run_load1 (t := 4) (by kernel_rfl) ((H.blk_cell (i := 0) rfl 0).trans rfl)) ?_
 refine GL_st 2 9 [(0, Pt g 0), (1, .slice B b.length d), (14, .bool false)] fun β => ?_
 refine G_false (by kernel_rfl) ?_
 refine G_skip ?_
 refine thn_normal ?_
 refine G_sr ?_
 refine GL_s 3 3 [(0, Pt g 0), (1, .slice B b.length d), (15, Pt g 0), (17, Pt g 6)] fun β => ?_
 refine GL_V (run_load1 (t := 2) (by kernel_rfl) ((H.blk_cell (i := 0) rfl 6).trans rfl)) ?_
 refine GL_sr 5 9 [(0, Pt g 0), (1, .slice B b.length d), (21, In (n + b.length)), (23, Pt g 6)] (show ([Pt g 0, .slice B b.length d, .int .i64 (IntKind.i64.wrap ((n : Int) + (b.length : Int))), Pt g 6] : List Value) = [Pt g 0, .slice B b.length d, In (n + b.length), Pt g 6] by rw [nadd64 n b.length (by omega)]) fun β => ?_
 obtain ⟨w1, hr2, H⟩ := R_store (P := Tryd.prog) (t := 2) (v := In (n + b.length)) (off := 6) H (i := 0) rfl (by kernel_rfl) (by kernel_rfl) (by kernel_rfl)
 replace H : Sep w0 w1 (.blk g 116 [.bool true, U r0, U r1, U r2, U r3, .slice A rest.length c, In (n + b.length)] :: .row (.slice A rest.length c) 5 1 rest.length (bs rest) :: F) := H
 refine GL_U hr2 ?_
 refine GL_et ?_
 refine G_seq ?_
 refine G_drawS (fun w => w.cell? ⟨g, 5, none⟩ = some (.slice A rest.length c) ∧ True) 17 17 (by kernel_rfl) (by kernel_rfl) H (fun w3 H => ?_)
 refine HL_takes [0, 1, 2] [(0, Pt g 0), (1, .slice B b.length d), (26, Pt g 5)] (mkL 17 [0, 1, 2]) 14 (by kernel_rfl) rfl (by kernel_rfl) (fun _ => by kernel_rfl) ⟨((H.blk_cell (i := 0) rfl 5).trans rfl), trivial⟩ (fun β => ?_)
 refine HL_t (i := 3) (m := 13) (fun w hS => run_load1 (t := 68) (by kernel_rfl) hS.1) rfl (by kernel_rfl) (by kernel_rfl) (by kernel_rfl) (by kernel_rfl) (by kernel_rfl) (by kernel_rfl) ⟨((H.blk_cell (i := 0) rfl 5).trans rfl), trivial⟩ rfl ?_
 refine HL_takes [4, 5, 6, 7, 9, 10, 11] [(0, Pt g 0), (1, .slice B b.length d), (31, .int .i64 (IntKind.i64.wrap ((rest.length : Int) + (b.length : Int)))), (35, Pt g 5)] (mkL 17 [0, 1, 2, 3, 4, 5, 6, 7, 9, 10, 11]) 6 (by kernel_rfl) rfl (by kernel_rfl) (fun _ => by kernel_rfl) ⟨((H.blk_cell (i := 0) rfl 5).trans rfl), trivial⟩ (fun β => ?_)
 refine HL_forgetr [(0, Pt g 0), (1, .slice B b.length d), (31, In (rest.length + b.length)), (35, Pt g 5)] (show ([Pt g 0, .slice B b.length d, .int .i64 (IntKind.i64.wrap ((rest.length : Int) + (b.length : Int))), Pt g 5] : List Value) = [Pt g 0, .slice B b.length d, In (rest.length + b.length), Pt g 5] by rw [nadd64 rest.length b.length (by omega)]) (by kernel_rfl) rfl (fun β => ?_)
 refine HL_t (i := 12) (m := 5) (fun w hS => run_load1 (t := 68) (by kernel_rfl) hS.1) rfl (by kernel_rfl) (by kernel_rfl) (by kernel_rfl) (by kernel_rfl) (by kernel_rfl) (by kernel_rfl) ⟨((H.blk_cell (i := 0) rfl 5).trans rfl), trivial⟩ rfl ?_
 refine HL_takes [14] [(0, Pt g 0), (31, .int .i64 ((rest.length + b.length : Nat) : Int)), (36, .slice A rest.length c), (38, .slice B b.length d)] (mkL 17 [0, 1, 2, 3, 4, 5, 6, 7, 9, 10, 11, 12, 14]) 4 (by kernel_rfl) rfl (by kernel_rfl) (fun _ => by kernel_rfl) ⟨((H.blk_cell (i := 0) rfl 5).trans rfl), trivial⟩ (fun β => ?_)
 obtain ⟨A4, c5, w6, hr7, H, hcap8⟩ := R_make (P := Tryd.prog) (t := 68) (e := 5) (z := .int .u8 0) (sz := 1) (by_ := 1) (k1 := .i64) (k2 := .i64) 0 (rest.length + b.length) H (by kernel_rfl) rfl (by decide) (by omega) (by omega) (by unfold maxLen; omega)
 replace H : Sep w0 w6 (.row (.slice A4 0 c5) 5 1 0 [] :: .blk g 116 [.bool true, U r0, U r1, U r2, U r3, .slice A rest.length c, In (n + b.length)] :: .row (.slice A rest.length c) 5 1 rest.length (bs rest) :: F) := H
 refine HL_v (i := 8) hr7 rfl (by kernel_rfl) (by kernel_rfl) (by kernel_rfl) (by kernel_rfl) (.inr ⟨((H.blk_cell (i := 1) rfl 5).trans rfl), trivial⟩) ?_
 obtain ⟨A9, c10, w11, o13, ho14, hl15, hr12, H⟩ := R_append8 (P := Tryd.prog) (t := 68) (ty := 68) (l := []) (news := rest) H (i := 0) rfl (by kernel_rfl) (Src.row H (i := 2) rfl) rfl (by simp only [List.length_nil]; omega)
 replace ho14 : o13 = rest := ho14
 replace hl15 : o13.length = rest.length := by simpa using hl15
 replace H : Sep w0 w11 (.row (.slice A9 o13.length c10) 5 1 o13.length (bs o13) :: .blk g 116 [.bool true, U r0, U r1, U r2, U r3, .slice A rest.length c, In (n + b.length)] :: .row (.slice A rest.length c) 5 1 rest.length (bs rest) :: F) := H
 refine HL_v (i := 13) hr12 rfl (by kernel_rfl) (by kernel_rfl) (by kernel_rfl) (by kernel_rfl) (.inr ⟨((H.blk_cell (i := 1) rfl 5).trans rfl), trivial⟩) ?_
 obtain ⟨A16, c17, w18, o20, ho21, hl22, hr19, H⟩ := R_append8 (P := Tryd.prog) (t := 68) (ty := 68) (l := o13) (news := b) H (i := 0) rfl (by kernel_rfl) (Rd.src Rb (((H.drop 2).drop 1).drop 0)) rfl (by omega)
 replace H : Sep w0 w18 (.row (.slice A16 o20.length c17) 5 1 o20.length (bs o20) :: .blk g 116 [.bool true, U r0, U r1, U r2, U r3, .slice A rest.length c, In (n + b.length)] :: .row (.slice A rest.length c) 5 1 rest.length (bs rest) :: F) := H
 refine HL_v (i := 15) hr19 rfl (by kernel_rfl) (by kernel_rfl) (by kernel_rfl) (by kernel_rfl) (.inr ⟨((H.blk_cell (i := 1) rfl 5).trans rfl), trivial⟩) ?_
 refine HL_takes [16] [(0, Pt g 0), (5, .slice A16 o20.length c17)] (mkL 17 [0, 1, 2, 3, 4, 5, 6, 7, 9, 10, 11, 12, 14, 8, 13, 15, 16]) 0 (by kernel_rfl) rfl (by kernel_rfl) (fun _ => by kernel_rfl) ⟨((H.blk_cell (i := 1) rfl 5).trans rfl), trivial⟩ (fun β => ?_)
 refine HL_forget [(0, Pt g 0), (5, .slice A16 o20.length c17)] (by kernel_rfl) (fun β => ?_)
 refine HL_fin (by kernel_rfl) ?_
 refine thn_normal ?_
 refine G_seq ?_
 refine G_block ?_
 have hall : o20 = rest ++ b := by simp [*]
 refine G_loop (X := (List UInt8) × (Option Addr) × Nat × UInt32 × UInt32 × UInt32 × UInt32) (fun ⟨cur, B, d, x0, x1, x2, x3⟩ => [(0, Pt g 0), (5, .slice B cur.length d)]) (fun ⟨cur, B, d, x0, x1, x2, x3⟩ w_ => Sep w0 w_ (.row (.slice A16 o20.length c17) 5 1 o20.length (bs o20) :: .blk g 116 [.bool true, U x0, U x1, U x2, U x3, .slice A rest.length c, In (n + b.length)] :: .row (.slice A rest.length c) 5 1 rest.length (bs rest) :: F) ∧ (Rd w0 (.row (.slice A16 o20.length c17) 5 1 o20.length (bs o20) :: F) (.slice B cur.length d) 1 cur.length (bs cur) ∧ wrF T R (r0, r1, r2, r3) (rest ++ b) = wrF T R (x0, x1, x2, x3) cur)) (fun ⟨cur, B, d, x0, x1, x2, x3⟩ => cur.length) (o20, A16, c17, r0, r1, r2, r3) (by kernel_rfl) ⟨H, ⟨Rd.of_row (((H.drop 2).drop 1)) (i := 0) rfl, by rw [hall]⟩⟩ ?_
 rintro ⟨cur, B, d, x0, x1, x2, x3⟩ β w23 ⟨H, hI⟩
 refine G_forget [(0, Pt g 0), (5, .slice B cur.length d)] (by kernel_rfl) (fun β => ?_)
 replace H : Sep w0 w23 (.row (.slice A16 o20.length c17) 5 1 o20.length (bs o20) :: .blk g 116 [.bool true, U x0, U x1, U x2, U x3, .slice A rest.length c, In (n + b.length)] :: .row (.slice A rest.length c) 5 1 rest.length (bs rest) :: F) := H
 replace hI : Rd w0 (.row (.slice A16 o20.length c17) 5 1 o20.length (bs o20) :: F) (.slice B cur.length d) 1 cur.length (bs cur) ∧ wrF T R (r0, r1, r2, r3) (rest ++ b) = wrF T R (x0, x1, x2, x3) cur := hI
 obtain ⟨R1, hI2⟩ := hI
 refine G_seq ?_
 refine G_sr ?_
 refine GL_srt 3 3 [(0, Pt g 0), (5, .slice B cur.length d), (42, .bool (decide (cur.length ≥ 64)))] (show ([Pt g 0, .slice B cur.length d, .bool (decide ((cur.length : Int) ≥ ((64 : Nat) : Int)))] : List Value) = [Pt g 0, .slice B cur.length d, .bool (decide (cur.length ≥ 64))] by rw [ngeq cur.length 64]) fun β => ?_
 refine G_cond (decide (cur.length ≥ 64)) (by kernel_rfl) (fun h0 => ?_) (fun h0 => ?_)
 · --yes
  replace h0 : cur.length ≥ 64 := of_decide_eq_true h0
  refine G_skip ?_
  refine thn_normal ?_
  refine G_block ?_
  refine G_seq ?_
  obtain ⟨A24, c25, hr26, hR27⟩ := R_bslice_hi (P := Tryd.prog) (t := 68) (e := 5) (b := 64) (k2 := .i64) R1 (by kernel_rfl) (by kernel_rfl) (by omega)
  obtain ⟨ad28, hr29, hc30⟩ := R_arrptr8x (P := Tryd.prog) (t := 101) (e := 5) (n := 64) (Rd.more hR27 (.cons_cons _ (.cons _ (.cons _ (.refl _))))) (by kernel_rfl) (by first | (simp; done) | (simp [*]; done) | assumption | (simp; omega) | rfl) (by decide)
  refine G_drawS (fun w => (∀ j u, ([U x0, U x1, U x2, U x3] : List Value)[j]? = some u → w.cell? ((⟨g, 1, none⟩ : Addr).add j) = some u) ∧ (∀ j u, (bs (cur.take 64) : List Value)[j]? = some u → w.cell? ((ad28 : Addr).add j) = some u) ∧ True) 12 13 (by kernel_rfl) (by kernel_rfl) H (fun w31 H => ?_)
  refine HL_takes [0, 1, 2, 3] [(0, Pt g 0), (5, .slice B cur.length d), (43, Pt g 0), (46, Pt g 1)] (mkL 13 [0, 1, 2, 3]) 9 (by kernel_rfl) rfl (by kernel_rfl) (fun _ => by kernel_rfl) ⟨(H.blk_cells (i := 1) rfl 1 _ ⟨_, rfl⟩), (hc30 _ H), trivial⟩ (fun β => ?_)
  refine HL_t (i := 4) (m := 8) (fun w hS => run_loadN (t := 113) (vs := [U x0, U x1, U x2, U x3]) (by kernel_rfl) (by kernel_rfl) hS.1) rfl (by kernel_rfl) (by kernel_rfl) (by kernel_rfl) (by kernel_rfl) (by kernel_rfl) (by kernel_rfl) ⟨(H.blk_cells (i := 1) rfl 1 _ ⟨_, rfl⟩), (hc30 _ H), trivial⟩ rfl ?_
  refine HL_takes [5] [(0, Pt g 0), (5, .slice B cur.length d), (43, Pt g 0), (47, .agg #[.int .u32 (x0.toNat : Int), .int .u32 (x1.toNat : Int), .int .u32 (x2.toNat : Int), .int .u32 (x3.toNat : Int)]), (48, .slice B cur.length d)] (mkL 13 [0, 1, 2, 3, 4, 5]) 7 (by kernel_rfl) rfl (by kernel_rfl) (fun _ => by kernel_rfl) ⟨(H.blk_cells (i := 1) rfl 1 _ ⟨_, rfl⟩), (hc30 _ H), trivial⟩ (fun β => ?_)
  refine HL_t (i := 6) (m := 6) (fun w _ => (hr26 _)) rfl (by kernel_rfl) (by kernel_rfl) (by kernel_rfl) (by kernel_rfl) (by kernel_rfl) (by kernel_rfl) ⟨(H.blk_cells (i := 1) rfl 1 _ ⟨_, rfl⟩), (hc30 _ H), trivial⟩ rfl ?_
  refine HL_t (i := 7) (m := 5) (fun w _ => (hr29 _)) rfl (by kernel_rfl) (by kernel_rfl) (by kernel_rfl) (by kernel_rfl) (by kernel_rfl) (by kernel_rfl) ⟨(H.blk_cells (i := 1) rfl 1 _ ⟨_, rfl⟩), (hc30 _ H), trivial⟩ rfl ?_
  refine HL_t (i := 8) (m := 4) (fun w hS => run_loadN (t := 101) (vs := bs (cur.take 64)) (by kernel_rfl) (by rw [bs_length, show (cur.take 64).length = 64 from by first | (simp; done) | (simp [*]; done) | assumption | (simp; omega) | rfl]; kernel_rfl) hS.2.1) rfl (by kernel_rfl) (by kernel_rfl) (by kernel_rfl) (by kernel_rfl) (by kernel_rfl) (by kernel_rfl) ⟨(H.blk_cells (i := 1) rfl 1 _ ⟨_, rfl⟩), (hc30 _ H), trivial⟩ rfl ?_
  refine HL_call (i := 9) (f := 52) (args := #[.agg #[U x0, U x1, U x2, U x3], .agg (bs (cur.take 64)).toArray]) rfl (by kernel_rfl) (by kernel_rfl) (by kernel_rfl) (by kernel_rfl) (c_with T hT gT R hR gR x0 x1 x2 x3 (cur.take 64) (by first | (simp; done) | (simp [*]; done) | assumption | (simp; omega) | rfl) H) ?_
  rintro _ w32 ⟨rfl, H⟩
  refine ⟨(.inr ⟨(H.blk_cells (i := 1) rfl 1 _ ⟨_, rfl⟩), (hc30 _ H), trivial⟩), ?_⟩
  refine HL_val (i := 10) (v := Pt g 0) rfl (by kernel_rfl) (by kernel_rfl) (by kernel_rfl) (by kernel_rfl) (.inr ⟨(H.blk_cells (i := 1) rfl 1 _ ⟨_, rfl⟩), (hc30 _ H), trivial⟩) ?_
  refine HL_takes [11] [(0, Pt g 0), (5, .slice B cur.length d), (52, .agg #[.int .u32 (((withF T R (cur.take 64) (x0, x1, x2, x3)).1).toNat : Int), .int .u32 (((withF T R (cur.take 64) (x0, x1, x2, x3)).2.1).toNat : Int), .int .u32 (((withF T R (cur.take 64) (x0, x1, x2, x3)).2.2.1).toNat : Int), .int .u32 (((withF T R (cur.take 64) (x0, x1, x2, x3)).2.2.2).toNat : Int)]), (54, Pt g 1)] (mkL 13 [0, 1, 2, 3, 4, 5, 6, 7, 8, 9, 10, 11]) 1 (by kernel_rfl) rfl (by kernel_rfl) (fun _ => by kernel_rfl) ⟨(H.blk_cells (i := 1) rfl 1 _ ⟨_, rfl⟩), (hc30 _ H), trivial⟩ (fun β => ?_)
  obtain ⟨w33, hr34, H⟩ := R_store (P := Tryd.prog) (t := 113) (v := .agg #[U ((withF T R (cur.take 64) (x0, x1, x2, x3)).1), U ((withF T R (cur.take 64) (x0, x1, x2, x3)).2.1), U ((withF T R (cur.take 64) (x0, x1, x2, x3)).2.2.1), U ((withF T R (cur.take 64) (x0, x1, x2, x3)).2.2.2)]) (off := 1) H (i := 1) rfl (by kernel_rfl) (by kernel_rfl) (by kernel_rfl)
  replace H : Sep w0 w33 (.row (.slice A16 o20.length c17) 5 1 o20.length (bs o20) :: .blk g 116 [.bool true, U ((withF T R (cur.take 64) (x0, x1, x2, x3)).1), U ((withF T R (cur.take 64) (x0, x1, x2, x3)).2.1), U ((withF T R (cur.take 64) (x0, x1, x2, x3)).2.2.1), U ((withF T R (cur.take 64) (x0, x1, x2, x3)).2.2.2), .slice A rest.length c, In (n + b.length)] :: .row (.slice A rest.length c) 5 1 rest.length (bs rest) :: F) := H
  refine HL_u (i := 12) hr34 rfl (by kernel_rfl) (by kernel_rfl) (by kernel_rfl) (by kernel_rfl) (.inl (by kernel_rfl)) ?_
  refine HL_forget [(0, Pt g 0), (5, .slice B cur.length d)] (by kernel_rfl) (fun β => ?_)
  refine HL_fin (by kernel_rfl) ?_
  refine thn_normal ?_
  refine G_region ?_
  refine GL_s 1 1 [(0, Pt g 0), (55, .slice B cur.length d)] fun β => ?_
  obtain ⟨A35, c36, hr37, hR38⟩ := R_bslice_lo (P := Tryd.prog) (t := 68) (e := 5) (a := 64) (k1 := .i64) R1 (by kernel_rfl) (by kernel_rfl) (by omega)
  refine GL_V (hr37 _) ?_
  refine GL_s 1 3 [(0, Pt g 0), (5, .slice A35 ((cur.drop 64).length) c36)] fun β => ?_
  refine GL_end (by kernel_rfl) ?_
  refine inb_normal ?_
  have hl64 : (cur.take 64).length = 64 := by simp; omega
  refine thn_normal ⟨((cur.drop 64), A35, c36, (withF T R (cur.take 64) (x0, x1, x2, x3)).1, (withF T R (cur.take 64) (x0, x1, x2, x3)).2.1, (withF T R (cur.take 64) (x0, x1, x2, x3)).2.2.1, (withF T R (cur.take 64) (x0, x1, x2, x3)).2.2.2), Agr_of_keys (by kernel_rfl), ⟨H, ?_⟩, ?_⟩
  · refine ⟨hR38, ?_⟩
    rw [hI2, wrF, if_pos (by omega)]
  · simp; omega
 · --no
  replace h0 : ¬ (cur.length ≥ 64) := of_decide_eq_false h0
  refine G_exit (thn_exit (thn_exit (inb_hit ?_)))
  refine thn_normal ?_
  refine G_sr ?_
  refine GL_s 1 1 [(5, .slice B cur.length d), (57, Pt g 0)] fun β => ?_
  refine GL_new (V := fun g => .slice (some ⟨g, 0, none⟩) 0 0) (l := []) (t := 5) H rfl (by kernel_rfl) (by kernel_rfl) (by kernel_rfl) (fun g39 w40 H => ?_)
  refine GL_s 1 3 [(57, Pt g 0), (58, .slice (some ⟨g39, 0, none⟩) 0 0), (59, .slice B cur.length d)] fun β => ?_
  replace H := H.asRow (i := 0) rfl 1 0 rfl (by decide)
  replace H : Sep w0 w40 (.row (.slice (some ⟨g39, 0, none⟩) (([] : List UInt8).length) 0) 5 1 (([] : List UInt8).length) (bs ([] : List UInt8)) :: .row (.slice A16 o20.length c17) 5 1 o20.length (bs o20) :: .blk g 116 [.bool true, U x0, U x1, U x2, U x3, .slice A rest.length c, In (n + b.length)] :: .row (.slice A rest.length c) 5 1 rest.length (bs rest) :: F) := H
  obtain ⟨A41, c42, w43, o45, ho46, hl47, hr44, H⟩ := R_append8 (P := Tryd.prog) (t := 68) (ty := 68) (l := ([] : List UInt8)) (news := cur) H (i := 0) rfl (by kernel_rfl) (Rd.src R1 (((H.drop 3).drop 2).drop 0)) rfl (by simp only [List.length_nil]; omega)
  replace ho46 : o45 = cur := ho46
  replace hl47 : o45.length = cur.length := by simpa using hl47
  replace H : Sep w0 w43 (.row (.slice A41 o45.length c42) 5 1 o45.length (bs o45) :: .row (.slice A16 o20.length c17) 5 1 o20.length (bs o20) :: .blk g 116 [.bool true, U x0, U x1, U x2, U x3, .slice A rest.length c, In (n + b.length)] :: .row (.slice A rest.length c) 5 1 rest.length (bs rest) :: F) := H
  refine GL_V hr44 ?_
  refine GL_s 2 6 [(60, .slice A41 o45.length c42), (62, Pt g 5)] fun β => ?_
  obtain ⟨w48, hr49, H⟩ := R_store (P := Tryd.prog) (t := 68) (v := .slice A41 o45.length c42) (off := 5) H (i := 2) rfl (by kernel_rfl) (by kernel_rfl) (by kernel_rfl)
  replace H : Sep w0 w48 (.row (.slice A41 o45.length c42) 5 1 o45.length (bs o45) :: .row (.slice A16 o20.length c17) 5 1 o20.length (bs o20) :: .blk g 116 [.bool true, U x0, U x1, U x2, U x3, .slice A41 o45.length c42, In (n + b.length)] :: .row (.slice A rest.length c) 5 1 rest.length (bs rest) :: F) := H
  refine GL_U hr49 ?_
  refine GL_et ?_
  refine G_sr ?_
  refine GL_st 1 1 [(4, In 0)] fun β => ?_
  refine G_ret ?_
  refine res1 (v := In 0) rfl (by kernel_rfl) ?_
  replace H := H.drop 3
  replace H := H.drop 1
  replace H := H.front (i := 1) rfl
  replace H : Sep w0 w48 (.blk g 116 [.bool true, U x0, U x1, U x2, U x3, .slice A41 o45.length c42, In (n + b.length)] :: .row (.slice A41 o45.length c42) 5 1 o45.length (bs o45) :: F) := H
  have hw : wrF T R (r0, r1, r2, r3) (rest ++ b) = ((x0, x1, x2, x3), o45) := by rw [hI2, wrF, if_neg (by omega)]; simp [*]
  rw [hw]
  exact ⟨_, _, rfl, H⟩
theorem c_Write1 {w0 w : World} {F : List Chunk} (T : List UInt32) (hT : T.length = 64) (gT : Gl w0 0 (u32s T)) (R : List UInt8) (hR : R.length = 16) (gR : Gl w0 1 (bs R)) (r0 r1 r2 r3 : UInt32) (rest : List UInt8) (hr : rest.length ≤ 1099511627776) (n : Nat) (hn : n ≤ 1099511627776) (b : List UInt8) (hb : b.length ≤ 1099511627776) {g c d m : Nat} {A B : Option Addr} (hm : b.length = m) (Rb : Rd w0 F (.slice B m d) 1 m (bs b)) (H : Sep w0 w (.blk g 116 [.bool true, U r0, U r1, U r2, U r3, .slice A rest.length c, In n] :: .row (.slice A rest.length c) 5 1 rest.length (bs rest) :: F)) : Ret Tryd.prog 42 #[.pointer (some ⟨g, 0, none⟩), .slice B m d] w (fun v w' => ∃ A1 c1, v = .int .i64 ((0 : Nat) : Int) ∧ Sep w0 w' (.blk g 116 [.bool true, U ((wrF T R (r0, r1, r2, r3) (rest ++ b)).1.1), U ((wrF T R (r0, r1, r2, r3) (rest ++ b)).1.2.1), U ((wrF T R (r0, r1, r2, r3) (rest ++ b)).1.2.2.1), U ((wrF T R (r0, r1, r2, r3) (rest ++ b)).1.2.2.2), .slice A1 ((wrF T R (r0, r1, r2, r3) (rest ++ b)).2.length) c1, In (n + b.length)] :: .row (.slice A1 (((wrF T R (r0, r1, r2, r3) (rest ++ b)).2).length) c1) 5 1 (((wrF T R (r0, r1, r2, r3) (rest ++ b)).2).length) (bs ((wrF T R (r0, r1, r2, r3) (rest ++ b)).2)) :: F)) := by
  subst hm; exact c_Write T hT gT R hR gR r0 r1 r2 r3 rest hr n hn b hb Rb H

theorem wr_len (T : List UInt32) (R : List UInt8) (x : R4) (l : List UInt8) : (wrF T R x l).2.length ≤ l.length := by
  induction h : l.length using Nat.strongRecOn generalizing x l with
  | _ n ih =>
    unfold wrF
    split
    · have := ih (l.drop 64).length (by simp; omega) (withF T R (l.take 64) x) (l.drop 64) rfl
      simp only [List.length_drop] at this
      omega
    · simp; omega
/-- (*posthorn/hash.Hash).Sum -/
theorem c_Sum {w0 w : World} {F : List Chunk} (T : List UInt32) (hT : T.length = 64) (gT : Gl w0 0 (u32s T)) (R : List UInt8) (hR : R.length = 16) (gR : Gl w0 1 (bs R)) (r0 r1 r2 r3 : UInt32) (rest : List UInt8) (hr : rest.length ≤ 1099511627776) (n : Nat) (hn : n ≤ 1099511627776) {g c : Nat} {A : Option Addr} (H : Sep w0 w (.blk g 116 [.bool true, U r0, U r1, U r2, U r3, .slice A rest.length c, In n] :: .row (.slice A rest.length c) 5 1 rest.length (bs rest) :: F)) : Ret Tryd.prog 43 #[.pointer (some ⟨g, 0, none⟩)] w (fun v w' => v = .agg (bs (sumF T R (r0, r1, r2, r3) rest n)).toArray ∧ Sep w0 w' (.blk g 116 [.bool true, U r0, U r1, U r2, U r3, .slice A rest.length c, In n] :: .row (.slice A rest.length c) 5 1 rest.length (bs rest) :: F)) := by
 refine Ret_enter (args := [Pt g 0]) Tryd.func43 rfl (by kernel_rfl) ?_
 refine G_forget [(0, Pt g 0)] (by kernel_rfl) (fun β => ?_)
 refine G_sr ?_
 refine GL_new (V := fun g => Pt g 0) (l := bs (List.replicate 16 (0 : UInt8))) (t := 82) H rfl (by kernel_rfl) (by kernel_rfl) (by kernel_rfl) (fun g1 w2 H => ?_)
 refine GL_et ?_
 refine G_seq ?_
 refine G_sr ?_
 refine GL_s 6 6 [(0, Pt g 0), (2, Pt g1 0), (9, .bool false), (12, Pt g 0)] fun β => ?_
 refine GL_V (run_load1 (t := 4) (by kernel_rfl) ((H.blk_cell (i := 1) rfl 0).trans rfl)) ?_
 refine GL_st 2 9 [(0, Pt g 0), (2, Pt g1 0), (15, .bool false)] fun β => ?_
 refine G_false (by kernel_rfl) ?_
 refine G_skip ?_
 refine thn_normal ?_
 refine G_sr ?_
 refine GL_new (V := fun g => .slice (some ⟨g, 0, none⟩) 0 0) (l := []) (t := 5) H rfl (by kernel_rfl) (by kernel_rfl) (by kernel_rfl) (fun g3 w4 H => ?_)
 refine GL_s 3 4 [(0, Pt g 0), (2, Pt g1 0), (17, .slice (some ⟨g3, 0, none⟩) 0 0), (20, Pt g 5)] fun β => ?_
 refine GL_V (run_load1 (t := 68) (by kernel_rfl) ((H.blk_cell (i := 2) rfl 5).trans rfl)) ?_
 replace H := H.asRow (i := 0) rfl 1 0 rfl (by decide)
 replace H : Sep w0 w4 (.row (.slice (some ⟨g3, 0, none⟩) (([] : List UInt8).length) 0) 5 1 (([] : List UInt8).length) (bs ([] : List UInt8)) :: .blk g1 82 (bs (List.replicate 16 (0 : UInt8))) :: .blk g 116 [.bool true, U r0, U r1, U r2, U r3, .slice A rest.length c, In n] :: .row (.slice A rest.length c) 5 1 rest.length (bs rest) :: F) := H
 obtain ⟨A5, c6, w7, o9, ho10, hl11, hr8, H⟩ := R_append8 (P := Tryd.prog) (t := 68) (ty := 68) (l := ([] : List UInt8)) (news := rest) H (i := 0) rfl (by kernel_rfl) (Src.row H (i := 3) rfl) rfl (by simp only [List.length_nil]; omega)
 replace ho10 : o9 = rest := ho10
 replace hl11 : o9.length = rest.length := by simpa using hl11
 replace H : Sep w0 w7 (.row (.slice A5 o9.length c6) 5 1 o9.length (bs o9) :: .blk g1 82 (bs (List.replicate 16 (0 : UInt8))) :: .blk g 116 [.bool true, U r0, U r1, U r2, U r3, .slice A rest.length c, In n] :: .row (.slice A rest.length c) 5 1 rest.length (bs rest) :: F) := H
 refine GL_V hr8 ?_
 refine GL_st 1 7 [(0, Pt g 0), (2, Pt g1 0), (3, .slice A5 o9.length c6)] fun β => ?_
 refine G_sr ?_
 refine GL_s 1 1 [(0, Pt g 0), (2, Pt g1 0), (23, .slice A5 o9.length c6)] fun β => ?_
 refine GL_new (V := fun g => .slice (some ⟨g, 0, none⟩) 1 1) (l := [By (128 : UInt8)]) (t := 5) H rfl (by kernel_rfl) (by kernel_rfl) (by kernel_rfl) (fun g12 w13 H => ?_)
 obtain ⟨A14, c15, w16, o18, ho19, hl20, hr17, H⟩ := R_append8 (P := Tryd.prog) (t := 68) (ty := 68) (l := o9) (news := [(128 : UInt8)]) H (i := 1) rfl (by kernel_rfl) (Src.blkp (m := 1) (c := 1) (off := 0) H (i := 0) rfl [By (128 : UInt8)] rfl ⟨_, rfl⟩) rfl (by omega)
 replace H := H.drop 0
 replace H : Sep w0 w16 (.row (.slice A14 o18.length c15) 5 1 o18.length (bs o18) :: .blk g1 82 (bs (List.replicate 16 (0 : UInt8))) :: .blk g 116 [.bool true, U r0, U r1, U r2, U r3, .slice A rest.length c, In n] :: .row (.slice A rest.length c) 5 1 rest.length (bs rest) :: F) := H
 refine GL_V hr17 ?_
 refine GL_st 1 4 [(0, Pt g 0), (2, Pt g1 0), (3, .slice A14 o18.length c15)] fun β => ?_
 refine G_seq ?_
 refine G_block ?_
 refine G_loop (X := (List UInt8) × (Option Addr) × Nat × Nat) (fun ⟨e, B, d, j⟩ => [(0, Pt g 0), (2, Pt g1 0), (3, .slice B e.length d)]) (fun ⟨e, B, d, j⟩ w_ => Sep w0 w_ (.row (.slice B e.length d) 5 1 e.length (bs e) :: .blk g1 82 (bs (List.replicate 16 (0 : UInt8))) :: .blk g 116 [.bool true, U r0, U r1, U r2, U r3, .slice A rest.length c, In n] :: .row (.slice A rest.length c) 5 1 rest.length (bs rest) :: F) ∧ (e = rest ++ [128] ++ List.replicate j 0 ∧ j ≤ (119 - rest.length % 64) % 64)) (fun ⟨e, B, d, j⟩ => 64 - j) (o18, A14, c15, 0) (by kernel_rfl) ⟨H, ⟨by simp [*], by omega⟩⟩ ?_
 rintro ⟨e, B, d, j⟩ β w21 ⟨H, hI⟩
 refine G_forget [(0, Pt g 0), (2, Pt g1 0), (3, .slice B e.length d)] (by kernel_rfl) (fun β => ?_)
 replace H : Sep w0 w21 (.row (.slice B e.length d) 5 1 e.length (bs e) :: .blk g1 82 (bs (List.replicate 16 (0 : UInt8))) :: .blk g 116 [.bool true, U r0, U r1, U r2, U r3, .slice A rest.length c, In n] :: .row (.slice A rest.length c) 5 1 rest.length (bs rest) :: F) := H
 replace hI : e = rest ++ [128] ++ List.replicate j 0 ∧ j ≤ (119 - rest.length % 64) % 64 := hI
 obtain ⟨hI1, hI2⟩ := hI
 have hel : e.length = rest.length + 1 + j := by rw [hI1]; simp; omega
 refine G_seq ?_
 refine G_sr ?_
 refine GL_srt 4 4 [(0, Pt g 0), (2, Pt g1 0), (3, .slice B e.length d), (29, .bool ((e.length % 64) != 56))] (show ([Pt g 0, Pt g1 0, .slice B e.length d, .bool (((e.length : Int).tmod ((64 : Nat) : Int)) != ((56 : Nat) : Int))] : List Value) = [Pt g 0, Pt g1 0, .slice B e.length d, .bool ((e.length % 64) != 56)] by rw [nrem64 e.length 64, nneq (e.length % 64) 56]) fun β => ?_
 refine G_cond ((e.length % 64) != 56) (by kernel_rfl) (fun h0 => ?_) (fun h0 => ?_)
 · --yes
  replace h0 : ¬ ((e.length % 64) = 56) := neq_T h0
  refine G_skip ?_
  refine thn_normal ?_
  refine G_block ?_
  refine G_region ?_
  refine GL_s 1 1 [(0, Pt g 0), (2, Pt g1 0), (30, .slice B e.length d)] fun β => ?_
  refine GL_new (V := fun g => .slice (some ⟨g, 0, none⟩) 1 1) (l := [By (0 : UInt8)]) (t := 5) H rfl (by kernel_rfl) (by kernel_rfl) (by kernel_rfl) (fun g22 w23 H => ?_)
  obtain ⟨A24, c25, w26, o28, ho29, hl30, hr27, H⟩ := R_append8 (P := Tryd.prog) (t := 68) (ty := 68) (l := e) (news := [(0 : UInt8)]) H (i := 1) rfl (by kernel_rfl) (Src.blkp (m := 1) (c := 1) (off := 0) H (i := 0) rfl [By (0 : UInt8)] rfl ⟨_, rfl⟩) rfl (by omega)
  replace H := H.drop 0
  replace H : Sep w0 w26 (.row (.slice A24 o28.length c25) 5 1 o28.length (bs o28) :: .blk g1 82 (bs (List.replicate 16 (0 : UInt8))) :: .blk g 116 [.bool true, U r0, U r1, U r2, U r3, .slice A rest.length c, In n] :: .row (.slice A rest.length c) 5 1 rest.length (bs rest) :: F) := H
  refine GL_V hr27 ?_
  refine GL_s 1 4 [(0, Pt g 0), (2, Pt g1 0), (3, .slice A24 o28.length c25)] fun β => ?_
  refine GL_end (by kernel_rfl) ?_
  refine inb_normal ?_
  refine thn_normal ⟨(o28, A24, c25, j + 1), Agr_of_keys (by kernel_rfl), ⟨H, ?_⟩, ?_⟩
  · exact ⟨by simp [*, List.replicate_succ'], by omega⟩
  · first | (dsimp only; omega) | omega
 · --no
  replace h0 : (e.length % 64) = 56 := neq_F h0
  refine G_exit (thn_exit (thn_exit (inb_hit ?_)))
  refine thn_normal ?_
  refine G_sr ?_
  refine GL_s 3 3 [(0, Pt g 0), (2, Pt g1 0), (3, .slice B e.length d), (35, Pt g 6)] fun β => ?_
  refine GL_V (run_load1 (t := 2) (by kernel_rfl) ((H.blk_cell (i := 2) rfl 6).trans rfl)) ?_
  refine GL_srt 3 7 [(0, Pt g 0), (2, Pt g1 0), (3, .slice B e.length d), (4, .int .u64 (((UInt64.ofNat n) * (8 : UInt64)).toNat : Int))] (show ([Pt g 0, Pt g1 0, .slice B e.length d, .int .u64 (IntKind.u64.wrap ((IntKind.u64.wrap (n : Int)) * ((8 : UInt64).toNat : Int)))] : List Value) = [Pt g 0, Pt g1 0, .slice B e.length d, .int .u64 (((UInt64.ofNat n) * (8 : UInt64)).toNat : Int)] by rw [Kw.u64_ofNat n, Kw.u64_mul (UInt64.ofNat n) (8 : UInt64)]) fun β => ?_
  refine G_seq ?_
  refine G_sr ?_
  refine GL_st 1 1 [(0, Pt g 0), (2, Pt g1 0), (3, .slice B e.length d), (4, .int .u64 (((UInt64.ofNat n) * (8 : UInt64)).toNat : Int)), (39, In 0)] fun β => ?_
  refine G_block ?_
  have hpad := pad_of hI1 (by omega) (by omega)
  have hpl := pad_len rest
  refine G_loop (X := Nat × (List UInt8) × (Option Addr) × Nat) (fun ⟨k, f, B, d⟩ => [(0, Pt g 0), (2, Pt g1 0), (3, .slice B f.length d), (4, .int .u64 (((UInt64.ofNat n) * (8 : UInt64)).toNat : Int)), (39, In k)]) (fun ⟨k, f, B, d⟩ w_ => Sep w0 w_ (.row (.slice B f.length d) 5 1 f.length (bs f) :: .blk g1 82 (bs (List.replicate 16 (0 : UInt8))) :: .blk g 116 [.bool true, U r0, U r1, U r2, U r3, .slice A rest.length c, In n] :: .row (.slice A rest.length c) 5 1 rest.length (bs rest) :: F) ∧ (k ≤ 8 ∧ f = padF rest ++ bitsF (UInt64.ofNat n) k)) (fun ⟨k, f, B, d⟩ => 8 - k) (0, e, B, d) (by kernel_rfl) ⟨H, ⟨by omega, by rw [hpad]; simp [bitsF]⟩⟩ ?_
  rintro ⟨k, f, B, d⟩ β w31 ⟨H, hI⟩
  refine G_forget [(0, Pt g 0), (2, Pt g1 0), (3, .slice B f.length d), (4, .int .u64 (((UInt64.ofNat n) * (8 : UInt64)).toNat : Int)), (39, In k)] (by kernel_rfl) (fun β => ?_)
  replace H : Sep w0 w31 (.row (.slice B f.length d) 5 1 f.length (bs f) :: .blk g1 82 (bs (List.replicate 16 (0 : UInt8))) :: .blk g 116 [.bool true, U r0, U r1, U r2, U r3, .slice A rest.length c, In n] :: .row (.slice A rest.length c) 5 1 rest.length (bs rest) :: F) := H
  replace hI : k ≤ 8 ∧ f = padF rest ++ bitsF (UInt64.ofNat n) k := hI
  obtain ⟨hK1, hK2⟩ := hI
  have hfl : f.length = (padF rest).length + k := by rw [hK2]; simp [bits_len]
  refine G_sr ?_
  refine GL_srt 1 1 [(0, Pt g 0), (2, Pt g1 0), (3, .slice B f.length d), (4, .int .u64 (((UInt64.ofNat n) * (8 : UInt64)).toNat : Int)), (39, In k), (40, .bool (decide (k < 8)))] (show ([Pt g 0, Pt g1 0, .slice B f.length d, .int .u64 (((UInt64.ofNat n) * (8 : UInt64)).toNat : Int), .int .i64 (k : Int), .bool (decide ((k : Int) < ((8 : Nat) : Int)))] : List Value) = [Pt g 0, Pt g1 0, .slice B f.length d, .int .u64 (((UInt64.ofNat n) * (8 : UInt64)).toNat : Int), In k, .bool (decide (k < 8))] by rw [nlss k 8]) fun β => ?_
  refine G_seq ?_
  refine G_cond (decide (k < 8)) (by kernel_rfl) (fun h1 => ?_) (fun h1 => ?_)
  · --yes
   replace h1 : k < 8 := of_decide_eq_true h1
   refine G_skip ?_
   refine thn_normal ?_
   refine G_seq ?_
   refine G_block ?_
   refine G_sr ?_
   refine GL_st 2 2 [(0, Pt g 0), (2, Pt g1 0), (3, .slice B f.length d), (4, .int .u64 (((UInt64.ofNat n) * (8 : UInt64)).toNat : Int)), (5, In k), (39, In k)] fun β => ?_
   refine G_region ?_
   refine GL_sr 4 4 [(0, Pt g 0), (2, Pt g1 0), (4, .int .u64 (((UInt64.ofNat n) * (8 : UInt64)).toNat : Int)), (39, In k), (42, .slice B f.length d), (43, .int .u64 (((UInt64.ofNat n) * (8 : UInt64)).toNat : Int)), (45, In (8 * k))] (show ([Pt g 0, Pt g1 0, .int .u64 (((UInt64.ofNat n) * (8 : UInt64)).toNat : Int), .int .i64 (k : Int), .slice B f.length d, .int .u64 (((UInt64.ofNat n) * (8 : UInt64)).toNat : Int), .int .i64 (IntKind.i64.wrap (((8 : Nat) : Int) * (k : Int)))] : List Value) = [Pt g 0, Pt g1 0, .int .u64 (((UInt64.ofNat n) * (8 : UInt64)).toNat : Int), In k, .slice B f.length d, .int .u64 (((UInt64.ofNat n) * (8 : UInt64)).toNat : Int), In (8 * k)] by rw [nmul64 8 k (by omega)]) fun β => ?_
   refine GL_V (R_shr64 (t := 118) (x := ((UInt64.ofNat n) * (8 : UInt64))) (s := (8 * k)) (k := .i64)) ?_
   refine GL_sr 1 6 [(0, Pt g 0), (2, Pt g1 0), (4, .int .u64 (((UInt64.ofNat n) * (8 : UInt64)).toNat : Int)), (39, In k), (42, .slice B f.length d), (47, By ((shv64 ((UInt64.ofNat n) * (8 : UInt64)) (8 * k)).toUInt8))] (show ([Pt g 0, Pt g1 0, .int .u64 (((UInt64.ofNat n) * (8 : UInt64)).toNat : Int), .int .i64 (k : Int), .slice B f.length d, .int .u8 (IntKind.u8.wrap ((shv64 ((UInt64.ofNat n) * (8 : UInt64)) (8 * k)).toNat : Int))] : List Value) = [Pt g 0, Pt g1 0, .int .u64 (((UInt64.ofNat n) * (8 : UInt64)).toNat : Int), In k, .slice B f.length d, By ((shv64 ((UInt64.ofNat n) * (8 : UInt64)) (8 * k)).toUInt8)] by rw [Kw.u8_of_u64 (shv64 ((UInt64.ofNat n) * (8 : UInt64)) (8 * k))]) fun β => ?_
   refine GL_new (V := fun g => .slice (some ⟨g, 0, none⟩) 1 1) (l := [By ((shv64 ((UInt64.ofNat n) * (8 : UInt64)) (8 * k)).toUInt8)]) (t := 5) H rfl (by kernel_rfl) (by kernel_rfl) (by kernel_rfl) (fun g32 w33 H => ?_)
   obtain ⟨A34, c35, w36, o38, ho39, hl40, hr37, H⟩ := R_append8 (P := Tryd.prog) (t := 68) (ty := 68) (l := f) (news := [((shv64 ((UInt64.ofNat n) * (8 : UInt64)) (8 * k)).toUInt8)]) H (i := 1) rfl (by kernel_rfl) (Src.blkp (m := 1) (c := 1) (off := 0) H (i := 0) rfl [By ((shv64 ((UInt64.ofNat n) * (8 : UInt64)) (8 * k)).toUInt8)] rfl ⟨_, rfl⟩) rfl (by omega)
   replace H := H.drop 0
   replace H : Sep w0 w36 (.row (.slice A34 o38.length c35) 5 1 o38.length (bs o38) :: .blk g1 82 (bs (List.replicate 16 (0 : UInt8))) :: .blk g 116 [.bool true, U r0, U r1, U r2, U r3, .slice A rest.length c, In n] :: .row (.slice A rest.length c) 5 1 rest.length (bs rest) :: F) := H
   refine GL_V hr37 ?_
   refine GL_s 1 9 [(0, Pt g 0), (2, Pt g1 0), (3, .slice A34 o38.length c35), (4, .int .u64 (((UInt64.ofNat n) * (8 : UInt64)).toNat : Int)), (39, In k)] fun β => ?_
   refine GL_end (by kernel_rfl) ?_
   refine inb_normal ?_
   refine thn_normal ?_
   refine G_region ?_
   refine GL_sr 2 2 [(0, Pt g 0), (2, Pt g1 0), (3, .slice A34 o38.length c35), (4, .int .u64 (((UInt64.ofNat n) * (8 : UInt64)).toNat : Int)), (39, In (k + 1))] (show ([Pt g 0, Pt g1 0, .slice A34 o38.length c35, .int .u64 (((UInt64.ofNat n) * (8 : UInt64)).toNat : Int), .int .i64 (IntKind.i64.wrap ((k : Int) + ((1 : Nat) : Int)))] : List Value) = [Pt g 0, Pt g1 0, .slice A34 o38.length c35, .int .u64 (((UInt64.ofNat n) * (8 : UInt64)).toNat : Int), In (k + 1)] by rw [nadd64 k 1 (by omega)]) fun β => ?_
   refine GL_end (by kernel_rfl) ?_
   refine thn_normal ⟨(k + 1, o38, A34, c35), Agr_of_keys (by kernel_rfl), ⟨H, ?_⟩, ?_⟩
   · exact ⟨by omega, by rw [bits_step]; simp [*]⟩
   · first | (dsimp only; omega) | omega
  · --no
   replace h1 : ¬ (k < 8) := of_decide_eq_false h1
   refine G_exit (thn_exit (thn_exit (inb_hit ?_)))
   refine thn_normal ?_
   refine G_sr ?_
   refine GL_s 3 3 [(2, Pt g1 0), (3, .slice B f.length d), (53, Pt g 1)] fun β => ?_
   refine GL_V (run_loadN (t := 113) (vs := [U r0, U r1, U r2, U r3]) (by kernel_rfl) (by kernel_rfl) (H.blk_cells (i := 2) rfl 1 _ ⟨_, rfl⟩)) ?_
   refine GL_new (V := fun g => Pt g 0) (l := [U (0 : UInt32), U (0 : UInt32), U (0 : UInt32), U (0 : UInt32)]) (t := 113) H rfl (by kernel_rfl) (by kernel_rfl) (by kernel_rfl) (fun g41 w42 H => ?_)
   obtain ⟨w43, hr44, H⟩ := R_store (P := Tryd.prog) (t := 113) (v := .agg #[U r0, U r1, U r2, U r3]) (off := 0) H (i := 0) rfl (by kernel_rfl) (by kernel_rfl) (by kernel_rfl)
   replace H : Sep w0 w43 (.blk g41 113 [U r0, U r1, U r2, U r3] :: .row (.slice B f.length d) 5 1 f.length (bs f) :: .blk g1 82 (bs (List.replicate 16 (0 : UInt8))) :: .blk g 116 [.bool true, U r0, U r1, U r2, U r3, .slice A rest.length c, In n] :: .row (.slice A rest.length c) 5 1 rest.length (bs rest) :: F) := H
   refine GL_U hr44 ?_
   refine GL_et ?_
   refine G_seq ?_
   refine G_block ?_
   have hk8 : k = 8 := by omega
   have hfl8 : f.length % 64 = 0 := by omega
   refine G_loop (X := (List UInt8) × (Option Addr) × Nat × UInt32 × UInt32 × UInt32 × UInt32) (fun ⟨cur, C, dd, x0, x1, x2, x3⟩ => [(2, Pt g1 0), (3, .slice C cur.length dd), (6, Pt g41 0)]) (fun ⟨cur, C, dd, x0, x1, x2, x3⟩ w_ => Sep w0 w_ (.blk g41 113 [U x0, U x1, U x2, U x3] :: .row (.slice B f.length d) 5 1 f.length (bs f) :: .blk g1 82 (bs (List.replicate 16 (0 : UInt8))) :: .blk g 116 [.bool true, U r0, U r1, U r2, U r3, .slice A rest.length c, In n] :: .row (.slice A rest.length c) 5 1 rest.length (bs rest) :: F) ∧ (Rd w0 (.row (.slice B f.length d) 5 1 f.length (bs f) :: F) (.slice C cur.length dd) 1 cur.length (bs cur) ∧ endF T R (r0, r1, r2, r3) f = endF T R (x0, x1, x2, x3) cur ∧ cur.length % 64 = 0)) (fun ⟨cur, C, dd, x0, x1, x2, x3⟩ => cur.length) (f, B, d, r0, r1, r2, r3) (by kernel_rfl) ⟨H, ⟨Rd.of_row (((((H.drop 4).drop 3).drop 2).drop 0)) (i := 0) rfl, rfl, hfl8⟩⟩ ?_
   rintro ⟨cur, C, dd, x0, x1, x2, x3⟩ β w45 ⟨H, hI⟩
   refine G_forget [(2, Pt g1 0), (3, .slice C cur.length dd), (6, Pt g41 0)] (by kernel_rfl) (fun β => ?_)
   replace H : Sep w0 w45 (.blk g41 113 [U x0, U x1, U x2, U x3] :: .row (.slice B f.length d) 5 1 f.length (bs f) :: .blk g1 82 (bs (List.replicate 16 (0 : UInt8))) :: .blk g 116 [.bool true, U r0, U r1, U r2, U r3, .slice A rest.length c, In n] :: .row (.slice A rest.length c) 5 1 rest.length (bs rest) :: F) := H
   replace hI : Rd w0 (.row (.slice B f.length d) 5 1 f.length (bs f) :: F) (.slice C cur.length dd) 1 cur.length (bs cur) ∧ endF T R (r0, r1, r2, r3) f = endF T R (x0, x1, x2, x3) cur ∧ cur.length % 64 = 0 := hI
   obtain ⟨R1, hE1, hE2⟩ := hI
   refine G_seq ?_
   refine G_sr ?_
   refine GL_srt 3 3 [(2, Pt g1 0), (3, .slice C cur.length dd), (6, Pt g41 0), (57, .bool (decide (cur.length > 0)))] (show ([Pt g1 0, .slice C cur.length dd, Pt g41 0, .bool (decide ((cur.length : Int) > ((0 : Nat) : Int)))] : List Value) = [Pt g1 0, .slice C cur.length dd, Pt g41 0, .bool (decide (cur.length > 0))] by rw [ngtr cur.length 0]) fun β => ?_
   refine G_cond (decide (cur.length > 0)) (by kernel_rfl) (fun h2 => ?_) (fun h2 => ?_)
   · --yes
    replace h2 : cur.length > 0 := of_decide_eq_true h2
    refine G_skip ?_
    refine thn_normal ?_
    refine G_seq ?_
    refine G_block ?_
    obtain ⟨A46, c47, hr48, hR49⟩ := R_bslice_hi (P := Tryd.prog) (t := 68) (e := 5) (b := 64) (k2 := .i64) R1 (by kernel_rfl) (by kernel_rfl) (by omega)
    obtain ⟨ad50, hr51, hc52⟩ := R_arrptr8x (P := Tryd.prog) (t := 101) (e := 5) (n := 64) (Rd.more hR49 (.cons _ (.cons_cons _ (.cons _ (.cons _ (.cons _ (.refl _))))))) (by kernel_rfl) (by first | (simp; done) | (simp [*]; done) | assumption | (simp; omega) | rfl) (by decide)
    refine G_drawS (fun w => (∀ j u, ([U x0, U x1, U x2, U x3] : List Value)[j]? = some u → w.cell? ((⟨g41, 0, none⟩ : Addr).add j) = some u) ∧ (∀ j u, (bs (cur.take 64) : List Value)[j]? = some u → w.cell? ((ad50 : Addr).add j) = some u) ∧ True) 6 7 (by kernel_rfl) (by kernel_rfl) H (fun w53 H => ?_)
    refine HL_t (i := 0) (m := 6) (fun w hS => run_loadN (t := 113) (vs := [U x0, U x1, U x2, U x3]) (by kernel_rfl) (by kernel_rfl) hS.1) rfl (by kernel_rfl) (by kernel_rfl) (by kernel_rfl) (by kernel_rfl) (by kernel_rfl) (by kernel_rfl) ⟨(H.blk_cells (i := 0) rfl 0 _ ⟨_, rfl⟩), (hc52 _ H), trivial⟩ rfl ?_
    refine HL_takes [1] [(2, Pt g1 0), (3, .slice C cur.length dd), (6, Pt g41 0), (60, .agg #[.int .u32 (x0.toNat : Int), .int .u32 (x1.toNat : Int), .int .u32 (x2.toNat : Int), .int .u32 (x3.toNat : Int)]), (61, .slice C cur.length dd)] (mkL 7 [0, 1]) 5 (by kernel_rfl) rfl (by kernel_rfl) (fun _ => by kernel_rfl) ⟨(H.blk_cells (i := 0) rfl 0 _ ⟨_, rfl⟩), (hc52 _ H), trivial⟩ (fun β => ?_)
    refine HL_t (i := 2) (m := 4) (fun w _ => (hr48 _)) rfl (by kernel_rfl) (by kernel_rfl) (by kernel_rfl) (by kernel_rfl) (by kernel_rfl) (by kernel_rfl) ⟨(H.blk_cells (i := 0) rfl 0 _ ⟨_, rfl⟩), (hc52 _ H), trivial⟩ rfl ?_
    refine HL_t (i := 3) (m := 3) (fun w _ => (hr51 _)) rfl (by kernel_rfl) (by kernel_rfl) (by kernel_rfl) (by kernel_rfl) (by kernel_rfl) (by kernel_rfl) ⟨(H.blk_cells (i := 0) rfl 0 _ ⟨_, rfl⟩), (hc52 _ H), trivial⟩ rfl ?_
    refine HL_t (i := 4) (m := 2) (fun w hS => run_loadN (t := 101) (vs := bs (cur.take 64)) (by kernel_rfl) (by rw [bs_length, show (cur.take 64).length = 64 from by first | (simp; done) | (simp [*]; done) | assumption | (simp; omega) | rfl]; kernel_rfl) hS.2.1) rfl (by kernel_rfl) (by kernel_rfl) (by kernel_rfl) (by kernel_rfl) (by kernel_rfl) (by kernel_rfl) ⟨(H.blk_cells (i := 0) rfl 0 _ ⟨_, rfl⟩), (hc52 _ H), trivial⟩ rfl ?_
    refine HL_call (i := 5) (f := 52) (args := #[.agg #[U x0, U x1, U x2, U x3], .agg (bs (cur.take 64)).toArray]) rfl (by kernel_rfl) (by kernel_rfl) (by kernel_rfl) (by kernel_rfl) (c_with T hT gT R hR gR x0 x1 x2 x3 (cur.take 64) (by first | (simp; done) | (simp [*]; done) | assumption | (simp; omega) | rfl) H) ?_
    rintro _ w54 ⟨rfl, H⟩
    refine ⟨(.inr ⟨(H.blk_cells (i := 0) rfl 0 _ ⟨_, rfl⟩), (hc52 _ H), trivial⟩), ?_⟩
    obtain ⟨w55, hr56, H⟩ := R_store (P := Tryd.prog) (t := 113) (v := .agg #[U ((withF T R (cur.take 64) (x0, x1, x2, x3)).1), U ((withF T R (cur.take 64) (x0, x1, x2, x3)).2.1), U ((withF T R (cur.take 64) (x0, x1, x2, x3)).2.2.1), U ((withF T R (cur.take 64) (x0, x1, x2, x3)).2.2.2)]) (off := 0) H (i := 0) rfl (by kernel_rfl) (by kernel_rfl) (by kernel_rfl)
    replace H : Sep w0 w55 (.blk g41 113 [U ((withF T R (cur.take 64) (x0, x1, x2, x3)).1), U ((withF T R (cur.take 64) (x0, x1, x2, x3)).2.1), U ((withF T R (cur.take 64) (x0, x1, x2, x3)).2.2.1), U ((withF T R (cur.take 64) (x0, x1, x2, x3)).2.2.2)] :: .row (.slice B f.length d) 5 1 f.length (bs f) :: .blk g1 82 (bs (List.replicate 16 (0 : UInt8))) :: .blk g 116 [.bool true, U r0, U r1, U r2, U r3, .slice A rest.length c, In n] :: .row (.slice A rest.length c) 5 1 rest.length (bs rest) :: F) := H
    refine HL_u (i := 6) hr56 rfl (by kernel_rfl) (by kernel_rfl) (by kernel_rfl) (by kernel_rfl) (.inl (by kernel_rfl)) ?_
    refine HL_forget [(2, Pt g1 0), (3, .slice C cur.length dd), (6, Pt g41 0)] (by kernel_rfl) (fun β => ?_)
    refine HL_fin (by kernel_rfl) ?_
    refine inb_normal ?_
    refine thn_normal ?_
    refine G_region ?_
    refine GL_s 1 1 [(2, Pt g1 0), (6, Pt g41 0), (58, .slice C cur.length dd)] fun β => ?_
    obtain ⟨A57, c58, hr59, hR60⟩ := R_bslice_lo (P := Tryd.prog) (t := 68) (e := 5) (a := 64) (k1 := .i64) R1 (by kernel_rfl) (by kernel_rfl) (by omega)
    refine GL_V (hr59 _) ?_
    refine GL_s 1 3 [(2, Pt g1 0), (3, .slice A57 ((cur.drop 64).length) c58), (6, Pt g41 0)] fun β => ?_
    refine GL_end (by kernel_rfl) ?_
    have hl64 : (cur.take 64).length = 64 := by simp; omega
    refine thn_normal ⟨((cur.drop 64), A57, c58, (withF T R (cur.take 64) (x0, x1, x2, x3)).1, (withF T R (cur.take 64) (x0, x1, x2, x3)).2.1, (withF T R (cur.take 64) (x0, x1, x2, x3)).2.2.1, (withF T R (cur.take 64) (x0, x1, x2, x3)).2.2.2), Agr_of_keys (by kernel_rfl), ⟨H, ?_⟩, ?_⟩
    · refine ⟨hR60, ?_, by simp; omega⟩
      rw [hE1, endF, if_pos (by omega)]
    · simp; omega
   · --no
    replace h2 : ¬ (cur.length > 0) := of_decide_eq_false h2
    refine G_exit (thn_exit (thn_exit (inb_hit ?_)))
    refine thn_normal ?_
    refine G_sr ?_
    refine GL_V (run_loadN (t := 113) (vs := [U x0, U x1, U x2, U x3]) (by kernel_rfl) (by kernel_rfl) (H.blk_cells (i := 0) rfl 0 _ ⟨_, rfl⟩)) ?_
    refine GL_C (c_hdigest x0 x1 x2 x3 H) ?_
    rintro _ w61 ⟨rfl, H⟩
    obtain ⟨w62, hr63, H⟩ := R_storeL (P := Tryd.prog) (t := 82) (xs := bs (digF (x0, x1, x2, x3))) H (i := 2) rfl (by rw [bs_length, show (digF (x0, x1, x2, x3)).length = 16 from by first | (simp; done) | (simp [*]; done) | assumption | (simp; omega) | rfl]; kernel_rfl) (by rw [bs_length, bs_length, show (List.replicate 16 (0 : UInt8)).length = 16 from by first | (simp; done) | (simp [*]; done) | assumption | (simp; omega) | rfl, show (digF (x0, x1, x2, x3)).length = 16 from by first | (simp; done) | (simp [*]; done) | assumption | (simp; omega) | rfl]) (bs_one _)
    replace H : Sep w0 w62 (.blk g41 113 [U x0, U x1, U x2, U x3] :: .row (.slice B f.length d) 5 1 f.length (bs f) :: .blk g1 82 (bs (digF (x0, x1, x2, x3))) :: .blk g 116 [.bool true, U r0, U r1, U r2, U r3, .slice A rest.length c, In n] :: .row (.slice A rest.length c) 5 1 rest.length (bs rest) :: F) := H
    refine GL_U hr63 ?_
    refine GL_et ?_
    refine G_ret ?_
    refine resC (t := 82) (vs := bs (digF (x0, x1, x2, x3))) rfl (by kernel_rfl) (by kernel_rfl) (by rw [bs_length, show (digF (x0, x1, x2, x3)).length = 16 from by first | (simp; done) | (simp [*]; done) | assumption | (simp; omega) | rfl]; kernel_rfl) (H.blk_cells (i := 2) rfl 0 _ ⟨_, List.append_nil _⟩) ?_
    replace H := H.drop 2
    replace H := H.drop 1
    replace H := H.drop 0
    replace H := H.front (i := 1) rfl
    replace H := H.front (i := 1) rfl
    replace H : Sep w0 w62 (.blk g 116 [.bool true, U r0, U r1, U r2, U r3, .slice A rest.length c, In n] :: .row (.slice A rest.length c) 5 1 rest.length (bs rest) :: F) := H
    have hs : endF T R (r0, r1, r2, r3) f = (x0, x1, x2, x3) := by rw [hE1, endF, if_neg (by omega)]
    refine ⟨?_, H⟩
    rw [sumF, ← hk8, ← hK2, hs]
end Go.Proofs.YtadiljnfkbbmcaaDoor
