-- printed by gw.py (my own program), checked by Lean
import Derived.Test.YtadiljnfkbbmcaaDoorC2
set_option linter.unusedVariables false
set_option linter.unusedSimpArgs false
set_option maxRecDepth 100000
set_option maxHeartbeats 400000
namespace Go.Proofs.YtadiljnfkbbmcaaDoor
open Go.Kw Go.RowKit

theorem sumF_len (T : List UInt32) (R : List UInt8) (x : R4) (rest : List UInt8) (n : Nat) : (sumF T R x rest n).length = 16 := digF_len _
def wr0 (T : List UInt32) (R : List UInt8) (s : R4 × List UInt8) (b : List UInt8) : R4 × List UInt8 := wrF T R (s.1.1, s.1.2.1, s.1.2.2.1, s.1.2.2.2) (s.2 ++ b)
def st0 : R4 × List UInt8 := (regF, [])
def sumS (T : List UInt32) (R : List UInt8) (s : R4 × List UInt8) (n : Nat) : List UInt8 := sumF T R (s.1.1, s.1.2.1, s.1.2.2.1, s.1.2.2.2) s.2 n
def md5F (T : List UInt32) (R : List UInt8) (b : List UInt8) : List UInt8 := sumS T R (wr0 T R st0 b) (0 + b.length)
theorem md5F_len (T : List UInt32) (R : List UInt8) (b : List UInt8) : (md5F T R b).length = 16 := sumF_len _ _ _ _ _
def xorK (k : List UInt8) (c : UInt8) (o : List UInt8) : Nat → List UInt8
  | 0 => o
  | i + 1 => (xorK k c o i).set i (k.getD i 0 ^^^ c)
theorem xorK_len (k : List UInt8) (c : UInt8) (o : List UInt8) (i : Nat) : (xorK k c o i).length = o.length := by induction i <;> simp_all [xorK]
def macI (k : List UInt8) : List UInt8 := xorK k 54 (List.replicate 64 0) 64
def macO (k : List UInt8) : List UInt8 := xorK k 92 (macI k) 64
def macD (T : List UInt32) (R : List UInt8) (k b : List UInt8) : List UInt8 := sumS T R (wr0 T R (wr0 T R st0 (macI k)) b) (0 + (macI k).length + b.length)
def macK (T : List UInt32) (R : List UInt8) (k b : List UInt8) : List UInt8 := sumS T R (wr0 T R (wr0 T R st0 (macO k)) (macD T R k b)) (0 + (macO k).length + (macD T R k b).length)
def keyF (T : List UInt32) (R : List UInt8) (key : List UInt8) : List UInt8 :=
  if 64 < key.length then (md5F T R key).take 64 ++ (List.replicate 64 0).drop (md5F T R key).length else key.take 64 ++ (List.replicate 64 0).drop key.length
def macF (T : List UInt32) (R : List UInt8) (key b : List UInt8) : List UInt8 := macK T R (keyF T R key) b
/-- posthorn/hash.Md5 -/
theorem c_Md5 {w0 w : World} {F : List Chunk} (T : List UInt32) (hT : T.length = 64) (gT : Gl w0 0 (u32s T)) (R : List UInt8) (hR : R.length = 16) (gR : Gl w0 1 (bs R)) (b : List UInt8) (hb : b.length ≤ 1099511627776) {d : Nat} {B : Option Addr} (Rb : Rd w0 F (.slice B b.length d) 1 b.length (bs b)) (H : Sep w0 w F) : Ret Tryd.prog 40 #[.slice B b.length d] w (fun v w' => v = .agg (bs (md5F T R b)).toArray ∧ Sep w0 w' F) := by
 refine Ret_enter (args := [.slice B b.length d]) Tryd.func40 rfl (by kernel_rfl) ?_
 refine G_forget [(0, .slice B b.length d)] (by kernel_rfl) (fun β => ?_)
 refine G_sr ?_
 refine GL_new (V := fun g => Pt g 0) (l := bs (List.replicate 16 (0 : UInt8))) (t := 82) H rfl (by kernel_rfl) (by kernel_rfl) (by kernel_rfl) (fun g1 w2 H => ?_)
 refine GL_et ?_
 refine G_sr ?_
 refine GL_C (c_hashNew H) ?_
 rintro _ w4 ⟨g3, rfl, H⟩
 replace H : Sep w0 w4 (.blk g3 116 [.bool true, U regF.1, U regF.2.1, U regF.2.2.1, U regF.2.2.2, .slice none (([] : List UInt8).length) 0, In 0] :: .row (.slice none (([] : List UInt8).length) 0) 5 1 (([] : List UInt8).length) (bs []) :: .blk g1 82 (bs (List.replicate 16 (0 : UInt8))) :: F) := H
 refine GL_st 1 2 [(0, .slice B b.length d), (2, Pt g1 0), (3, Pt g3 0)] fun β => ?_
 refine G_sr ?_
 refine GL_s 2 2 [(2, Pt g1 0), (3, Pt g3 0), (5, Pt g3 0), (6, .slice B b.length d)] fun β => ?_
 replace H := H.front (i := 1) rfl
 replace H := H.front (i := 1) rfl
 replace H : Sep w0 w4 (.blk g3 116 [.bool true, U regF.1, U regF.2.1, U regF.2.2.1, U regF.2.2.2, .slice none (([] : List UInt8).length) 0, In 0] :: .row (.slice none (([] : List UInt8).length) 0) 5 1 (([] : List UInt8).length) (bs []) :: .blk g1 82 (bs (List.replicate 16 (0 : UInt8))) :: F) := H
 refine GL_C (c_Write1 T hT gT R hR gR regF.1 regF.2.1 regF.2.2.1 regF.2.2.2 [] (by first | omega | (simp only [List.length_nil]; omega)) 0 (by first | omega | (simp only [List.length_nil]; omega)) b (by first | omega | (simp only [List.length_nil]; omega)) (by rfl) (Rd.more Rb (.cons _ (.refl _))) H) ?_
 rintro _ w10 ⟨A8, c9, rfl, H⟩
 obtain ⟨x5, hx6⟩ : ∃ x, x = wrF T R (regF.1, regF.2.1, regF.2.2.1, regF.2.2.2) ([] ++ b) := ⟨_, rfl⟩
 have hl7 : x5.2.length ≤ 0 + b.length := by rw [hx6]; exact Nat.le_trans (wr_len _ _ _ _) (by simp)
 rw [← hx6] at H
 replace H : Sep w0 w10 (.blk g3 116 [.bool true, U x5.1.1, U x5.1.2.1, U x5.1.2.2.1, U x5.1.2.2.2, .slice A8 x5.2.length c9, In (0 + b.length)] :: .row (.slice A8 x5.2.length c9) 5 1 x5.2.length (bs x5.2) :: .blk g1 82 (bs (List.replicate 16 (0 : UInt8))) :: F) := H
 refine GL_et ?_
 refine G_sr ?_
 refine GL_s 1 1 [(2, Pt g1 0), (8, Pt g3 0)] fun β => ?_
 replace H := H.front (i := 1) rfl
 replace H := H.front (i := 1) rfl
 replace H : Sep w0 w10 (.blk g3 116 [.bool true, U x5.1.1, U x5.1.2.1, U x5.1.2.2.1, U x5.1.2.2.2, .slice A8 x5.2.length c9, In (0 + b.length)] :: .row (.slice A8 x5.2.length c9) 5 1 x5.2.length (bs x5.2) :: .blk g1 82 (bs (List.replicate 16 (0 : UInt8))) :: F) := H
 refine GL_C (c_Sum T hT gT R hR gR x5.1.1 x5.1.2.1 x5.1.2.2.1 x5.1.2.2.2 x5.2 (by first | omega | (simp only [List.length_nil]; omega)) (0 + b.length) (by first | omega | (simp only [List.length_nil]; omega)) H) ?_
 rintro _ w14 ⟨rfl, H⟩
 obtain ⟨y11, hy12⟩ : ∃ y, y = sumF T R (x5.1.1, x5.1.2.1, x5.1.2.2.1, x5.1.2.2.2) x5.2 (0 + b.length) := ⟨_, rfl⟩
 have hyl13 : y11.length = 16 := by rw [hy12]; exact sumF_len _ _ _ _ _
 rw [← hy12]
 replace H : Sep w0 w14 (.blk g3 116 [.bool true, U x5.1.1, U x5.1.2.1, U x5.1.2.2.1, U x5.1.2.2.2, .slice A8 x5.2.length c9, In (0 + b.length)] :: .row (.slice A8 x5.2.length c9) 5 1 x5.2.length (bs x5.2) :: .blk g1 82 (bs (List.replicate 16 (0 : UInt8))) :: F) := H
 obtain ⟨w15, hr16, H⟩ := R_storeL (P := Tryd.prog) (t := 82) (xs := bs y11) H (i := 2) rfl (by rw [bs_length, show (y11).length = 16 from by first | (simp; done) | (simp [*]; done) | assumption | (simp; omega) | rfl]; kernel_rfl) (by rw [bs_length, bs_length, show (List.replicate 16 (0 : UInt8)).length = 16 from by first | (simp; done) | (simp [*]; done) | assumption | (simp; omega) | rfl, show (y11).length = 16 from by first | (simp; done) | (simp [*]; done) | assumption | (simp; omega) | rfl]) (bs_one _)
 replace H : Sep w0 w15 (.blk g3 116 [.bool true, U x5.1.1, U x5.1.2.1, U x5.1.2.2.1, U x5.1.2.2.2, .slice A8 x5.2.length c9, In (0 + b.length)] :: .row (.slice A8 x5.2.length c9) 5 1 x5.2.length (bs x5.2) :: .blk g1 82 (bs y11) :: F) := H
 refine GL_U hr16 ?_
 refine GL_et ?_
 refine G_ret ?_
 refine resC (t := 82) (vs := bs y11) rfl (by kernel_rfl) (by kernel_rfl) (by rw [bs_length, show (y11).length = 16 from by first | (simp; done) | (simp [*]; done) | assumption | (simp; omega) | rfl]; kernel_rfl) (H.blk_cells (i := 2) rfl 0 _ ⟨_, List.append_nil _⟩) ?_
 replace H := H.drop 2
 replace H := H.drop 1
 replace H := H.drop 0
 replace H : Sep w0 w15 (F) := H
 refine ⟨?_, H⟩
 simp only [md5F, sumS, wr0, st0, hx6, hy12]
/-- posthorn/hash.Mac -/
theorem c_Mac {w0 w : World} {F : List Chunk} (T : List UInt32) (hT : T.length = 64) (gT : Gl w0 0 (u32s T)) (R : List UInt8) (hR : R.length = 16) (gR : Gl w0 1 (bs R)) (key b : List UInt8) (hkey : key.length ≤ 1099511627776) (hb : b.length ≤ 549755813888) {c d : Nat} {A B : Option Addr} (Rk : Rd w0 F (.slice A key.length c) 1 key.length (bs key)) (Rb : Rd w0 F (.slice B b.length d) 1 b.length (bs b)) (H : Sep w0 w F) : Ret Tryd.prog 30 #[.slice A key.length c, .slice B b.length d] w (fun v w' => v = .agg (bs (macF T R key b)).toArray ∧ Sep w0 w' F) := by
 refine Ret_enter (args := [.slice A key.length c, .slice B b.length d]) Tryd.func30 rfl (by kernel_rfl) ?_
 refine G_forget [(0, .slice A key.length c), (1, .slice B b.length d)] (by kernel_rfl) (fun β => ?_)
 refine G_sr ?_
 refine GL_new (V := fun g => Pt g 0) (l := bs (List.replicate 16 (0 : UInt8))) (t := 82) H rfl (by kernel_rfl) (by kernel_rfl) (by kernel_rfl) (fun g1 w2 H => ?_)
 refine GL_et ?_
 refine G_sr ?_
 refine GL_new (V := fun g => Pt g 0) (l := bs (List.replicate 64 (0 : UInt8))) (t := 101) H rfl (by kernel_rfl) (by kernel_rfl) (by kernel_rfl) (fun g3 w4 H => ?_)
 refine GL_et ?_
 refine G_seq ?_
 refine G_sr ?_
 refine GL_s 2 2 [(0, .slice A key.length c), (1, .slice B b.length d), (4, Pt g1 0), (5, Pt g3 0), (15, .slice (some ⟨g3, 0, none⟩) 64 64), (16, .slice A key.length c)] fun β => ?_
 obtain ⟨w5, hr6, H⟩ := R_copy8 (P := Tryd.prog) (t := 68) (t2 := 68) (ty := 3) (e := 5) (n := 64) (c := 64) (d := List.replicate 64 (0 : UInt8)) (l := key) H (i := 0) rfl (by first | (simp; done) | assumption | (simp [*]; done) | (simp; omega)) (Rd.src Rk ((H.drop 1).drop 0)) (by kernel_rfl) (by kernel_rfl)
 replace H : Sep w0 w5 (.blk g3 101 (bs (key.take 64 ++ (List.replicate 64 (0 : UInt8)).drop key.length)) :: .blk g1 82 (bs (List.replicate 16 (0 : UInt8))) :: F) := H
 refine GL_V hr6 ?_
 refine GL_et ?_
 refine G_sr ?_
 refine GL_srt 3 3 [(0, .slice A key.length c), (1, .slice B b.length d), (4, Pt g1 0), (5, Pt g3 0), (20, .bool (decide (key.length > 64)))] (show ([.slice A key.length c, .slice B b.length d, Pt g1 0, Pt g3 0, .bool (decide ((key.length : Int) > ((64 : Nat) : Int)))] : List Value) = [.slice A key.length c, .slice B b.length d, Pt g1 0, Pt g3 0, .bool (decide (key.length > 64))] by rw [ngtr key.length 64]) fun β => ?_
 refine G_cond (decide (key.length > 64)) (by kernel_rfl) (fun h0 => ?_) (fun h0 => ?_)
 · --yes
  replace h0 : key.length > 64 := of_decide_eq_true h0
  refine G_sr ?_
  refine GL_s 1 1 [(1, .slice B b.length d), (4, Pt g1 0), (5, Pt g3 0), (21, .slice A key.length c)] fun β => ?_
  refine GL_C (c_Md5 T hT gT R hR gR key (by omega) (Rd.more Rk (.cons _ (.cons _ (.refl _)))) H) ?_
  rintro _ w10 ⟨rfl, H⟩
  obtain ⟨y7, hy8⟩ : ∃ y, y = md5F T R key := ⟨_, rfl⟩
  have hyl9 : y7.length = 16 := by rw [hy8]; exact md5F_len _ _ _
  rw [← hy8]
  refine GL_new (V := fun g => Pt g 0) (l := bs (List.replicate 16 (0 : UInt8))) (t := 82) H rfl (by kernel_rfl) (by kernel_rfl) (by kernel_rfl) (fun g11 w12 H => ?_)
  obtain ⟨w13, hr14, H⟩ := R_storeL (P := Tryd.prog) (t := 82) (xs := bs y7) H (i := 0) rfl (by rw [bs_length, show (y7).length = 16 from by first | (simp; done) | assumption | (simp [*]; done) | (simp; omega)]; kernel_rfl) (by rw [bs_length, bs_length, show (List.replicate 16 (0 : UInt8)).length = 16 from by first | (simp; done) | assumption | (simp [*]; done) | (simp; omega), show (y7).length = 16 from by first | (simp; done) | assumption | (simp [*]; done) | (simp; omega)]) (bs_one _)
  replace H : Sep w0 w13 (.blk g11 82 (bs y7) :: .blk g3 101 (bs (key.take 64 ++ (List.replicate 64 (0 : UInt8)).drop key.length)) :: .blk g1 82 (bs (List.replicate 16 (0 : UInt8))) :: F) := H
  refine GL_U hr14 ?_
  refine GL_et ?_
  refine G_sr ?_
  refine GL_s 1 1 [(1, .slice B b.length d), (4, Pt g1 0), (5, Pt g3 0), (6, Pt g11 0), (23, .agg (bs (List.replicate 64 (0 : UInt8))).toArray)] fun β => ?_
  obtain ⟨w15, hr16, H⟩ := R_storeL (P := Tryd.prog) (t := 101) (xs := bs (List.replicate 64 (0 : UInt8))) H (i := 1) rfl (by rw [bs_length, show (List.replicate 64 (0 : UInt8)).length = 64 from by first | (simp; done) | assumption | (simp [*]; done) | (simp; omega)]; kernel_rfl) (by rw [bs_length, bs_length, show (key.take 64 ++ (List.replicate 64 (0 : UInt8)).drop key.length).length = 64 from by first | (simp; done) | assumption | (simp [*]; done) | (simp; omega), show (List.replicate 64 (0 : UInt8)).length = 64 from by first | (simp; done) | assumption | (simp [*]; done) | (simp; omega)]) (bs_one _)
  replace H : Sep w0 w15 (.blk g11 82 (bs y7) :: .blk g3 101 (bs (List.replicate 64 (0 : UInt8))) :: .blk g1 82 (bs (List.replicate 16 (0 : UInt8))) :: F) := H
  refine GL_U hr16 ?_
  refine GL_et ?_
  refine G_drawS (fun w => True) 3 3 (by kernel_rfl) (by kernel_rfl) H (fun w17 H => ?_)
  refine HL_takes [0, 1] [(1, .slice B b.length d), (4, Pt g1 0), (5, Pt g3 0), (24, .slice (some ⟨g3, 0, none⟩) 64 64), (25, .slice (some ⟨g11, 0, none⟩) 16 16)] (mkL 3 [0, 1]) 1 (by kernel_rfl) rfl (by kernel_rfl) (fun _ => by kernel_rfl) trivial (fun β => ?_)
  obtain ⟨w18, hr19, H⟩ := R_copy8 (P := Tryd.prog) (t := 68) (t2 := 68) (ty := 3) (e := 5) (n := 64) (c := 64) (d := List.replicate 64 (0 : UInt8)) (l := y7) H (i := 1) rfl (by first | (simp; done) | assumption | (simp [*]; done) | (simp; omega)) (Src.blk (m := 16) (c := 16) H (i := 0) rfl (by rw [bs_length, show (y7).length = 16 from by first | (simp; done) | assumption | (simp [*]; done) | (simp; omega)])) (by kernel_rfl) (by kernel_rfl)
  replace H : Sep w0 w18 (.blk g11 82 (bs y7) :: .blk g3 101 (bs (y7.take 64 ++ (List.replicate 64 (0 : UInt8)).drop y7.length)) :: .blk g1 82 (bs (List.replicate 16 (0 : UInt8))) :: F) := H
  refine HL_v (i := 2) hr19 rfl (by kernel_rfl) (by kernel_rfl) (by kernel_rfl) (by kernel_rfl) (.inr trivial) ?_
  refine HL_forget [(1, .slice B b.length d), (4, Pt g1 0), (5, Pt g3 0)] (by kernel_rfl) (fun β => ?_)
  refine HL_fin (by kernel_rfl) ?_
  refine thn_normal ?_
  obtain ⟨kk, hkk⟩ : ∃ k, k = y7.take 64 ++ (List.replicate 64 (0 : UInt8)).drop y7.length := ⟨_, rfl⟩
  rw [← hkk] at H
  have hkl : kk.length = 64 := by rw [hkk]; simp; omega
  have hkF : keyF T R key = kk := by rw [hkk, keyF]; simp [*]
  refine G_sr ?_
  refine GL_C (c_hashNew H) ?_
  rintro _ w21 ⟨g20, rfl, H⟩
  replace H : Sep w0 w21 (.blk g20 116 [.bool true, U regF.1, U regF.2.1, U regF.2.2.1, U regF.2.2.2, .slice none (([] : List UInt8).length) 0, In 0] :: .row (.slice none (([] : List UInt8).length) 0) 5 1 (([] : List UInt8).length) (bs []) :: .blk g11 82 (bs y7) :: .blk g3 101 (bs kk) :: .blk g1 82 (bs (List.replicate 16 (0 : UInt8))) :: F) := H
  refine GL_C (c_hashNew H) ?_
  rintro _ w23 ⟨g22, rfl, H⟩
  replace H : Sep w0 w23 (.blk g22 116 [.bool true, U regF.1, U regF.2.1, U regF.2.2.1, U regF.2.2.2, .slice none (([] : List UInt8).length) 0, In 0] :: .row (.slice none (([] : List UInt8).length) 0) 5 1 (([] : List UInt8).length) (bs []) :: .blk g20 116 [.bool true, U regF.1, U regF.2.1, U regF.2.2.1, U regF.2.2.2, .slice none (([] : List UInt8).length) 0, In 0] :: .row (.slice none (([] : List UInt8).length) 0) 5 1 (([] : List UInt8).length) (bs []) :: .blk g11 82 (bs y7) :: .blk g3 101 (bs kk) :: .blk g1 82 (bs (List.replicate 16 (0 : UInt8))) :: F) := H
  refine GL_st 2 4 [(1, .slice B b.length d), (4, Pt g1 0), (5, Pt g3 0), (7, Pt g20 0), (8, Pt g22 0)] fun β => ?_
  refine G_sr ?_
  refine GL_new (V := fun g => Pt g 0) (l := bs (List.replicate 64 (0 : UInt8))) (t := 101) H rfl (by kernel_rfl) (by kernel_rfl) (by kernel_rfl) (fun g24 w25 H => ?_)
  refine GL_et ?_
  refine G_seq ?_
  refine G_sr ?_
  refine GL_V (run_loadN (t := 101) (vs := bs kk) (by kernel_rfl) (by rw [bs_length, show (kk).length = 64 from by first | (simp; done) | assumption | (simp [*]; done) | (simp; omega)]; kernel_rfl) (H.blk_cells (i := 6) rfl 0 _ ⟨[], List.append_nil _⟩)) ?_
  refine GL_st 1 2 [(1, .slice B b.length d), (4, Pt g1 0), (5, Pt g3 0), (7, Pt g20 0), (8, Pt g22 0), (9, Pt g24 0), (29, .agg (bs kk).toArray), (30, In 0)] fun β => ?_
  refine G_block ?_
  refine G_loop (X := Nat × (List UInt8)) (fun ⟨i, ox⟩ => [(1, .slice B b.length d), (4, Pt g1 0), (5, Pt g3 0), (7, Pt g20 0), (8, Pt g22 0), (9, Pt g24 0), (29, .agg (bs kk).toArray), (30, In i)]) (fun ⟨i, ox⟩ w_ => Sep w0 w_ (.blk g24 101 (bs ox) :: .blk g22 116 [.bool true, U regF.1, U regF.2.1, U regF.2.2.1, U regF.2.2.2, .slice none (([] : List UInt8).length) 0, In 0] :: .row (.slice none (([] : List UInt8).length) 0) 5 1 (([] : List UInt8).length) (bs []) :: .blk g20 116 [.bool true, U regF.1, U regF.2.1, U regF.2.2.1, U regF.2.2.2, .slice none (([] : List UInt8).length) 0, In 0] :: .row (.slice none (([] : List UInt8).length) 0) 5 1 (([] : List UInt8).length) (bs []) :: .blk g11 82 (bs y7) :: .blk g3 101 (bs kk) :: .blk g1 82 (bs (List.replicate 16 (0 : UInt8))) :: F) ∧ (i ≤ 64 ∧ ox = xorK kk 54 (List.replicate 64 0) i)) (fun ⟨i, ox⟩ => 64 - i) (0, List.replicate 64 0) (by kernel_rfl) ⟨H, ⟨by omega, rfl⟩⟩ ?_
  rintro ⟨i, ox⟩ β w26 ⟨H, hI⟩
  refine G_forget [(1, .slice B b.length d), (4, Pt g1 0), (5, Pt g3 0), (7, Pt g20 0), (8, Pt g22 0), (9, Pt g24 0), (29, .agg (bs kk).toArray), (30, In i)] (by kernel_rfl) (fun β => ?_)
  replace H : Sep w0 w26 (.blk g24 101 (bs ox) :: .blk g22 116 [.bool true, U regF.1, U regF.2.1, U regF.2.2.1, U regF.2.2.2, .slice none (([] : List UInt8).length) 0, In 0] :: .row (.slice none (([] : List UInt8).length) 0) 5 1 (([] : List UInt8).length) (bs []) :: .blk g20 116 [.bool true, U regF.1, U regF.2.1, U regF.2.2.1, U regF.2.2.2, .slice none (([] : List UInt8).length) 0, In 0] :: .row (.slice none (([] : List UInt8).length) 0) 5 1 (([] : List UInt8).length) (bs []) :: .blk g11 82 (bs y7) :: .blk g3 101 (bs kk) :: .blk g1 82 (bs (List.replicate 16 (0 : UInt8))) :: F) := H
  replace hI : i ≤ 64 ∧ ox = xorK kk 54 (List.replicate 64 0) i := hI
  obtain ⟨hIox1, hIox2⟩ := hI
  have hlox : ox.length = 64 := by rw [hIox2, xorK_len]; simp
  refine G_sr ?_
  refine GL_srt 1 1 [(1, .slice B b.length d), (4, Pt g1 0), (5, Pt g3 0), (7, Pt g20 0), (8, Pt g22 0), (9, Pt g24 0), (29, .agg (bs kk).toArray), (30, In i), (31, .bool (decide (i < 64)))] (show ([.slice B b.length d, Pt g1 0, Pt g3 0, Pt g20 0, Pt g22 0, Pt g24 0, .agg (bs kk).toArray, .int .i64 (i : Int), .bool (decide ((i : Int) < ((64 : Nat) : Int)))] : List Value) = [.slice B b.length d, Pt g1 0, Pt g3 0, Pt g20 0, Pt g22 0, Pt g24 0, .agg (bs kk).toArray, In i, .bool (decide (i < 64))] by rw [nlss i 64]) fun β => ?_
  refine G_seq ?_
  refine G_cond (decide (i < 64)) (by kernel_rfl) (fun h1 => ?_) (fun h1 => ?_)
  · --yes
   replace h1 : i < 64 := of_decide_eq_true h1
   refine G_skip ?_
   refine thn_normal ?_
   refine G_seq ?_
   refine G_block ?_
   refine G_sr ?_
   refine GL_s 1 1 [(1, .slice B b.length d), (4, Pt g1 0), (5, Pt g3 0), (7, Pt g20 0), (8, Pt g22 0), (9, Pt g24 0), (29, .agg (bs kk).toArray), (30, In i), (32, In i)] fun β => ?_
   refine GL_V (R_aggidx (t := 101) (e := 5) (n := 64) (i := i) (ki := .i64) (xs := bs kk) (by kernel_rfl) (by kernel_rfl) (by kernel_rfl) (by omega) (bs_get _ _ (by omega))) ?_
   refine GL_st 2 4 [(1, .slice B b.length d), (4, Pt g1 0), (5, Pt g3 0), (7, Pt g20 0), (8, Pt g22 0), (9, Pt g24 0), (10, In i), (11, By (kk.getD i 0)), (29, .agg (bs kk).toArray), (30, In i)] fun β => ?_
   refine G_region ?_
   refine GL_sr 3 3 [(1, .slice B b.length d), (4, Pt g1 0), (5, Pt g3 0), (7, Pt g20 0), (8, Pt g22 0), (9, Pt g24 0), (29, .agg (bs kk).toArray), (30, In i), (34, In i), (36, By ((kk.getD i 0) ^^^ (54 : UInt8)))] (show ([.slice B b.length d, Pt g1 0, Pt g3 0, Pt g20 0, Pt g22 0, Pt g24 0, .agg (bs kk).toArray, .int .i64 (i : Int), .int .i64 (i : Int), .int .u8 (bxor .u8 ((kk.getD i 0).toNat : Int) ((54 : UInt8).toNat : Int))] : List Value) = [.slice B b.length d, Pt g1 0, Pt g3 0, Pt g20 0, Pt g22 0, Pt g24 0, .agg (bs kk).toArray, In i, In i, By ((kk.getD i 0) ^^^ (54 : UInt8))] by rw [Kw.u8_xor (kk.getD i 0) (54 : UInt8)]) fun β => ?_
   refine GL_V (R_arrplace1 (t := 101) (e := 5) (n := 64) (g := g24) (i := i) (ki := .i64) (by kernel_rfl) (by kernel_rfl) (by omega)) ?_
   obtain ⟨w27, hr28, H⟩ := R_bstore8 (P := Tryd.prog) (t := 5) (j := i) (b := ((kk.getD i 0) ^^^ (54 : UInt8))) H (i := 0) rfl (by kernel_rfl) (by omega)
   replace H : Sep w0 w27 (.blk g24 101 (bs (ox.set i ((kk.getD i 0) ^^^ (54 : UInt8)))) :: .blk g22 116 [.bool true, U regF.1, U regF.2.1, U regF.2.2.1, U regF.2.2.2, .slice none (([] : List UInt8).length) 0, In 0] :: .row (.slice none (([] : List UInt8).length) 0) 5 1 (([] : List UInt8).length) (bs []) :: .blk g20 116 [.bool true, U regF.1, U regF.2.1, U regF.2.2.1, U regF.2.2.2, .slice none (([] : List UInt8).length) 0, In 0] :: .row (.slice none (([] : List UInt8).length) 0) 5 1 (([] : List UInt8).length) (bs []) :: .blk g11 82 (bs y7) :: .blk g3 101 (bs kk) :: .blk g1 82 (bs (List.replicate 16 (0 : UInt8))) :: F) := H
   refine GL_U hr28 ?_
   refine GL_end (by kernel_rfl) ?_
   refine inb_normal ?_
   refine thn_normal ?_
   refine G_region ?_
   refine GL_sr 2 2 [(1, .slice B b.length d), (4, Pt g1 0), (5, Pt g3 0), (7, Pt g20 0), (8, Pt g22 0), (9, Pt g24 0), (29, .agg (bs kk).toArray), (30, In (i + 1))] (show ([.slice B b.length d, Pt g1 0, Pt g3 0, Pt g20 0, Pt g22 0, Pt g24 0, .agg (bs kk).toArray, .int .i64 (IntKind.i64.wrap ((i : Int) + ((1 : Nat) : Int)))] : List Value) = [.slice B b.length d, Pt g1 0, Pt g3 0, Pt g20 0, Pt g22 0, Pt g24 0, .agg (bs kk).toArray, In (i + 1)] by rw [nadd64 i 1 (by omega)]) fun β => ?_
   refine GL_end (by kernel_rfl) ?_
   refine thn_normal ⟨(i + 1, ox.set i ((kk.getD i 0) ^^^ (54 : UInt8))), Agr_of_keys (by kernel_rfl), ⟨H, ?_⟩, ?_⟩
   · exact ⟨by omega, by rw [xorK, ← hIox2]⟩
   · first | (dsimp only; omega) | omega
  · --no
   replace h1 : ¬ (i < 64) := of_decide_eq_false h1
   refine G_exit (thn_exit (thn_exit (inb_hit ?_)))
   refine thn_normal ?_
   refine G_sr ?_
   refine GL_s 2 2 [(1, .slice B b.length d), (4, Pt g1 0), (5, Pt g3 0), (7, Pt g20 0), (8, Pt g22 0), (9, Pt g24 0), (39, Pt g20 0), (40, .slice (some ⟨g24, 0, none⟩) 64 64)] fun β => ?_
   replace H := H.front (i := 2) rfl
   replace H := H.front (i := 3) rfl
   replace H : Sep w0 w26 (.blk g20 116 [.bool true, U regF.1, U regF.2.1, U regF.2.2.1, U regF.2.2.2, .slice none (([] : List UInt8).length) 0, In 0] :: .row (.slice none (([] : List UInt8).length) 0) 5 1 (([] : List UInt8).length) (bs []) :: .blk g24 101 (bs ox) :: .blk g22 116 [.bool true, U regF.1, U regF.2.1, U regF.2.2.1, U regF.2.2.2, .slice none (([] : List UInt8).length) 0, In 0] :: .row (.slice none (([] : List UInt8).length) 0) 5 1 (([] : List UInt8).length) (bs []) :: .blk g11 82 (bs y7) :: .blk g3 101 (bs kk) :: .blk g1 82 (bs (List.replicate 16 (0 : UInt8))) :: F) := H
   refine GL_C (c_Write1 T hT gT R hR gR regF.1 regF.2.1 regF.2.2.1 regF.2.2.2 [] (by first | omega | (simp only [List.length_nil]; omega)) 0 (by first | omega | (simp only [List.length_nil]; omega)) ox (by first | omega | (simp only [List.length_nil]; omega)) (by first | (simp; done) | assumption | (simp [*]; done) | (simp; omega)) (Rd.of_blk (i := 0) (nn := 64) (sz := 1) rfl (by rw [bs_length, show (ox).length = 64 from by first | (simp; done) | assumption | (simp [*]; done) | (simp; omega)]) (by decide)) H) ?_
   rintro _ w34 ⟨A32, c33, rfl, H⟩
   obtain ⟨x29, hx30⟩ : ∃ x, x = wrF T R (regF.1, regF.2.1, regF.2.2.1, regF.2.2.2) ([] ++ ox) := ⟨_, rfl⟩
   have hl31 : x29.2.length ≤ 0 + ox.length := by rw [hx30]; exact Nat.le_trans (wr_len _ _ _ _) (by simp)
   rw [← hx30] at H
   replace H : Sep w0 w34 (.blk g20 116 [.bool true, U x29.1.1, U x29.1.2.1, U x29.1.2.2.1, U x29.1.2.2.2, .slice A32 x29.2.length c33, In (0 + ox.length)] :: .row (.slice A32 x29.2.length c33) 5 1 x29.2.length (bs x29.2) :: .blk g24 101 (bs ox) :: .blk g22 116 [.bool true, U regF.1, U regF.2.1, U regF.2.2.1, U regF.2.2.2, .slice none (([] : List UInt8).length) 0, In 0] :: .row (.slice none (([] : List UInt8).length) 0) 5 1 (([] : List UInt8).length) (bs []) :: .blk g11 82 (bs y7) :: .blk g3 101 (bs kk) :: .blk g1 82 (bs (List.replicate 16 (0 : UInt8))) :: F) := H
   refine GL_et ?_
   refine G_sr ?_
   refine GL_s 2 2 [(4, Pt g1 0), (5, Pt g3 0), (7, Pt g20 0), (8, Pt g22 0), (9, Pt g24 0), (42, Pt g20 0), (43, .slice B b.length d)] fun β => ?_
   replace H := H.front (i := 1) rfl
   replace H := H.front (i := 1) rfl
   replace H : Sep w0 w34 (.blk g20 116 [.bool true, U x29.1.1, U x29.1.2.1, U x29.1.2.2.1, U x29.1.2.2.2, .slice A32 x29.2.length c33, In (0 + ox.length)] :: .row (.slice A32 x29.2.length c33) 5 1 x29.2.length (bs x29.2) :: .blk g24 101 (bs ox) :: .blk g22 116 [.bool true, U regF.1, U regF.2.1, U regF.2.2.1, U regF.2.2.2, .slice none (([] : List UInt8).length) 0, In 0] :: .row (.slice none (([] : List UInt8).length) 0) 5 1 (([] : List UInt8).length) (bs []) :: .blk g11 82 (bs y7) :: .blk g3 101 (bs kk) :: .blk g1 82 (bs (List.replicate 16 (0 : UInt8))) :: F) := H
   refine GL_C (c_Write1 T hT gT R hR gR x29.1.1 x29.1.2.1 x29.1.2.2.1 x29.1.2.2.2 x29.2 (by first | omega | (simp only [List.length_nil]; omega)) (0 + ox.length) (by first | omega | (simp only [List.length_nil]; omega)) b (by first | omega | (simp only [List.length_nil]; omega)) (by rfl) (Rd.more Rb (.cons _ (.cons _ (.cons _ (.cons _ (.cons _ (.cons _ (.refl _)))))))) H) ?_
   rintro _ w40 ⟨A38, c39, rfl, H⟩
   obtain ⟨x35, hx36⟩ : ∃ x, x = wrF T R (x29.1.1, x29.1.2.1, x29.1.2.2.1, x29.1.2.2.2) (x29.2 ++ b) := ⟨_, rfl⟩
   have hl37 : x35.2.length ≤ x29.2.length + b.length := by rw [hx36]; exact Nat.le_trans (wr_len _ _ _ _) (by simp)
   rw [← hx36] at H
   replace H : Sep w0 w40 (.blk g20 116 [.bool true, U x35.1.1, U x35.1.2.1, U x35.1.2.2.1, U x35.1.2.2.2, .slice A38 x35.2.length c39, In ((0 + ox.length) + b.length)] :: .row (.slice A38 x35.2.length c39) 5 1 x35.2.length (bs x35.2) :: .blk g24 101 (bs ox) :: .blk g22 116 [.bool true, U regF.1, U regF.2.1, U regF.2.2.1, U regF.2.2.2, .slice none (([] : List UInt8).length) 0, In 0] :: .row (.slice none (([] : List UInt8).length) 0) 5 1 (([] : List UInt8).length) (bs []) :: .blk g11 82 (bs y7) :: .blk g3 101 (bs kk) :: .blk g1 82 (bs (List.replicate 16 (0 : UInt8))) :: F) := H
   refine GL_et ?_
   refine G_seq ?_
   refine G_sr ?_
   refine GL_V (run_loadN (t := 101) (vs := bs kk) (by kernel_rfl) (by rw [bs_length, show (kk).length = 64 from by first | (simp; done) | assumption | (simp [*]; done) | (simp; omega)]; kernel_rfl) (H.blk_cells (i := 6) rfl 0 _ ⟨[], List.append_nil _⟩)) ?_
   refine GL_st 1 2 [(4, Pt g1 0), (7, Pt g20 0), (8, Pt g22 0), (9, Pt g24 0), (45, .agg (bs kk).toArray), (46, In 0)] fun β => ?_
   refine G_block ?_
   refine G_loop (X := Nat × (List UInt8)) (fun ⟨i, ox2⟩ => [(4, Pt g1 0), (7, Pt g20 0), (8, Pt g22 0), (9, Pt g24 0), (45, .agg (bs kk).toArray), (46, In i)]) (fun ⟨i, ox2⟩ w_ => Sep w0 w_ (.blk g20 116 [.bool true, U x35.1.1, U x35.1.2.1, U x35.1.2.2.1, U x35.1.2.2.2, .slice A38 x35.2.length c39, In ((0 + ox.length) + b.length)] :: .row (.slice A38 x35.2.length c39) 5 1 x35.2.length (bs x35.2) :: .blk g24 101 (bs ox2) :: .blk g22 116 [.bool true, U regF.1, U regF.2.1, U regF.2.2.1, U regF.2.2.2, .slice none (([] : List UInt8).length) 0, In 0] :: .row (.slice none (([] : List UInt8).length) 0) 5 1 (([] : List UInt8).length) (bs []) :: .blk g11 82 (bs y7) :: .blk g3 101 (bs kk) :: .blk g1 82 (bs (List.replicate 16 (0 : UInt8))) :: F) ∧ (i ≤ 64 ∧ ox2 = xorK kk 92 ox i)) (fun ⟨i, ox2⟩ => 64 - i) (0, ox) (by kernel_rfl) ⟨H, ⟨by omega, rfl⟩⟩ ?_
   rintro ⟨i, ox2⟩ β w41 ⟨H, hI⟩
   refine G_forget [(4, Pt g1 0), (7, Pt g20 0), (8, Pt g22 0), (9, Pt g24 0), (45, .agg (bs kk).toArray), (46, In i)] (by kernel_rfl) (fun β => ?_)
   replace H : Sep w0 w41 (.blk g20 116 [.bool true, U x35.1.1, U x35.1.2.1, U x35.1.2.2.1, U x35.1.2.2.2, .slice A38 x35.2.length c39, In ((0 + ox.length) + b.length)] :: .row (.slice A38 x35.2.length c39) 5 1 x35.2.length (bs x35.2) :: .blk g24 101 (bs ox2) :: .blk g22 116 [.bool true, U regF.1, U regF.2.1, U regF.2.2.1, U regF.2.2.2, .slice none (([] : List UInt8).length) 0, In 0] :: .row (.slice none (([] : List UInt8).length) 0) 5 1 (([] : List UInt8).length) (bs []) :: .blk g11 82 (bs y7) :: .blk g3 101 (bs kk) :: .blk g1 82 (bs (List.replicate 16 (0 : UInt8))) :: F) := H
   replace hI : i ≤ 64 ∧ ox2 = xorK kk 92 ox i := hI
   obtain ⟨hIox21, hIox22⟩ := hI
   have hlox2 : ox2.length = 64 := by rw [hIox22, xorK_len]; exact hlox
   refine G_sr ?_
   refine GL_srt 1 1 [(4, Pt g1 0), (7, Pt g20 0), (8, Pt g22 0), (9, Pt g24 0), (45, .agg (bs kk).toArray), (46, In i), (47, .bool (decide (i < 64)))] (show ([Pt g1 0, Pt g20 0, Pt g22 0, Pt g24 0, .agg (bs kk).toArray, .int .i64 (i : Int), .bool (decide ((i : Int) < ((64 : Nat) : Int)))] : List Value) = [Pt g1 0, Pt g20 0, Pt g22 0, Pt g24 0, .agg (bs kk).toArray, In i, .bool (decide (i < 64))] by rw [nlss i 64]) fun β => ?_
   refine G_seq ?_
   refine G_cond (decide (i < 64)) (by kernel_rfl) (fun h2 => ?_) (fun h2 => ?_)
   · --yes
    replace h2 : i < 64 := of_decide_eq_true h2
    refine G_skip ?_
    refine thn_normal ?_
    refine G_seq ?_
    refine G_block ?_
    refine G_sr ?_
    refine GL_s 1 1 [(4, Pt g1 0), (7, Pt g20 0), (8, Pt g22 0), (9, Pt g24 0), (45, .agg (bs kk).toArray), (46, In i), (48, In i)] fun β => ?_
    refine GL_V (R_aggidx (t := 101) (e := 5) (n := 64) (i := i) (ki := .i64) (xs := bs kk) (by kernel_rfl) (by kernel_rfl) (by kernel_rfl) (by omega) (bs_get _ _ (by omega))) ?_
    refine GL_st 2 4 [(4, Pt g1 0), (7, Pt g20 0), (8, Pt g22 0), (9, Pt g24 0), (12, In i), (13, By (kk.getD i 0)), (45, .agg (bs kk).toArray), (46, In i)] fun β => ?_
    refine G_region ?_
    refine GL_sr 3 3 [(4, Pt g1 0), (7, Pt g20 0), (8, Pt g22 0), (9, Pt g24 0), (45, .agg (bs kk).toArray), (46, In i), (50, In i), (52, By ((kk.getD i 0) ^^^ (92 : UInt8)))] (show ([Pt g1 0, Pt g20 0, Pt g22 0, Pt g24 0, .agg (bs kk).toArray, .int .i64 (i : Int), .int .i64 (i : Int), .int .u8 (bxor .u8 ((kk.getD i 0).toNat : Int) ((92 : UInt8).toNat : Int))] : List Value) = [Pt g1 0, Pt g20 0, Pt g22 0, Pt g24 0, .agg (bs kk).toArray, In i, In i, By ((kk.getD i 0) ^^^ (92 : UInt8))] by rw [Kw.u8_xor (kk.getD i 0) (92 : UInt8)]) fun β => ?_
    refine GL_V (R_arrplace1 (t := 101) (e := 5) (n := 64) (g := g24) (i := i) (ki := .i64) (by kernel_rfl) (by kernel_rfl) (by omega)) ?_
    obtain ⟨w42, hr43, H⟩ := R_bstore8 (P := Tryd.prog) (t := 5) (j := i) (b := ((kk.getD i 0) ^^^ (92 : UInt8))) H (i := 2) rfl (by kernel_rfl) (by omega)
    replace H : Sep w0 w42 (.blk g20 116 [.bool true, U x35.1.1, U x35.1.2.1, U x35.1.2.2.1, U x35.1.2.2.2, .slice A38 x35.2.length c39, In ((0 + ox.length) + b.length)] :: .row (.slice A38 x35.2.length c39) 5 1 x35.2.length (bs x35.2) :: .blk g24 101 (bs (ox2.set i ((kk.getD i 0) ^^^ (92 : UInt8)))) :: .blk g22 116 [.bool true, U regF.1, U regF.2.1, U regF.2.2.1, U regF.2.2.2, .slice none (([] : List UInt8).length) 0, In 0] :: .row (.slice none (([] : List UInt8).length) 0) 5 1 (([] : List UInt8).length) (bs []) :: .blk g11 82 (bs y7) :: .blk g3 101 (bs kk) :: .blk g1 82 (bs (List.replicate 16 (0 : UInt8))) :: F) := H
    refine GL_U hr43 ?_
    refine GL_end (by kernel_rfl) ?_
    refine inb_normal ?_
    refine thn_normal ?_
    refine G_region ?_
    refine GL_sr 2 2 [(4, Pt g1 0), (7, Pt g20 0), (8, Pt g22 0), (9, Pt g24 0), (45, .agg (bs kk).toArray), (46, In (i + 1))] (show ([Pt g1 0, Pt g20 0, Pt g22 0, Pt g24 0, .agg (bs kk).toArray, .int .i64 (IntKind.i64.wrap ((i : Int) + ((1 : Nat) : Int)))] : List Value) = [Pt g1 0, Pt g20 0, Pt g22 0, Pt g24 0, .agg (bs kk).toArray, In (i + 1)] by rw [nadd64 i 1 (by omega)]) fun β => ?_
    refine GL_end (by kernel_rfl) ?_
    refine thn_normal ⟨(i + 1, ox2.set i ((kk.getD i 0) ^^^ (92 : UInt8))), Agr_of_keys (by kernel_rfl), ⟨H, ?_⟩, ?_⟩
    · exact ⟨by omega, by rw [xorK, ← hIox22]⟩
    · first | (dsimp only; omega) | omega
   · --no
    replace h2 : ¬ (i < 64) := of_decide_eq_false h2
    refine G_exit (thn_exit (thn_exit (inb_hit ?_)))
    refine thn_normal ?_
    refine G_sr ?_
    refine GL_s 2 2 [(4, Pt g1 0), (7, Pt g20 0), (8, Pt g22 0), (55, Pt g22 0), (56, .slice (some ⟨g24, 0, none⟩) 64 64)] fun β => ?_
    replace H := H.front (i := 4) rfl
    replace H := H.front (i := 4) rfl
    replace H : Sep w0 w41 (.blk g22 116 [.bool true, U regF.1, U regF.2.1, U regF.2.2.1, U regF.2.2.2, .slice none (([] : List UInt8).length) 0, In 0] :: .row (.slice none (([] : List UInt8).length) 0) 5 1 (([] : List UInt8).length) (bs []) :: .blk g20 116 [.bool true, U x35.1.1, U x35.1.2.1, U x35.1.2.2.1, U x35.1.2.2.2, .slice A38 x35.2.length c39, In ((0 + ox.length) + b.length)] :: .row (.slice A38 x35.2.length c39) 5 1 x35.2.length (bs x35.2) :: .blk g24 101 (bs ox2) :: .blk g11 82 (bs y7) :: .blk g3 101 (bs kk) :: .blk g1 82 (bs (List.replicate 16 (0 : UInt8))) :: F) := H
    refine GL_C (c_Write1 T hT gT R hR gR regF.1 regF.2.1 regF.2.2.1 regF.2.2.2 [] (by first | omega | (simp only [List.length_nil]; omega)) 0 (by first | omega | (simp only [List.length_nil]; omega)) ox2 (by first | omega | (simp only [List.length_nil]; omega)) (by first | (simp; done) | assumption | (simp [*]; done) | (simp; omega)) (Rd.of_blk (i := 2) (nn := 64) (sz := 1) rfl (by rw [bs_length, show (ox2).length = 64 from by first | (simp; done) | assumption | (simp [*]; done) | (simp; omega)]) (by decide)) H) ?_
    rintro _ w49 ⟨A47, c48, rfl, H⟩
    obtain ⟨x44, hx45⟩ : ∃ x, x = wrF T R (regF.1, regF.2.1, regF.2.2.1, regF.2.2.2) ([] ++ ox2) := ⟨_, rfl⟩
    have hl46 : x44.2.length ≤ 0 + ox2.length := by rw [hx45]; exact Nat.le_trans (wr_len _ _ _ _) (by simp)
    rw [← hx45] at H
    replace H : Sep w0 w49 (.blk g22 116 [.bool true, U x44.1.1, U x44.1.2.1, U x44.1.2.2.1, U x44.1.2.2.2, .slice A47 x44.2.length c48, In (0 + ox2.length)] :: .row (.slice A47 x44.2.length c48) 5 1 x44.2.length (bs x44.2) :: .blk g20 116 [.bool true, U x35.1.1, U x35.1.2.1, U x35.1.2.2.1, U x35.1.2.2.2, .slice A38 x35.2.length c39, In ((0 + ox.length) + b.length)] :: .row (.slice A38 x35.2.length c39) 5 1 x35.2.length (bs x35.2) :: .blk g24 101 (bs ox2) :: .blk g11 82 (bs y7) :: .blk g3 101 (bs kk) :: .blk g1 82 (bs (List.replicate 16 (0 : UInt8))) :: F) := H
    refine GL_et ?_
    refine G_sr ?_
    refine GL_s 1 1 [(4, Pt g1 0), (8, Pt g22 0), (58, Pt g20 0)] fun β => ?_
    replace H := H.front (i := 3) rfl
    replace H := H.front (i := 3) rfl
    replace H : Sep w0 w49 (.blk g20 116 [.bool true, U x35.1.1, U x35.1.2.1, U x35.1.2.2.1, U x35.1.2.2.2, .slice A38 x35.2.length c39, In ((0 + ox.length) + b.length)] :: .row (.slice A38 x35.2.length c39) 5 1 x35.2.length (bs x35.2) :: .blk g22 116 [.bool true, U x44.1.1, U x44.1.2.1, U x44.1.2.2.1, U x44.1.2.2.2, .slice A47 x44.2.length c48, In (0 + ox2.length)] :: .row (.slice A47 x44.2.length c48) 5 1 x44.2.length (bs x44.2) :: .blk g24 101 (bs ox2) :: .blk g11 82 (bs y7) :: .blk g3 101 (bs kk) :: .blk g1 82 (bs (List.replicate 16 (0 : UInt8))) :: F) := H
    refine GL_C (c_Sum T hT gT R hR gR x35.1.1 x35.1.2.1 x35.1.2.2.1 x35.1.2.2.2 x35.2 (by first | omega | (simp only [List.length_nil]; omega)) ((0 + ox.length) + b.length) (by first | omega | (simp only [List.length_nil]; omega)) H) ?_
    rintro _ w53 ⟨rfl, H⟩
    obtain ⟨y50, hy51⟩ : ∃ y, y = sumF T R (x35.1.1, x35.1.2.1, x35.1.2.2.1, x35.1.2.2.2) x35.2 ((0 + ox.length) + b.length) := ⟨_, rfl⟩
    have hyl52 : y50.length = 16 := by rw [hy51]; exact sumF_len _ _ _ _ _
    rw [← hy51]
    replace H : Sep w0 w53 (.blk g20 116 [.bool true, U x35.1.1, U x35.1.2.1, U x35.1.2.2.1, U x35.1.2.2.2, .slice A38 x35.2.length c39, In ((0 + ox.length) + b.length)] :: .row (.slice A38 x35.2.length c39) 5 1 x35.2.length (bs x35.2) :: .blk g22 116 [.bool true, U x44.1.1, U x44.1.2.1, U x44.1.2.2.1, U x44.1.2.2.2, .slice A47 x44.2.length c48, In (0 + ox2.length)] :: .row (.slice A47 x44.2.length c48) 5 1 x44.2.length (bs x44.2) :: .blk g24 101 (bs ox2) :: .blk g11 82 (bs y7) :: .blk g3 101 (bs kk) :: .blk g1 82 (bs (List.replicate 16 (0 : UInt8))) :: F) := H
    refine GL_new (V := fun g => Pt g 0) (l := bs (List.replicate 16 (0 : UInt8))) (t := 82) H rfl (by kernel_rfl) (by kernel_rfl) (by kernel_rfl) (fun g54 w55 H => ?_)
    obtain ⟨w56, hr57, H⟩ := R_storeL (P := Tryd.prog) (t := 82) (xs := bs y50) H (i := 0) rfl (by rw [bs_length, show (y50).length = 16 from by first | (simp; done) | assumption | (simp [*]; done) | (simp; omega)]; kernel_rfl) (by rw [bs_length, bs_length, show (List.replicate 16 (0 : UInt8)).length = 16 from by first | (simp; done) | assumption | (simp [*]; done) | (simp; omega), show (y50).length = 16 from by first | (simp; done) | assumption | (simp [*]; done) | (simp; omega)]) (bs_one _)
    replace H : Sep w0 w56 (.blk g54 82 (bs y50) :: .blk g20 116 [.bool true, U x35.1.1, U x35.1.2.1, U x35.1.2.2.1, U x35.1.2.2.2, .slice A38 x35.2.length c39, In ((0 + ox.length) + b.length)] :: .row (.slice A38 x35.2.length c39) 5 1 x35.2.length (bs x35.2) :: .blk g22 116 [.bool true, U x44.1.1, U x44.1.2.1, U x44.1.2.2.1, U x44.1.2.2.2, .slice A47 x44.2.length c48, In (0 + ox2.length)] :: .row (.slice A47 x44.2.length c48) 5 1 x44.2.length (bs x44.2) :: .blk g24 101 (bs ox2) :: .blk g11 82 (bs y7) :: .blk g3 101 (bs kk) :: .blk g1 82 (bs (List.replicate 16 (0 : UInt8))) :: F) := H
    refine GL_U hr57 ?_
    refine GL_et ?_
    refine G_sr ?_
    refine GL_s 2 2 [(4, Pt g1 0), (8, Pt g22 0), (60, Pt g22 0), (61, .slice (some ⟨g54, 0, none⟩) 16 16)] fun β => ?_
    replace H := H.front (i := 4) rfl
    replace H := H.front (i := 4) rfl
    replace H : Sep w0 w56 (.blk g22 116 [.bool true, U x44.1.1, U x44.1.2.1, U x44.1.2.2.1, U x44.1.2.2.2, .slice A47 x44.2.length c48, In (0 + ox2.length)] :: .row (.slice A47 x44.2.length c48) 5 1 x44.2.length (bs x44.2) :: .blk g54 82 (bs y50) :: .blk g20 116 [.bool true, U x35.1.1, U x35.1.2.1, U x35.1.2.2.1, U x35.1.2.2.2, .slice A38 x35.2.length c39, In ((0 + ox.length) + b.length)] :: .row (.slice A38 x35.2.length c39) 5 1 x35.2.length (bs x35.2) :: .blk g24 101 (bs ox2) :: .blk g11 82 (bs y7) :: .blk g3 101 (bs kk) :: .blk g1 82 (bs (List.replicate 16 (0 : UInt8))) :: F) := H
    refine GL_C (c_Write1 T hT gT R hR gR x44.1.1 x44.1.2.1 x44.1.2.2.1 x44.1.2.2.2 x44.2 (by first | omega | (simp only [List.length_nil]; omega)) (0 + ox2.length) (by first | omega | (simp only [List.length_nil]; omega)) y50 (by first | omega | (simp only [List.length_nil]; omega)) (by first | (simp; done) | assumption | (simp [*]; done) | (simp; omega)) (Rd.of_blk (i := 0) (nn := 16) (sz := 1) rfl (by rw [bs_length, show (y50).length = 16 from by first | (simp; done) | assumption | (simp [*]; done) | (simp; omega)]) (by decide)) H) ?_
    rintro _ w63 ⟨A61, c62, rfl, H⟩
    obtain ⟨x58, hx59⟩ : ∃ x, x = wrF T R (x44.1.1, x44.1.2.1, x44.1.2.2.1, x44.1.2.2.2) (x44.2 ++ y50) := ⟨_, rfl⟩
    have hl60 : x58.2.length ≤ x44.2.length + y50.length := by rw [hx59]; exact Nat.le_trans (wr_len _ _ _ _) (by simp)
    rw [← hx59] at H
    replace H : Sep w0 w63 (.blk g22 116 [.bool true, U x58.1.1, U x58.1.2.1, U x58.1.2.2.1, U x58.1.2.2.2, .slice A61 x58.2.length c62, In ((0 + ox2.length) + y50.length)] :: .row (.slice A61 x58.2.length c62) 5 1 x58.2.length (bs x58.2) :: .blk g54 82 (bs y50) :: .blk g20 116 [.bool true, U x35.1.1, U x35.1.2.1, U x35.1.2.2.1, U x35.1.2.2.2, .slice A38 x35.2.length c39, In ((0 + ox.length) + b.length)] :: .row (.slice A38 x35.2.length c39) 5 1 x35.2.length (bs x35.2) :: .blk g24 101 (bs ox2) :: .blk g11 82 (bs y7) :: .blk g3 101 (bs kk) :: .blk g1 82 (bs (List.replicate 16 (0 : UInt8))) :: F) := H
    refine GL_et ?_
    refine G_sr ?_
    refine GL_s 1 1 [(4, Pt g1 0), (63, Pt g22 0)] fun β => ?_
    replace H := H.front (i := 1) rfl
    replace H := H.front (i := 1) rfl
    replace H : Sep w0 w63 (.blk g22 116 [.bool true, U x58.1.1, U x58.1.2.1, U x58.1.2.2.1, U x58.1.2.2.2, .slice A61 x58.2.length c62, In ((0 + ox2.length) + y50.length)] :: .row (.slice A61 x58.2.length c62) 5 1 x58.2.length (bs x58.2) :: .blk g54 82 (bs y50) :: .blk g20 116 [.bool true, U x35.1.1, U x35.1.2.1, U x35.1.2.2.1, U x35.1.2.2.2, .slice A38 x35.2.length c39, In ((0 + ox.length) + b.length)] :: .row (.slice A38 x35.2.length c39) 5 1 x35.2.length (bs x35.2) :: .blk g24 101 (bs ox2) :: .blk g11 82 (bs y7) :: .blk g3 101 (bs kk) :: .blk g1 82 (bs (List.replicate 16 (0 : UInt8))) :: F) := H
    refine GL_C (c_Sum T hT gT R hR gR x58.1.1 x58.1.2.1 x58.1.2.2.1 x58.1.2.2.2 x58.2 (by first | omega | (simp only [List.length_nil]; omega)) ((0 + ox2.length) + y50.length) (by first | omega | (simp only [List.length_nil]; omega)) H) ?_
    rintro _ w67 ⟨rfl, H⟩
    obtain ⟨y64, hy65⟩ : ∃ y, y = sumF T R (x58.1.1, x58.1.2.1, x58.1.2.2.1, x58.1.2.2.2) x58.2 ((0 + ox2.length) + y50.length) := ⟨_, rfl⟩
    have hyl66 : y64.length = 16 := by rw [hy65]; exact sumF_len _ _ _ _ _
    rw [← hy65]
    replace H : Sep w0 w67 (.blk g22 116 [.bool true, U x58.1.1, U x58.1.2.1, U x58.1.2.2.1, U x58.1.2.2.2, .slice A61 x58.2.length c62, In ((0 + ox2.length) + y50.length)] :: .row (.slice A61 x58.2.length c62) 5 1 x58.2.length (bs x58.2) :: .blk g54 82 (bs y50) :: .blk g20 116 [.bool true, U x35.1.1, U x35.1.2.1, U x35.1.2.2.1, U x35.1.2.2.2, .slice A38 x35.2.length c39, In ((0 + ox.length) + b.length)] :: .row (.slice A38 x35.2.length c39) 5 1 x35.2.length (bs x35.2) :: .blk g24 101 (bs ox2) :: .blk g11 82 (bs y7) :: .blk g3 101 (bs kk) :: .blk g1 82 (bs (List.replicate 16 (0 : UInt8))) :: F) := H
    obtain ⟨w68, hr69, H⟩ := R_storeL (P := Tryd.prog) (t := 82) (xs := bs y64) H (i := 8) rfl (by rw [bs_length, show (y64).length = 16 from by first | (simp; done) | assumption | (simp [*]; done) | (simp; omega)]; kernel_rfl) (by rw [bs_length, bs_length, show (List.replicate 16 (0 : UInt8)).length = 16 from by first | (simp; done) | assumption | (simp [*]; done) | (simp; omega), show (y64).length = 16 from by first | (simp; done) | assumption | (simp [*]; done) | (simp; omega)]) (bs_one _)
    replace H : Sep w0 w68 (.blk g22 116 [.bool true, U x58.1.1, U x58.1.2.1, U x58.1.2.2.1, U x58.1.2.2.2, .slice A61 x58.2.length c62, In ((0 + ox2.length) + y50.length)] :: .row (.slice A61 x58.2.length c62) 5 1 x58.2.length (bs x58.2) :: .blk g54 82 (bs y50) :: .blk g20 116 [.bool true, U x35.1.1, U x35.1.2.1, U x35.1.2.2.1, U x35.1.2.2.2, .slice A38 x35.2.length c39, In ((0 + ox.length) + b.length)] :: .row (.slice A38 x35.2.length c39) 5 1 x35.2.length (bs x35.2) :: .blk g24 101 (bs ox2) :: .blk g11 82 (bs y7) :: .blk g3 101 (bs kk) :: .blk g1 82 (bs y64) :: F) := H
    refine GL_U hr69 ?_
    refine GL_et ?_
    refine G_ret ?_
    refine resC (t := 82) (vs := bs y64) rfl (by kernel_rfl) (by kernel_rfl) (by rw [bs_length, show (y64).length = 16 from by first | (simp; done) | assumption | (simp [*]; done) | (simp; omega)]; kernel_rfl) (H.blk_cells (i := 8) rfl 0 _ ⟨_, List.append_nil _⟩) ?_
    replace H := H.drop 8
    replace H := H.drop 7
    replace H := H.drop 6
    replace H := H.drop 5
    replace H := H.drop 4
    replace H := H.drop 3
    replace H := H.drop 2
    replace H := H.drop 1
    replace H := H.drop 0
    replace H : Sep w0 w68 (F) := H
    refine ⟨?_, H⟩
    have e1 : ox = macI kk := by rw [hIox2, macI]; congr 1; omega
    have e2 : ox2 = macO kk := by rw [hIox22, macO, ← e1]; congr 1; omega
    rw [macF, hkF, macK, macD, ← e2, ← e1]
    simp only [sumS, wr0, st0, hx30, hx36, hx45, hy51, hx59, hy65]
 · --no
  replace h0 : ¬ (key.length > 64) := of_decide_eq_false h0
  refine G_skip ?_
  refine thn_normal ?_
  obtain ⟨kk, hkk⟩ : ∃ k, k = key.take 64 ++ (List.replicate 64 (0 : UInt8)).drop key.length := ⟨_, rfl⟩
  rw [← hkk] at H
  have hkl : kk.length = 64 := by rw [hkk]; simp; omega
  have hkF : keyF T R key = kk := by rw [hkk, keyF]; simp [*]
  refine G_sr ?_
  refine GL_C (c_hashNew H) ?_
  rintro _ w71 ⟨g70, rfl, H⟩
  replace H : Sep w0 w71 (.blk g70 116 [.bool true, U regF.1, U regF.2.1, U regF.2.2.1, U regF.2.2.2, .slice none (([] : List UInt8).length) 0, In 0] :: .row (.slice none (([] : List UInt8).length) 0) 5 1 (([] : List UInt8).length) (bs []) :: .blk g3 101 (bs kk) :: .blk g1 82 (bs (List.replicate 16 (0 : UInt8))) :: F) := H
  refine GL_C (c_hashNew H) ?_
  rintro _ w73 ⟨g72, rfl, H⟩
  replace H : Sep w0 w73 (.blk g72 116 [.bool true, U regF.1, U regF.2.1, U regF.2.2.1, U regF.2.2.2, .slice none (([] : List UInt8).length) 0, In 0] :: .row (.slice none (([] : List UInt8).length) 0) 5 1 (([] : List UInt8).length) (bs []) :: .blk g70 116 [.bool true, U regF.1, U regF.2.1, U regF.2.2.1, U regF.2.2.2, .slice none (([] : List UInt8).length) 0, In 0] :: .row (.slice none (([] : List UInt8).length) 0) 5 1 (([] : List UInt8).length) (bs []) :: .blk g3 101 (bs kk) :: .blk g1 82 (bs (List.replicate 16 (0 : UInt8))) :: F) := H
  refine GL_st 2 4 [(1, .slice B b.length d), (4, Pt g1 0), (5, Pt g3 0), (7, Pt g70 0), (8, Pt g72 0)] fun β => ?_
  refine G_sr ?_
  refine GL_new (V := fun g => Pt g 0) (l := bs (List.replicate 64 (0 : UInt8))) (t := 101) H rfl (by kernel_rfl) (by kernel_rfl) (by kernel_rfl) (fun g74 w75 H => ?_)
  refine GL_et ?_
  refine G_seq ?_
  refine G_sr ?_
  refine GL_V (run_loadN (t := 101) (vs := bs kk) (by kernel_rfl) (by rw [bs_length, show (kk).length = 64 from by first | (simp; done) | assumption | (simp [*]; done) | (simp; omega)]; kernel_rfl) (H.blk_cells (i := 5) rfl 0 _ ⟨[], List.append_nil _⟩)) ?_
  refine GL_st 1 2 [(1, .slice B b.length d), (4, Pt g1 0), (5, Pt g3 0), (7, Pt g70 0), (8, Pt g72 0), (9, Pt g74 0), (29, .agg (bs kk).toArray), (30, In 0)] fun β => ?_
  refine G_block ?_
  refine G_loop (X := Nat × (List UInt8)) (fun ⟨i, ox⟩ => [(1, .slice B b.length d), (4, Pt g1 0), (5, Pt g3 0), (7, Pt g70 0), (8, Pt g72 0), (9, Pt g74 0), (29, .agg (bs kk).toArray), (30, In i)]) (fun ⟨i, ox⟩ w_ => Sep w0 w_ (.blk g74 101 (bs ox) :: .blk g72 116 [.bool true, U regF.1, U regF.2.1, U regF.2.2.1, U regF.2.2.2, .slice none (([] : List UInt8).length) 0, In 0] :: .row (.slice none (([] : List UInt8).length) 0) 5 1 (([] : List UInt8).length) (bs []) :: .blk g70 116 [.bool true, U regF.1, U regF.2.1, U regF.2.2.1, U regF.2.2.2, .slice none (([] : List UInt8).length) 0, In 0] :: .row (.slice none (([] : List UInt8).length) 0) 5 1 (([] : List UInt8).length) (bs []) :: .blk g3 101 (bs kk) :: .blk g1 82 (bs (List.replicate 16 (0 : UInt8))) :: F) ∧ (i ≤ 64 ∧ ox = xorK kk 54 (List.replicate 64 0) i)) (fun ⟨i, ox⟩ => 64 - i) (0, List.replicate 64 0) (by kernel_rfl) ⟨H, ⟨by omega, rfl⟩⟩ ?_
  rintro ⟨i, ox⟩ β w76 ⟨H, hI⟩
  refine G_forget [(1, .slice B b.length d), (4, Pt g1 0), (5, Pt g3 0), (7, Pt g70 0), (8, Pt g72 0), (9, Pt g74 0), (29, .agg (bs kk).toArray), (30, In i)] (by kernel_rfl) (fun β => ?_)
  replace H : Sep w0 w76 (.blk g74 101 (bs ox) :: .blk g72 116 [.bool true, U regF.1, U regF.2.1, U regF.2.2.1, U regF.2.2.2, .slice none (([] : List UInt8).length) 0, In 0] :: .row (.slice none (([] : List UInt8).length) 0) 5 1 (([] : List UInt8).length) (bs []) :: .blk g70 116 [.bool true, U regF.1, U regF.2.1, U regF.2.2.1, U regF.2.2.2, .slice none (([] : List UInt8).length) 0, In 0] :: .row (.slice none (([] : List UInt8).length) 0) 5 1 (([] : List UInt8).length) (bs []) :: .blk g3 101 (bs kk) :: .blk g1 82 (bs (List.replicate 16 (0 : UInt8))) :: F) := H
  replace hI : i ≤ 64 ∧ ox = xorK kk 54 (List.replicate 64 0) i := hI
  obtain ⟨hIox1, hIox2⟩ := hI
  have hlox : ox.length = 64 := by rw [hIox2, xorK_len]; simp
  refine G_sr ?_
  refine GL_srt 1 1 [(1, .slice B b.length d), (4, Pt g1 0), (5, Pt g3 0), (7, Pt g70 0), (8, Pt g72 0), (9, Pt g74 0), (29, .agg (bs kk).toArray), (30, In i), (31, .bool (decide (i < 64)))] (show ([.slice B b.length d, Pt g1 0, Pt g3 0, Pt g70 0, Pt g72 0, Pt g74 0, .agg (bs kk).toArray, .int .i64 (i : Int), .bool (decide ((i : Int) < ((64 : Nat) : Int)))] : List Value) = [.slice B b.length d, Pt g1 0, Pt g3 0, Pt g70 0, Pt g72 0, Pt g74 0, .agg (bs kk).toArray, In i, .bool (decide (i < 64))] by rw [nlss i 64]) fun β => ?_
  refine G_seq ?_
  refine G_cond (decide (i < 64)) (by kernel_rfl) (fun h3 => ?_) (fun h3 => ?_)
  · --yes
   replace h3 : i < 64 := of_decide_eq_true h3
   refine G_skip ?_
   refine thn_normal ?_
   refine G_seq ?_
   refine G_block ?_
   refine G_sr ?_
   refine GL_s 1 1 [(1, .slice B b.length d), (4, Pt g1 0), (5, Pt g3 0), (7, Pt g70 0), (8, Pt g72 0), (9, Pt g74 0), (29, .agg (bs kk).toArray), (30, In i), (32, In i)] fun β => ?_
   refine GL_V (R_aggidx (t := 101) (e := 5) (n := 64) (i := i) (ki := .i64) (xs := bs kk) (by kernel_rfl) (by kernel_rfl) (by kernel_rfl) (by omega) (bs_get _ _ (by omega))) ?_
   refine GL_st 2 4 [(1, .slice B b.length d), (4, Pt g1 0), (5, Pt g3 0), (7, Pt g70 0), (8, Pt g72 0), (9, Pt g74 0), (10, In i), (11, By (kk.getD i 0)), (29, .agg (bs kk).toArray), (30, In i)] fun β => ?_
   refine G_region ?_
   refine GL_sr 3 3 [(1, .slice B b.length d), (4, Pt g1 0), (5, Pt g3 0), (7, Pt g70 0), (8, Pt g72 0), (9, Pt g74 0), (29, .agg (bs kk).toArray), (30, In i), (34, In i), (36, By ((kk.getD i 0) ^^^ (54 : UInt8)))] (show ([.slice B b.length d, Pt g1 0, Pt g3 0, Pt g70 0, Pt g72 0, Pt g74 0, .agg (bs kk).toArray, .int .i64 (i : Int), .int .i64 (i : Int), .int .u8 (bxor .u8 ((kk.getD i 0).toNat : Int) ((54 : UInt8).toNat : Int))] : List Value) = [.slice B b.length d, Pt g1 0, Pt g3 0, Pt g70 0, Pt g72 0, Pt g74 0, .agg (bs kk).toArray, In i, In i, By ((kk.getD i 0) ^^^ (54 : UInt8))] by rw [Kw.u8_xor (kk.getD i 0) (54 : UInt8)]) fun β => ?_
   refine GL_V (R_arrplace1 (t := 101) (e := 5) (n := 64) (g := g74) (i := i) (ki := .i64) (by kernel_rfl) (by kernel_rfl) (by omega)) ?_
   obtain ⟨w77, hr78, H⟩ := R_bstore8 (P := Tryd.prog) (t := 5) (j := i) (b := ((kk.getD i 0) ^^^ (54 : UInt8))) H (i := 0) rfl (by kernel_rfl) (by omega)
   replace H : Sep w0 w77 (.blk g74 101 (bs (ox.set i ((kk.getD i 0) ^^^ (54 : UInt8)))) :: .blk g72 116 [.bool true, U regF.1, U regF.2.1, U regF.2.2.1, U regF.2.2.2, .slice none (([] : List UInt8).length) 0, In 0] :: .row (.slice none (([] : List UInt8).length) 0) 5 1 (([] : List UInt8).length) (bs []) :: .blk g70 116 [.bool true, U regF.1, U regF.2.1, U regF.2.2.1, U regF.2.2.2, .slice none (([] : List UInt8).length) 0, In 0] :: .row (.slice none (([] : List UInt8).length) 0) 5 1 (([] : List UInt8).length) (bs []) :: .blk g3 101 (bs kk) :: .blk g1 82 (bs (List.replicate 16 (0 : UInt8))) :: F) := H
   refine GL_U hr78 ?_
   refine GL_end (by kernel_rfl) ?_
   refine inb_normal ?_
   refine thn_normal ?_
   refine G_region ?_
   refine GL_sr 2 2 [(1, .slice B b.length d), (4, Pt g1 0), (5, Pt g3 0), (7, Pt g70 0), (8, Pt g72 0), (9, Pt g74 0), (29, .agg (bs kk).toArray), (30, In (i + 1))] (show ([.slice B b.length d, Pt g1 0, Pt g3 0, Pt g70 0, Pt g72 0, Pt g74 0, .agg (bs kk).toArray, .int .i64 (IntKind.i64.wrap ((i : Int) + ((1 : Nat) : Int)))] : List Value) = [.slice B b.length d, Pt g1 0, Pt g3 0, Pt g70 0, Pt g72 0, Pt g74 0, .agg (bs kk).toArray, In (i + 1)] by rw [nadd64 i 1 (by omega)]) fun β => ?_
   refine GL_end (by kernel_rfl) ?_
   refine thn_normal ⟨(i + 1, ox.set i ((kk.getD i 0) ^^^ (54 : UInt8))), Agr_of_keys (by kernel_rfl), ⟨H, ?_⟩, ?_⟩
   · exact ⟨by omega, by rw [xorK, ← hIox2]⟩
   · first | (dsimp only; omega) | omega
  · --no
   replace h3 : ¬ (i < 64) := of_decide_eq_false h3
   refine G_exit (thn_exit (thn_exit (inb_hit ?_)))
   refine thn_normal ?_
   refine G_sr ?_
   refine GL_s 2 2 [(1, .slice B b.length d), (4, Pt g1 0), (5, Pt g3 0), (7, Pt g70 0), (8, Pt g72 0), (9, Pt g74 0), (39, Pt g70 0), (40, .slice (some ⟨g74, 0, none⟩) 64 64)] fun β => ?_
   replace H := H.front (i := 2) rfl
   replace H := H.front (i := 3) rfl
   replace H : Sep w0 w76 (.blk g70 116 [.bool true, U regF.1, U regF.2.1, U regF.2.2.1, U regF.2.2.2, .slice none (([] : List UInt8).length) 0, In 0] :: .row (.slice none (([] : List UInt8).length) 0) 5 1 (([] : List UInt8).length) (bs []) :: .blk g74 101 (bs ox) :: .blk g72 116 [.bool true, U regF.1, U regF.2.1, U regF.2.2.1, U regF.2.2.2, .slice none (([] : List UInt8).length) 0, In 0] :: .row (.slice none (([] : List UInt8).length) 0) 5 1 (([] : List UInt8).length) (bs []) :: .blk g3 101 (bs kk) :: .blk g1 82 (bs (List.replicate 16 (0 : UInt8))) :: F) := H
   refine GL_C (c_Write1 T hT gT R hR gR regF.1 regF.2.1 regF.2.2.1 regF.2.2.2 [] (by first | omega | (simp only [List.length_nil]; omega)) 0 (by first | omega | (simp only [List.length_nil]; omega)) ox (by first | omega | (simp only [List.length_nil]; omega)) (by first | (simp; done) | assumption | (simp [*]; done) | (simp; omega)) (Rd.of_blk (i := 0) (nn := 64) (sz := 1) rfl (by rw [bs_length, show (ox).length = 64 from by first | (simp; done) | assumption | (simp [*]; done) | (simp; omega)]) (by decide)) H) ?_
   rintro _ w84 ⟨A82, c83, rfl, H⟩
   obtain ⟨x79, hx80⟩ : ∃ x, x = wrF T R (regF.1, regF.2.1, regF.2.2.1, regF.2.2.2) ([] ++ ox) := ⟨_, rfl⟩
   have hl81 : x79.2.length ≤ 0 + ox.length := by rw [hx80]; exact Nat.le_trans (wr_len _ _ _ _) (by simp)
   rw [← hx80] at H
   replace H : Sep w0 w84 (.blk g70 116 [.bool true, U x79.1.1, U x79.1.2.1, U x79.1.2.2.1, U x79.1.2.2.2, .slice A82 x79.2.length c83, In (0 + ox.length)] :: .row (.slice A82 x79.2.length c83) 5 1 x79.2.length (bs x79.2) :: .blk g74 101 (bs ox) :: .blk g72 116 [.bool true, U regF.1, U regF.2.1, U regF.2.2.1, U regF.2.2.2, .slice none (([] : List UInt8).length) 0, In 0] :: .row (.slice none (([] : List UInt8).length) 0) 5 1 (([] : List UInt8).length) (bs []) :: .blk g3 101 (bs kk) :: .blk g1 82 (bs (List.replicate 16 (0 : UInt8))) :: F) := H
   refine GL_et ?_
   refine G_sr ?_
   refine GL_s 2 2 [(4, Pt g1 0), (5, Pt g3 0), (7, Pt g70 0), (8, Pt g72 0), (9, Pt g74 0), (42, Pt g70 0), (43, .slice B b.length d)] fun β => ?_
   replace H := H.front (i := 1) rfl
   replace H := H.front (i := 1) rfl
   replace H : Sep w0 w84 (.blk g70 116 [.bool true, U x79.1.1, U x79.1.2.1, U x79.1.2.2.1, U x79.1.2.2.2, .slice A82 x79.2.length c83, In (0 + ox.length)] :: .row (.slice A82 x79.2.length c83) 5 1 x79.2.length (bs x79.2) :: .blk g74 101 (bs ox) :: .blk g72 116 [.bool true, U regF.1, U regF.2.1, U regF.2.2.1, U regF.2.2.2, .slice none (([] : List UInt8).length) 0, In 0] :: .row (.slice none (([] : List UInt8).length) 0) 5 1 (([] : List UInt8).length) (bs []) :: .blk g3 101 (bs kk) :: .blk g1 82 (bs (List.replicate 16 (0 : UInt8))) :: F) := H
   refine GL_C (c_Write1 T hT gT R hR gR x79.1.1 x79.1.2.1 x79.1.2.2.1 x79.1.2.2.2 x79.2 (by first | omega | (simp only [List.length_nil]; omega)) (0 + ox.length) (by first | omega | (simp only [List.length_nil]; omega)) b (by first | omega | (simp only [List.length_nil]; omega)) (by rfl) (Rd.more Rb (.cons _ (.cons _ (.cons _ (.cons _ (.cons _ (.refl _))))))) H) ?_
   rintro _ w90 ⟨A88, c89, rfl, H⟩
   obtain ⟨x85, hx86⟩ : ∃ x, x = wrF T R (x79.1.1, x79.1.2.1, x79.1.2.2.1, x79.1.2.2.2) (x79.2 ++ b) := ⟨_, rfl⟩
   have hl87 : x85.2.length ≤ x79.2.length + b.length := by rw [hx86]; exact Nat.le_trans (wr_len _ _ _ _) (by simp)
   rw [← hx86] at H
   replace H : Sep w0 w90 (.blk g70 116 [.bool true, U x85.1.1, U x85.1.2.1, U x85.1.2.2.1, U x85.1.2.2.2, .slice A88 x85.2.length c89, In ((0 + ox.length) + b.length)] :: .row (.slice A88 x85.2.length c89) 5 1 x85.2.length (bs x85.2) :: .blk g74 101 (bs ox) :: .blk g72 116 [.bool true, U regF.1, U regF.2.1, U regF.2.2.1, U regF.2.2.2, .slice none (([] : List UInt8).length) 0, In 0] :: .row (.slice none (([] : List UInt8).length) 0) 5 1 (([] : List UInt8).length) (bs []) :: .blk g3 101 (bs kk) :: .blk g1 82 (bs (List.replicate 16 (0 : UInt8))) :: F) := H
   refine GL_et ?_
   refine G_seq ?_
   refine G_sr ?_
   refine GL_V (run_loadN (t := 101) (vs := bs kk) (by kernel_rfl) (by rw [bs_length, show (kk).length = 64 from by first | (simp; done) | assumption | (simp [*]; done) | (simp; omega)]; kernel_rfl) (H.blk_cells (i := 5) rfl 0 _ ⟨[], List.append_nil _⟩)) ?_
   refine GL_st 1 2 [(4, Pt g1 0), (7, Pt g70 0), (8, Pt g72 0), (9, Pt g74 0), (45, .agg (bs kk).toArray), (46, In 0)] fun β => ?_
   refine G_block ?_
   refine G_loop (X := Nat × (List UInt8)) (fun ⟨i, ox2⟩ => [(4, Pt g1 0), (7, Pt g70 0), (8, Pt g72 0), (9, Pt g74 0), (45, .agg (bs kk).toArray), (46, In i)]) (fun ⟨i, ox2⟩ w_ => Sep w0 w_ (.blk g70 116 [.bool true, U x85.1.1, U x85.1.2.1, U x85.1.2.2.1, U x85.1.2.2.2, .slice A88 x85.2.length c89, In ((0 + ox.length) + b.length)] :: .row (.slice A88 x85.2.length c89) 5 1 x85.2.length (bs x85.2) :: .blk g74 101 (bs ox2) :: .blk g72 116 [.bool true, U regF.1, U regF.2.1, U regF.2.2.1, U regF.2.2.2, .slice none (([] : List UInt8).length) 0, In 0] :: .row (.slice none (([] : List UInt8).length) 0) 5 1 (([] : List UInt8).length) (bs []) :: .blk g3 101 (bs kk) :: .blk g1 82 (bs (List.replicate 16 (0 : UInt8))) :: F) ∧ (i ≤ 64 ∧ ox2 = xorK kk 92 ox i)) (fun ⟨i, ox2⟩ => 64 - i) (0, ox) (by kernel_rfl) ⟨H, ⟨by omega, rfl⟩⟩ ?_
   rintro ⟨i, ox2⟩ β w91 ⟨H, hI⟩
   refine G_forget [(4, Pt g1 0), (7, Pt g70 0), (8, Pt g72 0), (9, Pt g74 0), (45, .agg (bs kk).toArray), (46, In i)] (by kernel_rfl) (fun β => ?_)
   replace H : Sep w0 w91 (.blk g70 116 [.bool true, U x85.1.1, U x85.1.2.1, U x85.1.2.2.1, U x85.1.2.2.2, .slice A88 x85.2.length c89, In ((0 + ox.length) + b.length)] :: .row (.slice A88 x85.2.length c89) 5 1 x85.2.length (bs x85.2) :: .blk g74 101 (bs ox2) :: .blk g72 116 [.bool true, U regF.1, U regF.2.1, U regF.2.2.1, U regF.2.2.2, .slice none (([] : List UInt8).length) 0, In 0] :: .row (.slice none (([] : List UInt8).length) 0) 5 1 (([] : List UInt8).length) (bs []) :: .blk g3 101 (bs kk) :: .blk g1 82 (bs (List.replicate 16 (0 : UInt8))) :: F) := H
   replace hI : i ≤ 64 ∧ ox2 = xorK kk 92 ox i := hI
   obtain ⟨hIox21, hIox22⟩ := hI
   have hlox2 : ox2.length = 64 := by rw [hIox22, xorK_len]; exact hlox
   refine G_sr ?_
   refine GL_srt 1 1 [(4, Pt g1 0), (7, Pt g70 0), (8, Pt g72 0), (9, Pt g74 0), (45, .agg (bs kk).toArray), (46, In i), (47, .bool (decide (i < 64)))] (show ([Pt g1 0, Pt g70 0, Pt g72 0, Pt g74 0, .agg (bs kk).toArray, .int .i64 (i : Int), .bool (decide ((i : Int) < ((64 : Nat) : Int)))] : List Value) = [Pt g1 0, Pt g70 0, Pt g72 0, Pt g74 0, .agg (bs kk).toArray, In i, .bool (decide (i < 64))] by rw [nlss i 64]) fun β => ?_
   refine G_seq ?_
   refine G_cond (decide (i < 64)) (by kernel_rfl) (fun h4 => ?_) (fun h4 => ?_)
   · --yes
    replace h4 : i < 64 := of_decide_eq_true h4
    refine G_skip ?_
    refine thn_normal ?_
    refine G_seq ?_
    refine G_block ?_
    refine G_sr ?_
    refine GL_s 1 1 [(4, Pt g1 0), (7, Pt g70 0), (8, Pt g72 0), (9, Pt g74 0), (45, .agg (bs kk).toArray), (46, In i), (48, In i)] fun β => ?_
    refine GL_V (R_aggidx (t := 101) (e := 5) (n := 64) (i := i) (ki := .i64) (xs := bs kk) (by kernel_rfl) (by kernel_rfl) (by kernel_rfl) (by omega) (bs_get _ _ (by omega))) ?_
    refine GL_st 2 4 [(4, Pt g1 0), (7, Pt g70 0), (8, Pt g72 0), (9, Pt g74 0), (12, In i), (13, By (kk.getD i 0)), (45, .agg (bs kk).toArray), (46, In i)] fun β => ?_
    refine G_region ?_
    refine GL_sr 3 3 [(4, Pt g1 0), (7, Pt g70 0), (8, Pt g72 0), (9, Pt g74 0), (45, .agg (bs kk).toArray), (46, In i), (50, In i), (52, By ((kk.getD i 0) ^^^ (92 : UInt8)))] (show ([Pt g1 0, Pt g70 0, Pt g72 0, Pt g74 0, .agg (bs kk).toArray, .int .i64 (i : Int), .int .i64 (i : Int), .int .u8 (bxor .u8 ((kk.getD i 0).toNat : Int) ((92 : UInt8).toNat : Int))] : List Value) = [Pt g1 0, Pt g70 0, Pt g72 0, Pt g74 0, .agg (bs kk).toArray, In i, In i, By ((kk.getD i 0) ^^^ (92 : UInt8))] by rw [Kw.u8_xor (kk.getD i 0) (92 : UInt8)]) fun β => ?_
    refine GL_V (R_arrplace1 (t := 101) (e := 5) (n := 64) (g := g74) (i := i) (ki := .i64) (by kernel_rfl) (by kernel_rfl) (by omega)) ?_
    obtain ⟨w92, hr93, H⟩ := R_bstore8 (P := Tryd.prog) (t := 5) (j := i) (b := ((kk.getD i 0) ^^^ (92 : UInt8))) H (i := 2) rfl (by kernel_rfl) (by omega)
    replace H : Sep w0 w92 (.blk g70 116 [.bool true, U x85.1.1, U x85.1.2.1, U x85.1.2.2.1, U x85.1.2.2.2, .slice A88 x85.2.length c89, In ((0 + ox.length) + b.length)] :: .row (.slice A88 x85.2.length c89) 5 1 x85.2.length (bs x85.2) :: .blk g74 101 (bs (ox2.set i ((kk.getD i 0) ^^^ (92 : UInt8)))) :: .blk g72 116 [.bool true, U regF.1, U regF.2.1, U regF.2.2.1, U regF.2.2.2, .slice none (([] : List UInt8).length) 0, In 0] :: .row (.slice none (([] : List UInt8).length) 0) 5 1 (([] : List UInt8).length) (bs []) :: .blk g3 101 (bs kk) :: .blk g1 82 (bs (List.replicate 16 (0 : UInt8))) :: F) := H
    refine GL_U hr93 ?_
    refine GL_end (by kernel_rfl) ?_
    refine inb_normal ?_
    refine thn_normal ?_
    refine G_region ?_
    refine GL_sr 2 2 [(4, Pt g1 0), (7, Pt g70 0), (8, Pt g72 0), (9, Pt g74 0), (45, .agg (bs kk).toArray), (46, In (i + 1))] (show ([Pt g1 0, Pt g70 0, Pt g72 0, Pt g74 0, .agg (bs kk).toArray, .int .i64 (IntKind.i64.wrap ((i : Int) + ((1 : Nat) : Int)))] : List Value) = [Pt g1 0, Pt g70 0, Pt g72 0, Pt g74 0, .agg (bs kk).toArray, In (i + 1)] by rw [nadd64 i 1 (by omega)]) fun β => ?_
    refine GL_end (by kernel_rfl) ?_
    refine thn_normal ⟨(i + 1, ox2.set i ((kk.getD i 0) ^^^ (92 : UInt8))), Agr_of_keys (by kernel_rfl), ⟨H, ?_⟩, ?_⟩
    · exact ⟨by omega, by rw [xorK, ← hIox22]⟩
    · first | (dsimp only; omega) | omega
   · --no
    replace h4 : ¬ (i < 64) := of_decide_eq_false h4
    refine G_exit (thn_exit (thn_exit (inb_hit ?_)))
    refine thn_normal ?_
    refine G_sr ?_
    refine GL_s 2 2 [(4, Pt g1 0), (7, Pt g70 0), (8, Pt g72 0), (55, Pt g72 0), (56, .slice (some ⟨g74, 0, none⟩) 64 64)] fun β => ?_
    replace H := H.front (i := 4) rfl
    replace H := H.front (i := 4) rfl
    replace H : Sep w0 w91 (.blk g72 116 [.bool true, U regF.1, U regF.2.1, U regF.2.2.1, U regF.2.2.2, .slice none (([] : List UInt8).length) 0, In 0] :: .row (.slice none (([] : List UInt8).length) 0) 5 1 (([] : List UInt8).length) (bs []) :: .blk g70 116 [.bool true, U x85.1.1, U x85.1.2.1, U x85.1.2.2.1, U x85.1.2.2.2, .slice A88 x85.2.length c89, In ((0 + ox.length) + b.length)] :: .row (.slice A88 x85.2.length c89) 5 1 x85.2.length (bs x85.2) :: .blk g74 101 (bs ox2) :: .blk g3 101 (bs kk) :: .blk g1 82 (bs (List.replicate 16 (0 : UInt8))) :: F) := H
    refine GL_C (c_Write1 T hT gT R hR gR regF.1 regF.2.1 regF.2.2.1 regF.2.2.2 [] (by first | omega | (simp only [List.length_nil]; omega)) 0 (by first | omega | (simp only [List.length_nil]; omega)) ox2 (by first | omega | (simp only [List.length_nil]; omega)) (by first | (simp; done) | assumption | (simp [*]; done) | (simp; omega)) (Rd.of_blk (i := 2) (nn := 64) (sz := 1) rfl (by rw [bs_length, show (ox2).length = 64 from by first | (simp; done) | assumption | (simp [*]; done) | (simp; omega)]) (by decide)) H) ?_
    rintro _ w99 ⟨A97, c98, rfl, H⟩
    obtain ⟨x94, hx95⟩ : ∃ x, x = wrF T R (regF.1, regF.2.1, regF.2.2.1, regF.2.2.2) ([] ++ ox2) := ⟨_, rfl⟩
    have hl96 : x94.2.length ≤ 0 + ox2.length := by rw [hx95]; exact Nat.le_trans (wr_len _ _ _ _) (by simp)
    rw [← hx95] at H
    replace H : Sep w0 w99 (.blk g72 116 [.bool true, U x94.1.1, U x94.1.2.1, U x94.1.2.2.1, U x94.1.2.2.2, .slice A97 x94.2.length c98, In (0 + ox2.length)] :: .row (.slice A97 x94.2.length c98) 5 1 x94.2.length (bs x94.2) :: .blk g70 116 [.bool true, U x85.1.1, U x85.1.2.1, U x85.1.2.2.1, U x85.1.2.2.2, .slice A88 x85.2.length c89, In ((0 + ox.length) + b.length)] :: .row (.slice A88 x85.2.length c89) 5 1 x85.2.length (bs x85.2) :: .blk g74 101 (bs ox2) :: .blk g3 101 (bs kk) :: .blk g1 82 (bs (List.replicate 16 (0 : UInt8))) :: F) := H
    refine GL_et ?_
    refine G_sr ?_
    refine GL_s 1 1 [(4, Pt g1 0), (8, Pt g72 0), (58, Pt g70 0)] fun β => ?_
    replace H := H.front (i := 3) rfl
    replace H := H.front (i := 3) rfl
    replace H : Sep w0 w99 (.blk g70 116 [.bool true, U x85.1.1, U x85.1.2.1, U x85.1.2.2.1, U x85.1.2.2.2, .slice A88 x85.2.length c89, In ((0 + ox.length) + b.length)] :: .row (.slice A88 x85.2.length c89) 5 1 x85.2.length (bs x85.2) :: .blk g72 116 [.bool true, U x94.1.1, U x94.1.2.1, U x94.1.2.2.1, U x94.1.2.2.2, .slice A97 x94.2.length c98, In (0 + ox2.length)] :: .row (.slice A97 x94.2.length c98) 5 1 x94.2.length (bs x94.2) :: .blk g74 101 (bs ox2) :: .blk g3 101 (bs kk) :: .blk g1 82 (bs (List.replicate 16 (0 : UInt8))) :: F) := H
    refine GL_C (c_Sum T hT gT R hR gR x85.1.1 x85.1.2.1 x85.1.2.2.1 x85.1.2.2.2 x85.2 (by first | omega | (simp only [List.length_nil]; omega)) ((0 + ox.length) + b.length) (by first | omega | (simp only [List.length_nil]; omega)) H) ?_
    rintro _ w103 ⟨rfl, H⟩
    obtain ⟨y100, hy101⟩ : ∃ y, y = sumF T R (x85.1.1, x85.1.2.1, x85.1.2.2.1, x85.1.2.2.2) x85.2 ((0 + ox.length) + b.length) := ⟨_, rfl⟩
    have hyl102 : y100.length = 16 := by rw [hy101]; exact sumF_len _ _ _ _ _
    rw [← hy101]
    replace H : Sep w0 w103 (.blk g70 116 [.bool true, U x85.1.1, U x85.1.2.1, U x85.1.2.2.1, U x85.1.2.2.2, .slice A88 x85.2.length c89, In ((0 + ox.length) + b.length)] :: .row (.slice A88 x85.2.length c89) 5 1 x85.2.length (bs x85.2) :: .blk g72 116 [.bool true, U x94.1.1, U x94.1.2.1, U x94.1.2.2.1, U x94.1.2.2.2, .slice A97 x94.2.length c98, In (0 + ox2.length)] :: .row (.slice A97 x94.2.length c98) 5 1 x94.2.length (bs x94.2) :: .blk g74 101 (bs ox2) :: .blk g3 101 (bs kk) :: .blk g1 82 (bs (List.replicate 16 (0 : UInt8))) :: F) := H
    refine GL_new (V := fun g => Pt g 0) (l := bs (List.replicate 16 (0 : UInt8))) (t := 82) H rfl (by kernel_rfl) (by kernel_rfl) (by kernel_rfl) (fun g104 w105 H => ?_)
    obtain ⟨w106, hr107, H⟩ := R_storeL (P := Tryd.prog) (t := 82) (xs := bs y100) H (i := 0) rfl (by rw [bs_length, show (y100).length = 16 from by first | (simp; done) | assumption | (simp [*]; done) | (simp; omega)]; kernel_rfl) (by rw [bs_length, bs_length, show (List.replicate 16 (0 : UInt8)).length = 16 from by first | (simp; done) | assumption | (simp [*]; done) | (simp; omega), show (y100).length = 16 from by first | (simp; done) | assumption | (simp [*]; done) | (simp; omega)]) (bs_one _)
    replace H : Sep w0 w106 (.blk g104 82 (bs y100) :: .blk g70 116 [.bool true, U x85.1.1, U x85.1.2.1, U x85.1.2.2.1, U x85.1.2.2.2, .slice A88 x85.2.length c89, In ((0 + ox.length) + b.length)] :: .row (.slice A88 x85.2.length c89) 5 1 x85.2.length (bs x85.2) :: .blk g72 116 [.bool true, U x94.1.1, U x94.1.2.1, U x94.1.2.2.1, U x94.1.2.2.2, .slice A97 x94.2.length c98, In (0 + ox2.length)] :: .row (.slice A97 x94.2.length c98) 5 1 x94.2.length (bs x94.2) :: .blk g74 101 (bs ox2) :: .blk g3 101 (bs kk) :: .blk g1 82 (bs (List.replicate 16 (0 : UInt8))) :: F) := H
    refine GL_U hr107 ?_
    refine GL_et ?_
    refine G_sr ?_
    refine GL_s 2 2 [(4, Pt g1 0), (8, Pt g72 0), (60, Pt g72 0), (61, .slice (some ⟨g104, 0, none⟩) 16 16)] fun β => ?_
    replace H := H.front (i := 4) rfl
    replace H := H.front (i := 4) rfl
    replace H : Sep w0 w106 (.blk g72 116 [.bool true, U x94.1.1, U x94.1.2.1, U x94.1.2.2.1, U x94.1.2.2.2, .slice A97 x94.2.length c98, In (0 + ox2.length)] :: .row (.slice A97 x94.2.length c98) 5 1 x94.2.length (bs x94.2) :: .blk g104 82 (bs y100) :: .blk g70 116 [.bool true, U x85.1.1, U x85.1.2.1, U x85.1.2.2.1, U x85.1.2.2.2, .slice A88 x85.2.length c89, In ((0 + ox.length) + b.length)] :: .row (.slice A88 x85.2.length c89) 5 1 x85.2.length (bs x85.2) :: .blk g74 101 (bs ox2) :: .blk g3 101 (bs kk) :: .blk g1 82 (bs (List.replicate 16 (0 : UInt8))) :: F) := H
    refine GL_C (c_Write1 T hT gT R hR gR x94.1.1 x94.1.2.1 x94.1.2.2.1 x94.1.2.2.2 x94.2 (by first | omega | (simp only [List.length_nil]; omega)) (0 + ox2.length) (by first | omega | (simp only [List.length_nil]; omega)) y100 (by first | omega | (simp only [List.length_nil]; omega)) (by first | (simp; done) | assumption | (simp [*]; done) | (simp; omega)) (Rd.of_blk (i := 0) (nn := 16) (sz := 1) rfl (by rw [bs_length, show (y100).length = 16 from by first | (simp; done) | assumption | (simp [*]; done) | (simp; omega)]) (by decide)) H) ?_
    rintro _ w113 ⟨A111, c112, rfl, H⟩
    obtain ⟨x108, hx109⟩ : ∃ x, x = wrF T R (x94.1.1, x94.1.2.1, x94.1.2.2.1, x94.1.2.2.2) (x94.2 ++ y100) := ⟨_, rfl⟩
    have hl110 : x108.2.length ≤ x94.2.length + y100.length := by rw [hx109]; exact Nat.le_trans (wr_len _ _ _ _) (by simp)
    rw [← hx109] at H
    replace H : Sep w0 w113 (.blk g72 116 [.bool true, U x108.1.1, U x108.1.2.1, U x108.1.2.2.1, U x108.1.2.2.2, .slice A111 x108.2.length c112, In ((0 + ox2.length) + y100.length)] :: .row (.slice A111 x108.2.length c112) 5 1 x108.2.length (bs x108.2) :: .blk g104 82 (bs y100) :: .blk g70 116 [.bool true, U x85.1.1, U x85.1.2.1, U x85.1.2.2.1, U x85.1.2.2.2, .slice A88 x85.2.length c89, In ((0 + ox.length) + b.length)] :: .row (.slice A88 x85.2.length c89) 5 1 x85.2.length (bs x85.2) :: .blk g74 101 (bs ox2) :: .blk g3 101 (bs kk) :: .blk g1 82 (bs (List.replicate 16 (0 : UInt8))) :: F) := H
    refine GL_et ?_
    refine G_sr ?_
    refine GL_s 1 1 [(4, Pt g1 0), (63, Pt g72 0)] fun β => ?_
    replace H := H.front (i := 1) rfl
    replace H := H.front (i := 1) rfl
    replace H : Sep w0 w113 (.blk g72 116 [.bool true, U x108.1.1, U x108.1.2.1, U x108.1.2.2.1, U x108.1.2.2.2, .slice A111 x108.2.length c112, In ((0 + ox2.length) + y100.length)] :: .row (.slice A111 x108.2.length c112) 5 1 x108.2.length (bs x108.2) :: .blk g104 82 (bs y100) :: .blk g70 116 [.bool true, U x85.1.1, U x85.1.2.1, U x85.1.2.2.1, U x85.1.2.2.2, .slice A88 x85.2.length c89, In ((0 + ox.length) + b.length)] :: .row (.slice A88 x85.2.length c89) 5 1 x85.2.length (bs x85.2) :: .blk g74 101 (bs ox2) :: .blk g3 101 (bs kk) :: .blk g1 82 (bs (List.replicate 16 (0 : UInt8))) :: F) := H
    refine GL_C (c_Sum T hT gT R hR gR x108.1.1 x108.1.2.1 x108.1.2.2.1 x108.1.2.2.2 x108.2 (by first | omega | (simp only [List.length_nil]; omega)) ((0 + ox2.length) + y100.length) (by first | omega | (simp only [List.length_nil]; omega)) H) ?_
    rintro _ w117 ⟨rfl, H⟩
    obtain ⟨y114, hy115⟩ : ∃ y, y = sumF T R (x108.1.1, x108.1.2.1, x108.1.2.2.1, x108.1.2.2.2) x108.2 ((0 + ox2.length) + y100.length) := ⟨_, rfl⟩
    have hyl116 : y114.length = 16 := by rw [hy115]; exact sumF_len _ _ _ _ _
    rw [← hy115]
    replace H : Sep w0 w117 (.blk g72 116 [.bool true, U x108.1.1, U x108.1.2.1, U x108.1.2.2.1, U x108.1.2.2.2, .slice A111 x108.2.length c112, In ((0 + ox2.length) + y100.length)] :: .row (.slice A111 x108.2.length c112) 5 1 x108.2.length (bs x108.2) :: .blk g104 82 (bs y100) :: .blk g70 116 [.bool true, U x85.1.1, U x85.1.2.1, U x85.1.2.2.1, U x85.1.2.2.2, .slice A88 x85.2.length c89, In ((0 + ox.length) + b.length)] :: .row (.slice A88 x85.2.length c89) 5 1 x85.2.length (bs x85.2) :: .blk g74 101 (bs ox2) :: .blk g3 101 (bs kk) :: .blk g1 82 (bs (List.replicate 16 (0 : UInt8))) :: F) := H
    obtain ⟨w118, hr119, H⟩ := R_storeL (P := Tryd.prog) (t := 82) (xs := bs y114) H (i := 7) rfl (by rw [bs_length, show (y114).length = 16 from by first | (simp; done) | assumption | (simp [*]; done) | (simp; omega)]; kernel_rfl) (by rw [bs_length, bs_length, show (List.replicate 16 (0 : UInt8)).length = 16 from by first | (simp; done) | assumption | (simp [*]; done) | (simp; omega), show (y114).length = 16 from by first | (simp; done) | assumption | (simp [*]; done) | (simp; omega)]) (bs_one _)
    replace H : Sep w0 w118 (.blk g72 116 [.bool true, U x108.1.1, U x108.1.2.1, U x108.1.2.2.1, U x108.1.2.2.2, .slice A111 x108.2.length c112, In ((0 + ox2.length) + y100.length)] :: .row (.slice A111 x108.2.length c112) 5 1 x108.2.length (bs x108.2) :: .blk g104 82 (bs y100) :: .blk g70 116 [.bool true, U x85.1.1, U x85.1.2.1, U x85.1.2.2.1, U x85.1.2.2.2, .slice A88 x85.2.length c89, In ((0 + ox.length) + b.length)] :: .row (.slice A88 x85.2.length c89) 5 1 x85.2.length (bs x85.2) :: .blk g74 101 (bs ox2) :: .blk g3 101 (bs kk) :: .blk g1 82 (bs y114) :: F) := H
    refine GL_U hr119 ?_
    refine GL_et ?_
    refine G_ret ?_
    refine resC (t := 82) (vs := bs y114) rfl (by kernel_rfl) (by kernel_rfl) (by rw [bs_length, show (y114).length = 16 from by first | (simp; done) | assumption | (simp [*]; done) | (simp; omega)]; kernel_rfl) (H.blk_cells (i := 7) rfl 0 _ ⟨_, List.append_nil _⟩) ?_
    replace H := H.drop 7
    replace H := H.drop 6
    replace H := H.drop 5
    replace H := H.drop 4
    replace H := H.drop 3
    replace H := H.drop 2
    replace H := H.drop 1
    replace H := H.drop 0
    replace H : Sep w0 w118 (F) := H
    refine ⟨?_, H⟩
    have e1 : ox = macI kk := by rw [hIox2, macI]; congr 1; omega
    have e2 : ox2 = macO kk := by rw [hIox22, macO, ← e1]; congr 1; omega
    rw [macF, hkF, macK, macD, ← e2, ← e1]
    simp only [sumS, wr0, st0, hx80, hx86, hx95, hy101, hx109, hy115]
end Go.Proofs.YtadiljnfkbbmcaaDoor
