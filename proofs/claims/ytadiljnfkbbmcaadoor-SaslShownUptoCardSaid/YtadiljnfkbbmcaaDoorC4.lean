-- printed by gw.py (my own program), checked by Lean
import Derived.Test.YtadiljnfkbbmcaaDoorC3
import Derived.Test.YtadiljnfkbbmcaaDoorA0
set_option linter.unusedVariables false
set_option linter.unusedSimpArgs false
set_option maxRecDepth 100000
set_option maxHeartbeats 400000
namespace Go.Proofs.YtadiljnfkbbmcaaDoor
open Go.Kw Go.RowKit

def hexd : List UInt8 := [48, 49, 50, 51, 52, 53, 54, 55, 56, 57, 97, 98, 99, 100, 101, 102]
def hexs (c : UInt8) : List UInt8 := [hexd.getD (c >>> 4).toNat 0, hexd.getD (c &&& 15).toNat 0]
def tellF (d : List UInt8) : List UInt8 := if d = List.replicate 16 0 then [48, 48, 48, 48, 48, 48, 48, 48, 48, 48, 48, 48, 48, 48, 48, 48, 48, 48, 48, 48, 48, 48, 48, 48, 48, 48, 48, 48, 48, 48, 48, 48] else d.flatMap hexs
def dgF (T : List UInt32) (R : List UInt8) (secret stamp : List UInt8) : List UInt8 := tellF (macF T R secret stamp)
theorem macF_len (T : List UInt32) (R : List UInt8) (k b : List UInt8) : (macF T R k b).length = 16 := sumF_len _ _ _ _ _
theorem hi1 (c : UInt8) : (c >>> 4).toNat < hexd.length := by rw [x3]; have := c.toNat_lt; simp only [show hexd.length = 16 from rfl]; omega
theorem hi2 (c : UInt8) : (c &&& 15).toNat < hexd.length := by rw [nand c 15 4 rfl]; simp only [show hexd.length = 16 from rfl]; omega
theorem hexs_step {d : List UInt8} {i : Nat} (hi : i < d.length) : (d.take (i + 1)).flatMap hexs = (d.take i).flatMap hexs ++ hexs (d.getD i 0) := by
  rw [List.take_add_one, List.getElem?_eq_getElem hi]
  simp only [Option.toList_some, List.flatMap_append, List.flatMap_cons, List.flatMap_nil, List.append_nil, List.getD_eq_getElem?_getD, List.getElem?_eq_getElem hi, Option.getD_some]
theorem hexd_nosp : ∀ n, n < 16 → hexd.getD n 0 ≠ 32 := by decide
theorem hexs_nosp (c : UInt8) : (32 : UInt8) ∉ hexs c := by
  have h1 := hexd_nosp (c >>> 4).toNat (hi1 c)
  have h2 := hexd_nosp (c &&& 15).toNat (hi2 c)
  simp only [hexs, List.mem_cons, List.not_mem_nil, or_false, not_or]
  exact ⟨fun h => h1 h.symm, fun h => h2 h.symm⟩
theorem tellF_nosp (d : List UInt8) : (32 : UInt8) ∉ tellF d := by
  unfold tellF
  split
  · decide
  · simp only [List.mem_flatMap, not_exists, not_and]
    intro c _; exact hexs_nosp c
theorem flat_len (d : List UInt8) : (d.flatMap hexs).length = 2 * d.length := by
  induction d with
  | nil => rfl
  | cons a l ih => simp only [List.flatMap_cons, List.length_append, ih, List.length_cons]; simp [hexs]; omega
theorem tellF_len (d : List UInt8) (h : d.length = 16) : (tellF d).length = 32 := by
  unfold tellF
  split
  · rfl
  · rw [flat_len, h]
theorem dgF_len (T : List UInt32) (R : List UInt8) (k b : List UInt8) : (dgF T R k b).length = 32 := tellF_len _ (macF_len _ _ _ _)
/-- posthorn/hash.Tell -/
theorem c_Tell (d : List UInt8) (hd : d.length = 16) {w0 w : World} {F : List Chunk} (H : Sep w0 w F) : Ret Tryd.prog 29 #[.agg (bs d).toArray] w (fun v w' => v = S (tellF d) ∧ Sep w0 w' F) := by
 refine Ret_enter (args := [.agg (bs d).toArray]) Tryd.func29 rfl (by kernel_rfl) ?_
 refine G_forget [(0, .agg (bs d).toArray)] (by kernel_rfl) (fun β => ?_)
 refine G_sr ?_
 refine GL_new (V := fun g => Pt g 0) (l := bs d) (t := 82) H rfl (by kernel_rfl) (by kernel_rfl) (by kernel_rfl) (fun g1 w2 H => ?_)
 refine GL_st 1 2 [(1, Pt g1 0)] fun β => ?_
 refine G_seq ?_
 refine G_sr ?_
 refine GL_V (run_loadN (t := 82) (vs := bs d) (by kernel_rfl) (by rw [bs_length, show (d).length = 16 from by first | (simp; done) | (simp [*]; done) | assumption | (simp; omega) | rfl]; kernel_rfl) (H.blk_cells (i := 0) rfl 0 _ ⟨[], List.append_nil _⟩)) ?_
 refine GL_s 1 2 [(1, Pt g1 0), (6, .agg (bs d).toArray), (7, .agg (bs (List.replicate 16 (0 : UInt8))).toArray)] fun β => ?_
 refine GL_V (R_eqarr8 (t := 82) (e := 5) (n := 16) (l := d) (m := List.replicate 16 (0 : UInt8)) (by kernel_rfl) (by kernel_rfl) (by kernel_rfl) (by kernel_rfl) (by kernel_rfl) (by first | (simp; done) | (simp [*]; done) | assumption | (simp; omega) | rfl) (by first | (simp; done) | (simp [*]; done) | assumption | (simp; omega) | rfl)) ?_
 refine GL_et ?_
 refine G_cond (d == (List.replicate 16 (0 : UInt8))) (by kernel_rfl) (fun h0 => ?_) (fun h0 => ?_)
 · --yes
  replace h0 : d = List.replicate 16 (0 : UInt8) := eql_T h0
  refine G_sr ?_
  refine GL_st 1 1 [(2, S [48, 48, 48, 48, 48, 48, 48, 48, 48, 48, 48, 48, 48, 48, 48, 48, 48, 48, 48, 48, 48, 48, 48, 48, 48, 48, 48, 48, 48, 48, 48, 48])] fun β => ?_
  refine G_ret ?_
  refine thn_ret (res1 (v := S [48, 48, 48, 48, 48, 48, 48, 48, 48, 48, 48, 48, 48, 48, 48, 48, 48, 48, 48, 48, 48, 48, 48, 48, 48, 48, 48, 48, 48, 48, 48, 48]) rfl (by kernel_rfl) ?_)
  replace H := H.drop 0
  replace H : Sep w0 w2 (F) := H
  exact ⟨by rw [tellF, if_pos h0], H⟩
 · --no
  replace h0 : ¬ (d = List.replicate 16 (0 : UInt8)) := eql_F h0
  refine G_skip ?_
  refine thn_normal ?_
  refine G_sr ?_
  obtain ⟨A3, c4, w5, hr6, H, hcap7⟩ := R_make (P := Tryd.prog) (t := 68) (e := 5) (z := .int .u8 0) (sz := 1) (by_ := 1) (k1 := .i64) (k2 := .i64) 0 32 H (by kernel_rfl) rfl (by decide) (by omega) (by omega) (by unfold maxLen; omega)
  replace H : Sep w0 w5 (.row (.slice A3 0 c4) 5 1 0 [] :: .blk g1 82 (bs d) :: F) := H
  refine GL_V hr6 ?_
  refine GL_st 1 2 [(1, Pt g1 0), (3, .slice A3 0 c4)] fun β => ?_
  refine G_seq ?_
  refine G_sr ?_
  refine GL_V (run_loadN (t := 82) (vs := bs d) (by kernel_rfl) (by rw [bs_length, show (d).length = 16 from by first | (simp; done) | (simp [*]; done) | assumption | (simp; omega) | rfl]; kernel_rfl) (H.blk_cells (i := 1) rfl 0 _ ⟨[], List.append_nil _⟩)) ?_
  refine GL_st 1 2 [(3, .slice A3 0 c4), (10, .agg (bs d).toArray), (11, In 0)] fun β => ?_
  refine G_block ?_
  refine G_loop (X := Nat × (List UInt8) × (Option Addr) × Nat) (fun ⟨i, o, B, cp⟩ => [(3, .slice B o.length cp), (10, .agg (bs d).toArray), (11, In i)]) (fun ⟨i, o, B, cp⟩ w_ => Sep w0 w_ (.row (.slice B o.length cp) 5 1 o.length (bs o) :: .blk g1 82 (bs d) :: F) ∧ (i ≤ 16 ∧ o = (d.take i).flatMap hexs)) (fun ⟨i, o, B, cp⟩ => 16 - i) (0, [], A3, c4) (by kernel_rfl) ⟨H, ⟨by omega, rfl⟩⟩ ?_
  rintro ⟨i, o, B, cp⟩ β w8 ⟨H, hI⟩
  refine G_forget [(3, .slice B o.length cp), (10, .agg (bs d).toArray), (11, In i)] (by kernel_rfl) (fun β => ?_)
  replace H : Sep w0 w8 (.row (.slice B o.length cp) 5 1 o.length (bs o) :: .blk g1 82 (bs d) :: F) := H
  replace hI : i ≤ 16 ∧ o = (d.take i).flatMap hexs := hI
  obtain ⟨hI1, hI2⟩ := hI
  have hol : o.length ≤ 32 := by rw [hI2, flat_len]; simp; omega
  refine G_sr ?_
  refine GL_srt 1 1 [(3, .slice B o.length cp), (10, .agg (bs d).toArray), (11, In i), (12, .bool (decide (i < 16)))] (show ([.slice B o.length cp, .agg (bs d).toArray, .int .i64 (i : Int), .bool (decide ((i : Int) < ((16 : Nat) : Int)))] : List Value) = [.slice B o.length cp, .agg (bs d).toArray, In i, .bool (decide (i < 16))] by rw [nlss i 16]) fun β => ?_
  refine G_seq ?_
  refine G_cond (decide (i < 16)) (by kernel_rfl) (fun h1 => ?_) (fun h1 => ?_)
  · --yes
   replace h1 : i < 16 := of_decide_eq_true h1
   refine G_skip ?_
   refine thn_normal ?_
   refine G_seq ?_
   refine G_block ?_
   refine G_sr ?_
   refine GL_V (R_aggidx (t := 82) (e := 5) (n := 16) (i := i) (ki := .i64) (xs := bs d) (by kernel_rfl) (by kernel_rfl) (by kernel_rfl) (by omega) (bs_get _ _ (by omega))) ?_
   refine GL_st 1 2 [(3, .slice B o.length cp), (5, By (d.getD i 0)), (10, .agg (bs d).toArray), (11, In i)] fun β => ?_
   refine G_drawS (fun w => True) 10 10 (by kernel_rfl) (by kernel_rfl) H (fun w9 H => ?_)
   refine HL_takes [0, 1, 2] [(3, .slice B o.length cp), (5, .int .u8 ((d.getD i 0).toNat : Int)), (10, .agg (bs d).toArray), (11, .int .i64 (i : Int)), (14, .slice B o.length cp), (16, .int .u8 (((d.getD i 0).toNat : Int).fdiv (2 ^ 4)))] (mkL 10 [0, 1, 2]) 7 (by kernel_rfl) rfl (by kernel_rfl) (fun _ => by kernel_rfl) trivial (fun β => ?_)
   refine HL_forgetr [(3, .slice B o.length cp), (5, By (d.getD i 0)), (10, .agg (bs d).toArray), (11, In i), (14, .slice B o.length cp), (16, By ((d.getD i 0) >>> 4))] (show ([.slice B o.length cp, .int .u8 ((d.getD i 0).toNat : Int), .agg (bs d).toArray, .int .i64 (i : Int), .slice B o.length cp, .int .u8 (((d.getD i 0).toNat : Int).fdiv (2 ^ 4))] : List Value) = [.slice B o.length cp, By (d.getD i 0), .agg (bs d).toArray, In i, .slice B o.length cp, By ((d.getD i 0) >>> 4)] by rw [Kw.u8_shr (d.getD i 0) 4 4 rfl (by decide)]) (by kernel_rfl) rfl (fun β => ?_)
   refine HL_t (i := 3) (m := 6) (fun w _ => (R_index (P := Tryd.prog) (w := _) (t := 9) (ki := .u8) (i := ((d.getD i 0) >>> 4).toNat) (l := hexd) (by kernel_rfl) (by exact hi1 _))) rfl (by kernel_rfl) (by kernel_rfl) (by kernel_rfl) (by kernel_rfl) (by kernel_rfl) (by kernel_rfl) trivial rfl ?_
   refine HL_takes [4, 5] [(3, .slice B o.length cp), (10, .agg (bs d).toArray), (11, .int .i64 (i : Int)), (14, .slice B o.length cp), (17, .int .u8 ((hexd.getD (((d.getD i 0) >>> 4).toNat) 0).toNat : Int)), (19, .int .u8 (band .u8 ((d.getD i 0).toNat : Int) ((15 : UInt8).toNat : Int)))] (mkL 10 [0, 1, 2, 3, 4, 5]) 4 (by kernel_rfl) rfl (by kernel_rfl) (fun _ => by kernel_rfl) trivial (fun β => ?_)
   refine HL_forgetr [(3, .slice B o.length cp), (10, .agg (bs d).toArray), (11, In i), (14, .slice B o.length cp), (17, By (hexd.getD (((d.getD i 0) >>> 4).toNat) 0)), (19, By ((d.getD i 0) &&& (15 : UInt8)))] (show ([.slice B o.length cp, .agg (bs d).toArray, .int .i64 (i : Int), .slice B o.length cp, .int .u8 ((hexd.getD (((d.getD i 0) >>> 4).toNat) 0).toNat : Int), .int .u8 (band .u8 ((d.getD i 0).toNat : Int) ((15 : UInt8).toNat : Int))] : List Value) = [.slice B o.length cp, .agg (bs d).toArray, In i, .slice B o.length cp, By (hexd.getD (((d.getD i 0) >>> 4).toNat) 0), By ((d.getD i 0) &&& (15 : UInt8))] by rw [Kw.u8_and (d.getD i 0) (15 : UInt8)]) (by kernel_rfl) rfl (fun β => ?_)
   refine HL_t (i := 6) (m := 3) (fun w _ => (R_index (P := Tryd.prog) (w := _) (t := 9) (ki := .u8) (i := ((d.getD i 0) &&& (15 : UInt8)).toNat) (l := hexd) (by kernel_rfl) (by exact hi2 _))) rfl (by kernel_rfl) (by kernel_rfl) (by kernel_rfl) (by kernel_rfl) (by kernel_rfl) (by kernel_rfl) trivial rfl ?_
   refine HL_new (i := 7) (V := fun g => .slice (some ⟨g, 0, none⟩) 2 2) (l := [By (hexd.getD (((d.getD i 0) >>> 4).toNat) 0), By (hexd.getD (((d.getD i 0) &&& (15 : UInt8)).toNat) 0)]) (t := 5) H rfl (by kernel_rfl) (by kernel_rfl) (by kernel_rfl) (by kernel_rfl) (fun g10 w11 H => ?_)
   refine ⟨(.inr trivial), ?_⟩
   obtain ⟨A12, c13, w14, o16, ho17, hl18, hr15, H⟩ := R_append8 (P := Tryd.prog) (t := 68) (ty := 68) (l := o) (news := [hexd.getD (((d.getD i 0) >>> 4).toNat) 0, (hexd.getD (((d.getD i 0) &&& (15 : UInt8)).toNat) 0)]) H (i := 1) rfl (by kernel_rfl) (Src.blkp (m := 2) (c := 2) (off := 0) H (i := 0) rfl [By (hexd.getD (((d.getD i 0) >>> 4).toNat) 0), By (hexd.getD (((d.getD i 0) &&& (15 : UInt8)).toNat) 0)] rfl ⟨_, rfl⟩) rfl (by omega)
   replace H := H.drop 0
   replace H : Sep w0 w14 (.row (.slice A12 o16.length c13) 5 1 o16.length (bs o16) :: .blk g1 82 (bs d) :: F) := H
   refine HL_v (i := 8) hr15 rfl (by kernel_rfl) (by kernel_rfl) (by kernel_rfl) (by kernel_rfl) (.inr trivial) ?_
   refine HL_takes [9] [(3, .slice A12 o16.length c13), (10, .agg (bs d).toArray), (11, .int .i64 (i : Int))] (mkL 10 [0, 1, 2, 3, 4, 5, 6, 7, 8, 9]) 0 (by kernel_rfl) rfl (by kernel_rfl) (fun _ => by kernel_rfl) trivial (fun β => ?_)
   refine HL_forget [(3, .slice A12 o16.length c13), (10, .agg (bs d).toArray), (11, In i)] (by kernel_rfl) (fun β => ?_)
   refine HL_fin (by kernel_rfl) ?_
   refine inb_normal ?_
   refine thn_normal ?_
   refine G_region ?_
   refine GL_sr 2 2 [(3, .slice A12 o16.length c13), (10, .agg (bs d).toArray), (11, In (i + 1))] (show ([.slice A12 o16.length c13, .agg (bs d).toArray, .int .i64 (IntKind.i64.wrap ((i : Int) + ((1 : Nat) : Int)))] : List Value) = [.slice A12 o16.length c13, .agg (bs d).toArray, In (i + 1)] by rw [nadd64 i 1 (by omega)]) fun β => ?_
   refine GL_end (by kernel_rfl) ?_
   refine thn_normal ⟨(i + 1, o16, A12, c13), Agr_of_keys (by kernel_rfl), ⟨H, ?_⟩, ?_⟩
   · exact ⟨by omega, by rw [hexs_step (by omega), ← hI2]; simp [hexs, *]⟩
   · first | (dsimp only; omega) | omega
  · --no
   replace h1 : ¬ (i < 16) := of_decide_eq_false h1
   refine G_exit (thn_exit (thn_exit (inb_hit ?_)))
   refine thn_normal ?_
   refine G_sr ?_
   refine GL_s 1 1 [(24, .slice B o.length cp)] fun β => ?_
   refine GL_V (R_conv_bs (s := 68) (t := 9) (e := 5) (l := o) (by kernel_rfl) (by kernel_rfl) (by kernel_rfl) (Src.row H (i := 0) rfl)) ?_
   refine GL_st 1 3 [(2, S o)] fun β => ?_
   refine G_ret ?_
   refine res1 (v := S o) rfl (by kernel_rfl) ?_
   replace H := H.drop 1
   replace H := H.drop 0
   replace H : Sep w0 w8 (F) := H
   refine ⟨?_, H⟩
   have hi : i = 16 := by omega
   subst hi
   rw [tellF, if_neg h0, hI2, List.take_of_length_le (by omega)]
/-- posthorn/sasl.digest -/
theorem c_digest {w0 w : World} {F : List Chunk} (T : List UInt32) (hT : T.length = 64) (gT : Gl w0 0 (u32s T)) (R : List UInt8) (hR : R.length = 16) (gR : Gl w0 1 (bs R)) (x y : List UInt8) (hx : x.length ≤ 549755813888) (hy : y.length ≤ 549755813888) (H : Sep w0 w F) : Ret Tryd.prog 107 #[S x, S y] w (fun v w' => v = S (dgF T R x y) ∧ Sep w0 w' F) := by
 refine Ret_enter (args := [S x, S y]) Tryd.func107 rfl (by kernel_rfl) ?_
 refine G_forget [(0, S x), (1, S y)] (by kernel_rfl) (fun β => ?_)
 refine G_sr ?_
 refine GL_st 1 1 [(0, S x), (1, S y)] fun β => ?_
 refine G_sr ?_
 refine GL_s 1 1 [(1, S y), (5, S x)] fun β => ?_
 obtain ⟨A1, c2, w3, hr4, H⟩ := R_conv_sb (P := Tryd.prog) (s := 9) (t := 68) (e := 5) (u := .string) (l := x) H (by kernel_rfl) (by kernel_rfl) (by kernel_rfl) (by unfold maxLen; (try simp only [List.length_append, List.length_cons, List.length_nil]); omega)
 replace H : Sep w0 w3 (.row (.slice A1 x.length c2) 5 1 x.length (bs x) :: F) := H
 refine GL_V hr4 ?_
 refine GL_s 1 3 [(6, .slice A1 x.length c2), (7, S y)] fun β => ?_
 obtain ⟨A5, c6, w7, hr8, H⟩ := R_conv_sb (P := Tryd.prog) (s := 9) (t := 68) (e := 5) (u := .string) (l := y) H (by kernel_rfl) (by kernel_rfl) (by kernel_rfl) (by unfold maxLen; (try simp only [List.length_append, List.length_cons, List.length_nil]); omega)
 replace H : Sep w0 w7 (.row (.slice A5 y.length c6) 5 1 y.length (bs y) :: .row (.slice A1 x.length c2) 5 1 x.length (bs x) :: F) := H
 refine GL_V hr8 ?_
 refine GL_C (c_Mac T hT gT R hR gR x y (by omega) (by omega) (Rd.of_row H (i := 1) rfl) (Rd.of_row H (i := 0) rfl) H) ?_
 rintro _ w9 ⟨rfl, H⟩
 refine GL_C (c_Tell (macF T R x y) (by exact macF_len _ _ _ _) H) ?_
 rintro _ w10 ⟨rfl, H⟩
 refine GL_st 1 7 [(4, S (tellF (macF T R x y)))] fun β => ?_
 refine G_ret ?_
 refine res1 (v := S (tellF (macF T R x y))) rfl (by kernel_rfl) ?_
 replace H := H.drop 1
 replace H := H.drop 0
 replace H : Sep w0 w10 (F) := H
 exact ⟨rfl, H⟩
end Go.Proofs.YtadiljnfkbbmcaaDoor
