-- printed by gw.py (my own program), checked by Lean
import Derived.Test.YtadiljnfkbbmcaaDoorA3
set_option linter.unusedVariables false
set_option linter.unusedSimpArgs false
set_option maxRecDepth 100000
set_option maxHeartbeats 400000
namespace Go.Proofs.YtadiljnfkbbmcaaDoor
open Go.Kw Go.RowKit

theorem enc_step {m : List UInt8} (h : 3 ≤ m.length) : enc m = [L (m.getD 0 0 >>> 2), L ((m.getD 0 0 &&& 3) <<< 4 ||| m.getD 1 0 >>> 4), L ((m.getD 1 0 &&& 15) <<< 2 ||| m.getD 2 0 >>> 6), L (m.getD 2 0 &&& 63)] ++ enc (m.drop 3) := by
  match m, h with
  | a :: b :: c :: r, _ => simp [enc]
theorem enc_one {m : List UInt8} (h : m.length = 1) : enc m = [L (m.getD 0 0 >>> 2), L ((m.getD 0 0 &&& 3) <<< 4), 61, 61] := by
  match m, h with
  | [a], _ => simp [enc]
theorem enc_two {m : List UInt8} (h : m.length = 2) : enc m = [L (m.getD 0 0 >>> 2), L ((m.getD 0 0 &&& 3) <<< 4 ||| m.getD 1 0 >>> 4), L ((m.getD 1 0 &&& 15) <<< 2), 61] := by
  match m, h with
  | [a, b], _ => simp [enc]
theorem enc_no {m : List UInt8} (h : m.length = 0) : enc m = [] := by
  match m, h with
  | [], _ => simp [enc]
/-- posthorn/code.Base64 -/
theorem c_Base64 (l : List UInt8) (hl : l.length ≤ 68719476736) {A : Option Addr} {c : Nat} {w0 w : World} {F : List Chunk} (R : Rd w0 F (.slice A l.length c) 1 l.length (bs l)) (H : Sep w0 w F) : Ret Tryd.prog 26 #[.slice A l.length c] w (fun v w' => v = .string ⟨(enc l).toArray⟩ ∧ Sep w0 w' F) := by
 refine Ret_enter (args := [.slice A l.length c]) Tryd.func26 rfl (by kernel_rfl) ?_
 refine G_forget [(0, .slice A l.length c)] (by kernel_rfl) (fun β => ?_)
 refine G_sr ?_
 refine GL_st 1 1 [(0, .slice A l.length c)] fun β => ?_
 refine G_sr ?_
 refine GL_sr 5 5 [(0, .slice A l.length c), (8, In (((l.length + 2) / 3) * 4))] (show ([.slice A l.length c, .int .i64 (IntKind.i64.wrap ((IntKind.i64.wrap ((IntKind.i64.wrap ((l.length : Int) + ((2 : Nat) : Int))).tdiv ((3 : Nat) : Int))) * ((4 : Nat) : Int)))] : List Value) = [.slice A l.length c, In (((l.length + 2) / 3) * 4)] by rw [nadd64 l.length 2 (by omega), nquo64 (l.length + 2) 3 (by omega), nmul64 ((l.length + 2) / 3) 4 (by omega)]) fun β => ?_
 obtain ⟨A1, c2, w3, hr4, H, hcap5⟩ := R_make (P := Tryd.prog) (t := 68) (e := 5) (z := .int .u8 0) (sz := 1) (by_ := 1) (k1 := .i64) (k2 := .i64) 0 (((l.length + 2) / 3) * 4) H (by kernel_rfl) rfl (by decide) (by omega) (by omega) (by unfold maxLen; omega)
 replace H : Sep w0 w3 (.row (.slice A1 0 c2) 5 1 0 [] :: F) := H
 refine GL_V hr4 ?_
 refine GL_st 1 7 [(0, .slice A l.length c), (3, .slice A1 0 c2)] fun β => ?_
 refine G_seq ?_
 refine G_block ?_
 refine G_loop (X := (List UInt8) × (Option Addr) × Nat × (List UInt8) × (Option Addr) × Nat) (fun ⟨m, A, c, o, B, cp⟩ => [(0, .slice A m.length c), (3, .slice B o.length cp)]) (fun ⟨m, A, c, o, B, cp⟩ w_ => Sep w0 w_ (.row (.slice B o.length cp) 5 1 o.length (bs o) :: F) ∧ (Rd w0 F (.slice A m.length c) 1 m.length (bs m) ∧ enc l = o ++ enc m ∧ o.length ≤ 2 * (l.length - m.length) ∧ m.length ≤ l.length)) (fun ⟨m, A, c, o, B, cp⟩ => m.length) (l, A, c, [], A1, c2) (by kernel_rfl) ⟨H, ⟨R, rfl, by simp, by omega⟩⟩ ?_
 rintro ⟨m, A, c, o, B, cp⟩ β w6 ⟨H, hI⟩
 refine G_forget [(0, .slice A m.length c), (3, .slice B o.length cp)] (by kernel_rfl) (fun β => ?_)
 replace H : Sep w0 w6 (.row (.slice B o.length cp) 5 1 o.length (bs o) :: F) := H
 replace hI : Rd w0 F (.slice A m.length c) 1 m.length (bs m) ∧ enc l = o ++ enc m ∧ o.length ≤ 2 * (l.length - m.length) ∧ m.length ≤ l.length := hI
 obtain ⟨R1, hI1, hI2, hI3⟩ := hI
 refine G_seq ?_
 refine G_sr ?_
 refine GL_srt 3 3 [(0, .slice A m.length c), (3, .slice B o.length cp), (12, .bool (decide (m.length ≥ 3)))] (show ([.slice A m.length c, .slice B o.length cp, .bool (decide ((m.length : Int) ≥ ((3 : Nat) : Int)))] : List Value) = [.slice A m.length c, .slice B o.length cp, .bool (decide (m.length ≥ 3))] by rw [ngeq m.length 3]) fun β => ?_
 refine G_cond (decide (m.length ≥ 3)) (by kernel_rfl) (fun h0 => ?_) (fun h0 => ?_)
 · --yes
  replace h0 : m.length ≥ 3 := of_decide_eq_true h0
  refine G_skip ?_
  refine thn_normal ?_
  refine G_seq ?_
  refine G_block ?_
  obtain ⟨ad8, hr7, hc9⟩ := R_place (P := Tryd.prog) (t := 68) (e := 5) (i := 0) (ki := .i64) R1 (by omega) (by kernel_rfl) (by kernel_rfl)
  obtain ⟨ad11, hr10, hc12⟩ := R_place (P := Tryd.prog) (t := 68) (e := 5) (i := 0) (ki := .i64) R1 (by omega) (by kernel_rfl) (by kernel_rfl)
  obtain ⟨ad14, hr13, hc15⟩ := R_place (P := Tryd.prog) (t := 68) (e := 5) (i := 1) (ki := .i64) R1 (by omega) (by kernel_rfl) (by kernel_rfl)
  obtain ⟨ad17, hr16, hc18⟩ := R_place (P := Tryd.prog) (t := 68) (e := 5) (i := 1) (ki := .i64) R1 (by omega) (by kernel_rfl) (by kernel_rfl)
  obtain ⟨ad20, hr19, hc21⟩ := R_place (P := Tryd.prog) (t := 68) (e := 5) (i := 2) (ki := .i64) R1 (by omega) (by kernel_rfl) (by kernel_rfl)
  obtain ⟨ad23, hr22, hc24⟩ := R_place (P := Tryd.prog) (t := 68) (e := 5) (i := 2) (ki := .i64) R1 (by omega) (by kernel_rfl) (by kernel_rfl)
  refine G_drawS (fun w => w.cell? ad8 = some (By (m.getD 0 0)) ∧ w.cell? ad11 = some (By (m.getD 0 0)) ∧ w.cell? ad14 = some (By (m.getD 1 0)) ∧ w.cell? ad17 = some (By (m.getD 1 0)) ∧ w.cell? ad20 = some (By (m.getD 2 0)) ∧ w.cell? ad23 = some (By (m.getD 2 0)) ∧ True) 36 36 (by kernel_rfl) (by kernel_rfl) H (fun w25 H => ?_)
  refine HL_takes [0, 1] [(0, .slice A m.length c), (3, .slice B o.length cp), (15, .slice B o.length cp), (16, .slice A m.length c)] (mkL 36 [0, 1]) 34 (by kernel_rfl) rfl (by kernel_rfl) (fun _ => by kernel_rfl) ⟨(bs_at hc9 (H.drop 0) (by omega)), (bs_at hc12 (H.drop 0) (by omega)), (bs_at hc15 (H.drop 0) (by omega)), (bs_at hc18 (H.drop 0) (by omega)), (bs_at hc21 (H.drop 0) (by omega)), (bs_at hc24 (H.drop 0) (by omega)), trivial⟩ (fun β => ?_)
  refine HL_t (i := 2) (m := 33) (fun w _ => (hr7 _)) rfl (by kernel_rfl) (by kernel_rfl) (by kernel_rfl) (by kernel_rfl) (by kernel_rfl) (by kernel_rfl) ⟨(bs_at hc9 (H.drop 0) (by omega)), (bs_at hc12 (H.drop 0) (by omega)), (bs_at hc15 (H.drop 0) (by omega)), (bs_at hc18 (H.drop 0) (by omega)), (bs_at hc21 (H.drop 0) (by omega)), (bs_at hc24 (H.drop 0) (by omega)), trivial⟩ rfl ?_
  refine HL_t (i := 3) (m := 32) (fun w hS => run_load1 (t := 5) (by kernel_rfl) hS.1) rfl (by kernel_rfl) (by kernel_rfl) (by kernel_rfl) (by kernel_rfl) (by kernel_rfl) (by kernel_rfl) ⟨(bs_at hc9 (H.drop 0) (by omega)), (bs_at hc12 (H.drop 0) (by omega)), (bs_at hc15 (H.drop 0) (by omega)), (bs_at hc18 (H.drop 0) (by omega)), (bs_at hc21 (H.drop 0) (by omega)), (bs_at hc24 (H.drop 0) (by omega)), trivial⟩ rfl ?_
  refine HL_takes [4] [(0, .slice A m.length c), (3, .slice B o.length cp), (15, .slice B o.length cp), (19, .int .u8 (((m.getD 0 0).toNat : Int).fdiv (2 ^ 2)))] (mkL 36 [0, 1, 2, 3, 4]) 31 (by kernel_rfl) rfl (by kernel_rfl) (fun _ => by kernel_rfl) ⟨(bs_at hc9 (H.drop 0) (by omega)), (bs_at hc12 (H.drop 0) (by omega)), (bs_at hc15 (H.drop 0) (by omega)), (bs_at hc18 (H.drop 0) (by omega)), (bs_at hc21 (H.drop 0) (by omega)), (bs_at hc24 (H.drop 0) (by omega)), trivial⟩ (fun β => ?_)
  refine HL_forgetr [(0, .slice A m.length c), (3, .slice B o.length cp), (15, .slice B o.length cp), (19, By ((m.getD 0 0) >>> 2))] (show ([.slice A m.length c, .slice B o.length cp, .slice B o.length cp, .int .u8 (((m.getD 0 0).toNat : Int).fdiv (2 ^ 2))] : List Value) = [.slice A m.length c, .slice B o.length cp, .slice B o.length cp, By ((m.getD 0 0) >>> 2)] by rw [Kw.u8_shr (m.getD 0 0) 2 2 rfl (by decide)]) (by kernel_rfl) rfl (fun β => ?_)
  refine HL_t (i := 5) (m := 30) (fun w _ => (R_index (P := Tryd.prog) (w := _) (t := 9) (ki := .u8) (i := ((m.getD 0 0) >>> 2).toNat) (l := letters) (by kernel_rfl) (by exact i1 _))) rfl (by kernel_rfl) (by kernel_rfl) (by kernel_rfl) (by kernel_rfl) (by kernel_rfl) (by kernel_rfl) ⟨(bs_at hc9 (H.drop 0) (by omega)), (bs_at hc12 (H.drop 0) (by omega)), (bs_at hc15 (H.drop 0) (by omega)), (bs_at hc18 (H.drop 0) (by omega)), (bs_at hc21 (H.drop 0) (by omega)), (bs_at hc24 (H.drop 0) (by omega)), trivial⟩ rfl ?_
  refine HL_takes [6] [(0, .slice A m.length c), (3, .slice B o.length cp), (15, .slice B o.length cp), (20, .int .u8 ((letters.getD (((m.getD 0 0) >>> 2).toNat) 0).toNat : Int)), (21, .slice A m.length c)] (mkL 36 [0, 1, 2, 3, 4, 5, 6]) 29 (by kernel_rfl) rfl (by kernel_rfl) (fun _ => by kernel_rfl) ⟨(bs_at hc9 (H.drop 0) (by omega)), (bs_at hc12 (H.drop 0) (by omega)), (bs_at hc15 (H.drop 0) (by omega)), (bs_at hc18 (H.drop 0) (by omega)), (bs_at hc21 (H.drop 0) (by omega)), (bs_at hc24 (H.drop 0) (by omega)), trivial⟩ (fun β => ?_)
  refine HL_t (i := 7) (m := 28) (fun w _ => (hr10 _)) rfl (by kernel_rfl) (by kernel_rfl) (by kernel_rfl) (by kernel_rfl) (by kernel_rfl) (by kernel_rfl) ⟨(bs_at hc9 (H.drop 0) (by omega)), (bs_at hc12 (H.drop 0) (by omega)), (bs_at hc15 (H.drop 0) (by omega)), (bs_at hc18 (H.drop 0) (by omega)), (bs_at hc21 (H.drop 0) (by omega)), (bs_at hc24 (H.drop 0) (by omega)), trivial⟩ rfl ?_
  refine HL_t (i := 8) (m := 27) (fun w hS => run_load1 (t := 5) (by kernel_rfl) hS.2.1) rfl (by kernel_rfl) (by kernel_rfl) (by kernel_rfl) (by kernel_rfl) (by kernel_rfl) (by kernel_rfl) ⟨(bs_at hc9 (H.drop 0) (by omega)), (bs_at hc12 (H.drop 0) (by omega)), (bs_at hc15 (H.drop 0) (by omega)), (bs_at hc18 (H.drop 0) (by omega)), (bs_at hc21 (H.drop 0) (by omega)), (bs_at hc24 (H.drop 0) (by omega)), trivial⟩ rfl ?_
  refine HL_takes [9, 10, 11] [(0, .slice A m.length c), (3, .slice B o.length cp), (15, .slice B o.length cp), (20, .int .u8 ((letters.getD (((m.getD 0 0) >>> 2).toNat) 0).toNat : Int)), (25, .int .u8 (IntKind.u8.wrap ((band .u8 ((m.getD 0 0).toNat : Int) ((3 : UInt8).toNat : Int)) * 2 ^ 4))), (26, .slice A m.length c)] (mkL 36 [0, 1, 2, 3, 4, 5, 6, 7, 8, 9, 10, 11]) 24 (by kernel_rfl) rfl (by kernel_rfl) (fun _ => by kernel_rfl) ⟨(bs_at hc9 (H.drop 0) (by omega)), (bs_at hc12 (H.drop 0) (by omega)), (bs_at hc15 (H.drop 0) (by omega)), (bs_at hc18 (H.drop 0) (by omega)), (bs_at hc21 (H.drop 0) (by omega)), (bs_at hc24 (H.drop 0) (by omega)), trivial⟩ (fun β => ?_)
  refine HL_forgetr [(0, .slice A m.length c), (3, .slice B o.length cp), (15, .slice B o.length cp), (20, By (letters.getD (((m.getD 0 0) >>> 2).toNat) 0)), (25, By (((m.getD 0 0) &&& (3 : UInt8)) <<< 4)), (26, .slice A m.length c)] (show ([.slice A m.length c, .slice B o.length cp, .slice B o.length cp, .int .u8 ((letters.getD (((m.getD 0 0) >>> 2).toNat) 0).toNat : Int), .int .u8 (IntKind.u8.wrap ((band .u8 ((m.getD 0 0).toNat : Int) ((3 : UInt8).toNat : Int)) * 2 ^ 4)), .slice A m.length c] : List Value) = [.slice A m.length c, .slice B o.length cp, .slice B o.length cp, By (letters.getD (((m.getD 0 0) >>> 2).toNat) 0), By (((m.getD 0 0) &&& (3 : UInt8)) <<< 4), .slice A m.length c] by rw [Kw.u8_and (m.getD 0 0) (3 : UInt8), Kw.u8_shl ((m.getD 0 0) &&& (3 : UInt8)) 4 4 rfl (by decide)]) (by kernel_rfl) rfl (fun β => ?_)
  refine HL_t (i := 12) (m := 23) (fun w _ => (hr13 _)) rfl (by kernel_rfl) (by kernel_rfl) (by kernel_rfl) (by kernel_rfl) (by kernel_rfl) (by kernel_rfl) ⟨(bs_at hc9 (H.drop 0) (by omega)), (bs_at hc12 (H.drop 0) (by omega)), (bs_at hc15 (H.drop 0) (by omega)), (bs_at hc18 (H.drop 0) (by omega)), (bs_at hc21 (H.drop 0) (by omega)), (bs_at hc24 (H.drop 0) (by omega)), trivial⟩ rfl ?_
  refine HL_t (i := 13) (m := 22) (fun w hS => run_load1 (t := 5) (by kernel_rfl) hS.2.2.1) rfl (by kernel_rfl) (by kernel_rfl) (by kernel_rfl) (by kernel_rfl) (by kernel_rfl) (by kernel_rfl) ⟨(bs_at hc9 (H.drop 0) (by omega)), (bs_at hc12 (H.drop 0) (by omega)), (bs_at hc15 (H.drop 0) (by omega)), (bs_at hc18 (H.drop 0) (by omega)), (bs_at hc21 (H.drop 0) (by omega)), (bs_at hc24 (H.drop 0) (by omega)), trivial⟩ rfl ?_
  refine HL_takes [14, 15] [(0, .slice A m.length c), (3, .slice B o.length cp), (15, .slice B o.length cp), (20, .int .u8 ((letters.getD (((m.getD 0 0) >>> 2).toNat) 0).toNat : Int)), (30, .int .u8 (bor .u8 ((((m.getD 0 0) &&& (3 : UInt8)) <<< 4).toNat : Int) (((m.getD 1 0).toNat : Int).fdiv (2 ^ 4))))] (mkL 36 [0, 1, 2, 3, 4, 5, 6, 7, 8, 9, 10, 11, 12, 13, 14, 15]) 20 (by kernel_rfl) rfl (by kernel_rfl) (fun _ => by kernel_rfl) ⟨(bs_at hc9 (H.drop 0) (by omega)), (bs_at hc12 (H.drop 0) (by omega)), (bs_at hc15 (H.drop 0) (by omega)), (bs_at hc18 (H.drop 0) (by omega)), (bs_at hc21 (H.drop 0) (by omega)), (bs_at hc24 (H.drop 0) (by omega)), trivial⟩ (fun β => ?_)
  refine HL_forgetr [(0, .slice A m.length c), (3, .slice B o.length cp), (15, .slice B o.length cp), (20, By (letters.getD (((m.getD 0 0) >>> 2).toNat) 0)), (30, By ((((m.getD 0 0) &&& (3 : UInt8)) <<< 4) ||| ((m.getD 1 0) >>> 4)))] (show ([.slice A m.length c, .slice B o.length cp, .slice B o.length cp, .int .u8 ((letters.getD (((m.getD 0 0) >>> 2).toNat) 0).toNat : Int), .int .u8 (bor .u8 ((((m.getD 0 0) &&& (3 : UInt8)) <<< 4).toNat : Int) (((m.getD 1 0).toNat : Int).fdiv (2 ^ 4)))] : List Value) = [.slice A m.length c, .slice B o.length cp, .slice B o.length cp, By (letters.getD (((m.getD 0 0) >>> 2).toNat) 0), By ((((m.getD 0 0) &&& (3 : UInt8)) <<< 4) ||| ((m.getD 1 0) >>> 4))] by rw [Kw.u8_shr (m.getD 1 0) 4 4 rfl (by decide), Kw.u8_or (((m.getD 0 0) &&& (3 : UInt8)) <<< 4) ((m.getD 1 0) >>> 4)]) (by kernel_rfl) rfl (fun β => ?_)
  refine HL_t (i := 16) (m := 19) (fun w _ => (R_index (P := Tryd.prog) (w := _) (t := 9) (ki := .u8) (i := ((((m.getD 0 0) &&& (3 : UInt8)) <<< 4) ||| ((m.getD 1 0) >>> 4)).toNat) (l := letters) (by kernel_rfl) (by exact i23 _ _))) rfl (by kernel_rfl) (by kernel_rfl) (by kernel_rfl) (by kernel_rfl) (by kernel_rfl) (by kernel_rfl) ⟨(bs_at hc9 (H.drop 0) (by omega)), (bs_at hc12 (H.drop 0) (by omega)), (bs_at hc15 (H.drop 0) (by omega)), (bs_at hc18 (H.drop 0) (by omega)), (bs_at hc21 (H.drop 0) (by omega)), (bs_at hc24 (H.drop 0) (by omega)), trivial⟩ rfl ?_
  refine HL_takes [17] [(0, .slice A m.length c), (3, .slice B o.length cp), (15, .slice B o.length cp), (20, .int .u8 ((letters.getD (((m.getD 0 0) >>> 2).toNat) 0).toNat : Int)), (31, .int .u8 ((letters.getD (((((m.getD 0 0) &&& (3 : UInt8)) <<< 4) ||| ((m.getD 1 0) >>> 4)).toNat) 0).toNat : Int)), (32, .slice A m.length c)] (mkL 36 [0, 1, 2, 3, 4, 5, 6, 7, 8, 9, 10, 11, 12, 13, 14, 15, 16, 17]) 18 (by kernel_rfl) rfl (by kernel_rfl) (fun _ => by kernel_rfl) ⟨(bs_at hc9 (H.drop 0) (by omega)), (bs_at hc12 (H.drop 0) (by omega)), (bs_at hc15 (H.drop 0) (by omega)), (bs_at hc18 (H.drop 0) (by omega)), (bs_at hc21 (H.drop 0) (by omega)), (bs_at hc24 (H.drop 0) (by omega)), trivial⟩ (fun β => ?_)
  refine HL_t (i := 18) (m := 17) (fun w _ => (hr16 _)) rfl (by kernel_rfl) (by kernel_rfl) (by kernel_rfl) (by kernel_rfl) (by kernel_rfl) (by kernel_rfl) ⟨(bs_at hc9 (H.drop 0) (by omega)), (bs_at hc12 (H.drop 0) (by omega)), (bs_at hc15 (H.drop 0) (by omega)), (bs_at hc18 (H.drop 0) (by omega)), (bs_at hc21 (H.drop 0) (by omega)), (bs_at hc24 (H.drop 0) (by omega)), trivial⟩ rfl ?_
  refine HL_t (i := 19) (m := 16) (fun w hS => run_load1 (t := 5) (by kernel_rfl) hS.2.2.2.1) rfl (by kernel_rfl) (by kernel_rfl) (by kernel_rfl) (by kernel_rfl) (by kernel_rfl) (by kernel_rfl) ⟨(bs_at hc9 (H.drop 0) (by omega)), (bs_at hc12 (H.drop 0) (by omega)), (bs_at hc15 (H.drop 0) (by omega)), (bs_at hc18 (H.drop 0) (by omega)), (bs_at hc21 (H.drop 0) (by omega)), (bs_at hc24 (H.drop 0) (by omega)), trivial⟩ rfl ?_
  refine HL_takes [20, 21, 22] [(0, .slice A m.length c), (3, .slice B o.length cp), (15, .slice B o.length cp), (20, .int .u8 ((letters.getD (((m.getD 0 0) >>> 2).toNat) 0).toNat : Int)), (31, .int .u8 ((letters.getD (((((m.getD 0 0) &&& (3 : UInt8)) <<< 4) ||| ((m.getD 1 0) >>> 4)).toNat) 0).toNat : Int)), (36, .int .u8 (IntKind.u8.wrap ((band .u8 ((m.getD 1 0).toNat : Int) ((15 : UInt8).toNat : Int)) * 2 ^ 2))), (37, .slice A m.length c)] (mkL 36 [0, 1, 2, 3, 4, 5, 6, 7, 8, 9, 10, 11, 12, 13, 14, 15, 16, 17, 18, 19, 20, 21, 22]) 13 (by kernel_rfl) rfl (by kernel_rfl) (fun _ => by kernel_rfl) ⟨(bs_at hc9 (H.drop 0) (by omega)), (bs_at hc12 (H.drop 0) (by omega)), (bs_at hc15 (H.drop 0) (by omega)), (bs_at hc18 (H.drop 0) (by omega)), (bs_at hc21 (H.drop 0) (by omega)), (bs_at hc24 (H.drop 0) (by omega)), trivial⟩ (fun β => ?_)
  refine HL_forgetr [(0, .slice A m.length c), (3, .slice B o.length cp), (15, .slice B o.length cp), (20, By (letters.getD (((m.getD 0 0) >>> 2).toNat) 0)), (31, By (letters.getD (((((m.getD 0 0) &&& (3 : UInt8)) <<< 4) ||| ((m.getD 1 0) >>> 4)).toNat) 0)), (36, By (((m.getD 1 0) &&& (15 : UInt8)) <<< 2)), (37, .slice A m.length c)] (show ([.slice A m.length c, .slice B o.length cp, .slice B o.length cp, .int .u8 ((letters.getD (((m.getD 0 0) >>> 2).toNat) 0).toNat : Int), .int .u8 ((letters.getD (((((m.getD 0 0) &&& (3 : UInt8)) <<< 4) ||| ((m.getD 1 0) >>> 4)).toNat) 0).toNat : Int), .int .u8 (IntKind.u8.wrap ((band .u8 ((m.getD 1 0).toNat : Int) ((15 : UInt8).toNat : Int)) * 2 ^ 2)), .slice A m.length c] : List Value) = [.slice A m.length c, .slice B o.length cp, .slice B o.length cp, By (letters.getD (((m.getD 0 0) >>> 2).toNat) 0), By (letters.getD (((((m.getD 0 0) &&& (3 : UInt8)) <<< 4) ||| ((m.getD 1 0) >>> 4)).toNat) 0), By (((m.getD 1 0) &&& (15 : UInt8)) <<< 2), .slice A m.length c] by rw [Kw.u8_and (m.getD 1 0) (15 : UInt8), Kw.u8_shl ((m.getD 1 0) &&& (15 : UInt8)) 2 2 rfl (by decide)]) (by kernel_rfl) rfl (fun β => ?_)
  refine HL_t (i := 23) (m := 12) (fun w _ => (hr19 _)) rfl (by kernel_rfl) (by kernel_rfl) (by kernel_rfl) (by kernel_rfl) (by kernel_rfl) (by kernel_rfl) ⟨(bs_at hc9 (H.drop 0) (by omega)), (bs_at hc12 (H.drop 0) (by omega)), (bs_at hc15 (H.drop 0) (by omega)), (bs_at hc18 (H.drop 0) (by omega)), (bs_at hc21 (H.drop 0) (by omega)), (bs_at hc24 (H.drop 0) (by omega)), trivial⟩ rfl ?_
  refine HL_t (i := 24) (m := 11) (fun w hS => run_load1 (t := 5) (by kernel_rfl) hS.2.2.2.2.1) rfl (by kernel_rfl) (by kernel_rfl) (by kernel_rfl) (by kernel_rfl) (by kernel_rfl) (by kernel_rfl) ⟨(bs_at hc9 (H.drop 0) (by omega)), (bs_at hc12 (H.drop 0) (by omega)), (bs_at hc15 (H.drop 0) (by omega)), (bs_at hc18 (H.drop 0) (by omega)), (bs_at hc21 (H.drop 0) (by omega)), (bs_at hc24 (H.drop 0) (by omega)), trivial⟩ rfl ?_
  refine HL_takes [25, 26] [(0, .slice A m.length c), (3, .slice B o.length cp), (15, .slice B o.length cp), (20, .int .u8 ((letters.getD (((m.getD 0 0) >>> 2).toNat) 0).toNat : Int)), (31, .int .u8 ((letters.getD (((((m.getD 0 0) &&& (3 : UInt8)) <<< 4) ||| ((m.getD 1 0) >>> 4)).toNat) 0).toNat : Int)), (41, .int .u8 (bor .u8 ((((m.getD 1 0) &&& (15 : UInt8)) <<< 2).toNat : Int) (((m.getD 2 0).toNat : Int).fdiv (2 ^ 6))))] (mkL 36 [0, 1, 2, 3, 4, 5, 6, 7, 8, 9, 10, 11, 12, 13, 14, 15, 16, 17, 18, 19, 20, 21, 22, 23, 24, 25, 26]) 9 (by kernel_rfl) rfl (by kernel_rfl) (fun _ => by kernel_rfl) ⟨(bs_at hc9 (H.drop 0) (by omega)), (bs_at hc12 (H.drop 0) (by omega)), (bs_at hc15 (H.drop 0) (by omega)), (bs_at hc18 (H.drop 0) (by omega)), (bs_at hc21 (H.drop 0) (by omega)), (bs_at hc24 (H.drop 0) (by omega)), trivial⟩ (fun β => ?_)
  refine HL_forgetr [(0, .slice A m.length c), (3, .slice B o.length cp), (15, .slice B o.length cp), (20, By (letters.getD (((m.getD 0 0) >>> 2).toNat) 0)), (31, By (letters.getD (((((m.getD 0 0) &&& (3 : UInt8)) <<< 4) ||| ((m.getD 1 0) >>> 4)).toNat) 0)), (41, By ((((m.getD 1 0) &&& (15 : UInt8)) <<< 2) ||| ((m.getD 2 0) >>> 6)))] (show ([.slice A m.length c, .slice B o.length cp, .slice B o.length cp, .int .u8 ((letters.getD (((m.getD 0 0) >>> 2).toNat) 0).toNat : Int), .int .u8 ((letters.getD (((((m.getD 0 0) &&& (3 : UInt8)) <<< 4) ||| ((m.getD 1 0) >>> 4)).toNat) 0).toNat : Int), .int .u8 (bor .u8 ((((m.getD 1 0) &&& (15 : UInt8)) <<< 2).toNat : Int) (((m.getD 2 0).toNat : Int).fdiv (2 ^ 6)))] : List Value) = [.slice A m.length c, .slice B o.length cp, .slice B o.length cp, By (letters.getD (((m.getD 0 0) >>> 2).toNat) 0), By (letters.getD (((((m.getD 0 0) &&& (3 : UInt8)) <<< 4) ||| ((m.getD 1 0) >>> 4)).toNat) 0), By ((((m.getD 1 0) &&& (15 : UInt8)) <<< 2) ||| ((m.getD 2 0) >>> 6))] by rw [Kw.u8_shr (m.getD 2 0) 6 6 rfl (by decide), Kw.u8_or (((m.getD 1 0) &&& (15 : UInt8)) <<< 2) ((m.getD 2 0) >>> 6)]) (by kernel_rfl) rfl (fun β => ?_)
  refine HL_t (i := 27) (m := 8) (fun w _ => (R_index (P := Tryd.prog) (w := _) (t := 9) (ki := .u8) (i := ((((m.getD 1 0) &&& (15 : UInt8)) <<< 2) ||| ((m.getD 2 0) >>> 6)).toNat) (l := letters) (by kernel_rfl) (by exact i45 _ _))) rfl (by kernel_rfl) (by kernel_rfl) (by kernel_rfl) (by kernel_rfl) (by kernel_rfl) (by kernel_rfl) ⟨(bs_at hc9 (H.drop 0) (by omega)), (bs_at hc12 (H.drop 0) (by omega)), (bs_at hc15 (H.drop 0) (by omega)), (bs_at hc18 (H.drop 0) (by omega)), (bs_at hc21 (H.drop 0) (by omega)), (bs_at hc24 (H.drop 0) (by omega)), trivial⟩ rfl ?_
  refine HL_takes [28] [(0, .slice A m.length c), (3, .slice B o.length cp), (15, .slice B o.length cp), (20, .int .u8 ((letters.getD (((m.getD 0 0) >>> 2).toNat) 0).toNat : Int)), (31, .int .u8 ((letters.getD (((((m.getD 0 0) &&& (3 : UInt8)) <<< 4) ||| ((m.getD 1 0) >>> 4)).toNat) 0).toNat : Int)), (42, .int .u8 ((letters.getD (((((m.getD 1 0) &&& (15 : UInt8)) <<< 2) ||| ((m.getD 2 0) >>> 6)).toNat) 0).toNat : Int)), (43, .slice A m.length c)] (mkL 36 [0, 1, 2, 3, 4, 5, 6, 7, 8, 9, 10, 11, 12, 13, 14, 15, 16, 17, 18, 19, 20, 21, 22, 23, 24, 25, 26, 27, 28]) 7 (by kernel_rfl) rfl (by kernel_rfl) (fun _ => by kernel_rfl) ⟨(bs_at hc9 (H.drop 0) (by omega)), (bs_at hc12 (H.drop 0) (by omega)), (bs_at hc15 (H.drop 0) (by omega)), (bs_at hc18 (H.drop 0) (by omega)), (bs_at hc21 (H.drop 0) (by omega)), (bs_at hc24 (H.drop 0) (by omega)), trivial⟩ (fun β => ?_)
  refine HL_t (i := 29) (m := 6) (fun w _ => (hr22 _)) rfl (by kernel_rfl) (by kernel_rfl) (by kernel_rfl) (by kernel_rfl) (by kernel_rfl) (by kernel_rfl) ⟨(bs_at hc9 (H.drop 0) (by omega)), (bs_at hc12 (H.drop 0) (by omega)), (bs_at hc15 (H.drop 0) (by omega)), (bs_at hc18 (H.drop 0) (by omega)), (bs_at hc21 (H.drop 0) (by omega)), (bs_at hc24 (H.drop 0) (by omega)), trivial⟩ rfl ?_
  refine HL_t (i := 30) (m := 5) (fun w hS => run_load1 (t := 5) (by kernel_rfl) hS.2.2.2.2.2.1) rfl (by kernel_rfl) (by kernel_rfl) (by kernel_rfl) (by kernel_rfl) (by kernel_rfl) (by kernel_rfl) ⟨(bs_at hc9 (H.drop 0) (by omega)), (bs_at hc12 (H.drop 0) (by omega)), (bs_at hc15 (H.drop 0) (by omega)), (bs_at hc18 (H.drop 0) (by omega)), (bs_at hc21 (H.drop 0) (by omega)), (bs_at hc24 (H.drop 0) (by omega)), trivial⟩ rfl ?_
  refine HL_takes [31] [(0, .slice A m.length c), (3, .slice B o.length cp), (15, .slice B o.length cp), (20, .int .u8 ((letters.getD (((m.getD 0 0) >>> 2).toNat) 0).toNat : Int)), (31, .int .u8 ((letters.getD (((((m.getD 0 0) &&& (3 : UInt8)) <<< 4) ||| ((m.getD 1 0) >>> 4)).toNat) 0).toNat : Int)), (42, .int .u8 ((letters.getD (((((m.getD 1 0) &&& (15 : UInt8)) <<< 2) ||| ((m.getD 2 0) >>> 6)).toNat) 0).toNat : Int)), (46, .int .u8 (band .u8 ((m.getD 2 0).toNat : Int) ((63 : UInt8).toNat : Int)))] (mkL 36 [0, 1, 2, 3, 4, 5, 6, 7, 8, 9, 10, 11, 12, 13, 14, 15, 16, 17, 18, 19, 20, 21, 22, 23, 24, 25, 26, 27, 28, 29, 30, 31]) 4 (by kernel_rfl) rfl (by kernel_rfl) (fun _ => by kernel_rfl) ⟨(bs_at hc9 (H.drop 0) (by omega)), (bs_at hc12 (H.drop 0) (by omega)), (bs_at hc15 (H.drop 0) (by omega)), (bs_at hc18 (H.drop 0) (by omega)), (bs_at hc21 (H.drop 0) (by omega)), (bs_at hc24 (H.drop 0) (by omega)), trivial⟩ (fun β => ?_)
  refine HL_forgetr [(0, .slice A m.length c), (3, .slice B o.length cp), (15, .slice B o.length cp), (20, By (letters.getD (((m.getD 0 0) >>> 2).toNat) 0)), (31, By (letters.getD (((((m.getD 0 0) &&& (3 : UInt8)) <<< 4) ||| ((m.getD 1 0) >>> 4)).toNat) 0)), (42, By (letters.getD (((((m.getD 1 0) &&& (15 : UInt8)) <<< 2) ||| ((m.getD 2 0) >>> 6)).toNat) 0)), (46, By ((m.getD 2 0) &&& (63 : UInt8)))] (show ([.slice A m.length c, .slice B o.length cp, .slice B o.length cp, .int .u8 ((letters.getD (((m.getD 0 0) >>> 2).toNat) 0).toNat : Int), .int .u8 ((letters.getD (((((m.getD 0 0) &&& (3 : UInt8)) <<< 4) ||| ((m.getD 1 0) >>> 4)).toNat) 0).toNat : Int), .int .u8 ((letters.getD (((((m.getD 1 0) &&& (15 : UInt8)) <<< 2) ||| ((m.getD 2 0) >>> 6)).toNat) 0).toNat : Int), .int .u8 (band .u8 ((m.getD 2 0).toNat : Int) ((63 : UInt8).toNat : Int))] : List Value) = [.slice A m.length c, .slice B o.length cp, .slice B o.length cp, By (letters.getD (((m.getD 0 0) >>> 2).toNat) 0), By (letters.getD (((((m.getD 0 0) &&& (3 : UInt8)) <<< 4) ||| ((m.getD 1 0) >>> 4)).toNat) 0), By (letters.getD (((((m.getD 1 0) &&& (15 : UInt8)) <<< 2) ||| ((m.getD 2 0) >>> 6)).toNat) 0), By ((m.getD 2 0) &&& (63 : UInt8))] by rw [Kw.u8_and (m.getD 2 0) (63 : UInt8)]) (by kernel_rfl) rfl (fun β => ?_)
  refine HL_t (i := 32) (m := 3) (fun w _ => (R_index (P := Tryd.prog) (w := _) (t := 9) (ki := .u8) (i := ((m.getD 2 0) &&& (63 : UInt8)).toNat) (l := letters) (by kernel_rfl) (by exact i6 _))) rfl (by kernel_rfl) (by kernel_rfl) (by kernel_rfl) (by kernel_rfl) (by kernel_rfl) (by kernel_rfl) ⟨(bs_at hc9 (H.drop 0) (by omega)), (bs_at hc12 (H.drop 0) (by omega)), (bs_at hc15 (H.drop 0) (by omega)), (bs_at hc18 (H.drop 0) (by omega)), (bs_at hc21 (H.drop 0) (by omega)), (bs_at hc24 (H.drop 0) (by omega)), trivial⟩ rfl ?_
  refine HL_new (i := 33) (V := fun g => .slice (some ⟨g, 0, none⟩) 4 4) (l := [By (letters.getD (((m.getD 0 0) >>> 2).toNat) 0), By (letters.getD (((((m.getD 0 0) &&& (3 : UInt8)) <<< 4) ||| ((m.getD 1 0) >>> 4)).toNat) 0), By (letters.getD (((((m.getD 1 0) &&& (15 : UInt8)) <<< 2) ||| ((m.getD 2 0) >>> 6)).toNat) 0), By (letters.getD (((m.getD 2 0) &&& (63 : UInt8)).toNat) 0)]) (t := 5) H rfl (by kernel_rfl) (by kernel_rfl) (by kernel_rfl) (by kernel_rfl) (fun g26 w27 H => ?_)
  refine ⟨(.inr ⟨(bs_at hc9 ((H.drop 1).drop 0) (by omega)), (bs_at hc12 ((H.drop 1).drop 0) (by omega)), (bs_at hc15 ((H.drop 1).drop 0) (by omega)), (bs_at hc18 ((H.drop 1).drop 0) (by omega)), (bs_at hc21 ((H.drop 1).drop 0) (by omega)), (bs_at hc24 ((H.drop 1).drop 0) (by omega)), trivial⟩), ?_⟩
  obtain ⟨A28, c29, w30, o32, ho33, hl34, hr31, H⟩ := R_append8 (P := Tryd.prog) (t := 68) (ty := 68) (l := o) (news := [letters.getD (((m.getD 0 0) >>> 2).toNat) 0, (letters.getD (((((m.getD 0 0) &&& (3 : UInt8)) <<< 4) ||| ((m.getD 1 0) >>> 4)).toNat) 0), (letters.getD (((((m.getD 1 0) &&& (15 : UInt8)) <<< 2) ||| ((m.getD 2 0) >>> 6)).toNat) 0), (letters.getD (((m.getD 2 0) &&& (63 : UInt8)).toNat) 0)]) H (i := 1) rfl (by kernel_rfl) (Src.blkp (m := 4) (c := 4) (off := 0) H (i := 0) rfl [By (letters.getD (((m.getD 0 0) >>> 2).toNat) 0), By (letters.getD (((((m.getD 0 0) &&& (3 : UInt8)) <<< 4) ||| ((m.getD 1 0) >>> 4)).toNat) 0), By (letters.getD (((((m.getD 1 0) &&& (15 : UInt8)) <<< 2) ||| ((m.getD 2 0) >>> 6)).toNat) 0), By (letters.getD (((m.getD 2 0) &&& (63 : UInt8)).toNat) 0)] rfl ⟨_, rfl⟩) rfl (by omega)
  replace H := H.drop 0
  replace H : Sep w0 w30 (.row (.slice A28 o32.length c29) 5 1 o32.length (bs o32) :: F) := H
  refine HL_v (i := 34) hr31 rfl (by kernel_rfl) (by kernel_rfl) (by kernel_rfl) (by kernel_rfl) (.inr ⟨(bs_at hc9 (H.drop 0) (by omega)), (bs_at hc12 (H.drop 0) (by omega)), (bs_at hc15 (H.drop 0) (by omega)), (bs_at hc18 (H.drop 0) (by omega)), (bs_at hc21 (H.drop 0) (by omega)), (bs_at hc24 (H.drop 0) (by omega)), trivial⟩) ?_
  refine HL_takes [35] [(0, .slice A m.length c), (3, .slice A28 o32.length c29)] (mkL 36 [0, 1, 2, 3, 4, 5, 6, 7, 8, 9, 10, 11, 12, 13, 14, 15, 16, 17, 18, 19, 20, 21, 22, 23, 24, 25, 26, 27, 28, 29, 30, 31, 32, 33, 34, 35]) 0 (by kernel_rfl) rfl (by kernel_rfl) (fun _ => by kernel_rfl) ⟨(bs_at hc9 (H.drop 0) (by omega)), (bs_at hc12 (H.drop 0) (by omega)), (bs_at hc15 (H.drop 0) (by omega)), (bs_at hc18 (H.drop 0) (by omega)), (bs_at hc21 (H.drop 0) (by omega)), (bs_at hc24 (H.drop 0) (by omega)), trivial⟩ (fun β => ?_)
  refine HL_forget [(0, .slice A m.length c), (3, .slice A28 o32.length c29)] (by kernel_rfl) (fun β => ?_)
  refine HL_fin (by kernel_rfl) ?_
  refine inb_normal ?_
  refine thn_normal ?_
  refine G_region ?_
  refine GL_s 1 1 [(3, .slice A28 o32.length c29), (13, .slice A m.length c)] fun β => ?_
  obtain ⟨A35, c36, hr37, hR38⟩ := R_bslice_lo (P := Tryd.prog) (t := 68) (e := 5) (a := 3) (k1 := .i64) R1 (by kernel_rfl) (by kernel_rfl) (by omega)
  refine GL_V (hr37 _) ?_
  refine GL_s 1 3 [(0, .slice A35 ((m.drop 3).length) c36), (3, .slice A28 o32.length c29)] fun β => ?_
  refine GL_end (by kernel_rfl) ?_
  refine thn_normal ⟨((m.drop 3), A35, c36, o32, A28, c29), Agr_of_keys (by kernel_rfl), ⟨H, ?_⟩, ?_⟩
  · refine ⟨hR38, ?_, by simp; omega, by simp; omega⟩
    rw [hI1, enc_step (by omega)]; simp [L, *]
  · simp; omega
 · --no
  replace h0 : ¬ (m.length ≥ 3) := of_decide_eq_false h0
  refine G_exit (thn_exit (thn_exit (inb_hit ?_)))
  refine thn_normal ?_
  refine G_seq ?_
  refine G_sr ?_
  refine GL_st 2 2 [(0, .slice A m.length c), (3, .slice B o.length cp), (51, In m.length)] fun β => ?_
  refine G_block ?_
  refine G_sr ?_
  refine GL_srt 2 2 [(0, .slice A m.length c), (3, .slice B o.length cp), (51, In m.length), (52, .bool (m.length == 1))] (show ([.slice A m.length c, .slice B o.length cp, .int .i64 (m.length : Int), .bool ((m.length : Int) == ((1 : Nat) : Int))] : List Value) = [.slice A m.length c, .slice B o.length cp, In m.length, .bool (m.length == 1)] by rw [neql m.length 1]) fun β => ?_
  refine G_cond (m.length == 1) (by kernel_rfl) (fun h1 => ?_) (fun h1 => ?_)
  · --yes
   replace h1 : m.length = 1 := eql_T h1
   obtain ⟨ad40, hr39, hc41⟩ := R_place (P := Tryd.prog) (t := 68) (e := 5) (i := 0) (ki := .i64) R1 (by omega) (by kernel_rfl) (by kernel_rfl)
   obtain ⟨ad43, hr42, hc44⟩ := R_place (P := Tryd.prog) (t := 68) (e := 5) (i := 0) (ki := .i64) R1 (by omega) (by kernel_rfl) (by kernel_rfl)
   refine G_drawS (fun w => w.cell? ad40 = some (By (m.getD 0 0)) ∧ w.cell? ad43 = some (By (m.getD 0 0)) ∧ True) 15 15 (by kernel_rfl) (by kernel_rfl) H (fun w45 H => ?_)
   refine HL_takes [0, 1] [(0, .slice A m.length c), (3, .slice B o.length cp), (54, .slice B o.length cp), (55, .slice A m.length c)] (mkL 15 [0, 1]) 13 (by kernel_rfl) rfl (by kernel_rfl) (fun _ => by kernel_rfl) ⟨(bs_at hc41 (H.drop 0) (by omega)), (bs_at hc44 (H.drop 0) (by omega)), trivial⟩ (fun β => ?_)
   refine HL_t (i := 2) (m := 12) (fun w _ => (hr39 _)) rfl (by kernel_rfl) (by kernel_rfl) (by kernel_rfl) (by kernel_rfl) (by kernel_rfl) (by kernel_rfl) ⟨(bs_at hc41 (H.drop 0) (by omega)), (bs_at hc44 (H.drop 0) (by omega)), trivial⟩ rfl ?_
   refine HL_t (i := 3) (m := 11) (fun w hS => run_load1 (t := 5) (by kernel_rfl) hS.1) rfl (by kernel_rfl) (by kernel_rfl) (by kernel_rfl) (by kernel_rfl) (by kernel_rfl) (by kernel_rfl) ⟨(bs_at hc41 (H.drop 0) (by omega)), (bs_at hc44 (H.drop 0) (by omega)), trivial⟩ rfl ?_
   refine HL_takes [4] [(0, .slice A m.length c), (3, .slice B o.length cp), (54, .slice B o.length cp), (58, .int .u8 (((m.getD 0 0).toNat : Int).fdiv (2 ^ 2)))] (mkL 15 [0, 1, 2, 3, 4]) 10 (by kernel_rfl) rfl (by kernel_rfl) (fun _ => by kernel_rfl) ⟨(bs_at hc41 (H.drop 0) (by omega)), (bs_at hc44 (H.drop 0) (by omega)), trivial⟩ (fun β => ?_)
   refine HL_forgetr [(0, .slice A m.length c), (3, .slice B o.length cp), (54, .slice B o.length cp), (58, By ((m.getD 0 0) >>> 2))] (show ([.slice A m.length c, .slice B o.length cp, .slice B o.length cp, .int .u8 (((m.getD 0 0).toNat : Int).fdiv (2 ^ 2))] : List Value) = [.slice A m.length c, .slice B o.length cp, .slice B o.length cp, By ((m.getD 0 0) >>> 2)] by rw [Kw.u8_shr (m.getD 0 0) 2 2 rfl (by decide)]) (by kernel_rfl) rfl (fun β => ?_)
   refine HL_t (i := 5) (m := 9) (fun w _ => (R_index (P := Tryd.prog) (w := _) (t := 9) (ki := .u8) (i := ((m.getD 0 0) >>> 2).toNat) (l := letters) (by kernel_rfl) (by exact i1 _))) rfl (by kernel_rfl) (by kernel_rfl) (by kernel_rfl) (by kernel_rfl) (by kernel_rfl) (by kernel_rfl) ⟨(bs_at hc41 (H.drop 0) (by omega)), (bs_at hc44 (H.drop 0) (by omega)), trivial⟩ rfl ?_
   refine HL_takes [6] [(3, .slice B o.length cp), (54, .slice B o.length cp), (59, .int .u8 ((letters.getD (((m.getD 0 0) >>> 2).toNat) 0).toNat : Int)), (60, .slice A m.length c)] (mkL 15 [0, 1, 2, 3, 4, 5, 6]) 8 (by kernel_rfl) rfl (by kernel_rfl) (fun _ => by kernel_rfl) ⟨(bs_at hc41 (H.drop 0) (by omega)), (bs_at hc44 (H.drop 0) (by omega)), trivial⟩ (fun β => ?_)
   refine HL_t (i := 7) (m := 7) (fun w _ => (hr42 _)) rfl (by kernel_rfl) (by kernel_rfl) (by kernel_rfl) (by kernel_rfl) (by kernel_rfl) (by kernel_rfl) ⟨(bs_at hc41 (H.drop 0) (by omega)), (bs_at hc44 (H.drop 0) (by omega)), trivial⟩ rfl ?_
   refine HL_t (i := 8) (m := 6) (fun w hS => run_load1 (t := 5) (by kernel_rfl) hS.2.1) rfl (by kernel_rfl) (by kernel_rfl) (by kernel_rfl) (by kernel_rfl) (by kernel_rfl) (by kernel_rfl) ⟨(bs_at hc41 (H.drop 0) (by omega)), (bs_at hc44 (H.drop 0) (by omega)), trivial⟩ rfl ?_
   refine HL_takes [9, 10] [(3, .slice B o.length cp), (54, .slice B o.length cp), (59, .int .u8 ((letters.getD (((m.getD 0 0) >>> 2).toNat) 0).toNat : Int)), (64, .int .u8 (IntKind.u8.wrap ((band .u8 ((m.getD 0 0).toNat : Int) ((3 : UInt8).toNat : Int)) * 2 ^ 4)))] (mkL 15 [0, 1, 2, 3, 4, 5, 6, 7, 8, 9, 10]) 4 (by kernel_rfl) rfl (by kernel_rfl) (fun _ => by kernel_rfl) ⟨(bs_at hc41 (H.drop 0) (by omega)), (bs_at hc44 (H.drop 0) (by omega)), trivial⟩ (fun β => ?_)
   refine HL_forgetr [(3, .slice B o.length cp), (54, .slice B o.length cp), (59, By (letters.getD (((m.getD 0 0) >>> 2).toNat) 0)), (64, By (((m.getD 0 0) &&& (3 : UInt8)) <<< 4))] (show ([.slice B o.length cp, .slice B o.length cp, .int .u8 ((letters.getD (((m.getD 0 0) >>> 2).toNat) 0).toNat : Int), .int .u8 (IntKind.u8.wrap ((band .u8 ((m.getD 0 0).toNat : Int) ((3 : UInt8).toNat : Int)) * 2 ^ 4))] : List Value) = [.slice B o.length cp, .slice B o.length cp, By (letters.getD (((m.getD 0 0) >>> 2).toNat) 0), By (((m.getD 0 0) &&& (3 : UInt8)) <<< 4)] by rw [Kw.u8_and (m.getD 0 0) (3 : UInt8), Kw.u8_shl ((m.getD 0 0) &&& (3 : UInt8)) 4 4 rfl (by decide)]) (by kernel_rfl) rfl (fun β => ?_)
   refine HL_t (i := 11) (m := 3) (fun w _ => (R_index (P := Tryd.prog) (w := _) (t := 9) (ki := .u8) (i := (((m.getD 0 0) &&& (3 : UInt8)) <<< 4).toNat) (l := letters) (by kernel_rfl) (by exact i2 _))) rfl (by kernel_rfl) (by kernel_rfl) (by kernel_rfl) (by kernel_rfl) (by kernel_rfl) (by kernel_rfl) ⟨(bs_at hc41 (H.drop 0) (by omega)), (bs_at hc44 (H.drop 0) (by omega)), trivial⟩ rfl ?_
   refine HL_new (i := 12) (V := fun g => .slice (some ⟨g, 0, none⟩) 4 4) (l := [By (letters.getD (((m.getD 0 0) >>> 2).toNat) 0), By (letters.getD ((((m.getD 0 0) &&& (3 : UInt8)) <<< 4).toNat) 0), By (61 : UInt8), By (61 : UInt8)]) (t := 5) H rfl (by kernel_rfl) (by kernel_rfl) (by kernel_rfl) (by kernel_rfl) (fun g46 w47 H => ?_)
   refine ⟨(.inr ⟨(bs_at hc41 ((H.drop 1).drop 0) (by omega)), (bs_at hc44 ((H.drop 1).drop 0) (by omega)), trivial⟩), ?_⟩
   obtain ⟨A48, c49, w50, o52, ho53, hl54, hr51, H⟩ := R_append8 (P := Tryd.prog) (t := 68) (ty := 68) (l := o) (news := [letters.getD (((m.getD 0 0) >>> 2).toNat) 0, (letters.getD ((((m.getD 0 0) &&& (3 : UInt8)) <<< 4).toNat) 0), (61 : UInt8), (61 : UInt8)]) H (i := 1) rfl (by kernel_rfl) (Src.blkp (m := 4) (c := 4) (off := 0) H (i := 0) rfl [By (letters.getD (((m.getD 0 0) >>> 2).toNat) 0), By (letters.getD ((((m.getD 0 0) &&& (3 : UInt8)) <<< 4).toNat) 0), By (61 : UInt8), By (61 : UInt8)] rfl ⟨_, rfl⟩) rfl (by omega)
   replace H := H.drop 0
   replace H : Sep w0 w50 (.row (.slice A48 o52.length c49) 5 1 o52.length (bs o52) :: F) := H
   refine HL_v (i := 13) hr51 rfl (by kernel_rfl) (by kernel_rfl) (by kernel_rfl) (by kernel_rfl) (.inr ⟨(bs_at hc41 (H.drop 0) (by omega)), (bs_at hc44 (H.drop 0) (by omega)), trivial⟩) ?_
   refine HL_takes [14] [(3, .slice A48 o52.length c49)] (mkL 15 [0, 1, 2, 3, 4, 5, 6, 7, 8, 9, 10, 11, 12, 13, 14]) 0 (by kernel_rfl) rfl (by kernel_rfl) (fun _ => by kernel_rfl) ⟨(bs_at hc41 (H.drop 0) (by omega)), (bs_at hc44 (H.drop 0) (by omega)), trivial⟩ (fun β => ?_)
   refine HL_forget [(3, .slice A48 o52.length c49)] (by kernel_rfl) (fun β => ?_)
   refine HL_fin (by kernel_rfl) ?_
   refine inb_normal ?_
   refine thn_normal ?_
   refine G_sr ?_
   refine GL_s 1 1 [(95, .slice A48 o52.length c49)] fun β => ?_
   refine GL_V (R_conv_bs (s := 68) (t := 9) (e := 5) (l := o52) (by kernel_rfl) (by kernel_rfl) (by kernel_rfl) (Src.row H (i := 0) rfl)) ?_
   refine GL_st 1 3 [(2, S o52)] fun β => ?_
   refine G_ret ?_
   refine res1 (v := S o52) rfl (by kernel_rfl) ?_
   replace H := H.drop 0
   replace H : Sep w0 w50 (F) := H
   refine ⟨?_, H⟩
   rw [hI1, enc_one (by omega)]
   simp [L, *]
  · --no
   replace h1 : ¬ (m.length = 1) := eql_F h1
   refine G_sr ?_
   refine GL_srt 2 2 [(0, .slice A m.length c), (3, .slice B o.length cp), (68, .bool (m.length == 2))] (show ([.slice A m.length c, .slice B o.length cp, .bool ((m.length : Int) == ((2 : Nat) : Int))] : List Value) = [.slice A m.length c, .slice B o.length cp, .bool (m.length == 2)] by rw [neql m.length 2]) fun β => ?_
   refine G_cond (m.length == 2) (by kernel_rfl) (fun h2 => ?_) (fun h2 => ?_)
   · --yes
    replace h2 : m.length = 2 := eql_T h2
    obtain ⟨ad56, hr55, hc57⟩ := R_place (P := Tryd.prog) (t := 68) (e := 5) (i := 0) (ki := .i64) R1 (by omega) (by kernel_rfl) (by kernel_rfl)
    obtain ⟨ad59, hr58, hc60⟩ := R_place (P := Tryd.prog) (t := 68) (e := 5) (i := 0) (ki := .i64) R1 (by omega) (by kernel_rfl) (by kernel_rfl)
    obtain ⟨ad62, hr61, hc63⟩ := R_place (P := Tryd.prog) (t := 68) (e := 5) (i := 1) (ki := .i64) R1 (by omega) (by kernel_rfl) (by kernel_rfl)
    obtain ⟨ad65, hr64, hc66⟩ := R_place (P := Tryd.prog) (t := 68) (e := 5) (i := 1) (ki := .i64) R1 (by omega) (by kernel_rfl) (by kernel_rfl)
    refine G_drawS (fun w => w.cell? ad56 = some (By (m.getD 0 0)) ∧ w.cell? ad59 = some (By (m.getD 0 0)) ∧ w.cell? ad62 = some (By (m.getD 1 0)) ∧ w.cell? ad65 = some (By (m.getD 1 0)) ∧ True) 26 26 (by kernel_rfl) (by kernel_rfl) H (fun w67 H => ?_)
    refine HL_takes [0, 1] [(0, .slice A m.length c), (3, .slice B o.length cp), (70, .slice B o.length cp), (71, .slice A m.length c)] (mkL 26 [0, 1]) 24 (by kernel_rfl) rfl (by kernel_rfl) (fun _ => by kernel_rfl) ⟨(bs_at hc57 (H.drop 0) (by omega)), (bs_at hc60 (H.drop 0) (by omega)), (bs_at hc63 (H.drop 0) (by omega)), (bs_at hc66 (H.drop 0) (by omega)), trivial⟩ (fun β => ?_)
    refine HL_t (i := 2) (m := 23) (fun w _ => (hr55 _)) rfl (by kernel_rfl) (by kernel_rfl) (by kernel_rfl) (by kernel_rfl) (by kernel_rfl) (by kernel_rfl) ⟨(bs_at hc57 (H.drop 0) (by omega)), (bs_at hc60 (H.drop 0) (by omega)), (bs_at hc63 (H.drop 0) (by omega)), (bs_at hc66 (H.drop 0) (by omega)), trivial⟩ rfl ?_
    refine HL_t (i := 3) (m := 22) (fun w hS => run_load1 (t := 5) (by kernel_rfl) hS.1) rfl (by kernel_rfl) (by kernel_rfl) (by kernel_rfl) (by kernel_rfl) (by kernel_rfl) (by kernel_rfl) ⟨(bs_at hc57 (H.drop 0) (by omega)), (bs_at hc60 (H.drop 0) (by omega)), (bs_at hc63 (H.drop 0) (by omega)), (bs_at hc66 (H.drop 0) (by omega)), trivial⟩ rfl ?_
    refine HL_takes [4] [(0, .slice A m.length c), (3, .slice B o.length cp), (70, .slice B o.length cp), (74, .int .u8 (((m.getD 0 0).toNat : Int).fdiv (2 ^ 2)))] (mkL 26 [0, 1, 2, 3, 4]) 21 (by kernel_rfl) rfl (by kernel_rfl) (fun _ => by kernel_rfl) ⟨(bs_at hc57 (H.drop 0) (by omega)), (bs_at hc60 (H.drop 0) (by omega)), (bs_at hc63 (H.drop 0) (by omega)), (bs_at hc66 (H.drop 0) (by omega)), trivial⟩ (fun β => ?_)
    refine HL_forgetr [(0, .slice A m.length c), (3, .slice B o.length cp), (70, .slice B o.length cp), (74, By ((m.getD 0 0) >>> 2))] (show ([.slice A m.length c, .slice B o.length cp, .slice B o.length cp, .int .u8 (((m.getD 0 0).toNat : Int).fdiv (2 ^ 2))] : List Value) = [.slice A m.length c, .slice B o.length cp, .slice B o.length cp, By ((m.getD 0 0) >>> 2)] by rw [Kw.u8_shr (m.getD 0 0) 2 2 rfl (by decide)]) (by kernel_rfl) rfl (fun β => ?_)
    refine HL_t (i := 5) (m := 20) (fun w _ => (R_index (P := Tryd.prog) (w := _) (t := 9) (ki := .u8) (i := ((m.getD 0 0) >>> 2).toNat) (l := letters) (by kernel_rfl) (by exact i1 _))) rfl (by kernel_rfl) (by kernel_rfl) (by kernel_rfl) (by kernel_rfl) (by kernel_rfl) (by kernel_rfl) ⟨(bs_at hc57 (H.drop 0) (by omega)), (bs_at hc60 (H.drop 0) (by omega)), (bs_at hc63 (H.drop 0) (by omega)), (bs_at hc66 (H.drop 0) (by omega)), trivial⟩ rfl ?_
    refine HL_takes [6] [(0, .slice A m.length c), (3, .slice B o.length cp), (70, .slice B o.length cp), (75, .int .u8 ((letters.getD (((m.getD 0 0) >>> 2).toNat) 0).toNat : Int)), (76, .slice A m.length c)] (mkL 26 [0, 1, 2, 3, 4, 5, 6]) 19 (by kernel_rfl) rfl (by kernel_rfl) (fun _ => by kernel_rfl) ⟨(bs_at hc57 (H.drop 0) (by omega)), (bs_at hc60 (H.drop 0) (by omega)), (bs_at hc63 (H.drop 0) (by omega)), (bs_at hc66 (H.drop 0) (by omega)), trivial⟩ (fun β => ?_)
    refine HL_t (i := 7) (m := 18) (fun w _ => (hr58 _)) rfl (by kernel_rfl) (by kernel_rfl) (by kernel_rfl) (by kernel_rfl) (by kernel_rfl) (by kernel_rfl) ⟨(bs_at hc57 (H.drop 0) (by omega)), (bs_at hc60 (H.drop 0) (by omega)), (bs_at hc63 (H.drop 0) (by omega)), (bs_at hc66 (H.drop 0) (by omega)), trivial⟩ rfl ?_
    refine HL_t (i := 8) (m := 17) (fun w hS => run_load1 (t := 5) (by kernel_rfl) hS.2.1) rfl (by kernel_rfl) (by kernel_rfl) (by kernel_rfl) (by kernel_rfl) (by kernel_rfl) (by kernel_rfl) ⟨(bs_at hc57 (H.drop 0) (by omega)), (bs_at hc60 (H.drop 0) (by omega)), (bs_at hc63 (H.drop 0) (by omega)), (bs_at hc66 (H.drop 0) (by omega)), trivial⟩ rfl ?_
    refine HL_takes [9, 10, 11] [(0, .slice A m.length c), (3, .slice B o.length cp), (70, .slice B o.length cp), (75, .int .u8 ((letters.getD (((m.getD 0 0) >>> 2).toNat) 0).toNat : Int)), (80, .int .u8 (IntKind.u8.wrap ((band .u8 ((m.getD 0 0).toNat : Int) ((3 : UInt8).toNat : Int)) * 2 ^ 4))), (81, .slice A m.length c)] (mkL 26 [0, 1, 2, 3, 4, 5, 6, 7, 8, 9, 10, 11]) 14 (by kernel_rfl) rfl (by kernel_rfl) (fun _ => by kernel_rfl) ⟨(bs_at hc57 (H.drop 0) (by omega)), (bs_at hc60 (H.drop 0) (by omega)), (bs_at hc63 (H.drop 0) (by omega)), (bs_at hc66 (H.drop 0) (by omega)), trivial⟩ (fun β => ?_)
    refine HL_forgetr [(0, .slice A m.length c), (3, .slice B o.length cp), (70, .slice B o.length cp), (75, By (letters.getD (((m.getD 0 0) >>> 2).toNat) 0)), (80, By (((m.getD 0 0) &&& (3 : UInt8)) <<< 4)), (81, .slice A m.length c)] (show ([.slice A m.length c, .slice B o.length cp, .slice B o.length cp, .int .u8 ((letters.getD (((m.getD 0 0) >>> 2).toNat) 0).toNat : Int), .int .u8 (IntKind.u8.wrap ((band .u8 ((m.getD 0 0).toNat : Int) ((3 : UInt8).toNat : Int)) * 2 ^ 4)), .slice A m.length c] : List Value) = [.slice A m.length c, .slice B o.length cp, .slice B o.length cp, By (letters.getD (((m.getD 0 0) >>> 2).toNat) 0), By (((m.getD 0 0) &&& (3 : UInt8)) <<< 4), .slice A m.length c] by rw [Kw.u8_and (m.getD 0 0) (3 : UInt8), Kw.u8_shl ((m.getD 0 0) &&& (3 : UInt8)) 4 4 rfl (by decide)]) (by kernel_rfl) rfl (fun β => ?_)
    refine HL_t (i := 12) (m := 13) (fun w _ => (hr61 _)) rfl (by kernel_rfl) (by kernel_rfl) (by kernel_rfl) (by kernel_rfl) (by kernel_rfl) (by kernel_rfl) ⟨(bs_at hc57 (H.drop 0) (by omega)), (bs_at hc60 (H.drop 0) (by omega)), (bs_at hc63 (H.drop 0) (by omega)), (bs_at hc66 (H.drop 0) (by omega)), trivial⟩ rfl ?_
    refine HL_t (i := 13) (m := 12) (fun w hS => run_load1 (t := 5) (by kernel_rfl) hS.2.2.1) rfl (by kernel_rfl) (by kernel_rfl) (by kernel_rfl) (by kernel_rfl) (by kernel_rfl) (by kernel_rfl) ⟨(bs_at hc57 (H.drop 0) (by omega)), (bs_at hc60 (H.drop 0) (by omega)), (bs_at hc63 (H.drop 0) (by omega)), (bs_at hc66 (H.drop 0) (by omega)), trivial⟩ rfl ?_
    refine HL_takes [14, 15] [(0, .slice A m.length c), (3, .slice B o.length cp), (70, .slice B o.length cp), (75, .int .u8 ((letters.getD (((m.getD 0 0) >>> 2).toNat) 0).toNat : Int)), (85, .int .u8 (bor .u8 ((((m.getD 0 0) &&& (3 : UInt8)) <<< 4).toNat : Int) (((m.getD 1 0).toNat : Int).fdiv (2 ^ 4))))] (mkL 26 [0, 1, 2, 3, 4, 5, 6, 7, 8, 9, 10, 11, 12, 13, 14, 15]) 10 (by kernel_rfl) rfl (by kernel_rfl) (fun _ => by kernel_rfl) ⟨(bs_at hc57 (H.drop 0) (by omega)), (bs_at hc60 (H.drop 0) (by omega)), (bs_at hc63 (H.drop 0) (by omega)), (bs_at hc66 (H.drop 0) (by omega)), trivial⟩ (fun β => ?_)
    refine HL_forgetr [(0, .slice A m.length c), (3, .slice B o.length cp), (70, .slice B o.length cp), (75, By (letters.getD (((m.getD 0 0) >>> 2).toNat) 0)), (85, By ((((m.getD 0 0) &&& (3 : UInt8)) <<< 4) ||| ((m.getD 1 0) >>> 4)))] (show ([.slice A m.length c, .slice B o.length cp, .slice B o.length cp, .int .u8 ((letters.getD (((m.getD 0 0) >>> 2).toNat) 0).toNat : Int), .int .u8 (bor .u8 ((((m.getD 0 0) &&& (3 : UInt8)) <<< 4).toNat : Int) (((m.getD 1 0).toNat : Int).fdiv (2 ^ 4)))] : List Value) = [.slice A m.length c, .slice B o.length cp, .slice B o.length cp, By (letters.getD (((m.getD 0 0) >>> 2).toNat) 0), By ((((m.getD 0 0) &&& (3 : UInt8)) <<< 4) ||| ((m.getD 1 0) >>> 4))] by rw [Kw.u8_shr (m.getD 1 0) 4 4 rfl (by decide), Kw.u8_or (((m.getD 0 0) &&& (3 : UInt8)) <<< 4) ((m.getD 1 0) >>> 4)]) (by kernel_rfl) rfl (fun β => ?_)
    refine HL_t (i := 16) (m := 9) (fun w _ => (R_index (P := Tryd.prog) (w := _) (t := 9) (ki := .u8) (i := ((((m.getD 0 0) &&& (3 : UInt8)) <<< 4) ||| ((m.getD 1 0) >>> 4)).toNat) (l := letters) (by kernel_rfl) (by exact i23 _ _))) rfl (by kernel_rfl) (by kernel_rfl) (by kernel_rfl) (by kernel_rfl) (by kernel_rfl) (by kernel_rfl) ⟨(bs_at hc57 (H.drop 0) (by omega)), (bs_at hc60 (H.drop 0) (by omega)), (bs_at hc63 (H.drop 0) (by omega)), (bs_at hc66 (H.drop 0) (by omega)), trivial⟩ rfl ?_
    refine HL_takes [17] [(3, .slice B o.length cp), (70, .slice B o.length cp), (75, .int .u8 ((letters.getD (((m.getD 0 0) >>> 2).toNat) 0).toNat : Int)), (86, .int .u8 ((letters.getD (((((m.getD 0 0) &&& (3 : UInt8)) <<< 4) ||| ((m.getD 1 0) >>> 4)).toNat) 0).toNat : Int)), (87, .slice A m.length c)] (mkL 26 [0, 1, 2, 3, 4, 5, 6, 7, 8, 9, 10, 11, 12, 13, 14, 15, 16, 17]) 8 (by kernel_rfl) rfl (by kernel_rfl) (fun _ => by kernel_rfl) ⟨(bs_at hc57 (H.drop 0) (by omega)), (bs_at hc60 (H.drop 0) (by omega)), (bs_at hc63 (H.drop 0) (by omega)), (bs_at hc66 (H.drop 0) (by omega)), trivial⟩ (fun β => ?_)
    refine HL_t (i := 18) (m := 7) (fun w _ => (hr64 _)) rfl (by kernel_rfl) (by kernel_rfl) (by kernel_rfl) (by kernel_rfl) (by kernel_rfl) (by kernel_rfl) ⟨(bs_at hc57 (H.drop 0) (by omega)), (bs_at hc60 (H.drop 0) (by omega)), (bs_at hc63 (H.drop 0) (by omega)), (bs_at hc66 (H.drop 0) (by omega)), trivial⟩ rfl ?_
    refine HL_t (i := 19) (m := 6) (fun w hS => run_load1 (t := 5) (by kernel_rfl) hS.2.2.2.1) rfl (by kernel_rfl) (by kernel_rfl) (by kernel_rfl) (by kernel_rfl) (by kernel_rfl) (by kernel_rfl) ⟨(bs_at hc57 (H.drop 0) (by omega)), (bs_at hc60 (H.drop 0) (by omega)), (bs_at hc63 (H.drop 0) (by omega)), (bs_at hc66 (H.drop 0) (by omega)), trivial⟩ rfl ?_
    refine HL_takes [20, 21] [(3, .slice B o.length cp), (70, .slice B o.length cp), (75, .int .u8 ((letters.getD (((m.getD 0 0) >>> 2).toNat) 0).toNat : Int)), (86, .int .u8 ((letters.getD (((((m.getD 0 0) &&& (3 : UInt8)) <<< 4) ||| ((m.getD 1 0) >>> 4)).toNat) 0).toNat : Int)), (91, .int .u8 (IntKind.u8.wrap ((band .u8 ((m.getD 1 0).toNat : Int) ((15 : UInt8).toNat : Int)) * 2 ^ 2)))] (mkL 26 [0, 1, 2, 3, 4, 5, 6, 7, 8, 9, 10, 11, 12, 13, 14, 15, 16, 17, 18, 19, 20, 21]) 4 (by kernel_rfl) rfl (by kernel_rfl) (fun _ => by kernel_rfl) ⟨(bs_at hc57 (H.drop 0) (by omega)), (bs_at hc60 (H.drop 0) (by omega)), (bs_at hc63 (H.drop 0) (by omega)), (bs_at hc66 (H.drop 0) (by omega)), trivial⟩ (fun β => ?_)
    refine HL_forgetr [(3, .slice B o.length cp), (70, .slice B o.length cp), (75, By (letters.getD (((m.getD 0 0) >>> 2).toNat) 0)), (86, By (letters.getD (((((m.getD 0 0) &&& (3 : UInt8)) <<< 4) ||| ((m.getD 1 0) >>> 4)).toNat) 0)), (91, By (((m.getD 1 0) &&& (15 : UInt8)) <<< 2))] (show ([.slice B o.length cp, .slice B o.length cp, .int .u8 ((letters.getD (((m.getD 0 0) >>> 2).toNat) 0).toNat : Int), .int .u8 ((letters.getD (((((m.getD 0 0) &&& (3 : UInt8)) <<< 4) ||| ((m.getD 1 0) >>> 4)).toNat) 0).toNat : Int), .int .u8 (IntKind.u8.wrap ((band .u8 ((m.getD 1 0).toNat : Int) ((15 : UInt8).toNat : Int)) * 2 ^ 2))] : List Value) = [.slice B o.length cp, .slice B o.length cp, By (letters.getD (((m.getD 0 0) >>> 2).toNat) 0), By (letters.getD (((((m.getD 0 0) &&& (3 : UInt8)) <<< 4) ||| ((m.getD 1 0) >>> 4)).toNat) 0), By (((m.getD 1 0) &&& (15 : UInt8)) <<< 2)] by rw [Kw.u8_and (m.getD 1 0) (15 : UInt8), Kw.u8_shl ((m.getD 1 0) &&& (15 : UInt8)) 2 2 rfl (by decide)]) (by kernel_rfl) rfl (fun β => ?_)
    refine HL_t (i := 22) (m := 3) (fun w _ => (R_index (P := Tryd.prog) (w := _) (t := 9) (ki := .u8) (i := (((m.getD 1 0) &&& (15 : UInt8)) <<< 2).toNat) (l := letters) (by kernel_rfl) (by exact i4 _))) rfl (by kernel_rfl) (by kernel_rfl) (by kernel_rfl) (by kernel_rfl) (by kernel_rfl) (by kernel_rfl) ⟨(bs_at hc57 (H.drop 0) (by omega)), (bs_at hc60 (H.drop 0) (by omega)), (bs_at hc63 (H.drop 0) (by omega)), (bs_at hc66 (H.drop 0) (by omega)), trivial⟩ rfl ?_
    refine HL_new (i := 23) (V := fun g => .slice (some ⟨g, 0, none⟩) 4 4) (l := [By (letters.getD (((m.getD 0 0) >>> 2).toNat) 0), By (letters.getD (((((m.getD 0 0) &&& (3 : UInt8)) <<< 4) ||| ((m.getD 1 0) >>> 4)).toNat) 0), By (letters.getD ((((m.getD 1 0) &&& (15 : UInt8)) <<< 2).toNat) 0), By (61 : UInt8)]) (t := 5) H rfl (by kernel_rfl) (by kernel_rfl) (by kernel_rfl) (by kernel_rfl) (fun g68 w69 H => ?_)
    refine ⟨(.inr ⟨(bs_at hc57 ((H.drop 1).drop 0) (by omega)), (bs_at hc60 ((H.drop 1).drop 0) (by omega)), (bs_at hc63 ((H.drop 1).drop 0) (by omega)), (bs_at hc66 ((H.drop 1).drop 0) (by omega)), trivial⟩), ?_⟩
    obtain ⟨A70, c71, w72, o74, ho75, hl76, hr73, H⟩ := R_append8 (P := Tryd.prog) (t := 68) (ty := 68) (l := o) (news := [letters.getD (((m.getD 0 0) >>> 2).toNat) 0, (letters.getD (((((m.getD 0 0) &&& (3 : UInt8)) <<< 4) ||| ((m.getD 1 0) >>> 4)).toNat) 0), (letters.getD ((((m.getD 1 0) &&& (15 : UInt8)) <<< 2).toNat) 0), (61 : UInt8)]) H (i := 1) rfl (by kernel_rfl) (Src.blkp (m := 4) (c := 4) (off := 0) H (i := 0) rfl [By (letters.getD (((m.getD 0 0) >>> 2).toNat) 0), By (letters.getD (((((m.getD 0 0) &&& (3 : UInt8)) <<< 4) ||| ((m.getD 1 0) >>> 4)).toNat) 0), By (letters.getD ((((m.getD 1 0) &&& (15 : UInt8)) <<< 2).toNat) 0), By (61 : UInt8)] rfl ⟨_, rfl⟩) rfl (by omega)
    replace H := H.drop 0
    replace H : Sep w0 w72 (.row (.slice A70 o74.length c71) 5 1 o74.length (bs o74) :: F) := H
    refine HL_v (i := 24) hr73 rfl (by kernel_rfl) (by kernel_rfl) (by kernel_rfl) (by kernel_rfl) (.inr ⟨(bs_at hc57 (H.drop 0) (by omega)), (bs_at hc60 (H.drop 0) (by omega)), (bs_at hc63 (H.drop 0) (by omega)), (bs_at hc66 (H.drop 0) (by omega)), trivial⟩) ?_
    refine HL_takes [25] [(3, .slice A70 o74.length c71)] (mkL 26 [0, 1, 2, 3, 4, 5, 6, 7, 8, 9, 10, 11, 12, 13, 14, 15, 16, 17, 18, 19, 20, 21, 22, 23, 24, 25]) 0 (by kernel_rfl) rfl (by kernel_rfl) (fun _ => by kernel_rfl) ⟨(bs_at hc57 (H.drop 0) (by omega)), (bs_at hc60 (H.drop 0) (by omega)), (bs_at hc63 (H.drop 0) (by omega)), (bs_at hc66 (H.drop 0) (by omega)), trivial⟩ (fun β => ?_)
    refine HL_forget [(3, .slice A70 o74.length c71)] (by kernel_rfl) (fun β => ?_)
    refine HL_fin (by kernel_rfl) ?_
    refine inb_normal ?_
    refine thn_normal ?_
    refine G_sr ?_
    refine GL_s 1 1 [(95, .slice A70 o74.length c71)] fun β => ?_
    refine GL_V (R_conv_bs (s := 68) (t := 9) (e := 5) (l := o74) (by kernel_rfl) (by kernel_rfl) (by kernel_rfl) (Src.row H (i := 0) rfl)) ?_
    refine GL_st 1 3 [(2, S o74)] fun β => ?_
    refine G_ret ?_
    refine res1 (v := S o74) rfl (by kernel_rfl) ?_
    replace H := H.drop 0
    replace H : Sep w0 w72 (F) := H
    refine ⟨?_, H⟩
    rw [hI1, enc_two (by omega)]
    simp [L, *]
   · --no
    replace h2 : ¬ (m.length = 2) := eql_F h2
    refine G_skip ?_
    refine inb_normal ?_
    refine thn_normal ?_
    refine G_sr ?_
    refine GL_s 1 1 [(95, .slice B o.length cp)] fun β => ?_
    refine GL_V (R_conv_bs (s := 68) (t := 9) (e := 5) (l := o) (by kernel_rfl) (by kernel_rfl) (by kernel_rfl) (Src.row H (i := 0) rfl)) ?_
    refine GL_st 1 3 [(2, S o)] fun β => ?_
    refine G_ret ?_
    refine res1 (v := S o) rfl (by kernel_rfl) ?_
    replace H := H.drop 0
    replace H : Sep w0 w6 (F) := H
    refine ⟨?_, H⟩
    rw [hI1, enc_no (by omega), List.append_nil]

theorem same_len {a b : List UInt8} (h : ¬ a.length = b.length) : (a.map up == b.map up) = false := by
  rw [beq_eq_false_iff_ne]; intro e; exact h (by simpa using congrArg List.length e)
theorem same_no {a b : List UInt8} {k : Nat} (hl : a.length = b.length) (hk : k < a.length) (h : ¬ up (a.getD k 0) = up (b.getD k 0)) : (a.map up == b.map up) = false := by
  rw [beq_eq_false_iff_ne]; intro e; apply h
  have := congrArg (fun l => l.getD k 0) e
  simp only [List.getD_eq_getElem?_getD, List.getElem?_map] at this ⊢
  rw [List.getElem?_eq_getElem hk, List.getElem?_eq_getElem (by omega)] at this ⊢
  simpa using this
theorem same_step {a b : List UInt8} {k : Nat} (hl : a.length = b.length) (hk : k < a.length) (h : (a.take k).map up = (b.take k).map up) (e : up (a.getD k 0) = up (b.getD k 0)) : (a.take (k + 1)).map up = (b.take (k + 1)).map up := by
  rw [List.take_add_one, List.take_add_one, List.getElem?_eq_getElem hk, List.getElem?_eq_getElem (by omega)]
  simp only [List.getD_eq_getElem?_getD] at e
  rw [List.getElem?_eq_getElem hk, List.getElem?_eq_getElem (by omega)] at e
  simp only [Option.getD_some] at e
  simp only [Option.toList_some, List.map_append, List.map_cons, List.map_nil, h, e]
theorem same_yes {a b : List UInt8} (hl : a.length = b.length) (h : (a.take a.length).map up = (b.take a.length).map up) : (a.map up == b.map up) = true := by
  rw [List.take_length, hl, List.take_length] at h; simp [h]
/-- posthorn/octet.Same -/
theorem c_Same (a b : List UInt8) (ha : a.length ≤ 1099511627776) (hb : b.length ≤ 1099511627776) {w0 w : World} {F : List Chunk} (H : Sep w0 w F) : Ret Tryd.prog 28 #[.string ⟨a.toArray⟩, .string ⟨b.toArray⟩] w (fun v w' => v = .bool (a.map up == b.map up) ∧ Sep w0 w' F) := by
 refine Ret_enter (args := [S a, S b]) Tryd.func28 rfl (by kernel_rfl) ?_
 refine G_forget [(0, S a), (1, S b)] (by kernel_rfl) (fun β => ?_)
 refine G_sr ?_
 refine GL_st 1 1 [(0, S a), (1, S b)] fun β => ?_
 refine G_seq ?_
 refine G_sr ?_
 refine GL_srt 5 5 [(0, S a), (1, S b), (10, .bool (a.length != b.length))] (show ([S a, S b, .bool ((a.length : Int) != (b.length : Int))] : List Value) = [S a, S b, .bool (a.length != b.length)] by rw [nneq a.length b.length]) fun β => ?_
 refine G_cond (a.length != b.length) (by kernel_rfl) (fun h0 => ?_) (fun h0 => ?_)
 · --yes
  replace h0 : ¬ (a.length = b.length) := neq_T h0
  refine G_sr ?_
  refine GL_st 1 1 [(4, .bool false)] fun β => ?_
  refine G_ret ?_
  refine thn_ret (res1 (v := .bool false) rfl (by kernel_rfl) ?_)
  exact ⟨by rw [same_len h0], H⟩
 · --no
  replace h0 : a.length = b.length := neq_F h0
  refine G_skip ?_
  refine thn_normal ?_
  refine G_seq ?_
  refine G_sr ?_
  refine GL_st 3 3 [(0, S a), (1, S b), (12, In a.length), (13, In 0)] fun β => ?_
  refine G_block ?_
  refine G_loop (X := Nat) (fun k => [(0, S a), (1, S b), (12, In a.length), (13, In k)]) (fun k w_ => Sep w0 w_ (F) ∧ (k ≤ a.length ∧ (a.take k).map up = (b.take k).map up)) (fun k => a.length - k) (0) (by kernel_rfl) ⟨H, ⟨by omega, by simp⟩⟩ ?_
  rintro k β w1 ⟨H, hI⟩
  refine G_forget [(0, S a), (1, S b), (12, In a.length), (13, In k)] (by kernel_rfl) (fun β => ?_)
  replace H : Sep w0 w1 (F) := H
  replace hI : k ≤ a.length ∧ (a.take k).map up = (b.take k).map up := hI
  obtain ⟨hI1, hI2⟩ := hI
  refine G_sr ?_
  refine GL_srt 1 1 [(0, S a), (1, S b), (12, In a.length), (13, In k), (14, .bool (decide (k < a.length)))] (show ([S a, S b, .int .i64 (a.length : Int), .int .i64 (k : Int), .bool (decide ((k : Int) < (a.length : Int)))] : List Value) = [S a, S b, In a.length, In k, .bool (decide (k < a.length))] by rw [nlss k a.length]) fun β => ?_
  refine G_seq ?_
  refine G_cond (decide (k < a.length)) (by kernel_rfl) (fun h1 => ?_) (fun h1 => ?_)
  · --yes
   replace h1 : k < a.length := of_decide_eq_true h1
   refine G_skip ?_
   refine thn_normal ?_
   refine G_seq ?_
   refine G_block ?_
   refine G_sr ?_
   refine GL_st 2 2 [(0, S a), (1, S b), (5, In k), (12, In a.length), (13, In k)] fun β => ?_
   refine G_seq ?_
   refine G_drawS (fun w => True) 9 9 (by kernel_rfl) (by kernel_rfl) H (fun w2 H => ?_)
   refine HL_takes [0, 1] [(0, S a), (1, S b), (5, .int .i64 (k : Int)), (12, .int .i64 (a.length : Int)), (13, .int .i64 (k : Int)), (16, S a), (17, .int .i64 (k : Int))] (mkL 9 [0, 1]) 7 (by kernel_rfl) rfl (by kernel_rfl) (fun _ => by kernel_rfl) trivial (fun β => ?_)
   refine HL_t (i := 2) (m := 6) (fun w _ => (R_index (P := Tryd.prog) (w := _) (t := 9) (ki := .i64) (i := k) (l := a) (by kernel_rfl) (by omega))) rfl (by kernel_rfl) (by kernel_rfl) (by kernel_rfl) (by kernel_rfl) (by kernel_rfl) (by kernel_rfl) trivial rfl ?_
   refine HL_takes [4, 5] [(0, S a), (1, S b), (12, .int .i64 (a.length : Int)), (13, .int .i64 (k : Int)), (18, .int .u8 ((a.getD k 0).toNat : Int)), (20, S b), (21, .int .i64 (k : Int))] (mkL 9 [0, 1, 2, 4, 5]) 4 (by kernel_rfl) rfl (by kernel_rfl) (fun _ => by kernel_rfl) trivial (fun β => ?_)
   refine HL_t (i := 6) (m := 3) (fun w _ => (R_index (P := Tryd.prog) (w := _) (t := 9) (ki := .i64) (i := k) (l := b) (by kernel_rfl) (by omega))) rfl (by kernel_rfl) (by kernel_rfl) (by kernel_rfl) (by kernel_rfl) (by kernel_rfl) (by kernel_rfl) trivial rfl ?_
   refine HL_call (i := 3) (f := 39) (args := #[By (a.getD k 0)]) rfl (by kernel_rfl) (by kernel_rfl) (by kernel_rfl) (by kernel_rfl) (c_upper (a.getD k 0) _) ?_
   rintro _ _ ⟨rfl, rfl⟩
   refine ⟨(.inr trivial), ?_⟩
   refine HL_call (i := 7) (f := 39) (args := #[By (b.getD k 0)]) rfl (by kernel_rfl) (by kernel_rfl) (by kernel_rfl) (by kernel_rfl) (c_upper (b.getD k 0) _) ?_
   rintro _ _ ⟨rfl, rfl⟩
   refine ⟨(.inr trivial), ?_⟩
   refine HL_takes [8] [(0, S a), (1, S b), (12, .int .i64 (a.length : Int)), (13, .int .i64 (k : Int)), (24, .bool (((up (a.getD k 0)).toNat : Int) != ((up (b.getD k 0)).toNat : Int)))] (mkL 9 [0, 1, 2, 4, 5, 6, 3, 7, 8]) 0 (by kernel_rfl) rfl (by kernel_rfl) (fun _ => by kernel_rfl) trivial (fun β => ?_)
   refine HL_forgetr [(0, S a), (1, S b), (12, In a.length), (13, In k), (24, .bool ((up (a.getD k 0)) != (up (b.getD k 0))))] (show ([S a, S b, .int .i64 (a.length : Int), .int .i64 (k : Int), .bool (((up (a.getD k 0)).toNat : Int) != ((up (b.getD k 0)).toNat : Int))] : List Value) = [S a, S b, In a.length, In k, .bool ((up (a.getD k 0)) != (up (b.getD k 0)))] by rw [Kw.u8_neq (up (a.getD k 0)) (up (b.getD k 0))]) (by kernel_rfl) rfl (fun β => ?_)
   refine HL_forget [(0, S a), (1, S b), (12, In a.length), (13, In k), (24, .bool ((up (a.getD k 0)) != (up (b.getD k 0))))] (by kernel_rfl) (fun β => ?_)
   refine HL_fin (by kernel_rfl) ?_
   refine thn_normal ?_
   refine G_cond ((up (a.getD k 0)) != (up (b.getD k 0))) (by kernel_rfl) (fun h2 => ?_) (fun h2 => ?_)
   · --yes
    replace h2 : ¬ ((up (a.getD k 0)) = (up (b.getD k 0))) := neq_T h2
    refine G_sr ?_
    refine GL_st 1 1 [(4, .bool false)] fun β => ?_
    refine G_ret ?_
    refine inb_ret (thn_ret (thn_ret (inb_ret (thn_ret (res1 (v := .bool false) rfl (by kernel_rfl) ?_)))))
    exact ⟨by rw [same_no h0 (by omega) h2], H⟩
   · --no
    replace h2 : (up (a.getD k 0)) = (up (b.getD k 0)) := neq_F h2
    refine G_skip ?_
    refine inb_normal ?_
    refine thn_normal ?_
    refine G_region ?_
    refine GL_sr 2 2 [(0, S a), (1, S b), (12, In a.length), (13, In (k + 1))] (show ([S a, S b, .int .i64 (a.length : Int), .int .i64 (IntKind.i64.wrap ((k : Int) + ((1 : Nat) : Int)))] : List Value) = [S a, S b, In a.length, In (k + 1)] by rw [nadd64 k 1 (by omega)]) fun β => ?_
    refine GL_end (by kernel_rfl) ?_
    refine thn_normal ⟨(k + 1), Agr_of_keys (by kernel_rfl), ⟨H, ?_⟩, ?_⟩
    · exact ⟨by omega, same_step h0 (by omega) hI2 h2⟩
    · first | (dsimp only; omega) | omega
  · --no
   replace h1 : ¬ (k < a.length) := of_decide_eq_false h1
   refine G_exit (thn_exit (thn_exit (inb_hit ?_)))
   refine thn_normal ?_
   refine G_sr ?_
   refine GL_st 1 1 [(4, .bool true)] fun β => ?_
   refine G_ret ?_
   refine res1 (v := .bool true) rfl (by kernel_rfl) ?_
   have hk : k = a.length := by omega
   subst hk
   exact ⟨by rw [same_yes h0 hI2], H⟩
end Go.Proofs.YtadiljnfkbbmcaaDoor
