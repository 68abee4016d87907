-- printed by gw.py (my own program), checked by Lean
import Derived.Test.YtadiljnfkbbmcaaDoorProg
import Derived.Test.YtadiljnfkbbmcaaDoorKw10
set_option linter.unusedVariables false
set_option linter.unusedSimpArgs false
set_option maxRecDepth 100000
set_option maxHeartbeats 400000
namespace Go.Proofs.YtadiljnfkbbmcaaDoor
open Go.Kw Go.RowKit

abbrev R4 := UInt32 × UInt32 × UInt32 × UInt32
def regF : R4 := (1732584193, 4023233417, 2562383102, 271733878)
def stepF (i : Nat) (b c d : UInt32) : UInt32 × Nat :=
  if i / 16 = 0 then (b &&& c ||| ~~~b &&& d, i) else if i / 16 = 1 then (d &&& b ||| ~~~d &&& c, (5 * i + 1) % 16)
  else if i / 16 = 2 then (b ^^^ c ^^^ d, (3 * i + 5) % 16) else (c ^^^ (b ||| ~~~d), 7 * i % 16)
theorem stepF_lt {i : Nat} (b c d : UInt32) : (stepF i b c d).2 < 16 := by
  unfold stepF; split
  · show i < 16; omega
  · split
    · show (5 * i + 1) % 16 < 16; omega
    · split
      · show (3 * i + 5) % 16 < 16; omega
      · show 7 * i % 16 < 16; omega
def wordF (m : List UInt8) (i : Nat) : UInt32 := (((m.getD (i * 4) 0).toUInt32 ||| (m.getD (i * 4 + 1) 0).toUInt32 <<< 8) ||| (m.getD (i * 4 + 2) 0).toUInt32 <<< 16) ||| (m.getD (i * 4 + 3) 0).toUInt32 <<< 24
def addedF (T : List UInt32) (m : List UInt8) (i : Nat) (x : R4) : UInt32 := (stepF i x.2.1 x.2.2.1 x.2.2.2).1 + (x.1 + T.getD i 0 + wordF m (stepF i x.2.1 x.2.2.1 x.2.2.2).2)
def roundF (T : List UInt32) (R : List UInt8) (m : List UInt8) (i : Nat) (x : R4) : R4 :=
  (x.2.2.2, x.2.1 + (shl32 (addedF T m i x) (R.getD (i / 16 * 4 + i % 4) 0).toNat ||| shr32 (addedF T m i x) (32 - R.getD (i / 16 * 4 + i % 4) 0).toNat), x.2.1, x.2.2.1)
def roundsF (T : List UInt32) (R : List UInt8) (m : List UInt8) (x : R4) : Nat → R4
  | 0 => x
  | i + 1 => roundF T R m i (roundsF T R m x i)
def withF (T : List UInt32) (R : List UInt8) (m : List UInt8) (x : R4) : R4 :=
  (x.1 + (roundsF T R m x 64).1, x.2.1 + (roundsF T R m x 64).2.1, x.2.2.1 + (roundsF T R m x 64).2.2.1, x.2.2.2 + (roundsF T R m x 64).2.2.2)
def addF (y : List UInt32) (r : List UInt32) : Nat → List UInt32
  | 0 => r
  | k + 1 => (addF y r k).set k ((addF y r k).getD k 0 + y.getD k 0)
theorem addF_len (y r : List UInt32) (k : Nat) : (addF y r k).length = r.length := by induction k <;> simp_all [addF]
def digK (r : List UInt32) : Nat → List UInt8
  | 0 => List.replicate 16 0
  | j + 1 => (digK r j).set j (shr32 (r.getD (j / 4) 0) (8 * (j % 4))).toUInt8
theorem digK_len (r : List UInt32) (j : Nat) : (digK r j).length = 16 := by induction j <;> simp_all [digK]
def digF (x : R4) : List UInt8 := digK [x.1, x.2.1, x.2.2.1, x.2.2.2] 16
@[simp] theorem digF_len (x : R4) : (digF x).length = 16 := digK_len _ _
/-- posthorn/hash.first -/
theorem c_hfirst {w0 w : World} {F : List Chunk} (H : Sep w0 w F) : Ret Tryd.prog 51 #[] w (fun v w' => v = .agg #[U regF.1, U regF.2.1, U regF.2.2.1, U regF.2.2.2] ∧ Sep w0 w' F) := by
 refine Ret_enter (args := []) Tryd.func51 rfl (by kernel_rfl) ?_
 refine G_forget [] (by kernel_rfl) (fun β => ?_)
 refine G_sr ?_
 refine GL_new (V := fun g => Pt g 0) (l := [U (0 : UInt32), U (0 : UInt32), U (0 : UInt32), U (0 : UInt32)]) (t := 113) H rfl (by kernel_rfl) (by kernel_rfl) (by kernel_rfl) (fun g1 w2 H => ?_)
 refine GL_et ?_
 refine G_sr ?_
 refine GL_s 1 1 [(0, Pt g1 0), (1, .agg #[U (1732584193 : UInt32), U (4023233417 : UInt32), U (2562383102 : UInt32), U (271733878 : UInt32)])] fun β => ?_
 obtain ⟨w3, hr4, H⟩ := R_store (P := Tryd.prog) (t := 113) (v := .agg #[U (1732584193 : UInt32), U (4023233417 : UInt32), U (2562383102 : UInt32), U (271733878 : UInt32)]) (off := 0) H (i := 0) rfl (by kernel_rfl) (by kernel_rfl) (by kernel_rfl)
 replace H : Sep w0 w3 (.blk g1 113 [U (1732584193 : UInt32), U (4023233417 : UInt32), U (2562383102 : UInt32), U (271733878 : UInt32)] :: F) := H
 refine GL_U hr4 ?_
 refine GL_et ?_
 refine G_ret ?_
 refine resC (t := 113) (vs := [U (1732584193 : UInt32), U (4023233417 : UInt32), U (2562383102 : UInt32), U (271733878 : UInt32)]) rfl (by kernel_rfl) (by kernel_rfl) (by kernel_rfl) (H.blk_cells (i := 0) rfl 0 _ ⟨_, rfl⟩) ?_
 replace H := H.drop 0
 replace H : Sep w0 w3 (F) := H
 exact ⟨rfl, H⟩
/-- posthorn/hash.step -/
theorem c_step (i : Nat) (hi : i < 64) (b c d : UInt32) (w : World) : Ret Tryd.prog 60 #[.int .i64 (i : Int), U b, U c, U d] w (fun v w' => v = .tuple #[U (stepF i b c d).1, .int .i64 ((stepF i b c d).2 : Int)] ∧ w = w') := by
 refine Ret_enter (args := [In i, U b, U c, U d]) Tryd.func60 rfl (by kernel_rfl) ?_
 refine G_forget [(0, In i), (1, U b), (2, U c), (3, U d)] (by kernel_rfl) (fun β => ?_)
 refine G_sr ?_
 refine GL_st 2 2 [(0, In i), (1, U b), (2, U c), (3, U d)] fun β => ?_
 refine G_seq ?_
 refine G_sr ?_
 refine GL_srt 2 2 [(0, In i), (1, U b), (2, U c), (3, U d), (11, In (i / 16))] (show ([.int .i64 (i : Int), .int .u32 (b.toNat : Int), .int .u32 (c.toNat : Int), .int .u32 (d.toNat : Int), .int .i64 (IntKind.i64.wrap ((i : Int).tdiv ((16 : Nat) : Int)))] : List Value) = [In i, U b, U c, U d, In (i / 16)] by rw [nquo64 i 16 (by omega)]) fun β => ?_
 refine G_block ?_
 refine G_sr ?_
 refine GL_srt 2 2 [(0, In i), (1, U b), (2, U c), (3, U d), (11, In (i / 16)), (12, .bool ((i / 16) == 0))] (show ([.int .i64 (i : Int), .int .u32 (b.toNat : Int), .int .u32 (c.toNat : Int), .int .u32 (d.toNat : Int), .int .i64 ((i / 16 : Nat) : Int), .bool (((i / 16 : Nat) : Int) == ((0 : Nat) : Int))] : List Value) = [In i, U b, U c, U d, In (i / 16), .bool ((i / 16) == 0)] by rw [neql (i / 16) 0]) fun β => ?_
 refine G_cond ((i / 16) == 0) (by kernel_rfl) (fun h0 => ?_) (fun h0 => ?_)
 · --yes
  replace h0 : (i / 16) = 0 := eql_T h0
  refine G_sr ?_
  refine GL_srt 11 11 [(8, U ((b &&& c) ||| ((~~~b) &&& d))), (9, In i)] (show ([.int .u32 (bor .u32 (band .u32 (b.toNat : Int) (c.toNat : Int)) (band .u32 (bxor .u32 (IntKind.u32.max) (b.toNat : Int)) (d.toNat : Int))), .int .i64 (i : Int)] : List Value) = [U ((b &&& c) ||| ((~~~b) &&& d)), In i] by rw [Kw.u32_and b c, Kw.u32_not b, Kw.u32_and (~~~b) d, Kw.u32_or (b &&& c) ((~~~b) &&& d)]) fun β => ?_
  refine G_ret ?_
  refine inb_ret (thn_ret (res2 (v := U ((b &&& c) ||| ((~~~b) &&& d))) (x := In i) rfl (by kernel_rfl) (by kernel_rfl) ?_))
  exact ⟨by simp [stepF, *], rfl⟩
 · --no
  replace h0 : ¬ ((i / 16) = 0) := eql_F h0
  refine G_sr ?_
  refine GL_srt 2 2 [(0, In i), (1, U b), (2, U c), (3, U d), (11, In (i / 16)), (23, .bool ((i / 16) == 1))] (show ([.int .i64 (i : Int), .int .u32 (b.toNat : Int), .int .u32 (c.toNat : Int), .int .u32 (d.toNat : Int), .int .i64 ((i / 16 : Nat) : Int), .bool (((i / 16 : Nat) : Int) == ((1 : Nat) : Int))] : List Value) = [In i, U b, U c, U d, In (i / 16), .bool ((i / 16) == 1)] by rw [neql (i / 16) 1]) fun β => ?_
  refine G_cond ((i / 16) == 1) (by kernel_rfl) (fun h1 => ?_) (fun h1 => ?_)
  · --yes
   replace h1 : (i / 16) = 1 := eql_T h1
   refine G_sr ?_
   refine GL_srt 14 14 [(8, U ((d &&& b) ||| ((~~~d) &&& c))), (9, In (((5 * i) + 1) % 16))] (show ([.int .u32 (bor .u32 (band .u32 (d.toNat : Int) (b.toNat : Int)) (band .u32 (bxor .u32 (IntKind.u32.max) (d.toNat : Int)) (c.toNat : Int))), .int .i64 ((IntKind.i64.wrap ((IntKind.i64.wrap (((5 : Nat) : Int) * (i : Int))) + ((1 : Nat) : Int))).tmod ((16 : Nat) : Int))] : List Value) = [U ((d &&& b) ||| ((~~~d) &&& c)), In (((5 * i) + 1) % 16)] by rw [Kw.u32_and d b, Kw.u32_not d, Kw.u32_and (~~~d) c, Kw.u32_or (d &&& b) ((~~~d) &&& c), nmul64 5 i (by omega), nadd64 (5 * i) 1 (by omega), nrem64 ((5 * i) + 1) 16]) fun β => ?_
   refine G_ret ?_
   refine inb_ret (thn_ret (res2 (v := U ((d &&& b) ||| ((~~~d) &&& c))) (x := In (((5 * i) + 1) % 16)) rfl (by kernel_rfl) (by kernel_rfl) ?_))
   exact ⟨by simp [stepF, *], rfl⟩
  · --no
   replace h1 : ¬ ((i / 16) = 1) := eql_F h1
   refine G_sr ?_
   refine GL_srt 2 2 [(0, In i), (1, U b), (2, U c), (3, U d), (37, .bool ((i / 16) == 2))] (show ([.int .i64 (i : Int), .int .u32 (b.toNat : Int), .int .u32 (c.toNat : Int), .int .u32 (d.toNat : Int), .bool (((i / 16 : Nat) : Int) == ((2 : Nat) : Int))] : List Value) = [In i, U b, U c, U d, .bool ((i / 16) == 2)] by rw [neql (i / 16) 2]) fun β => ?_
   refine G_cond ((i / 16) == 2) (by kernel_rfl) (fun h2 => ?_) (fun h2 => ?_)
   · --yes
    replace h2 : (i / 16) = 2 := eql_T h2
    refine G_sr ?_
    refine GL_srt 11 11 [(8, U ((b ^^^ c) ^^^ d)), (9, In (((3 * i) + 5) % 16))] (show ([.int .u32 (bxor .u32 (bxor .u32 (b.toNat : Int) (c.toNat : Int)) (d.toNat : Int)), .int .i64 ((IntKind.i64.wrap ((IntKind.i64.wrap (((3 : Nat) : Int) * (i : Int))) + ((5 : Nat) : Int))).tmod ((16 : Nat) : Int))] : List Value) = [U ((b ^^^ c) ^^^ d), In (((3 * i) + 5) % 16)] by rw [Kw.u32_xor b c, Kw.u32_xor (b ^^^ c) d, nmul64 3 i (by omega), nadd64 (3 * i) 5 (by omega), nrem64 ((3 * i) + 5) 16]) fun β => ?_
    refine G_ret ?_
    refine inb_ret (thn_ret (res2 (v := U ((b ^^^ c) ^^^ d)) (x := In (((3 * i) + 5) % 16)) rfl (by kernel_rfl) (by kernel_rfl) ?_))
    exact ⟨by simp [stepF, *], rfl⟩
   · --no
    replace h2 : ¬ ((i / 16) = 2) := eql_F h2
    refine G_skip ?_
    refine inb_normal ?_
    refine thn_normal ?_
    refine G_sr ?_
    refine GL_srt 11 11 [(8, U (c ^^^ (b ||| (~~~d)))), (9, In ((7 * i) % 16))] (show ([.int .u32 (bxor .u32 (c.toNat : Int) (bor .u32 (b.toNat : Int) (bxor .u32 (IntKind.u32.max) (d.toNat : Int)))), .int .i64 ((IntKind.i64.wrap (((7 : Nat) : Int) * (i : Int))).tmod ((16 : Nat) : Int))] : List Value) = [U (c ^^^ (b ||| (~~~d))), In ((7 * i) % 16)] by rw [Kw.u32_not d, Kw.u32_or b (~~~d), Kw.u32_xor c (b ||| (~~~d)), nmul64 7 i (by omega), nrem64 (7 * i) 16]) fun β => ?_
    refine G_ret ?_
    refine res2 (v := U (c ^^^ (b ||| (~~~d)))) (x := In ((7 * i) % 16)) rfl (by kernel_rfl) (by kernel_rfl) ?_
    exact ⟨by simp [stepF, *], rfl⟩
/-- (*posthorn/hash.row).word -/
theorem c_word (m : List UInt8) (hm : m.length = 64) (i : Nat) (hi : i < 16) {g : Nat} {w0 w : World} {F : List Chunk} (H : Sep w0 w (.blk g 101 (bs m) :: F)) : Ret Tryd.prog 61 #[.pointer (some ⟨g, 0, none⟩), .int .i64 (i : Int)] w (fun v w' => v = U (wordF m i) ∧ Sep w0 w' (.blk g 101 (bs m) :: F)) := by
 refine Ret_enter (args := [Pt g 0, In i]) Tryd.func61 rfl (by kernel_rfl) ?_
 refine G_forget [(0, Pt g 0), (1, In i)] (by kernel_rfl) (fun β => ?_)
 refine G_sr ?_
 refine GL_st 1 1 [(0, Pt g 0), (1, In i)] fun β => ?_
 refine G_sr ?_
 refine GL_srt 3 3 [(0, Pt g 0), (1, In (i * 4))] (show ([Pt g 0, .int .i64 (IntKind.i64.wrap ((i : Int) * ((4 : Nat) : Int)))] : List Value) = [Pt g 0, In (i * 4)] by rw [nmul64 i 4 (by omega)]) fun β => ?_
 refine G_seq ?_
 refine G_drawS (fun w => w.cell? ⟨g, (i * 4), none⟩ = some (By (m.getD (i * 4) 0)) ∧ w.cell? ⟨g, ((i * 4) + 1), none⟩ = some (By (m.getD ((i * 4) + 1) 0)) ∧ w.cell? ⟨g, ((i * 4) + 2), none⟩ = some (By (m.getD ((i * 4) + 2) 0)) ∧ w.cell? ⟨g, ((i * 4) + 3), none⟩ = some (By (m.getD ((i * 4) + 3) 0)) ∧ True) 34 34 (by kernel_rfl) (by kernel_rfl) H (fun w1 H => ?_)
 refine HL_takes [0, 1, 2] [(0, Pt g 0), (1, .int .i64 ((i * 4 : Nat) : Int)), (8, .int .i64 ((i * 4 : Nat) : Int)), (9, Pt g 0)] (mkL 34 [0, 1, 2]) 31 (by kernel_rfl) rfl (by kernel_rfl) (fun _ => by kernel_rfl) ⟨((H.blk_cell (i := 0) rfl (i * 4)).trans (bs_get m (i * 4) (by omega))), ((H.blk_cell (i := 0) rfl ((i * 4) + 1)).trans (bs_get m ((i * 4) + 1) (by omega))), ((H.blk_cell (i := 0) rfl ((i * 4) + 2)).trans (bs_get m ((i * 4) + 2) (by omega))), ((H.blk_cell (i := 0) rfl ((i * 4) + 3)).trans (bs_get m ((i * 4) + 3) (by omega))), trivial⟩ (fun β => ?_)
 refine HL_t (i := 3) (m := 30) (fun w _ => (R_arrplace1 (t := 101) (e := 5) (n := 64) (g := g) (i := (i * 4)) (ki := .i64) (by kernel_rfl) (by kernel_rfl) (by omega))) rfl (by kernel_rfl) (by kernel_rfl) (by kernel_rfl) (by kernel_rfl) (by kernel_rfl) (by kernel_rfl) ⟨((H.blk_cell (i := 0) rfl (i * 4)).trans (bs_get m (i * 4) (by omega))), ((H.blk_cell (i := 0) rfl ((i * 4) + 1)).trans (bs_get m ((i * 4) + 1) (by omega))), ((H.blk_cell (i := 0) rfl ((i * 4) + 2)).trans (bs_get m ((i * 4) + 2) (by omega))), ((H.blk_cell (i := 0) rfl ((i * 4) + 3)).trans (bs_get m ((i * 4) + 3) (by omega))), trivial⟩ rfl ?_
 refine HL_t (i := 4) (m := 29) (fun w hS => run_load1 (t := 5) (by kernel_rfl) hS.1) rfl (by kernel_rfl) (by kernel_rfl) (by kernel_rfl) (by kernel_rfl) (by kernel_rfl) (by kernel_rfl) ⟨((H.blk_cell (i := 0) rfl (i * 4)).trans (bs_get m (i * 4) (by omega))), ((H.blk_cell (i := 0) rfl ((i * 4) + 1)).trans (bs_get m ((i * 4) + 1) (by omega))), ((H.blk_cell (i := 0) rfl ((i * 4) + 2)).trans (bs_get m ((i * 4) + 2) (by omega))), ((H.blk_cell (i := 0) rfl ((i * 4) + 3)).trans (bs_get m ((i * 4) + 3) (by omega))), trivial⟩ rfl ?_
 refine HL_takes [5, 6, 7, 8, 9] [(0, Pt g 0), (1, .int .i64 ((i * 4 : Nat) : Int)), (12, .int .u32 (IntKind.u32.wrap ((m.getD (i * 4) 0).toNat : Int))), (15, .int .i64 (IntKind.i64.wrap (((i * 4 : Nat) : Int) + ((1 : Nat) : Int)))), (16, Pt g 0)] (mkL 34 [0, 1, 2, 3, 4, 5, 6, 7, 8, 9]) 24 (by kernel_rfl) rfl (by kernel_rfl) (fun _ => by kernel_rfl) ⟨((H.blk_cell (i := 0) rfl (i * 4)).trans (bs_get m (i * 4) (by omega))), ((H.blk_cell (i := 0) rfl ((i * 4) + 1)).trans (bs_get m ((i * 4) + 1) (by omega))), ((H.blk_cell (i := 0) rfl ((i * 4) + 2)).trans (bs_get m ((i * 4) + 2) (by omega))), ((H.blk_cell (i := 0) rfl ((i * 4) + 3)).trans (bs_get m ((i * 4) + 3) (by omega))), trivial⟩ (fun β => ?_)
 refine HL_forgetr [(0, Pt g 0), (1, In (i * 4)), (12, U ((m.getD (i * 4) 0).toUInt32)), (15, In ((i * 4) + 1)), (16, Pt g 0)] (show ([Pt g 0, .int .i64 ((i * 4 : Nat) : Int), .int .u32 (IntKind.u32.wrap ((m.getD (i * 4) 0).toNat : Int)), .int .i64 (IntKind.i64.wrap (((i * 4 : Nat) : Int) + ((1 : Nat) : Int))), Pt g 0] : List Value) = [Pt g 0, In (i * 4), U ((m.getD (i * 4) 0).toUInt32), In ((i * 4) + 1), Pt g 0] by rw [Kw.u32_of_u8 (m.getD (i * 4) 0), nadd64 (i * 4) 1 (by omega)]) (by kernel_rfl) rfl (fun β => ?_)
 refine HL_t (i := 10) (m := 23) (fun w _ => (R_arrplace1 (t := 101) (e := 5) (n := 64) (g := g) (i := ((i * 4) + 1)) (ki := .i64) (by kernel_rfl) (by kernel_rfl) (by omega))) rfl (by kernel_rfl) (by kernel_rfl) (by kernel_rfl) (by kernel_rfl) (by kernel_rfl) (by kernel_rfl) ⟨((H.blk_cell (i := 0) rfl (i * 4)).trans (bs_get m (i * 4) (by omega))), ((H.blk_cell (i := 0) rfl ((i * 4) + 1)).trans (bs_get m ((i * 4) + 1) (by omega))), ((H.blk_cell (i := 0) rfl ((i * 4) + 2)).trans (bs_get m ((i * 4) + 2) (by omega))), ((H.blk_cell (i := 0) rfl ((i * 4) + 3)).trans (bs_get m ((i * 4) + 3) (by omega))), trivial⟩ rfl ?_
 refine HL_t (i := 11) (m := 22) (fun w hS => run_load1 (t := 5) (by kernel_rfl) hS.2.1) rfl (by kernel_rfl) (by kernel_rfl) (by kernel_rfl) (by kernel_rfl) (by kernel_rfl) (by kernel_rfl) ⟨((H.blk_cell (i := 0) rfl (i * 4)).trans (bs_get m (i * 4) (by omega))), ((H.blk_cell (i := 0) rfl ((i * 4) + 1)).trans (bs_get m ((i * 4) + 1) (by omega))), ((H.blk_cell (i := 0) rfl ((i * 4) + 2)).trans (bs_get m ((i * 4) + 2) (by omega))), ((H.blk_cell (i := 0) rfl ((i * 4) + 3)).trans (bs_get m ((i * 4) + 3) (by omega))), trivial⟩ rfl ?_
 refine HL_takes [12, 13, 14, 15, 16, 17, 18] [(0, Pt g 0), (1, .int .i64 ((i * 4 : Nat) : Int)), (21, .int .u32 (bor .u32 (((m.getD (i * 4) 0).toUInt32).toNat : Int) (IntKind.u32.wrap ((IntKind.u32.wrap ((m.getD ((i * 4) + 1) 0).toNat : Int)) * 2 ^ 8)))), (24, .int .i64 (IntKind.i64.wrap (((i * 4 : Nat) : Int) + ((2 : Nat) : Int)))), (25, Pt g 0)] (mkL 34 [0, 1, 2, 3, 4, 5, 6, 7, 8, 9, 10, 11, 12, 13, 14, 15, 16, 17, 18]) 15 (by kernel_rfl) rfl (by kernel_rfl) (fun _ => by kernel_rfl) ⟨((H.blk_cell (i := 0) rfl (i * 4)).trans (bs_get m (i * 4) (by omega))), ((H.blk_cell (i := 0) rfl ((i * 4) + 1)).trans (bs_get m ((i * 4) + 1) (by omega))), ((H.blk_cell (i := 0) rfl ((i * 4) + 2)).trans (bs_get m ((i * 4) + 2) (by omega))), ((H.blk_cell (i := 0) rfl ((i * 4) + 3)).trans (bs_get m ((i * 4) + 3) (by omega))), trivial⟩ (fun β => ?_)
 refine HL_forgetr [(0, Pt g 0), (1, In (i * 4)), (21, U (((m.getD (i * 4) 0).toUInt32) ||| (((m.getD ((i * 4) + 1) 0).toUInt32) <<< 8))), (24, In ((i * 4) + 2)), (25, Pt g 0)] (show ([Pt g 0, .int .i64 ((i * 4 : Nat) : Int), .int .u32 (bor .u32 (((m.getD (i * 4) 0).toUInt32).toNat : Int) (IntKind.u32.wrap ((IntKind.u32.wrap ((m.getD ((i * 4) + 1) 0).toNat : Int)) * 2 ^ 8))), .int .i64 (IntKind.i64.wrap (((i * 4 : Nat) : Int) + ((2 : Nat) : Int))), Pt g 0] : List Value) = [Pt g 0, In (i * 4), U (((m.getD (i * 4) 0).toUInt32) ||| (((m.getD ((i * 4) + 1) 0).toUInt32) <<< 8)), In ((i * 4) + 2), Pt g 0] by rw [Kw.u32_of_u8 (m.getD ((i * 4) + 1) 0), Kw.u32_shl ((m.getD ((i * 4) + 1) 0).toUInt32) 8 8 rfl (by decide), Kw.u32_or ((m.getD (i * 4) 0).toUInt32) (((m.getD ((i * 4) + 1) 0).toUInt32) <<< 8), nadd64 (i * 4) 2 (by omega)]) (by kernel_rfl) rfl (fun β => ?_)
 refine HL_t (i := 19) (m := 14) (fun w _ => (R_arrplace1 (t := 101) (e := 5) (n := 64) (g := g) (i := ((i * 4) + 2)) (ki := .i64) (by kernel_rfl) (by kernel_rfl) (by omega))) rfl (by kernel_rfl) (by kernel_rfl) (by kernel_rfl) (by kernel_rfl) (by kernel_rfl) (by kernel_rfl) ⟨((H.blk_cell (i := 0) rfl (i * 4)).trans (bs_get m (i * 4) (by omega))), ((H.blk_cell (i := 0) rfl ((i * 4) + 1)).trans (bs_get m ((i * 4) + 1) (by omega))), ((H.blk_cell (i := 0) rfl ((i * 4) + 2)).trans (bs_get m ((i * 4) + 2) (by omega))), ((H.blk_cell (i := 0) rfl ((i * 4) + 3)).trans (bs_get m ((i * 4) + 3) (by omega))), trivial⟩ rfl ?_
 refine HL_t (i := 20) (m := 13) (fun w hS => run_load1 (t := 5) (by kernel_rfl) hS.2.2.1) rfl (by kernel_rfl) (by kernel_rfl) (by kernel_rfl) (by kernel_rfl) (by kernel_rfl) (by kernel_rfl) ⟨((H.blk_cell (i := 0) rfl (i * 4)).trans (bs_get m (i * 4) (by omega))), ((H.blk_cell (i := 0) rfl ((i * 4) + 1)).trans (bs_get m ((i * 4) + 1) (by omega))), ((H.blk_cell (i := 0) rfl ((i * 4) + 2)).trans (bs_get m ((i * 4) + 2) (by omega))), ((H.blk_cell (i := 0) rfl ((i * 4) + 3)).trans (bs_get m ((i * 4) + 3) (by omega))), trivial⟩ rfl ?_
 refine HL_takes [21, 22, 23, 24, 25, 26, 27] [(30, .int .u32 (bor .u32 ((((m.getD (i * 4) 0).toUInt32) ||| (((m.getD ((i * 4) + 1) 0).toUInt32) <<< 8)).toNat : Int) (IntKind.u32.wrap ((IntKind.u32.wrap ((m.getD ((i * 4) + 2) 0).toNat : Int)) * 2 ^ 16)))), (33, .int .i64 (IntKind.i64.wrap (((i * 4 : Nat) : Int) + ((3 : Nat) : Int)))), (34, Pt g 0)] (mkL 34 [0, 1, 2, 3, 4, 5, 6, 7, 8, 9, 10, 11, 12, 13, 14, 15, 16, 17, 18, 19, 20, 21, 22, 23, 24, 25, 26, 27]) 6 (by kernel_rfl) rfl (by kernel_rfl) (fun _ => by kernel_rfl) ⟨((H.blk_cell (i := 0) rfl (i * 4)).trans (bs_get m (i * 4) (by omega))), ((H.blk_cell (i := 0) rfl ((i * 4) + 1)).trans (bs_get m ((i * 4) + 1) (by omega))), ((H.blk_cell (i := 0) rfl ((i * 4) + 2)).trans (bs_get m ((i * 4) + 2) (by omega))), ((H.blk_cell (i := 0) rfl ((i * 4) + 3)).trans (bs_get m ((i * 4) + 3) (by omega))), trivial⟩ (fun β => ?_)
 refine HL_forgetr [(30, U ((((m.getD (i * 4) 0).toUInt32) ||| (((m.getD ((i * 4) + 1) 0).toUInt32) <<< 8)) ||| (((m.getD ((i * 4) + 2) 0).toUInt32) <<< 16))), (33, In ((i * 4) + 3)), (34, Pt g 0)] (show ([.int .u32 (bor .u32 ((((m.getD (i * 4) 0).toUInt32) ||| (((m.getD ((i * 4) + 1) 0).toUInt32) <<< 8)).toNat : Int) (IntKind.u32.wrap ((IntKind.u32.wrap ((m.getD ((i * 4) + 2) 0).toNat : Int)) * 2 ^ 16))), .int .i64 (IntKind.i64.wrap (((i * 4 : Nat) : Int) + ((3 : Nat) : Int))), Pt g 0] : List Value) = [U ((((m.getD (i * 4) 0).toUInt32) ||| (((m.getD ((i * 4) + 1) 0).toUInt32) <<< 8)) ||| (((m.getD ((i * 4) + 2) 0).toUInt32) <<< 16)), In ((i * 4) + 3), Pt g 0] by rw [Kw.u32_of_u8 (m.getD ((i * 4) + 2) 0), Kw.u32_shl ((m.getD ((i * 4) + 2) 0).toUInt32) 16 16 rfl (by decide), Kw.u32_or (((m.getD (i * 4) 0).toUInt32) ||| (((m.getD ((i * 4) + 1) 0).toUInt32) <<< 8)) (((m.getD ((i * 4) + 2) 0).toUInt32) <<< 16), nadd64 (i * 4) 3 (by omega)]) (by kernel_rfl) rfl (fun β => ?_)
 refine HL_t (i := 28) (m := 5) (fun w _ => (R_arrplace1 (t := 101) (e := 5) (n := 64) (g := g) (i := ((i * 4) + 3)) (ki := .i64) (by kernel_rfl) (by kernel_rfl) (by omega))) rfl (by kernel_rfl) (by kernel_rfl) (by kernel_rfl) (by kernel_rfl) (by kernel_rfl) (by kernel_rfl) ⟨((H.blk_cell (i := 0) rfl (i * 4)).trans (bs_get m (i * 4) (by omega))), ((H.blk_cell (i := 0) rfl ((i * 4) + 1)).trans (bs_get m ((i * 4) + 1) (by omega))), ((H.blk_cell (i := 0) rfl ((i * 4) + 2)).trans (bs_get m ((i * 4) + 2) (by omega))), ((H.blk_cell (i := 0) rfl ((i * 4) + 3)).trans (bs_get m ((i * 4) + 3) (by omega))), trivial⟩ rfl ?_
 refine HL_t (i := 29) (m := 4) (fun w hS => run_load1 (t := 5) (by kernel_rfl) hS.2.2.2.1) rfl (by kernel_rfl) (by kernel_rfl) (by kernel_rfl) (by kernel_rfl) (by kernel_rfl) (by kernel_rfl) ⟨((H.blk_cell (i := 0) rfl (i * 4)).trans (bs_get m (i * 4) (by omega))), ((H.blk_cell (i := 0) rfl ((i * 4) + 1)).trans (bs_get m ((i * 4) + 1) (by omega))), ((H.blk_cell (i := 0) rfl ((i * 4) + 2)).trans (bs_get m ((i * 4) + 2) (by omega))), ((H.blk_cell (i := 0) rfl ((i * 4) + 3)).trans (bs_get m ((i * 4) + 3) (by omega))), trivial⟩ rfl ?_
 refine HL_takes [30, 31, 32, 33] [(4, .int .u32 (bor .u32 (((((m.getD (i * 4) 0).toUInt32) ||| (((m.getD ((i * 4) + 1) 0).toUInt32) <<< 8)) ||| (((m.getD ((i * 4) + 2) 0).toUInt32) <<< 16)).toNat : Int) (IntKind.u32.wrap ((IntKind.u32.wrap ((m.getD ((i * 4) + 3) 0).toNat : Int)) * 2 ^ 24))))] (mkL 34 [0, 1, 2, 3, 4, 5, 6, 7, 8, 9, 10, 11, 12, 13, 14, 15, 16, 17, 18, 19, 20, 21, 22, 23, 24, 25, 26, 27, 28, 29, 30, 31, 32, 33]) 0 (by kernel_rfl) rfl (by kernel_rfl) (fun _ => by kernel_rfl) ⟨((H.blk_cell (i := 0) rfl (i * 4)).trans (bs_get m (i * 4) (by omega))), ((H.blk_cell (i := 0) rfl ((i * 4) + 1)).trans (bs_get m ((i * 4) + 1) (by omega))), ((H.blk_cell (i := 0) rfl ((i * 4) + 2)).trans (bs_get m ((i * 4) + 2) (by omega))), ((H.blk_cell (i := 0) rfl ((i * 4) + 3)).trans (bs_get m ((i * 4) + 3) (by omega))), trivial⟩ (fun β => ?_)
 refine HL_forgetr [(4, U (((((m.getD (i * 4) 0).toUInt32) ||| (((m.getD ((i * 4) + 1) 0).toUInt32) <<< 8)) ||| (((m.getD ((i * 4) + 2) 0).toUInt32) <<< 16)) ||| (((m.getD ((i * 4) + 3) 0).toUInt32) <<< 24)))] (show ([.int .u32 (bor .u32 (((((m.getD (i * 4) 0).toUInt32) ||| (((m.getD ((i * 4) + 1) 0).toUInt32) <<< 8)) ||| (((m.getD ((i * 4) + 2) 0).toUInt32) <<< 16)).toNat : Int) (IntKind.u32.wrap ((IntKind.u32.wrap ((m.getD ((i * 4) + 3) 0).toNat : Int)) * 2 ^ 24)))] : List Value) = [U (((((m.getD (i * 4) 0).toUInt32) ||| (((m.getD ((i * 4) + 1) 0).toUInt32) <<< 8)) ||| (((m.getD ((i * 4) + 2) 0).toUInt32) <<< 16)) ||| (((m.getD ((i * 4) + 3) 0).toUInt32) <<< 24))] by rw [Kw.u32_of_u8 (m.getD ((i * 4) + 3) 0), Kw.u32_shl ((m.getD ((i * 4) + 3) 0).toUInt32) 24 24 rfl (by decide), Kw.u32_or ((((m.getD (i * 4) 0).toUInt32) ||| (((m.getD ((i * 4) + 1) 0).toUInt32) <<< 8)) ||| (((m.getD ((i * 4) + 2) 0).toUInt32) <<< 16)) (((m.getD ((i * 4) + 3) 0).toUInt32) <<< 24)]) (by kernel_rfl) rfl (fun β => ?_)
 refine HL_forget [(4, U (((((m.getD (i * 4) 0).toUInt32) ||| (((m.getD ((i * 4) + 1) 0).toUInt32) <<< 8)) ||| (((m.getD ((i * 4) + 2) 0).toUInt32) <<< 16)) ||| (((m.getD ((i * 4) + 3) 0).toUInt32) <<< 24)))] (by kernel_rfl) (fun β => ?_)
 refine HL_fin (by kernel_rfl) ?_
 refine thn_normal ?_
 refine G_ret ?_
 refine res1 (v := U (((((m.getD (i * 4) 0).toUInt32) ||| (((m.getD ((i * 4) + 1) 0).toUInt32) <<< 8)) ||| (((m.getD ((i * 4) + 2) 0).toUInt32) <<< 16)) ||| (((m.getD ((i * 4) + 3) 0).toUInt32) <<< 24))) rfl (by kernel_rfl) ?_
 exact ⟨rfl, H⟩
/-- (posthorn/hash.register).with -/
theorem c_with {w0 w : World} {F : List Chunk} (T : List UInt32) (hT : T.length = 64) (gT : Gl w0 0 (u32s T)) (R : List UInt8) (hR : R.length = 16) (gR : Gl w0 1 (bs R)) (r0 r1 r2 r3 : UInt32) (m : List UInt8) (hm : m.length = 64) (H : Sep w0 w F) : Ret Tryd.prog 52 #[.agg #[U r0, U r1, U r2, U r3], .agg (bs m).toArray] w (fun v w' => v = .agg #[U (withF T R m (r0, r1, r2, r3)).1, U (withF T R m (r0, r1, r2, r3)).2.1, U (withF T R m (r0, r1, r2, r3)).2.2.1, U (withF T R m (r0, r1, r2, r3)).2.2.2] ∧ Sep w0 w' F) := by
 refine Ret_enter (args := [.agg #[U r0, U r1, U r2, U r3], .agg (bs m).toArray]) Tryd.func52 rfl (by kernel_rfl) ?_
 refine G_forget [(0, .agg #[U r0, U r1, U r2, U r3]), (1, .agg (bs m).toArray)] (by kernel_rfl) (fun β => ?_)
 refine G_sr ?_
 refine GL_new (V := fun g => Pt g 0) (l := [U r0, U r1, U r2, U r3]) (t := 113) H rfl (by kernel_rfl) (by kernel_rfl) (by kernel_rfl) (fun g1 w2 H => ?_)
 refine GL_new (V := fun g => Pt g 0) (l := bs m) (t := 101) H rfl (by kernel_rfl) (by kernel_rfl) (by kernel_rfl) (fun g3 w4 H => ?_)
 refine GL_new (V := fun g => Pt g 0) (l := [U (0 : UInt32), U (0 : UInt32), U (0 : UInt32), U (0 : UInt32)]) (t := 113) H rfl (by kernel_rfl) (by kernel_rfl) (by kernel_rfl) (fun g5 w6 H => ?_)
 refine GL_et ?_
 refine G_sr ?_
 refine GL_V (run_loadN (t := 113) (vs := [U r0, U r1, U r2, U r3]) (by kernel_rfl) (by kernel_rfl) (H.blk_cells (i := 2) rfl 0 _ ⟨_, rfl⟩)) ?_
 refine GL_new (V := fun g => Pt g 0) (l := [U (0 : UInt32), U (0 : UInt32), U (0 : UInt32), U (0 : UInt32)]) (t := 113) H rfl (by kernel_rfl) (by kernel_rfl) (by kernel_rfl) (fun g7 w8 H => ?_)
 obtain ⟨w9, hr10, H⟩ := R_store (P := Tryd.prog) (t := 113) (v := .agg #[U r0, U r1, U r2, U r3]) (off := 0) H (i := 0) rfl (by kernel_rfl) (by kernel_rfl) (by kernel_rfl)
 replace H : Sep w0 w9 (.blk g7 113 [U r0, U r1, U r2, U r3] :: .blk g5 113 [U (0 : UInt32), U (0 : UInt32), U (0 : UInt32), U (0 : UInt32)] :: .blk g3 101 (bs m) :: .blk g1 113 [U r0, U r1, U r2, U r3] :: F) := H
 refine GL_U hr10 ?_
 refine GL_et ?_
 refine G_seq ?_
 refine G_sr ?_
 refine GL_st 1 1 [(2, Pt g1 0), (3, Pt g3 0), (4, Pt g5 0), (5, Pt g7 0), (12, In 0)] fun β => ?_
 refine G_block ?_
 refine G_loop (X := Nat × UInt32 × UInt32 × UInt32 × UInt32) (fun ⟨i, x0, x1, x2, x3⟩ => [(2, Pt g1 0), (3, Pt g3 0), (4, Pt g5 0), (5, Pt g7 0), (12, In i)]) (fun ⟨i, x0, x1, x2, x3⟩ w_ => Sep w0 w_ (.blk g7 113 [U x0, U x1, U x2, U x3] :: .blk g5 113 [U (0 : UInt32), U (0 : UInt32), U (0 : UInt32), U (0 : UInt32)] :: .blk g3 101 (bs m) :: .blk g1 113 [U r0, U r1, U r2, U r3] :: F) ∧ (i ≤ 64 ∧ (x0, x1, x2, x3) = roundsF T R m (r0, r1, r2, r3) i)) (fun ⟨i, x0, x1, x2, x3⟩ => 64 - i) (0, r0, r1, r2, r3) (by kernel_rfl) ⟨H, ⟨by omega, rfl⟩⟩ ?_
 rintro ⟨i, x0, x1, x2, x3⟩ β w11 ⟨H, hI⟩
 refine G_forget [(2, Pt g1 0), (3, Pt g3 0), (4, Pt g5 0), (5, Pt g7 0), (12, In i)] (by kernel_rfl) (fun β => ?_)
 replace H : Sep w0 w11 (.blk g7 113 [U x0, U x1, U x2, U x3] :: .blk g5 113 [U (0 : UInt32), U (0 : UInt32), U (0 : UInt32), U (0 : UInt32)] :: .blk g3 101 (bs m) :: .blk g1 113 [U r0, U r1, U r2, U r3] :: F) := H
 replace hI : i ≤ 64 ∧ (x0, x1, x2, x3) = roundsF T R m (r0, r1, r2, r3) i := hI
 obtain ⟨hI1, hI2⟩ := hI
 refine G_sr ?_
 refine GL_srt 1 1 [(2, Pt g1 0), (3, Pt g3 0), (4, Pt g5 0), (5, Pt g7 0), (12, In i), (13, .bool (decide (i < 64)))] (show ([Pt g1 0, Pt g3 0, Pt g5 0, Pt g7 0, .int .i64 (i : Int), .bool (decide ((i : Int) < ((64 : Nat) : Int)))] : List Value) = [Pt g1 0, Pt g3 0, Pt g5 0, Pt g7 0, In i, .bool (decide (i < 64))] by rw [nlss i 64]) fun β => ?_
 refine G_seq ?_
 refine G_cond (decide (i < 64)) (by kernel_rfl) (fun h0 => ?_) (fun h0 => ?_)
 · --yes
  replace h0 : i < 64 := of_decide_eq_true h0
  refine G_skip ?_
  refine thn_normal ?_
  refine G_seq ?_
  refine G_block ?_
  refine G_sr ?_
  refine GL_st 2 2 [(2, Pt g1 0), (3, Pt g3 0), (4, Pt g5 0), (5, Pt g7 0), (6, In i), (12, In i)] fun β => ?_
  refine G_sr ?_
  refine GL_s 2 2 [(2, Pt g1 0), (3, Pt g3 0), (4, Pt g5 0), (5, Pt g7 0), (6, In i), (12, In i), (16, In i), (17, Pt g7 1)] fun β => ?_
  refine GL_V (run_load1 (t := 111) (by kernel_rfl) ((H.blk_cell (i := 0) rfl 1).trans rfl)) ?_
  refine GL_s 1 4 [(2, Pt g1 0), (3, Pt g3 0), (4, Pt g5 0), (5, Pt g7 0), (6, In i), (12, In i), (16, In i), (18, U x1), (19, Pt g7 2)] fun β => ?_
  refine GL_V (run_load1 (t := 111) (by kernel_rfl) ((H.blk_cell (i := 0) rfl 2).trans rfl)) ?_
  refine GL_s 1 6 [(2, Pt g1 0), (3, Pt g3 0), (4, Pt g5 0), (5, Pt g7 0), (6, In i), (12, In i), (16, In i), (18, U x1), (20, U x2), (21, Pt g7 3)] fun β => ?_
  refine GL_V (run_load1 (t := 111) (by kernel_rfl) ((H.blk_cell (i := 0) rfl 3).trans rfl)) ?_
  refine GL_C (c_step i (by omega) x1 x2 x3 _) ?_
  rintro _ _ ⟨rfl, rfl⟩
  refine GL_st 5 13 [(2, Pt g1 0), (3, Pt g3 0), (4, Pt g5 0), (5, Pt g7 0), (6, In i), (7, U ((stepF i x1 x2 x3).1)), (8, In ((stepF i x1 x2 x3).2)), (12, In i)] fun β => ?_
  refine G_seq ?_
  refine G_drawS (fun w => w.cell? ⟨g7, 0, none⟩ = some (U x0) ∧ w.cell? ⟨0, i, none⟩ = some (U (T.getD i 0)) ∧ True) 12 12 (by kernel_rfl) (by kernel_rfl) H (fun w12 H => ?_)
  refine HL_takes [0, 1] [(2, Pt g1 0), (3, Pt g3 0), (4, Pt g5 0), (5, Pt g7 0), (6, .int .i64 (i : Int)), (7, .int .u32 (((stepF i x1 x2 x3).1).toNat : Int)), (8, .int .i64 (((stepF i x1 x2 x3).2 : Nat) : Int)), (12, .int .i64 (i : Int)), (26, .int .u32 (((stepF i x1 x2 x3).1).toNat : Int)), (27, Pt g7 0)] (mkL 12 [0, 1]) 10 (by kernel_rfl) rfl (by kernel_rfl) (fun _ => by kernel_rfl) ⟨((H.blk_cell (i := 0) rfl 0).trans rfl), (gT.cell H (u32s_get T i (by omega))), trivial⟩ (fun β => ?_)
  refine HL_t (i := 2) (m := 9) (fun w hS => run_load1 (t := 111) (by kernel_rfl) hS.1) rfl (by kernel_rfl) (by kernel_rfl) (by kernel_rfl) (by kernel_rfl) (by kernel_rfl) (by kernel_rfl) ⟨((H.blk_cell (i := 0) rfl 0).trans rfl), (gT.cell H (u32s_get T i (by omega))), trivial⟩ rfl ?_
  refine HL_takes [3] [(2, Pt g1 0), (3, Pt g3 0), (4, Pt g5 0), (5, Pt g7 0), (6, .int .i64 (i : Int)), (7, .int .u32 (((stepF i x1 x2 x3).1).toNat : Int)), (8, .int .i64 (((stepF i x1 x2 x3).2 : Nat) : Int)), (12, .int .i64 (i : Int)), (26, .int .u32 (((stepF i x1 x2 x3).1).toNat : Int)), (28, .int .u32 (x0.toNat : Int)), (29, .int .i64 (i : Int))] (mkL 12 [0, 1, 2, 3]) 8 (by kernel_rfl) rfl (by kernel_rfl) (fun _ => by kernel_rfl) ⟨((H.blk_cell (i := 0) rfl 0).trans rfl), (gT.cell H (u32s_get T i (by omega))), trivial⟩ (fun β => ?_)
  refine HL_t (i := 4) (m := 7) (fun w _ => (R_arrplace1 (t := 130) (e := 111) (n := 64) (g := 0) (i := i) (ki := .i64) (by kernel_rfl) (by kernel_rfl) (by omega))) rfl (by kernel_rfl) (by kernel_rfl) (by kernel_rfl) (by kernel_rfl) (by kernel_rfl) (by kernel_rfl) ⟨((H.blk_cell (i := 0) rfl 0).trans rfl), (gT.cell H (u32s_get T i (by omega))), trivial⟩ rfl ?_
  refine HL_t (i := 5) (m := 6) (fun w hS => run_load1 (t := 111) (by kernel_rfl) hS.2.1) rfl (by kernel_rfl) (by kernel_rfl) (by kernel_rfl) (by kernel_rfl) (by kernel_rfl) (by kernel_rfl) ⟨((H.blk_cell (i := 0) rfl 0).trans rfl), (gT.cell H (u32s_get T i (by omega))), trivial⟩ rfl ?_
  refine HL_takes [6, 7] [(2, Pt g1 0), (3, Pt g3 0), (4, Pt g5 0), (5, Pt g7 0), (6, .int .i64 (i : Int)), (7, .int .u32 (((stepF i x1 x2 x3).1).toNat : Int)), (12, .int .i64 (i : Int)), (26, .int .u32 (((stepF i x1 x2 x3).1).toNat : Int)), (32, .int .u32 (IntKind.u32.wrap ((x0.toNat : Int) + ((T.getD i 0).toNat : Int)))), (33, .int .i64 (((stepF i x1 x2 x3).2 : Nat) : Int))] (mkL 12 [0, 1, 2, 3, 4, 5, 6, 7]) 4 (by kernel_rfl) rfl (by kernel_rfl) (fun _ => by kernel_rfl) ⟨((H.blk_cell (i := 0) rfl 0).trans rfl), (gT.cell H (u32s_get T i (by omega))), trivial⟩ (fun β => ?_)
  refine HL_forgetr [(2, Pt g1 0), (3, Pt g3 0), (4, Pt g5 0), (5, Pt g7 0), (6, In i), (7, U ((stepF i x1 x2 x3).1)), (12, In i), (26, U ((stepF i x1 x2 x3).1)), (32, U (x0 + (T.getD i 0))), (33, In ((stepF i x1 x2 x3).2))] (show ([Pt g1 0, Pt g3 0, Pt g5 0, Pt g7 0, .int .i64 (i : Int), .int .u32 (((stepF i x1 x2 x3).1).toNat : Int), .int .i64 (i : Int), .int .u32 (((stepF i x1 x2 x3).1).toNat : Int), .int .u32 (IntKind.u32.wrap ((x0.toNat : Int) + ((T.getD i 0).toNat : Int))), .int .i64 (((stepF i x1 x2 x3).2 : Nat) : Int)] : List Value) = [Pt g1 0, Pt g3 0, Pt g5 0, Pt g7 0, In i, U ((stepF i x1 x2 x3).1), In i, U ((stepF i x1 x2 x3).1), U (x0 + (T.getD i 0)), In ((stepF i x1 x2 x3).2)] by rw [Kw.u32_add x0 (T.getD i 0)]) (by kernel_rfl) rfl (fun β => ?_)
  replace H := H.front (i := 2) rfl
  replace H : Sep w0 w12 (.blk g3 101 (bs m) :: .blk g7 113 [U x0, U x1, U x2, U x3] :: .blk g5 113 [U (0 : UInt32), U (0 : UInt32), U (0 : UInt32), U (0 : UInt32)] :: .blk g1 113 [U r0, U r1, U r2, U r3] :: F) := H
  refine HL_call (i := 8) (f := 61) (args := #[Pt g3 0, In ((stepF i x1 x2 x3).2)]) rfl (by kernel_rfl) (by kernel_rfl) (by kernel_rfl) (by kernel_rfl) (c_word m (by assumption) ((stepF i x1 x2 x3).2) (by exact stepF_lt _ _ _) H) ?_
  rintro _ w13 ⟨rfl, H⟩
  refine ⟨(.inr ⟨((H.blk_cell (i := 1) rfl 0).trans rfl), (gT.cell H (u32s_get T i (by omega))), trivial⟩), ?_⟩
  refine HL_takes [9, 10, 11] [(2, Pt g1 0), (3, Pt g3 0), (4, Pt g5 0), (5, Pt g7 0), (6, .int .i64 (i : Int)), (7, .int .u32 (IntKind.u32.wrap ((((stepF i x1 x2 x3).1).toNat : Int) + (IntKind.u32.wrap (((x0 + (T.getD i 0)).toNat : Int) + ((wordF m ((stepF i x1 x2 x3).2)).toNat : Int)))))), (12, .int .i64 (i : Int))] (mkL 12 [0, 1, 2, 3, 4, 5, 6, 7, 8, 9, 10, 11]) 0 (by kernel_rfl) rfl (by kernel_rfl) (fun _ => by kernel_rfl) ⟨((H.blk_cell (i := 1) rfl 0).trans rfl), (gT.cell H (u32s_get T i (by omega))), trivial⟩ (fun β => ?_)
  refine HL_forgetr [(2, Pt g1 0), (3, Pt g3 0), (4, Pt g5 0), (5, Pt g7 0), (6, In i), (7, U (((stepF i x1 x2 x3).1) + ((x0 + (T.getD i 0)) + (wordF m ((stepF i x1 x2 x3).2))))), (12, In i)] (show ([Pt g1 0, Pt g3 0, Pt g5 0, Pt g7 0, .int .i64 (i : Int), .int .u32 (IntKind.u32.wrap ((((stepF i x1 x2 x3).1).toNat : Int) + (IntKind.u32.wrap (((x0 + (T.getD i 0)).toNat : Int) + ((wordF m ((stepF i x1 x2 x3).2)).toNat : Int))))), .int .i64 (i : Int)] : List Value) = [Pt g1 0, Pt g3 0, Pt g5 0, Pt g7 0, In i, U (((stepF i x1 x2 x3).1) + ((x0 + (T.getD i 0)) + (wordF m ((stepF i x1 x2 x3).2)))), In i] by rw [Kw.u32_add (x0 + (T.getD i 0)) (wordF m ((stepF i x1 x2 x3).2)), Kw.u32_add ((stepF i x1 x2 x3).1) ((x0 + (T.getD i 0)) + (wordF m ((stepF i x1 x2 x3).2)))]) (by kernel_rfl) rfl (fun β => ?_)
  refine HL_forget [(2, Pt g1 0), (3, Pt g3 0), (4, Pt g5 0), (5, Pt g7 0), (6, In i), (7, U (((stepF i x1 x2 x3).1) + ((x0 + (T.getD i 0)) + (wordF m ((stepF i x1 x2 x3).2))))), (12, In i)] (by kernel_rfl) (fun β => ?_)
  refine HL_fin (by kernel_rfl) ?_
  refine thn_normal ?_
  refine G_sr ?_
  refine GL_sr 6 6 [(2, Pt g1 0), (3, Pt g3 0), (4, Pt g5 0), (5, Pt g7 0), (7, U (((stepF i x1 x2 x3).1) + ((x0 + (T.getD i 0)) + (wordF m ((stepF i x1 x2 x3).2))))), (12, In i), (42, In (((i / 16) * 4) + (i % 4)))] (show ([Pt g1 0, Pt g3 0, Pt g5 0, Pt g7 0, .int .u32 ((((stepF i x1 x2 x3).1) + ((x0 + (T.getD i 0)) + (wordF m ((stepF i x1 x2 x3).2)))).toNat : Int), .int .i64 (i : Int), .int .i64 (IntKind.i64.wrap ((IntKind.i64.wrap ((IntKind.i64.wrap ((i : Int).tdiv ((16 : Nat) : Int))) * ((4 : Nat) : Int))) + ((i : Int).tmod ((4 : Nat) : Int))))] : List Value) = [Pt g1 0, Pt g3 0, Pt g5 0, Pt g7 0, U (((stepF i x1 x2 x3).1) + ((x0 + (T.getD i 0)) + (wordF m ((stepF i x1 x2 x3).2)))), In i, In (((i / 16) * 4) + (i % 4))] by rw [nquo64 i 16 (by omega), nmul64 (i / 16) 4 (by omega), nrem64 i 4, nadd64 ((i / 16) * 4) (i % 4) (by omega)]) fun β => ?_
  refine GL_V (R_arrplace1 (t := 82) (e := 5) (n := 16) (g := 1) (i := (((i / 16) * 4) + (i % 4))) (ki := .i64) (by kernel_rfl) (by kernel_rfl) (by omega)) ?_
  refine GL_V (run_load1 (t := 5) (by kernel_rfl) (gR.cell H (bs_get R (((i / 16) * 4) + (i % 4)) (by omega)))) ?_
  refine GL_st 1 9 [(2, Pt g1 0), (3, Pt g3 0), (4, Pt g5 0), (5, Pt g7 0), (7, U (((stepF i x1 x2 x3).1) + ((x0 + (T.getD i 0)) + (wordF m ((stepF i x1 x2 x3).2))))), (9, By (R.getD (((i / 16) * 4) + (i % 4)) 0)), (12, In i)] fun β => ?_
  refine G_region ?_
  refine GL_s 1 1 [(2, Pt g1 0), (3, Pt g3 0), (4, Pt g5 0), (5, Pt g7 0), (7, U (((stepF i x1 x2 x3).1) + ((x0 + (T.getD i 0)) + (wordF m ((stepF i x1 x2 x3).2))))), (9, By (R.getD (((i / 16) * 4) + (i % 4)) 0)), (12, In i), (45, Pt g7 3)] fun β => ?_
  refine GL_V (run_load1 (t := 111) (by kernel_rfl) ((H.blk_cell (i := 1) rfl 3).trans rfl)) ?_
  refine GL_s 1 3 [(2, Pt g1 0), (3, Pt g3 0), (4, Pt g5 0), (5, Pt g7 0), (7, U (((stepF i x1 x2 x3).1) + ((x0 + (T.getD i 0)) + (wordF m ((stepF i x1 x2 x3).2))))), (9, By (R.getD (((i / 16) * 4) + (i % 4)) 0)), (12, In i), (46, U x3), (47, Pt g7 1)] fun β => ?_
  refine GL_V (run_load1 (t := 111) (by kernel_rfl) ((H.blk_cell (i := 1) rfl 1).trans rfl)) ?_
  refine GL_s 2 6 [(2, Pt g1 0), (3, Pt g3 0), (4, Pt g5 0), (5, Pt g7 0), (7, U (((stepF i x1 x2 x3).1) + ((x0 + (T.getD i 0)) + (wordF m ((stepF i x1 x2 x3).2))))), (9, By (R.getD (((i / 16) * 4) + (i % 4)) 0)), (12, In i), (46, U x3), (48, U x1), (49, U (((stepF i x1 x2 x3).1) + ((x0 + (T.getD i 0)) + (wordF m ((stepF i x1 x2 x3).2))))), (50, By (R.getD (((i / 16) * 4) + (i % 4)) 0))] fun β => ?_
  refine GL_V (R_shl32 (t := 111) (x := (((stepF i x1 x2 x3).1) + ((x0 + (T.getD i 0)) + (wordF m ((stepF i x1 x2 x3).2))))) (s := (R.getD (((i / 16) * 4) + (i % 4)) 0).toNat) (k := .u8)) ?_
  refine GL_sr 3 10 [(2, Pt g1 0), (3, Pt g3 0), (4, Pt g5 0), (5, Pt g7 0), (12, In i), (46, U x3), (48, U x1), (51, U (shl32 (((stepF i x1 x2 x3).1) + ((x0 + (T.getD i 0)) + (wordF m ((stepF i x1 x2 x3).2)))) ((R.getD (((i / 16) * 4) + (i % 4)) 0).toNat))), (52, U (((stepF i x1 x2 x3).1) + ((x0 + (T.getD i 0)) + (wordF m ((stepF i x1 x2 x3).2))))), (54, By ((32 : UInt8) - (R.getD (((i / 16) * 4) + (i % 4)) 0)))] (show ([Pt g1 0, Pt g3 0, Pt g5 0, Pt g7 0, .int .i64 (i : Int), .int .u32 (x3.toNat : Int), .int .u32 (x1.toNat : Int), .int .u32 ((shl32 (((stepF i x1 x2 x3).1) + ((x0 + (T.getD i 0)) + (wordF m ((stepF i x1 x2 x3).2)))) ((R.getD (((i / 16) * 4) + (i % 4)) 0).toNat)).toNat : Int), .int .u32 ((((stepF i x1 x2 x3).1) + ((x0 + (T.getD i 0)) + (wordF m ((stepF i x1 x2 x3).2)))).toNat : Int), .int .u8 (IntKind.u8.wrap (((32 : UInt8).toNat : Int) - ((R.getD (((i / 16) * 4) + (i % 4)) 0).toNat : Int)))] : List Value) = [Pt g1 0, Pt g3 0, Pt g5 0, Pt g7 0, In i, U x3, U x1, U (shl32 (((stepF i x1 x2 x3).1) + ((x0 + (T.getD i 0)) + (wordF m ((stepF i x1 x2 x3).2)))) ((R.getD (((i / 16) * 4) + (i % 4)) 0).toNat)), U (((stepF i x1 x2 x3).1) + ((x0 + (T.getD i 0)) + (wordF m ((stepF i x1 x2 x3).2)))), By ((32 : UInt8) - (R.getD (((i / 16) * 4) + (i % 4)) 0))] by rw [Kw.u8_sub (32 : UInt8) (R.getD (((i / 16) * 4) + (i % 4)) 0)]) fun β => ?_
  refine GL_V (R_shr32 (t := 111) (x := (((stepF i x1 x2 x3).1) + ((x0 + (T.getD i 0)) + (wordF m ((stepF i x1 x2 x3).2))))) (s := ((32 : UInt8) - (R.getD (((i / 16) * 4) + (i % 4)) 0)).toNat) (k := .u8)) ?_
  refine GL_sr 3 14 [(2, Pt g1 0), (3, Pt g3 0), (4, Pt g5 0), (5, Pt g7 0), (12, In i), (46, U x3), (57, U (x1 + ((shl32 (((stepF i x1 x2 x3).1) + ((x0 + (T.getD i 0)) + (wordF m ((stepF i x1 x2 x3).2)))) ((R.getD (((i / 16) * 4) + (i % 4)) 0).toNat)) ||| (shr32 (((stepF i x1 x2 x3).1) + ((x0 + (T.getD i 0)) + (wordF m ((stepF i x1 x2 x3).2)))) (((32 : UInt8) - (R.getD (((i / 16) * 4) + (i % 4)) 0)).toNat))))), (58, Pt g7 1)] (show ([Pt g1 0, Pt g3 0, Pt g5 0, Pt g7 0, .int .i64 (i : Int), .int .u32 (x3.toNat : Int), .int .u32 (IntKind.u32.wrap ((x1.toNat : Int) + (bor .u32 ((shl32 (((stepF i x1 x2 x3).1) + ((x0 + (T.getD i 0)) + (wordF m ((stepF i x1 x2 x3).2)))) ((R.getD (((i / 16) * 4) + (i % 4)) 0).toNat)).toNat : Int) ((shr32 (((stepF i x1 x2 x3).1) + ((x0 + (T.getD i 0)) + (wordF m ((stepF i x1 x2 x3).2)))) (((32 : UInt8) - (R.getD (((i / 16) * 4) + (i % 4)) 0)).toNat)).toNat : Int)))), Pt g7 1] : List Value) = [Pt g1 0, Pt g3 0, Pt g5 0, Pt g7 0, In i, U x3, U (x1 + ((shl32 (((stepF i x1 x2 x3).1) + ((x0 + (T.getD i 0)) + (wordF m ((stepF i x1 x2 x3).2)))) ((R.getD (((i / 16) * 4) + (i % 4)) 0).toNat)) ||| (shr32 (((stepF i x1 x2 x3).1) + ((x0 + (T.getD i 0)) + (wordF m ((stepF i x1 x2 x3).2)))) (((32 : UInt8) - (R.getD (((i / 16) * 4) + (i % 4)) 0)).toNat)))), Pt g7 1] by rw [Kw.u32_or (shl32 (((stepF i x1 x2 x3).1) + ((x0 + (T.getD i 0)) + (wordF m ((stepF i x1 x2 x3).2)))) ((R.getD (((i / 16) * 4) + (i % 4)) 0).toNat)) (shr32 (((stepF i x1 x2 x3).1) + ((x0 + (T.getD i 0)) + (wordF m ((stepF i x1 x2 x3).2)))) (((32 : UInt8) - (R.getD (((i / 16) * 4) + (i % 4)) 0)).toNat)), Kw.u32_add x1 ((shl32 (((stepF i x1 x2 x3).1) + ((x0 + (T.getD i 0)) + (wordF m ((stepF i x1 x2 x3).2)))) ((R.getD (((i / 16) * 4) + (i % 4)) 0).toNat)) ||| (shr32 (((stepF i x1 x2 x3).1) + ((x0 + (T.getD i 0)) + (wordF m ((stepF i x1 x2 x3).2)))) (((32 : UInt8) - (R.getD (((i / 16) * 4) + (i % 4)) 0)).toNat)))]) fun β => ?_
  refine GL_V (run_load1 (t := 111) (by kernel_rfl) ((H.blk_cell (i := 1) rfl 1).trans rfl)) ?_
  refine GL_s 1 16 [(2, Pt g1 0), (3, Pt g3 0), (4, Pt g5 0), (5, Pt g7 0), (12, In i), (46, U x3), (57, U (x1 + ((shl32 (((stepF i x1 x2 x3).1) + ((x0 + (T.getD i 0)) + (wordF m ((stepF i x1 x2 x3).2)))) ((R.getD (((i / 16) * 4) + (i % 4)) 0).toNat)) ||| (shr32 (((stepF i x1 x2 x3).1) + ((x0 + (T.getD i 0)) + (wordF m ((stepF i x1 x2 x3).2)))) (((32 : UInt8) - (R.getD (((i / 16) * 4) + (i % 4)) 0)).toNat))))), (59, U x1), (60, Pt g7 2)] fun β => ?_
  refine GL_V (run_load1 (t := 111) (by kernel_rfl) ((H.blk_cell (i := 1) rfl 2).trans rfl)) ?_
  refine GL_s 1 18 [(2, Pt g1 0), (3, Pt g3 0), (4, Pt g5 0), (5, Pt g7 0), (12, In i), (62, .agg #[U x3, U (x1 + ((shl32 (((stepF i x1 x2 x3).1) + ((x0 + (T.getD i 0)) + (wordF m ((stepF i x1 x2 x3).2)))) ((R.getD (((i / 16) * 4) + (i % 4)) 0).toNat)) ||| (shr32 (((stepF i x1 x2 x3).1) + ((x0 + (T.getD i 0)) + (wordF m ((stepF i x1 x2 x3).2)))) (((32 : UInt8) - (R.getD (((i / 16) * 4) + (i % 4)) 0)).toNat)))), U x1, U x2])] fun β => ?_
  obtain ⟨w14, hr15, H⟩ := R_store (P := Tryd.prog) (t := 113) (v := .agg #[U x3, U (x1 + ((shl32 (((stepF i x1 x2 x3).1) + ((x0 + (T.getD i 0)) + (wordF m ((stepF i x1 x2 x3).2)))) ((R.getD (((i / 16) * 4) + (i % 4)) 0).toNat)) ||| (shr32 (((stepF i x1 x2 x3).1) + ((x0 + (T.getD i 0)) + (wordF m ((stepF i x1 x2 x3).2)))) (((32 : UInt8) - (R.getD (((i / 16) * 4) + (i % 4)) 0)).toNat)))), U x1, U x2]) (off := 0) H (i := 1) rfl (by kernel_rfl) (by kernel_rfl) (by kernel_rfl)
  replace H : Sep w0 w14 (.blk g3 101 (bs m) :: .blk g7 113 [U x3, U (x1 + ((shl32 (((stepF i x1 x2 x3).1) + ((x0 + (T.getD i 0)) + (wordF m ((stepF i x1 x2 x3).2)))) ((R.getD (((i / 16) * 4) + (i % 4)) 0).toNat)) ||| (shr32 (((stepF i x1 x2 x3).1) + ((x0 + (T.getD i 0)) + (wordF m ((stepF i x1 x2 x3).2)))) (((32 : UInt8) - (R.getD (((i / 16) * 4) + (i % 4)) 0)).toNat)))), U x1, U x2] :: .blk g5 113 [U (0 : UInt32), U (0 : UInt32), U (0 : UInt32), U (0 : UInt32)] :: .blk g1 113 [U r0, U r1, U r2, U r3] :: F) := H
  refine GL_U hr15 ?_
  refine GL_end (by kernel_rfl) ?_
  refine inb_normal ?_
  refine thn_normal ?_
  refine G_region ?_
  refine GL_sr 2 2 [(2, Pt g1 0), (3, Pt g3 0), (4, Pt g5 0), (5, Pt g7 0), (12, In (i + 1))] (show ([Pt g1 0, Pt g3 0, Pt g5 0, Pt g7 0, .int .i64 (IntKind.i64.wrap ((i : Int) + ((1 : Nat) : Int)))] : List Value) = [Pt g1 0, Pt g3 0, Pt g5 0, Pt g7 0, In (i + 1)] by rw [nadd64 i 1 (by omega)]) fun β => ?_
  refine GL_end (by kernel_rfl) ?_
  have hlt := stepF_lt (i := i) x1 x2 x3
  replace H := H.front (i := 3) rfl
  replace H := H.front (i := 1) rfl
  replace H := H.front (i := 3) rfl
  replace H := H.front (i := 3) rfl
  replace H : Sep w0 w14 (.blk g7 113 [U x3, U (x1 + ((shl32 (((stepF i x1 x2 x3).1) + ((x0 + (T.getD i 0)) + (wordF m ((stepF i x1 x2 x3).2)))) ((R.getD (((i / 16) * 4) + (i % 4)) 0).toNat)) ||| (shr32 (((stepF i x1 x2 x3).1) + ((x0 + (T.getD i 0)) + (wordF m ((stepF i x1 x2 x3).2)))) (((32 : UInt8) - (R.getD (((i / 16) * 4) + (i % 4)) 0)).toNat)))), U x1, U x2] :: .blk g5 113 [U (0 : UInt32), U (0 : UInt32), U (0 : UInt32), U (0 : UInt32)] :: .blk g3 101 (bs m) :: .blk g1 113 [U r0, U r1, U r2, U r3] :: F) := H
  refine thn_normal ⟨(i + 1, x3, (x1 + ((shl32 (((stepF i x1 x2 x3).1) + ((x0 + (T.getD i 0)) + (wordF m ((stepF i x1 x2 x3).2)))) ((R.getD (((i / 16) * 4) + (i % 4)) 0).toNat)) ||| (shr32 (((stepF i x1 x2 x3).1) + ((x0 + (T.getD i 0)) + (wordF m ((stepF i x1 x2 x3).2)))) (((32 : UInt8) - (R.getD (((i / 16) * 4) + (i % 4)) 0)).toNat)))), x1, x2), Agr_of_keys (by kernel_rfl), ⟨H, ?_⟩, ?_⟩
  · exact ⟨by omega, by rw [roundsF, ← hI2]; rfl⟩
  · first | (dsimp only; omega) | omega
 · --no
  replace h0 : ¬ (i < 64) := of_decide_eq_false h0
  refine G_exit (thn_exit (thn_exit (inb_hit ?_)))
  refine thn_normal ?_
  refine G_seq ?_
  refine G_sr ?_
  refine GL_st 1 1 [(2, Pt g1 0), (4, Pt g5 0), (5, Pt g7 0), (64, In 0)] fun β => ?_
  refine G_block ?_
  refine G_loop (X := Nat × (List UInt32)) (fun ⟨k, rr⟩ => [(2, Pt g1 0), (4, Pt g5 0), (5, Pt g7 0), (64, In k)]) (fun ⟨k, rr⟩ w_ => Sep w0 w_ (.blk g7 113 (u32s [x0, x1, x2, x3]) :: .blk g5 113 [U (0 : UInt32), U (0 : UInt32), U (0 : UInt32), U (0 : UInt32)] :: .blk g3 101 (bs m) :: .blk g1 113 (u32s rr) :: F) ∧ (k ≤ 4 ∧ rr = addF [x0, x1, x2, x3] [r0, r1, r2, r3] k)) (fun ⟨k, rr⟩ => 4 - k) (0, [r0, r1, r2, r3]) (by kernel_rfl) ⟨H, ⟨by omega, rfl⟩⟩ ?_
  rintro ⟨k, rr⟩ β w16 ⟨H, hI⟩
  refine G_forget [(2, Pt g1 0), (4, Pt g5 0), (5, Pt g7 0), (64, In k)] (by kernel_rfl) (fun β => ?_)
  replace H : Sep w0 w16 (.blk g7 113 (u32s [x0, x1, x2, x3]) :: .blk g5 113 [U (0 : UInt32), U (0 : UInt32), U (0 : UInt32), U (0 : UInt32)] :: .blk g3 101 (bs m) :: .blk g1 113 (u32s rr) :: F) := H
  replace hI : k ≤ 4 ∧ rr = addF [x0, x1, x2, x3] [r0, r1, r2, r3] k := hI
  obtain ⟨hK1, hK2⟩ := hI
  have hrr : rr.length = 4 := by rw [hK2, addF_len]; rfl
  have hxx : [x0, x1, x2, x3].length = 4 := rfl
  refine G_sr ?_
  refine GL_srt 1 1 [(2, Pt g1 0), (4, Pt g5 0), (5, Pt g7 0), (64, In k), (65, .bool (decide (k < 4)))] (show ([Pt g1 0, Pt g5 0, Pt g7 0, .int .i64 (k : Int), .bool (decide ((k : Int) < ((4 : Nat) : Int)))] : List Value) = [Pt g1 0, Pt g5 0, Pt g7 0, In k, .bool (decide (k < 4))] by rw [nlss k 4]) fun β => ?_
  refine G_seq ?_
  refine G_cond (decide (k < 4)) (by kernel_rfl) (fun h1 => ?_) (fun h1 => ?_)
  · --yes
   replace h1 : k < 4 := of_decide_eq_true h1
   refine G_skip ?_
   refine thn_normal ?_
   refine G_seq ?_
   refine G_block ?_
   refine G_sr ?_
   refine GL_st 2 2 [(2, Pt g1 0), (4, Pt g5 0), (5, Pt g7 0), (10, In k), (64, In k)] fun β => ?_
   refine G_drawS (fun w => w.cell? ⟨g1, k, none⟩ = some (U (rr.getD k 0)) ∧ w.cell? ⟨g7, k, none⟩ = some (U ([x0, x1, x2, x3].getD k 0)) ∧ True) 8 9 (by kernel_rfl) (by kernel_rfl) H (fun w17 H => ?_)
   refine HL_takes [0] [(2, Pt g1 0), (4, Pt g5 0), (5, Pt g7 0), (10, .int .i64 (k : Int)), (64, .int .i64 (k : Int)), (67, .int .i64 (k : Int))] (mkL 9 [0]) 8 (by kernel_rfl) rfl (by kernel_rfl) (fun _ => by kernel_rfl) ⟨((H.blk_cell (i := 3) rfl k).trans (u32s_get rr k (by omega))), ((H.blk_cell (i := 0) rfl k).trans (u32s_get [x0, x1, x2, x3] k (by omega))), trivial⟩ (fun β => ?_)
   refine HL_t (i := 1) (m := 7) (fun w _ => (R_arrplace1 (t := 113) (e := 111) (n := 4) (g := g1) (i := k) (ki := .i64) (by kernel_rfl) (by kernel_rfl) (by omega))) rfl (by kernel_rfl) (by kernel_rfl) (by kernel_rfl) (by kernel_rfl) (by kernel_rfl) (by kernel_rfl) ⟨((H.blk_cell (i := 3) rfl k).trans (u32s_get rr k (by omega))), ((H.blk_cell (i := 0) rfl k).trans (u32s_get [x0, x1, x2, x3] k (by omega))), trivial⟩ rfl ?_
   refine HL_t (i := 2) (m := 6) (fun w hS => run_load1 (t := 111) (by kernel_rfl) hS.1) rfl (by kernel_rfl) (by kernel_rfl) (by kernel_rfl) (by kernel_rfl) (by kernel_rfl) (by kernel_rfl) ⟨((H.blk_cell (i := 3) rfl k).trans (u32s_get rr k (by omega))), ((H.blk_cell (i := 0) rfl k).trans (u32s_get [x0, x1, x2, x3] k (by omega))), trivial⟩ rfl ?_
   refine HL_takes [3] [(2, Pt g1 0), (4, Pt g5 0), (5, Pt g7 0), (64, .int .i64 (k : Int)), (67, .int .i64 (k : Int)), (69, .int .u32 ((rr.getD k 0).toNat : Int)), (70, .int .i64 (k : Int))] (mkL 9 [0, 1, 2, 3]) 5 (by kernel_rfl) rfl (by kernel_rfl) (fun _ => by kernel_rfl) ⟨((H.blk_cell (i := 3) rfl k).trans (u32s_get rr k (by omega))), ((H.blk_cell (i := 0) rfl k).trans (u32s_get [x0, x1, x2, x3] k (by omega))), trivial⟩ (fun β => ?_)
   refine HL_t (i := 4) (m := 4) (fun w _ => (R_arrplace1 (t := 113) (e := 111) (n := 4) (g := g7) (i := k) (ki := .i64) (by kernel_rfl) (by kernel_rfl) (by omega))) rfl (by kernel_rfl) (by kernel_rfl) (by kernel_rfl) (by kernel_rfl) (by kernel_rfl) (by kernel_rfl) ⟨((H.blk_cell (i := 3) rfl k).trans (u32s_get rr k (by omega))), ((H.blk_cell (i := 0) rfl k).trans (u32s_get [x0, x1, x2, x3] k (by omega))), trivial⟩ rfl ?_
   refine HL_t (i := 5) (m := 3) (fun w hS => run_load1 (t := 111) (by kernel_rfl) hS.2.1) rfl (by kernel_rfl) (by kernel_rfl) (by kernel_rfl) (by kernel_rfl) (by kernel_rfl) (by kernel_rfl) ⟨((H.blk_cell (i := 3) rfl k).trans (u32s_get rr k (by omega))), ((H.blk_cell (i := 0) rfl k).trans (u32s_get [x0, x1, x2, x3] k (by omega))), trivial⟩ rfl ?_
   refine HL_takes [6] [(2, Pt g1 0), (4, Pt g5 0), (5, Pt g7 0), (64, .int .i64 (k : Int)), (67, .int .i64 (k : Int)), (73, .int .u32 (IntKind.u32.wrap (((rr.getD k 0).toNat : Int) + (([x0, x1, x2, x3].getD k 0).toNat : Int))))] (mkL 9 [0, 1, 2, 3, 4, 5, 6]) 2 (by kernel_rfl) rfl (by kernel_rfl) (fun _ => by kernel_rfl) ⟨((H.blk_cell (i := 3) rfl k).trans (u32s_get rr k (by omega))), ((H.blk_cell (i := 0) rfl k).trans (u32s_get [x0, x1, x2, x3] k (by omega))), trivial⟩ (fun β => ?_)
   refine HL_forgetr [(2, Pt g1 0), (4, Pt g5 0), (5, Pt g7 0), (64, In k), (67, In k), (73, U ((rr.getD k 0) + ([x0, x1, x2, x3].getD k 0)))] (show ([Pt g1 0, Pt g5 0, Pt g7 0, .int .i64 (k : Int), .int .i64 (k : Int), .int .u32 (IntKind.u32.wrap (((rr.getD k 0).toNat : Int) + (([x0, x1, x2, x3].getD k 0).toNat : Int)))] : List Value) = [Pt g1 0, Pt g5 0, Pt g7 0, In k, In k, U ((rr.getD k 0) + ([x0, x1, x2, x3].getD k 0))] by rw [Kw.u32_add (rr.getD k 0) ([x0, x1, x2, x3].getD k 0)]) (by kernel_rfl) rfl (fun β => ?_)
   refine HL_t (i := 7) (m := 1) (fun w _ => (R_arrplace1 (t := 113) (e := 111) (n := 4) (g := g1) (i := k) (ki := .i64) (by kernel_rfl) (by kernel_rfl) (by omega))) rfl (by kernel_rfl) (by kernel_rfl) (by kernel_rfl) (by kernel_rfl) (by kernel_rfl) (by kernel_rfl) ⟨((H.blk_cell (i := 3) rfl k).trans (u32s_get rr k (by omega))), ((H.blk_cell (i := 0) rfl k).trans (u32s_get [x0, x1, x2, x3] k (by omega))), trivial⟩ rfl ?_
   obtain ⟨w18, hr19, H⟩ := R_bstore32 (P := Tryd.prog) (t := 111) (j := k) (b := ((rr.getD k 0) + ([x0, x1, x2, x3].getD k 0))) H (i := 3) rfl (by kernel_rfl) (by omega)
   replace H : Sep w0 w18 (.blk g7 113 (u32s [x0, x1, x2, x3]) :: .blk g5 113 [U (0 : UInt32), U (0 : UInt32), U (0 : UInt32), U (0 : UInt32)] :: .blk g3 101 (bs m) :: .blk g1 113 (u32s (rr.set k ((rr.getD k 0) + ([x0, x1, x2, x3].getD k 0)))) :: F) := H
   refine HL_u (i := 8) hr19 rfl (by kernel_rfl) (by kernel_rfl) (by kernel_rfl) (by kernel_rfl) (.inl (by kernel_rfl)) ?_
   refine HL_forget [(2, Pt g1 0), (4, Pt g5 0), (5, Pt g7 0), (64, In k)] (by kernel_rfl) (fun β => ?_)
   refine HL_fin (by kernel_rfl) ?_
   refine inb_normal ?_
   refine thn_normal ?_
   refine G_region ?_
   refine GL_sr 2 2 [(2, Pt g1 0), (4, Pt g5 0), (5, Pt g7 0), (64, In (k + 1))] (show ([Pt g1 0, Pt g5 0, Pt g7 0, .int .i64 (IntKind.i64.wrap ((k : Int) + ((1 : Nat) : Int)))] : List Value) = [Pt g1 0, Pt g5 0, Pt g7 0, In (k + 1)] by rw [nadd64 k 1 (by omega)]) fun β => ?_
   refine GL_end (by kernel_rfl) ?_
   refine thn_normal ⟨(k + 1, rr.set k ((rr.getD k 0) + ([x0, x1, x2, x3].getD k 0))), Agr_of_keys (by kernel_rfl), ⟨H, ?_⟩, ?_⟩
   · exact ⟨by omega, by rw [addF, ← hK2]⟩
   · first | (dsimp only; omega) | omega
  · --no
   replace h1 : ¬ (k < 4) := of_decide_eq_false h1
   refine G_exit (thn_exit (thn_exit (inb_hit ?_)))
   refine thn_normal ?_
   refine G_sr ?_
   refine GL_V (run_loadN (t := 113) (vs := u32s rr) (by kernel_rfl) (by rw [u32s_length, show (rr).length = 4 from by first | (simp; done) | (simp [*]; done) | assumption | (simp; omega) | rfl]; kernel_rfl) (H.blk_cells (i := 3) rfl 0 _ ⟨[], List.append_nil _⟩)) ?_
   obtain ⟨w20, hr21, H⟩ := R_storeL (P := Tryd.prog) (t := 113) (xs := u32s rr) H (i := 1) rfl (by rw [u32s_length, show (rr).length = 4 from by first | (simp; done) | (simp [*]; done) | assumption | (simp; omega) | rfl]; kernel_rfl) (by rw [u32s_length, show (rr).length = 4 from by first | (simp; done) | (simp [*]; done) | assumption | (simp; omega) | rfl]; rfl) (u32s_one _)
   replace H : Sep w0 w20 (.blk g7 113 (u32s [x0, x1, x2, x3]) :: .blk g5 113 (u32s rr) :: .blk g3 101 (bs m) :: .blk g1 113 (u32s rr) :: F) := H
   refine GL_U hr21 ?_
   refine GL_et ?_
   refine G_ret ?_
   refine resC (t := 113) (vs := u32s rr) rfl (by kernel_rfl) (by kernel_rfl) (by rw [u32s_length, show (rr).length = 4 from by first | (simp; done) | (simp [*]; done) | assumption | (simp; omega) | rfl]; kernel_rfl) (H.blk_cells (i := 1) rfl 0 _ ⟨_, List.append_nil _⟩) ?_
   replace H := H.drop 3
   replace H := H.drop 2
   replace H := H.drop 1
   replace H := H.drop 0
   replace H : Sep w0 w20 (F) := H
   have HF := H
   have hi : i = 64 := by omega
   subst hi
   have hk : k = 4 := by omega
   subst hk
   subst hK2
   refine ⟨?_, HF⟩
   rw [withF, ← hI2]
   rfl
/-- (posthorn/hash.register).digest -/
theorem c_hdigest (r0 r1 r2 r3 : UInt32) {w0 w : World} {F : List Chunk} (H : Sep w0 w F) : Ret Tryd.prog 53 #[.agg #[U r0, U r1, U r2, U r3]] w (fun v w' => v = .agg (bs (digF (r0, r1, r2, r3))).toArray ∧ Sep w0 w' F) := by
 refine Ret_enter (args := [.agg #[U r0, U r1, U r2, U r3]]) Tryd.func53 rfl (by kernel_rfl) ?_
 refine G_forget [(0, .agg #[U r0, U r1, U r2, U r3])] (by kernel_rfl) (fun β => ?_)
 refine G_sr ?_
 refine GL_new (V := fun g => Pt g 0) (l := [U r0, U r1, U r2, U r3]) (t := 113) H rfl (by kernel_rfl) (by kernel_rfl) (by kernel_rfl) (fun g1 w2 H => ?_)
 refine GL_new (V := fun g => Pt g 0) (l := bs (List.replicate 16 (0 : UInt8))) (t := 82) H rfl (by kernel_rfl) (by kernel_rfl) (by kernel_rfl) (fun g3 w4 H => ?_)
 refine GL_et ?_
 refine G_sr ?_
 refine GL_new (V := fun g => Pt g 0) (l := bs (List.replicate 16 (0 : UInt8))) (t := 82) H rfl (by kernel_rfl) (by kernel_rfl) (by kernel_rfl) (fun g5 w6 H => ?_)
 refine GL_et ?_
 refine G_seq ?_
 refine G_sr ?_
 refine GL_V (run_loadN (t := 113) (vs := [U r0, U r1, U r2, U r3]) (by kernel_rfl) (by kernel_rfl) (H.blk_cells (i := 2) rfl 0 _ ⟨_, rfl⟩)) ?_
 refine GL_st 1 2 [(2, Pt g3 0), (3, Pt g5 0), (7, .agg #[U r0, U r1, U r2, U r3]), (8, In 0)] fun β => ?_
 refine G_block ?_
 refine G_loop (X := Nat × (List UInt8)) (fun ⟨i, o⟩ => [(2, Pt g3 0), (3, Pt g5 0), (7, .agg #[U r0, U r1, U r2, U r3]), (8, In i)]) (fun ⟨i, o⟩ w_ => Sep w0 w_ (.blk g5 82 (bs o) :: .blk g3 82 (bs (List.replicate 16 (0 : UInt8))) :: .blk g1 113 [U r0, U r1, U r2, U r3] :: F) ∧ (i ≤ 4 ∧ o = digK [r0, r1, r2, r3] (4 * i))) (fun ⟨i, o⟩ => 4 - i) (0, List.replicate 16 0) (by kernel_rfl) ⟨H, ⟨by omega, rfl⟩⟩ ?_
 rintro ⟨i, o⟩ β w7 ⟨H, hI⟩
 refine G_forget [(2, Pt g3 0), (3, Pt g5 0), (7, .agg #[U r0, U r1, U r2, U r3]), (8, In i)] (by kernel_rfl) (fun β => ?_)
 replace H : Sep w0 w7 (.blk g5 82 (bs o) :: .blk g3 82 (bs (List.replicate 16 (0 : UInt8))) :: .blk g1 113 [U r0, U r1, U r2, U r3] :: F) := H
 replace hI : i ≤ 4 ∧ o = digK [r0, r1, r2, r3] (4 * i) := hI
 obtain ⟨hI1, hI2⟩ := hI
 have hol : o.length = 16 := by rw [hI2, digK_len]
 refine G_sr ?_
 refine GL_srt 1 1 [(2, Pt g3 0), (3, Pt g5 0), (7, .agg #[U r0, U r1, U r2, U r3]), (8, In i), (9, .bool (decide (i < 4)))] (show ([Pt g3 0, Pt g5 0, .agg #[.int .u32 (r0.toNat : Int), .int .u32 (r1.toNat : Int), .int .u32 (r2.toNat : Int), .int .u32 (r3.toNat : Int)], .int .i64 (i : Int), .bool (decide ((i : Int) < ((4 : Nat) : Int)))] : List Value) = [Pt g3 0, Pt g5 0, .agg #[U r0, U r1, U r2, U r3], In i, .bool (decide (i < 4))] by rw [nlss i 4]) fun β => ?_
 refine G_seq ?_
 refine G_cond (decide (i < 4)) (by kernel_rfl) (fun h0 => ?_) (fun h0 => ?_)
 · --yes
  replace h0 : i < 4 := of_decide_eq_true h0
  refine G_skip ?_
  refine thn_normal ?_
  refine G_seq ?_
  refine G_block ?_
  refine G_sr ?_
  refine GL_s 1 1 [(2, Pt g3 0), (3, Pt g5 0), (7, .agg #[U r0, U r1, U r2, U r3]), (8, In i), (10, In i)] fun β => ?_
  refine GL_V (R_aggidx (t := 113) (e := 111) (n := 4) (i := i) (ki := .i64) (xs := u32s ([r0, r1, r2, r3] : List UInt32)) (by kernel_rfl) (by kernel_rfl) (by kernel_rfl) (by omega) (u32s_get _ _ (by first | omega | (simp; omega)))) ?_
  refine GL_st 2 4 [(2, Pt g3 0), (3, Pt g5 0), (4, In i), (5, U (([r0, r1, r2, r3] : List UInt32).getD i 0)), (7, .agg #[U r0, U r1, U r2, U r3]), (8, In i)] fun β => ?_
  refine G_sr ?_
  refine GL_st 1 1 [(2, Pt g3 0), (3, Pt g5 0), (4, In i), (5, U (([r0, r1, r2, r3] : List UInt32).getD i 0)), (7, .agg #[U r0, U r1, U r2, U r3]), (8, In i), (12, In 0)] fun β => ?_
  refine G_block ?_
  refine G_loop (X := Nat × (List UInt8)) (fun ⟨k, q⟩ => [(2, Pt g3 0), (3, Pt g5 0), (4, In i), (5, U (([r0, r1, r2, r3] : List UInt32).getD i 0)), (7, .agg #[U r0, U r1, U r2, U r3]), (8, In i), (12, In k)]) (fun ⟨k, q⟩ w_ => Sep w0 w_ (.blk g5 82 (bs q) :: .blk g3 82 (bs (List.replicate 16 (0 : UInt8))) :: .blk g1 113 [U r0, U r1, U r2, U r3] :: F) ∧ (k ≤ 4 ∧ q = digK [r0, r1, r2, r3] (4 * i + k))) (fun ⟨k, q⟩ => 4 - k) (0, o) (by kernel_rfl) ⟨H, ⟨by omega, hI2⟩⟩ ?_
  rintro ⟨k, q⟩ β w8 ⟨H, hI⟩
  refine G_forget [(2, Pt g3 0), (3, Pt g5 0), (4, In i), (5, U (([r0, r1, r2, r3] : List UInt32).getD i 0)), (7, .agg #[U r0, U r1, U r2, U r3]), (8, In i), (12, In k)] (by kernel_rfl) (fun β => ?_)
  replace H : Sep w0 w8 (.blk g5 82 (bs q) :: .blk g3 82 (bs (List.replicate 16 (0 : UInt8))) :: .blk g1 113 [U r0, U r1, U r2, U r3] :: F) := H
  replace hI : k ≤ 4 ∧ q = digK [r0, r1, r2, r3] (4 * i + k) := hI
  obtain ⟨hK1, hK2⟩ := hI
  have hql : q.length = 16 := by rw [hK2, digK_len]
  refine G_sr ?_
  refine GL_srt 1 1 [(2, Pt g3 0), (3, Pt g5 0), (4, In i), (5, U (([r0, r1, r2, r3] : List UInt32).getD i 0)), (7, .agg #[U r0, U r1, U r2, U r3]), (8, In i), (12, In k), (13, .bool (decide (k < 4)))] (show ([Pt g3 0, Pt g5 0, .int .i64 (i : Int), .int .u32 ((([r0, r1, r2, r3] : List UInt32).getD i 0).toNat : Int), .agg #[.int .u32 (r0.toNat : Int), .int .u32 (r1.toNat : Int), .int .u32 (r2.toNat : Int), .int .u32 (r3.toNat : Int)], .int .i64 (i : Int), .int .i64 (k : Int), .bool (decide ((k : Int) < ((4 : Nat) : Int)))] : List Value) = [Pt g3 0, Pt g5 0, In i, U (([r0, r1, r2, r3] : List UInt32).getD i 0), .agg #[U r0, U r1, U r2, U r3], In i, In k, .bool (decide (k < 4))] by rw [nlss k 4]) fun β => ?_
  refine G_seq ?_
  refine G_cond (decide (k < 4)) (by kernel_rfl) (fun h1 => ?_) (fun h1 => ?_)
  · --yes
   replace h1 : k < 4 := of_decide_eq_true h1
   refine G_skip ?_
   refine thn_normal ?_
   refine G_seq ?_
   refine G_block ?_
   refine G_sr ?_
   refine GL_st 2 2 [(2, Pt g3 0), (3, Pt g5 0), (4, In i), (5, U (([r0, r1, r2, r3] : List UInt32).getD i 0)), (6, In k), (7, .agg #[U r0, U r1, U r2, U r3]), (8, In i), (12, In k)] fun β => ?_
   refine G_region ?_
   refine GL_sr 7 7 [(2, Pt g3 0), (3, Pt g5 0), (4, In i), (5, U (([r0, r1, r2, r3] : List UInt32).getD i 0)), (7, .agg #[U r0, U r1, U r2, U r3]), (8, In i), (12, In k), (18, In ((4 * i) + k)), (19, U (([r0, r1, r2, r3] : List UInt32).getD i 0)), (21, In (8 * k))] (show ([Pt g3 0, Pt g5 0, .int .i64 (i : Int), .int .u32 ((([r0, r1, r2, r3] : List UInt32).getD i 0).toNat : Int), .agg #[.int .u32 (r0.toNat : Int), .int .u32 (r1.toNat : Int), .int .u32 (r2.toNat : Int), .int .u32 (r3.toNat : Int)], .int .i64 (i : Int), .int .i64 (k : Int), .int .i64 (IntKind.i64.wrap ((IntKind.i64.wrap (((4 : Nat) : Int) * (i : Int))) + (k : Int))), .int .u32 ((([r0, r1, r2, r3] : List UInt32).getD i 0).toNat : Int), .int .i64 (IntKind.i64.wrap (((8 : Nat) : Int) * (k : Int)))] : List Value) = [Pt g3 0, Pt g5 0, In i, U (([r0, r1, r2, r3] : List UInt32).getD i 0), .agg #[U r0, U r1, U r2, U r3], In i, In k, In ((4 * i) + k), U (([r0, r1, r2, r3] : List UInt32).getD i 0), In (8 * k)] by rw [nmul64 4 i (by omega), nadd64 (4 * i) k (by omega), nmul64 8 k (by omega)]) fun β => ?_
   refine GL_V (R_shr32 (t := 111) (x := (([r0, r1, r2, r3] : List UInt32).getD i 0)) (s := (8 * k)) (k := .i64)) ?_
   refine GL_sr 1 9 [(2, Pt g3 0), (3, Pt g5 0), (4, In i), (5, U (([r0, r1, r2, r3] : List UInt32).getD i 0)), (7, .agg #[U r0, U r1, U r2, U r3]), (8, In i), (12, In k), (18, In ((4 * i) + k)), (23, By ((shr32 (([r0, r1, r2, r3] : List UInt32).getD i 0) (8 * k)).toUInt8))] (show ([Pt g3 0, Pt g5 0, .int .i64 (i : Int), .int .u32 ((([r0, r1, r2, r3] : List UInt32).getD i 0).toNat : Int), .agg #[.int .u32 (r0.toNat : Int), .int .u32 (r1.toNat : Int), .int .u32 (r2.toNat : Int), .int .u32 (r3.toNat : Int)], .int .i64 (i : Int), .int .i64 (k : Int), .int .i64 (((4 * i) + k : Nat) : Int), .int .u8 (IntKind.u8.wrap ((shr32 (([r0, r1, r2, r3] : List UInt32).getD i 0) (8 * k)).toNat : Int))] : List Value) = [Pt g3 0, Pt g5 0, In i, U (([r0, r1, r2, r3] : List UInt32).getD i 0), .agg #[U r0, U r1, U r2, U r3], In i, In k, In ((4 * i) + k), By ((shr32 (([r0, r1, r2, r3] : List UInt32).getD i 0) (8 * k)).toUInt8)] by rw [Kw.u8_of_u32 (shr32 (([r0, r1, r2, r3] : List UInt32).getD i 0) (8 * k))]) fun β => ?_
   refine GL_V (R_arrplace1 (t := 82) (e := 5) (n := 16) (g := g5) (i := ((4 * i) + k)) (ki := .i64) (by kernel_rfl) (by kernel_rfl) (by omega)) ?_
   obtain ⟨w9, hr10, H⟩ := R_bstore8 (P := Tryd.prog) (t := 5) (j := ((4 * i) + k)) (b := (shr32 (([r0, r1, r2, r3] : List UInt32).getD i 0) (8 * k)).toUInt8) H (i := 0) rfl (by kernel_rfl) (by omega)
   replace H : Sep w0 w9 (.blk g5 82 (bs (q.set ((4 * i) + k) ((shr32 (([r0, r1, r2, r3] : List UInt32).getD i 0) (8 * k)).toUInt8))) :: .blk g3 82 (bs (List.replicate 16 (0 : UInt8))) :: .blk g1 113 [U r0, U r1, U r2, U r3] :: F) := H
   refine GL_U hr10 ?_
   refine GL_end (by kernel_rfl) ?_
   refine inb_normal ?_
   refine thn_normal ?_
   refine G_region ?_
   refine GL_sr 2 2 [(2, Pt g3 0), (3, Pt g5 0), (4, In i), (5, U (([r0, r1, r2, r3] : List UInt32).getD i 0)), (7, .agg #[U r0, U r1, U r2, U r3]), (8, In i), (12, In (k + 1))] (show ([Pt g3 0, Pt g5 0, .int .i64 (i : Int), .int .u32 ((([r0, r1, r2, r3] : List UInt32).getD i 0).toNat : Int), .agg #[.int .u32 (r0.toNat : Int), .int .u32 (r1.toNat : Int), .int .u32 (r2.toNat : Int), .int .u32 (r3.toNat : Int)], .int .i64 (i : Int), .int .i64 (IntKind.i64.wrap ((k : Int) + ((1 : Nat) : Int)))] : List Value) = [Pt g3 0, Pt g5 0, In i, U (([r0, r1, r2, r3] : List UInt32).getD i 0), .agg #[U r0, U r1, U r2, U r3], In i, In (k + 1)] by rw [nadd64 k 1 (by omega)]) fun β => ?_
   refine GL_end (by kernel_rfl) ?_
   refine thn_normal ⟨(k + 1, q.set ((4 * i) + k) ((shr32 (([r0, r1, r2, r3] : List UInt32).getD i 0) (8 * k)).toUInt8)), Agr_of_keys (by kernel_rfl), ⟨H, ?_⟩, ?_⟩
   · exact ⟨by omega, by rw [show 4 * i + (k + 1) = (4 * i + k) + 1 from by omega, digK, ← hK2, show (4 * i + k) / 4 = i from by omega, show (4 * i + k) % 4 = k from by omega]⟩
   · first | (dsimp only; omega) | omega
  · --no
   replace h1 : ¬ (k < 4) := of_decide_eq_false h1
   refine G_exit (thn_exit (thn_exit (inb_hit ?_)))
   refine inb_normal ?_
   refine thn_normal ?_
   refine G_region ?_
   refine GL_sr 2 2 [(2, Pt g3 0), (3, Pt g5 0), (7, .agg #[U r0, U r1, U r2, U r3]), (8, In (i + 1))] (show ([Pt g3 0, Pt g5 0, .agg #[.int .u32 (r0.toNat : Int), .int .u32 (r1.toNat : Int), .int .u32 (r2.toNat : Int), .int .u32 (r3.toNat : Int)], .int .i64 (IntKind.i64.wrap ((i : Int) + ((1 : Nat) : Int)))] : List Value) = [Pt g3 0, Pt g5 0, .agg #[U r0, U r1, U r2, U r3], In (i + 1)] by rw [nadd64 i 1 (by omega)]) fun β => ?_
   refine GL_end (by kernel_rfl) ?_
   have hk : k = 4 := by omega
   subst hk
   refine thn_normal ⟨(i + 1, q), Agr_of_keys (by kernel_rfl), ⟨H, ?_⟩, ?_⟩
   · exact ⟨by omega, hK2⟩
   · first | (dsimp only; omega) | omega
 · --no
  replace h0 : ¬ (i < 4) := of_decide_eq_false h0
  refine G_exit (thn_exit (thn_exit (inb_hit ?_)))
  refine thn_normal ?_
  refine G_sr ?_
  refine GL_V (run_loadN (t := 82) (vs := bs o) (by kernel_rfl) (by rw [bs_length, show (o).length = 16 from by first | (simp; done) | (simp [*]; done) | assumption | (simp; omega) | rfl]; kernel_rfl) (H.blk_cells (i := 0) rfl 0 _ ⟨[], List.append_nil _⟩)) ?_
  obtain ⟨w11, hr12, H⟩ := R_storeL (P := Tryd.prog) (t := 82) (xs := bs o) H (i := 1) rfl (by rw [bs_length, show (o).length = 16 from by first | (simp; done) | (simp [*]; done) | assumption | (simp; omega) | rfl]; kernel_rfl) (by rw [bs_length, bs_length, show (List.replicate 16 (0 : UInt8)).length = 16 from by first | (simp; done) | (simp [*]; done) | assumption | (simp; omega) | rfl, show (o).length = 16 from by first | (simp; done) | (simp [*]; done) | assumption | (simp; omega) | rfl]) (bs_one _)
  replace H : Sep w0 w11 (.blk g5 82 (bs o) :: .blk g3 82 (bs o) :: .blk g1 113 [U r0, U r1, U r2, U r3] :: F) := H
  refine GL_U hr12 ?_
  refine GL_et ?_
  refine G_ret ?_
  refine resC (t := 82) (vs := bs o) rfl (by kernel_rfl) (by kernel_rfl) (by rw [bs_length, show (o).length = 16 from by first | (simp; done) | (simp [*]; done) | assumption | (simp; omega) | rfl]; kernel_rfl) (H.blk_cells (i := 1) rfl 0 _ ⟨_, List.append_nil _⟩) ?_
  replace H := H.drop 2
  replace H := H.drop 1
  replace H := H.drop 0
  replace H : Sep w0 w11 (F) := H
  have HF := H
  have hi : i = 4 := by omega
  subst hi
  subst hI2
  exact ⟨rfl, HF⟩
end Go.Proofs.YtadiljnfkbbmcaaDoor
