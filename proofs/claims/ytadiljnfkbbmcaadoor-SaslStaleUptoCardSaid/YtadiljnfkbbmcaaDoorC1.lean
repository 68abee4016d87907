-- printed by gw.py (my own program), checked by Lean
import Derived.Test.YtadiljnfkbbmcaaDoorProg
import Derived.Test.YtadiljnfkbbmcaaDoorKw10
set_option linter.unusedVariables false
set_option linter.unusedSimpArgs false
set_option maxRecDepth 100000
set_option maxHeartbeats 400000
namespace Go.Proofs.YtadiljnfkbbmcaaDoor
open Go.Kw Go.RowKit

abbrev R4 := UInt32 × UInt32 × UInt32 × UInt32
def regF : R4 := (1732584193, 4023233417, 2562383102, 271733878)
def stepF (i : Nat) (b c d : UInt32) : UInt32 × Nat :=
  if i / 16 = 0 then (b &&& c ||| ~~~b &&& d, i) else if i / 16 = 1 then (d &&& b ||| ~~~d &&& c, (5 * i + 1) % 16)
  else if i / 16 = 2 then (b ^^^ c ^^^ d, (3 * i + 5) % 16) else (c ^^^ (b ||| ~~~d), 7 * i % 16)
theorem stepF_lt {i : Nat} (b c d : UInt32) : (stepF i b c d).2 < 16 := by
  unfold stepF; split
  · show i < 16; omega
  · split
    · show (5 * i + 1) % 16 < 16; omega
    · split
      · show (3 * i + 5) % 16 < 16; omega
      · show 7 * i % 16 < 16; omega
def wordF (m : List UInt8) (i : Nat) : UInt32 := (((m.getD (i * 4) 0).toUInt32 ||| (m.getD (i * 4 + 1) 0).toUInt32 <<< 8) ||| (m.getD (i * 4 + 2) 0).toUInt32 <<< 16) ||| (m.getD (i * 4 + 3) 0).toUInt32 <<< 24
def addedF (T : List UInt32) (m : List UInt8) (i : Nat) (x : R4) : UInt32 := (stepF i x.2.1 x.2.2.1 x.2.2.2).1 + (x.1 + T.getD i 0 + wordF m (stepF i x.2.1 x.2.2.1 x.2.2.2).2)
def roundF (T : List UInt32) (R : List UInt8) (m : List UInt8) (i : Nat) (x : R4) : R4 :=
  (x.2.2.2, x.2.1 + (shl32 (addedF T m i x) (R.getD (i / 16 * 4 + i % 4) 0).toNat ||| shr32 (addedF T m i x) (32 - R.getD (i / 16 * 4 + i % 4) 0).toNat), x.2.1, x.2.2.1)
def roundsF (T : List UInt32) (R : List UInt8) (m : List UInt8) (x : R4) : Nat → R4
  | 0 => x
  | i + 1 => roundF T R m i (roundsF T R m x i)
def withF (T : List UInt32) (R : List UInt8) (m : List UInt8) (x : R4) : R4 :=
  (x.1 + (roundsF T R m x 64).1, x.2.1 + (roundsF T R m x 64).2.1, x.2.2.1 + (roundsF T R m x 64).2.2.1, x.2.2.2 + (roundsF T R m x 64).2.2.2)
def addF (y : List UInt32) (r : List UInt32) : Nat → List UInt32
  | 0 => r
  | k + 1 => (addF y r k).set k ((addF y r k).getD k 0 + y.getD k 0)
theorem addF_len (y r : List UInt32) (k : Nat) : (addF y r k).length = r.length := by induction k <;> simp_all [addF]
def digK (r : List UInt32) : Nat → List UInt8
  | 0 => List.replicate 16 0
  | j + 1 => (digK r j).set j (shr32 (r.getD (j / 4) 0) (8 * (j % 4))).toUInt8
theorem digK_len (r : List UInt32) (j : Nat) : (digK r j).length = 16 := by induction j <;> simp_all [digK]
def digF (x : R4) : List UInt8 := digK [x.1, x.2.1, x.2.2.1, x.2.2.2] 16
@[simp] theorem digF_len (x : R4) : (digF x).length = 16 := digK_len _ _
/-- posthorn/hash.first -/
theorem c_hfirst {w0 w : World} {F : List Chunk} (H : Sep w0 w F) : Ret Tryd.prog 51 #[] w (fun v w' => v = .agg #[U regF.1, U regF.2.1, U regF.2.2.1, U regF.2.2.2] ∧ Sep w0 w' F) := by
  refine Ret_enter (args := []) Tryd.func51 rfl (by kernel_rfl) ?_
  refine G_forget [] (by kernel_rfl) (fun β => ?_)
  refine G_seq ?_
  refine G_region ?_
  refine GL_new (V := fun g => .pointer (some ⟨g, 0, none⟩)) (l := [.int .u32 ((0 : UInt32).toNat : Int), .int .u32 ((0 : UInt32).toNat : Int), .int .u32 ((0 : UInt32).toNat : Int), .int .u32 ((0 : UInt32).toNat : Int)]) (t := 113) H rfl (by kernel_rfl) (by kernel_rfl) (by kernel_rfl) (fun g1 w2 H => ?_)
  refine GL_end (by kernel_rfl) ?_
  refine thn_normal ?_
  refine G_seq ?_
  refine G_region ?_
  refine GL_seg0 1 1 [(0, .pointer (some ⟨g1, 0, none⟩)), (1, .agg #[.int .u32 ((1732584193 : UInt32).toNat : Int), .int .u32 ((4023233417 : UInt32).toNat : Int), .int .u32 ((2562383102 : UInt32).toNat : Int), .int .u32 ((271733878 : UInt32).toNat : Int)])] rfl (by kernel_rfl) (fun β => ?_)
  obtain ⟨w3, hr4, H⟩ := R_store (P := Tryd.prog) (t := 113) (v := .agg #[.int .u32 ((1732584193 : UInt32).toNat : Int), .int .u32 ((4023233417 : UInt32).toNat : Int), .int .u32 ((2562383102 : UInt32).toNat : Int), .int .u32 ((271733878 : UInt32).toNat : Int)]) (off := 0) H (i := 0) rfl (by kernel_rfl) (by kernel_rfl) (by kernel_rfl)
  replace H : Sep w0 w3 (.blk g1 113 [.int .u32 ((1732584193 : UInt32).toNat : Int), .int .u32 ((4023233417 : UInt32).toNat : Int), .int .u32 ((2562383102 : UInt32).toNat : Int), .int .u32 ((271733878 : UInt32).toNat : Int)] :: F) := H
  refine GL_u hr4 rfl (by kernel_rfl) (by kernel_rfl) (by kernel_rfl) ?_
  refine GL_end (by kernel_rfl) ?_
  refine thn_normal ?_
  refine G_ret ?_
  refine resC (t := 113) (vs := [.int .u32 ((1732584193 : UInt32).toNat : Int), .int .u32 ((4023233417 : UInt32).toNat : Int), .int .u32 ((2562383102 : UInt32).toNat : Int), .int .u32 ((271733878 : UInt32).toNat : Int)]) rfl (by kernel_rfl) (by kernel_rfl) (by kernel_rfl) (H.blk_cells (i := 0) rfl 0 _ ⟨_, rfl⟩) ?_
  replace H := H.drop 0
  replace H : Sep w0 w3 (F) := H
  exact ⟨rfl, H⟩
/-- posthorn/hash.step -/
theorem c_step (i : Nat) (hi : i < 64) (b c d : UInt32) (w : World) : Ret Tryd.prog 60 #[.int .i64 (i : Int), U b, U c, U d] w (fun v w' => v = .tuple #[U (stepF i b c d).1, .int .i64 ((stepF i b c d).2 : Int)] ∧ w = w') := by
  refine Ret_enter (args := [.int .i64 (i : Int), .int .u32 (b.toNat : Int), .int .u32 (c.toNat : Int), .int .u32 (d.toNat : Int)]) Tryd.func60 rfl (by kernel_rfl) ?_
  refine G_forget [(0, .int .i64 (i : Int)), (1, .int .u32 (b.toNat : Int)), (2, .int .u32 (c.toNat : Int)), (3, .int .u32 (d.toNat : Int))] (by kernel_rfl) (fun β => ?_)
  refine G_seq ?_
  refine G_region ?_
  refine GL_seg0 2 2 [(0, .int .i64 (i : Int)), (1, .int .u32 (b.toNat : Int)), (2, .int .u32 (c.toNat : Int)), (3, .int .u32 (d.toNat : Int))] rfl (by kernel_rfl) (fun β => ?_)
  refine GL_end (by kernel_rfl) ?_
  refine thn_normal ?_
  refine G_seq ?_
  refine G_seq ?_
  refine G_region ?_
  refine GL_segr 2 2 [(0, .int .i64 (i : Int)), (1, .int .u32 (b.toNat : Int)), (2, .int .u32 (c.toNat : Int)), (3, .int .u32 (d.toNat : Int)), (11, .int .i64 ((i / 16 : Nat) : Int))] rfl (by kernel_rfl) (show ([.int .i64 (i : Int), .int .u32 (b.toNat : Int), .int .u32 (c.toNat : Int), .int .u32 (d.toNat : Int), .int .i64 (IntKind.i64.wrap ((i : Int).tdiv ((16 : Nat) : Int)))] : List Value) = [.int .i64 (i : Int), .int .u32 (b.toNat : Int), .int .u32 (c.toNat : Int), .int .u32 (d.toNat : Int), .int .i64 ((i / 16 : Nat) : Int)] by rw [nquo64 i 16 (by omega)]) rfl (fun β => ?_)
  refine GL_end (by kernel_rfl) ?_
  refine thn_normal ?_
  refine G_block ?_
  refine G_seq ?_
  refine G_region ?_
  refine GL_segr 2 2 [(0, .int .i64 (i : Int)), (1, .int .u32 (b.toNat : Int)), (2, .int .u32 (c.toNat : Int)), (3, .int .u32 (d.toNat : Int)), (11, .int .i64 ((i / 16 : Nat) : Int)), (12, .bool ((i / 16) == 0))] rfl (by kernel_rfl) (show ([.int .i64 (i : Int), .int .u32 (b.toNat : Int), .int .u32 (c.toNat : Int), .int .u32 (d.toNat : Int), .int .i64 ((i / 16 : Nat) : Int), .bool (((i / 16 : Nat) : Int) == ((0 : Nat) : Int))] : List Value) = [.int .i64 (i : Int), .int .u32 (b.toNat : Int), .int .u32 (c.toNat : Int), .int .u32 (d.toNat : Int), .int .i64 ((i / 16 : Nat) : Int), .bool ((i / 16) == 0)] by rw [neql (i / 16) 0]) rfl (fun β => ?_)
  refine GL_end (by kernel_rfl) ?_
  refine thn_normal ?_
  refine G_cond ((i / 16) == 0) (by kernel_rfl) (fun h0 => ?_) (fun h0 => ?_)
  · --yes
    replace h0 : (i / 16) = 0 := eql_T h0
    refine G_seq ?_
    refine G_region ?_
    refine GL_segr 11 11 [(8, .int .u32 (((b &&& c) ||| ((~~~b) &&& d)).toNat : Int)), (9, .int .i64 (i : Int))] rfl (by kernel_rfl) (show ([.int .u32 (bor .u32 (band .u32 (b.toNat : Int) (c.toNat : Int)) (band .u32 (bxor .u32 (IntKind.u32.max) (b.toNat : Int)) (d.toNat : Int))), .int .i64 (i : Int)] : List Value) = [.int .u32 (((b &&& c) ||| ((~~~b) &&& d)).toNat : Int), .int .i64 (i : Int)] by rw [Kw.u32_and b c, Kw.u32_not b, Kw.u32_and (~~~b) d, Kw.u32_or (b &&& c) ((~~~b) &&& d)]) rfl (fun β => ?_)
    refine GL_end (by kernel_rfl) ?_
    refine thn_normal ?_
    refine G_ret ?_
    refine inb_ret (thn_ret (res2 (v := .int .u32 (((b &&& c) ||| ((~~~b) &&& d)).toNat : Int)) (x := .int .i64 (i : Int)) rfl (by kernel_rfl) (by kernel_rfl) ?_))
    exact ⟨by simp [stepF, *], rfl⟩
  · --no
    replace h0 : ¬ ((i / 16) = 0) := eql_F h0
    refine G_seq ?_
    refine G_region ?_
    refine GL_segr 2 2 [(0, .int .i64 (i : Int)), (1, .int .u32 (b.toNat : Int)), (2, .int .u32 (c.toNat : Int)), (3, .int .u32 (d.toNat : Int)), (11, .int .i64 ((i / 16 : Nat) : Int)), (23, .bool ((i / 16) == 1))] rfl (by kernel_rfl) (show ([.int .i64 (i : Int), .int .u32 (b.toNat : Int), .int .u32 (c.toNat : Int), .int .u32 (d.toNat : Int), .int .i64 ((i / 16 : Nat) : Int), .bool (((i / 16 : Nat) : Int) == ((1 : Nat) : Int))] : List Value) = [.int .i64 (i : Int), .int .u32 (b.toNat : Int), .int .u32 (c.toNat : Int), .int .u32 (d.toNat : Int), .int .i64 ((i / 16 : Nat) : Int), .bool ((i / 16) == 1)] by rw [neql (i / 16) 1]) rfl (fun β => ?_)
    refine GL_end (by kernel_rfl) ?_
    refine thn_normal ?_
    refine G_cond ((i / 16) == 1) (by kernel_rfl) (fun h1 => ?_) (fun h1 => ?_)
    · --yes
      replace h1 : (i / 16) = 1 := eql_T h1
      refine G_seq ?_
      refine G_region ?_
      refine GL_segr 14 14 [(8, .int .u32 (((d &&& b) ||| ((~~~d) &&& c)).toNat : Int)), (9, .int .i64 ((((5 * i) + 1) % 16 : Nat) : Int))] rfl (by kernel_rfl) (show ([.int .u32 (bor .u32 (band .u32 (d.toNat : Int) (b.toNat : Int)) (band .u32 (bxor .u32 (IntKind.u32.max) (d.toNat : Int)) (c.toNat : Int))), .int .i64 ((IntKind.i64.wrap ((IntKind.i64.wrap (((5 : Nat) : Int) * (i : Int))) + ((1 : Nat) : Int))).tmod ((16 : Nat) : Int))] : List Value) = [.int .u32 (((d &&& b) ||| ((~~~d) &&& c)).toNat : Int), .int .i64 ((((5 * i) + 1) % 16 : Nat) : Int)] by rw [Kw.u32_and d b, Kw.u32_not d, Kw.u32_and (~~~d) c, Kw.u32_or (d &&& b) ((~~~d) &&& c), nmul64 5 i (by omega), nadd64 (5 * i) 1 (by omega), nrem64 ((5 * i) + 1) 16]) rfl (fun β => ?_)
      refine GL_end (by kernel_rfl) ?_
      refine thn_normal ?_
      refine G_ret ?_
      refine inb_ret (thn_ret (res2 (v := .int .u32 (((d &&& b) ||| ((~~~d) &&& c)).toNat : Int)) (x := .int .i64 ((((5 * i) + 1) % 16 : Nat) : Int)) rfl (by kernel_rfl) (by kernel_rfl) ?_))
      exact ⟨by simp [stepF, *], rfl⟩
    · --no
      replace h1 : ¬ ((i / 16) = 1) := eql_F h1
      refine G_seq ?_
      refine G_region ?_
      refine GL_segr 2 2 [(0, .int .i64 (i : Int)), (1, .int .u32 (b.toNat : Int)), (2, .int .u32 (c.toNat : Int)), (3, .int .u32 (d.toNat : Int)), (37, .bool ((i / 16) == 2))] rfl (by kernel_rfl) (show ([.int .i64 (i : Int), .int .u32 (b.toNat : Int), .int .u32 (c.toNat : Int), .int .u32 (d.toNat : Int), .bool (((i / 16 : Nat) : Int) == ((2 : Nat) : Int))] : List Value) = [.int .i64 (i : Int), .int .u32 (b.toNat : Int), .int .u32 (c.toNat : Int), .int .u32 (d.toNat : Int), .bool ((i / 16) == 2)] by rw [neql (i / 16) 2]) rfl (fun β => ?_)
      refine GL_end (by kernel_rfl) ?_
      refine thn_normal ?_
      refine G_cond ((i / 16) == 2) (by kernel_rfl) (fun h2 => ?_) (fun h2 => ?_)
      · --yes
        replace h2 : (i / 16) = 2 := eql_T h2
        refine G_seq ?_
        refine G_region ?_
        refine GL_segr 11 11 [(8, .int .u32 (((b ^^^ c) ^^^ d).toNat : Int)), (9, .int .i64 ((((3 * i) + 5) % 16 : Nat) : Int))] rfl (by kernel_rfl) (show ([.int .u32 (bxor .u32 (bxor .u32 (b.toNat : Int) (c.toNat : Int)) (d.toNat : Int)), .int .i64 ((IntKind.i64.wrap ((IntKind.i64.wrap (((3 : Nat) : Int) * (i : Int))) + ((5 : Nat) : Int))).tmod ((16 : Nat) : Int))] : List Value) = [.int .u32 (((b ^^^ c) ^^^ d).toNat : Int), .int .i64 ((((3 * i) + 5) % 16 : Nat) : Int)] by rw [Kw.u32_xor b c, Kw.u32_xor (b ^^^ c) d, nmul64 3 i (by omega), nadd64 (3 * i) 5 (by omega), nrem64 ((3 * i) + 5) 16]) rfl (fun β => ?_)
        refine GL_end (by kernel_rfl) ?_
        refine thn_normal ?_
        refine G_ret ?_
        refine inb_ret (thn_ret (res2 (v := .int .u32 (((b ^^^ c) ^^^ d).toNat : Int)) (x := .int .i64 ((((3 * i) + 5) % 16 : Nat) : Int)) rfl (by kernel_rfl) (by kernel_rfl) ?_))
        exact ⟨by simp [stepF, *], rfl⟩
      · --no
        replace h2 : ¬ ((i / 16) = 2) := eql_F h2
        refine G_skip ?_
        refine inb_normal ?_
        refine thn_normal ?_
        refine G_seq ?_
        refine G_region ?_
        refine GL_segr 11 11 [(8, .int .u32 ((c ^^^ (b ||| (~~~d))).toNat : Int)), (9, .int .i64 (((7 * i) % 16 : Nat) : Int))] rfl (by kernel_rfl) (show ([.int .u32 (bxor .u32 (c.toNat : Int) (bor .u32 (b.toNat : Int) (bxor .u32 (IntKind.u32.max) (d.toNat : Int)))), .int .i64 ((IntKind.i64.wrap (((7 : Nat) : Int) * (i : Int))).tmod ((16 : Nat) : Int))] : List Value) = [.int .u32 ((c ^^^ (b ||| (~~~d))).toNat : Int), .int .i64 (((7 * i) % 16 : Nat) : Int)] by rw [Kw.u32_not d, Kw.u32_or b (~~~d), Kw.u32_xor c (b ||| (~~~d)), nmul64 7 i (by omega), nrem64 (7 * i) 16]) rfl (fun β => ?_)
        refine GL_end (by kernel_rfl) ?_
        refine thn_normal ?_
        refine G_ret ?_
        refine res2 (v := .int .u32 ((c ^^^ (b ||| (~~~d))).toNat : Int)) (x := .int .i64 (((7 * i) % 16 : Nat) : Int)) rfl (by kernel_rfl) (by kernel_rfl) ?_
        exact ⟨by simp [stepF, *], rfl⟩
/-- (*posthorn/hash.row).word -/
theorem c_word (m : List UInt8) (hm : m.length = 64) (i : Nat) (hi : i < 16) {g : Nat} {w0 w : World} {F : List Chunk} (H : Sep w0 w (.blk g 101 (bs m) :: F)) : Ret Tryd.prog 61 #[.pointer (some ⟨g, 0, none⟩), .int .i64 (i : Int)] w (fun v w' => v = U (wordF m i) ∧ Sep w0 w' (.blk g 101 (bs m) :: F)) := by
  refine Ret_enter (args := [.pointer (some ⟨g, 0, none⟩), .int .i64 (i : Int)]) Tryd.func61 rfl (by kernel_rfl) ?_
  refine G_forget [(0, .pointer (some ⟨g, 0, none⟩)), (1, .int .i64 (i : Int))] (by kernel_rfl) (fun β => ?_)
  refine G_seq ?_
  refine G_region ?_
  refine GL_seg0 1 1 [(0, .pointer (some ⟨g, 0, none⟩)), (1, .int .i64 (i : Int))] rfl (by kernel_rfl) (fun β => ?_)
  refine GL_end (by kernel_rfl) ?_
  refine thn_normal ?_
  refine G_seq ?_
  refine G_region ?_
  refine GL_segr 3 3 [(0, .pointer (some ⟨g, 0, none⟩)), (1, .int .i64 ((i * 4 : Nat) : Int))] rfl (by kernel_rfl) (show ([.pointer (some ⟨g, 0, none⟩), .int .i64 (IntKind.i64.wrap ((i : Int) * ((4 : Nat) : Int)))] : List Value) = [.pointer (some ⟨g, 0, none⟩), .int .i64 ((i * 4 : Nat) : Int)] by rw [nmul64 i 4 (by omega)]) rfl (fun β => ?_)
  refine GL_end (by kernel_rfl) ?_
  refine thn_normal ?_
  refine G_seq ?_
  refine G_drawS (fun w => w.cell? ⟨g, (i * 4), none⟩ = some (.int .u8 ((m.getD (i * 4) 0).toNat : Int)) ∧ w.cell? ⟨g, ((i * 4) + 1), none⟩ = some (.int .u8 ((m.getD ((i * 4) + 1) 0).toNat : Int)) ∧ w.cell? ⟨g, ((i * 4) + 2), none⟩ = some (.int .u8 ((m.getD ((i * 4) + 2) 0).toNat : Int)) ∧ w.cell? ⟨g, ((i * 4) + 3), none⟩ = some (.int .u8 ((m.getD ((i * 4) + 3) 0).toNat : Int)) ∧ True) 34 34 (by kernel_rfl) (by kernel_rfl) H (fun w1 H => ?_)
  refine HL_takes [0, 1, 2] [(0, .pointer (some ⟨g, 0, none⟩)), (1, .int .i64 ((i * 4 : Nat) : Int)), (8, .int .i64 ((i * 4 : Nat) : Int)), (9, .pointer (some ⟨g, 0, none⟩))] (mkL 34 [0, 1, 2]) 31 (by kernel_rfl) rfl (by kernel_rfl) (fun _ => by kernel_rfl) ⟨((H.blk_cell (i := 0) rfl (i * 4)).trans (bs_get m (i * 4) (by omega))), ((H.blk_cell (i := 0) rfl ((i * 4) + 1)).trans (bs_get m ((i * 4) + 1) (by omega))), ((H.blk_cell (i := 0) rfl ((i * 4) + 2)).trans (bs_get m ((i * 4) + 2) (by omega))), ((H.blk_cell (i := 0) rfl ((i * 4) + 3)).trans (bs_get m ((i * 4) + 3) (by omega))), trivial⟩ (fun β => ?_)
  refine HL_t (i := 3) (m := 30) (fun w _ => (R_arrplace1 (t := 101) (e := 5) (n := 64) (g := g) (i := (i * 4)) (ki := .i64) (by kernel_rfl) (by kernel_rfl) (by omega))) rfl (by kernel_rfl) (by kernel_rfl) (by kernel_rfl) (by kernel_rfl) (by kernel_rfl) (by kernel_rfl) ⟨((H.blk_cell (i := 0) rfl (i * 4)).trans (bs_get m (i * 4) (by omega))), ((H.blk_cell (i := 0) rfl ((i * 4) + 1)).trans (bs_get m ((i * 4) + 1) (by omega))), ((H.blk_cell (i := 0) rfl ((i * 4) + 2)).trans (bs_get m ((i * 4) + 2) (by omega))), ((H.blk_cell (i := 0) rfl ((i * 4) + 3)).trans (bs_get m ((i * 4) + 3) (by omega))), trivial⟩ rfl ?_
  refine HL_t (i := 4) (m := 29) (fun w hS => run_load1 (t := 5) (by kernel_rfl) hS.1) rfl (by kernel_rfl) (by kernel_rfl) (by kernel_rfl) (by kernel_rfl) (by kernel_rfl) (by kernel_rfl) ⟨((H.blk_cell (i := 0) rfl (i * 4)).trans (bs_get m (i * 4) (by omega))), ((H.blk_cell (i := 0) rfl ((i * 4) + 1)).trans (bs_get m ((i * 4) + 1) (by omega))), ((H.blk_cell (i := 0) rfl ((i * 4) + 2)).trans (bs_get m ((i * 4) + 2) (by omega))), ((H.blk_cell (i := 0) rfl ((i * 4) + 3)).trans (bs_get m ((i * 4) + 3) (by omega))), trivial⟩ rfl ?_
  refine HL_takes [5, 6, 7, 8, 9] [(0, .pointer (some ⟨g, 0, none⟩)), (1, .int .i64 ((i * 4 : Nat) : Int)), (12, .int .u32 (IntKind.u32.wrap ((m.getD (i * 4) 0).toNat : Int))), (15, .int .i64 (IntKind.i64.wrap (((i * 4 : Nat) : Int) + ((1 : Nat) : Int)))), (16, .pointer (some ⟨g, 0, none⟩))] (mkL 34 [0, 1, 2, 3, 4, 5, 6, 7, 8, 9]) 24 (by kernel_rfl) rfl (by kernel_rfl) (fun _ => by kernel_rfl) ⟨((H.blk_cell (i := 0) rfl (i * 4)).trans (bs_get m (i * 4) (by omega))), ((H.blk_cell (i := 0) rfl ((i * 4) + 1)).trans (bs_get m ((i * 4) + 1) (by omega))), ((H.blk_cell (i := 0) rfl ((i * 4) + 2)).trans (bs_get m ((i * 4) + 2) (by omega))), ((H.blk_cell (i := 0) rfl ((i * 4) + 3)).trans (bs_get m ((i * 4) + 3) (by omega))), trivial⟩ (fun β => ?_)
  refine HL_forgetr [(0, .pointer (some ⟨g, 0, none⟩)), (1, .int .i64 ((i * 4 : Nat) : Int)), (12, .int .u32 (((m.getD (i * 4) 0).toUInt32).toNat : Int)), (15, .int .i64 (((i * 4) + 1 : Nat) : Int)), (16, .pointer (some ⟨g, 0, none⟩))] (show ([.pointer (some ⟨g, 0, none⟩), .int .i64 ((i * 4 : Nat) : Int), .int .u32 (IntKind.u32.wrap ((m.getD (i * 4) 0).toNat : Int)), .int .i64 (IntKind.i64.wrap (((i * 4 : Nat) : Int) + ((1 : Nat) : Int))), .pointer (some ⟨g, 0, none⟩)] : List Value) = [.pointer (some ⟨g, 0, none⟩), .int .i64 ((i * 4 : Nat) : Int), .int .u32 (((m.getD (i * 4) 0).toUInt32).toNat : Int), .int .i64 (((i * 4) + 1 : Nat) : Int), .pointer (some ⟨g, 0, none⟩)] by rw [Kw.u32_of_u8 (m.getD (i * 4) 0), nadd64 (i * 4) 1 (by omega)]) (by kernel_rfl) rfl (fun β => ?_)
  refine HL_t (i := 10) (m := 23) (fun w _ => (R_arrplace1 (t := 101) (e := 5) (n := 64) (g := g) (i := ((i * 4) + 1)) (ki := .i64) (by kernel_rfl) (by kernel_rfl) (by omega))) rfl (by kernel_rfl) (by kernel_rfl) (by kernel_rfl) (by kernel_rfl) (by kernel_rfl) (by kernel_rfl) ⟨((H.blk_cell (i := 0) rfl (i * 4)).trans (bs_get m (i * 4) (by omega))), ((H.blk_cell (i := 0) rfl ((i * 4) + 1)).trans (bs_get m ((i * 4) + 1) (by omega))), ((H.blk_cell (i := 0) rfl ((i * 4) + 2)).trans (bs_get m ((i * 4) + 2) (by omega))), ((H.blk_cell (i := 0) rfl ((i * 4) + 3)).trans (bs_get m ((i * 4) + 3) (by omega))), trivial⟩ rfl ?_
  refine HL_t (i := 11) (m := 22) (fun w hS => run_load1 (t := 5) (by kernel_rfl) hS.2.1) rfl (by kernel_rfl) (by kernel_rfl) (by kernel_rfl) (by kernel_rfl) (by kernel_rfl) (by kernel_rfl) ⟨((H.blk_cell (i := 0) rfl (i * 4)).trans (bs_get m (i * 4) (by omega))), ((H.blk_cell (i := 0) rfl ((i * 4) + 1)).trans (bs_get m ((i * 4) + 1) (by omega))), ((H.blk_cell (i := 0) rfl ((i * 4) + 2)).trans (bs_get m ((i * 4) + 2) (by omega))), ((H.blk_cell (i := 0) rfl ((i * 4) + 3)).trans (bs_get m ((i * 4) + 3) (by omega))), trivial⟩ rfl ?_
  refine HL_takes [12, 13, 14, 15, 16, 17, 18] [(0, .pointer (some ⟨g, 0, none⟩)), (1, .int .i64 ((i * 4 : Nat) : Int)), (21, .int .u32 (bor .u32 (((m.getD (i * 4) 0).toUInt32).toNat : Int) (IntKind.u32.wrap ((IntKind.u32.wrap ((m.getD ((i * 4) + 1) 0).toNat : Int)) * 2 ^ 8)))), (24, .int .i64 (IntKind.i64.wrap (((i * 4 : Nat) : Int) + ((2 : Nat) : Int)))), (25, .pointer (some ⟨g, 0, none⟩))] (mkL 34 [0, 1, 2, 3, 4, 5, 6, 7, 8, 9, 10, 11, 12, 13, 14, 15, 16, 17, 18]) 15 (by kernel_rfl) rfl (by kernel_rfl) (fun _ => by kernel_rfl) ⟨((H.blk_cell (i := 0) rfl (i * 4)).trans (bs_get m (i * 4) (by omega))), ((H.blk_cell (i := 0) rfl ((i * 4) + 1)).trans (bs_get m ((i * 4) + 1) (by omega))), ((H.blk_cell (i := 0) rfl ((i * 4) + 2)).trans (bs_get m ((i * 4) + 2) (by omega))), ((H.blk_cell (i := 0) rfl ((i * 4) + 3)).trans (bs_get m ((i * 4) + 3) (by omega))), trivial⟩ (fun β => ?_)
  refine HL_forgetr [(0, .pointer (some ⟨g, 0, none⟩)), (1, .int .i64 ((i * 4 : Nat) : Int)), (21, .int .u32 ((((m.getD (i * 4) 0).toUInt32) ||| (((m.getD ((i * 4) + 1) 0).toUInt32) <<< 8)).toNat : Int)), (24, .int .i64 (((i * 4) + 2 : Nat) : Int)), (25, .pointer (some ⟨g, 0, none⟩))] (show ([.pointer (some ⟨g, 0, none⟩), .int .i64 ((i * 4 : Nat) : Int), .int .u32 (bor .u32 (((m.getD (i * 4) 0).toUInt32).toNat : Int) (IntKind.u32.wrap ((IntKind.u32.wrap ((m.getD ((i * 4) + 1) 0).toNat : Int)) * 2 ^ 8))), .int .i64 (IntKind.i64.wrap (((i * 4 : Nat) : Int) + ((2 : Nat) : Int))), .pointer (some ⟨g, 0, none⟩)] : List Value) = [.pointer (some ⟨g, 0, none⟩), .int .i64 ((i * 4 : Nat) : Int), .int .u32 ((((m.getD (i * 4) 0).toUInt32) ||| (((m.getD ((i * 4) + 1) 0).toUInt32) <<< 8)).toNat : Int), .int .i64 (((i * 4) + 2 : Nat) : Int), .pointer (some ⟨g, 0, none⟩)] by rw [Kw.u32_of_u8 (m.getD ((i * 4) + 1) 0), Kw.u32_shl ((m.getD ((i * 4) + 1) 0).toUInt32) 8 8 rfl (by decide), Kw.u32_or ((m.getD (i * 4) 0).toUInt32) (((m.getD ((i * 4) + 1) 0).toUInt32) <<< 8), nadd64 (i * 4) 2 (by omega)]) (by kernel_rfl) rfl (fun β => ?_)
  refine HL_t (i := 19) (m := 14) (fun w _ => (R_arrplace1 (t := 101) (e := 5) (n := 64) (g := g) (i := ((i * 4) + 2)) (ki := .i64) (by kernel_rfl) (by kernel_rfl) (by omega))) rfl (by kernel_rfl) (by kernel_rfl) (by kernel_rfl) (by kernel_rfl) (by kernel_rfl) (by kernel_rfl) ⟨((H.blk_cell (i := 0) rfl (i * 4)).trans (bs_get m (i * 4) (by omega))), ((H.blk_cell (i := 0) rfl ((i * 4) + 1)).trans (bs_get m ((i * 4) + 1) (by omega))), ((H.blk_cell (i := 0) rfl ((i * 4) + 2)).trans (bs_get m ((i * 4) + 2) (by omega))), ((H.blk_cell (i := 0) rfl ((i * 4) + 3)).trans (bs_get m ((i * 4) + 3) (by omega))), trivial⟩ rfl ?_
  refine HL_t (i := 20) (m := 13) (fun w hS => run_load1 (t := 5) (by kernel_rfl) hS.2.2.1) rfl (by kernel_rfl) (by kernel_rfl) (by kernel_rfl) (by kernel_rfl) (by kernel_rfl) (by kernel_rfl) ⟨((H.blk_cell (i := 0) rfl (i * 4)).trans (bs_get m (i * 4) (by omega))), ((H.blk_cell (i := 0) rfl ((i * 4) + 1)).trans (bs_get m ((i * 4) + 1) (by omega))), ((H.blk_cell (i := 0) rfl ((i * 4) + 2)).trans (bs_get m ((i * 4) + 2) (by omega))), ((H.blk_cell (i := 0) rfl ((i * 4) + 3)).trans (bs_get m ((i * 4) + 3) (by omega))), trivial⟩ rfl ?_
  refine HL_takes [21, 22, 23, 24, 25, 26, 27] [(30, .int .u32 (bor .u32 ((((m.getD (i * 4) 0).toUInt32) ||| (((m.getD ((i * 4) + 1) 0).toUInt32) <<< 8)).toNat : Int) (IntKind.u32.wrap ((IntKind.u32.wrap ((m.getD ((i * 4) + 2) 0).toNat : Int)) * 2 ^ 16)))), (33, .int .i64 (IntKind.i64.wrap (((i * 4 : Nat) : Int) + ((3 : Nat) : Int)))), (34, .pointer (some ⟨g, 0, none⟩))] (mkL 34 [0, 1, 2, 3, 4, 5, 6, 7, 8, 9, 10, 11, 12, 13, 14, 15, 16, 17, 18, 19, 20, 21, 22, 23, 24, 25, 26, 27]) 6 (by kernel_rfl) rfl (by kernel_rfl) (fun _ => by kernel_rfl) ⟨((H.blk_cell (i := 0) rfl (i * 4)).trans (bs_get m (i * 4) (by omega))), ((H.blk_cell (i := 0) rfl ((i * 4) + 1)).trans (bs_get m ((i * 4) + 1) (by omega))), ((H.blk_cell (i := 0) rfl ((i * 4) + 2)).trans (bs_get m ((i * 4) + 2) (by omega))), ((H.blk_cell (i := 0) rfl ((i * 4) + 3)).trans (bs_get m ((i * 4) + 3) (by omega))), trivial⟩ (fun β => ?_)
  refine HL_forgetr [(30, .int .u32 (((((m.getD (i * 4) 0).toUInt32) ||| (((m.getD ((i * 4) + 1) 0).toUInt32) <<< 8)) ||| (((m.getD ((i * 4) + 2) 0).toUInt32) <<< 16)).toNat : Int)), (33, .int .i64 (((i * 4) + 3 : Nat) : Int)), (34, .pointer (some ⟨g, 0, none⟩))] (show ([.int .u32 (bor .u32 ((((m.getD (i * 4) 0).toUInt32) ||| (((m.getD ((i * 4) + 1) 0).toUInt32) <<< 8)).toNat : Int) (IntKind.u32.wrap ((IntKind.u32.wrap ((m.getD ((i * 4) + 2) 0).toNat : Int)) * 2 ^ 16))), .int .i64 (IntKind.i64.wrap (((i * 4 : Nat) : Int) + ((3 : Nat) : Int))), .pointer (some ⟨g, 0, none⟩)] : List Value) = [.int .u32 (((((m.getD (i * 4) 0).toUInt32) ||| (((m.getD ((i * 4) + 1) 0).toUInt32) <<< 8)) ||| (((m.getD ((i * 4) + 2) 0).toUInt32) <<< 16)).toNat : Int), .int .i64 (((i * 4) + 3 : Nat) : Int), .pointer (some ⟨g, 0, none⟩)] by rw [Kw.u32_of_u8 (m.getD ((i * 4) + 2) 0), Kw.u32_shl ((m.getD ((i * 4) + 2) 0).toUInt32) 16 16 rfl (by decide), Kw.u32_or (((m.getD (i * 4) 0).toUInt32) ||| (((m.getD ((i * 4) + 1) 0).toUInt32) <<< 8)) (((m.getD ((i * 4) + 2) 0).toUInt32) <<< 16), nadd64 (i * 4) 3 (by omega)]) (by kernel_rfl) rfl (fun β => ?_)
  refine HL_t (i := 28) (m := 5) (fun w _ => (R_arrplace1 (t := 101) (e := 5) (n := 64) (g := g) (i := ((i * 4) + 3)) (ki := .i64) (by kernel_rfl) (by kernel_rfl) (by omega))) rfl (by kernel_rfl) (by kernel_rfl) (by kernel_rfl) (by kernel_rfl) (by kernel_rfl) (by kernel_rfl) ⟨((H.blk_cell (i := 0) rfl (i * 4)).trans (bs_get m (i * 4) (by omega))), ((H.blk_cell (i := 0) rfl ((i * 4) + 1)).trans (bs_get m ((i * 4) + 1) (by omega))), ((H.blk_cell (i := 0) rfl ((i * 4) + 2)).trans (bs_get m ((i * 4) + 2) (by omega))), ((H.blk_cell (i := 0) rfl ((i * 4) + 3)).trans (bs_get m ((i * 4) + 3) (by omega))), trivial⟩ rfl ?_
  refine HL_t (i := 29) (m := 4) (fun w hS => run_load1 (t := 5) (by kernel_rfl) hS.2.2.2.1) rfl (by kernel_rfl) (by kernel_rfl) (by kernel_rfl) (by kernel_rfl) (by kernel_rfl) (by kernel_rfl) ⟨((H.blk_cell (i := 0) rfl (i * 4)).trans (bs_get m (i * 4) (by omega))), ((H.blk_cell (i := 0) rfl ((i * 4) + 1)).trans (bs_get m ((i * 4) + 1) (by omega))), ((H.blk_cell (i := 0) rfl ((i * 4) + 2)).trans (bs_get m ((i * 4) + 2) (by omega))), ((H.blk_cell (i := 0) rfl ((i * 4) + 3)).trans (bs_get m ((i * 4) + 3) (by omega))), trivial⟩ rfl ?_
  refine HL_takes [30, 31, 32, 33] [(4, .int .u32 (bor .u32 (((((m.getD (i * 4) 0).toUInt32) ||| (((m.getD ((i * 4) + 1) 0).toUInt32) <<< 8)) ||| (((m.getD ((i * 4) + 2) 0).toUInt32) <<< 16)).toNat : Int) (IntKind.u32.wrap ((IntKind.u32.wrap ((m.getD ((i * 4) + 3) 0).toNat : Int)) * 2 ^ 24))))] (mkL 34 [0, 1, 2, 3, 4, 5, 6, 7, 8, 9, 10, 11, 12, 13, 14, 15, 16, 17, 18, 19, 20, 21, 22, 23, 24, 25, 26, 27, 28, 29, 30, 31, 32, 33]) 0 (by kernel_rfl) rfl (by kernel_rfl) (fun _ => by kernel_rfl) ⟨((H.blk_cell (i := 0) rfl (i * 4)).trans (bs_get m (i * 4) (by omega))), ((H.blk_cell (i := 0) rfl ((i * 4) + 1)).trans (bs_get m ((i * 4) + 1) (by omega))), ((H.blk_cell (i := 0) rfl ((i * 4) + 2)).trans (bs_get m ((i * 4) + 2) (by omega))), ((H.blk_cell (i := 0) rfl ((i * 4) + 3)).trans (bs_get m ((i * 4) + 3) (by omega))), trivial⟩ (fun β => ?_)
  refine HL_forgetr [(4, .int .u32 ((((((m.getD (i * 4) 0).toUInt32) ||| (((m.getD ((i * 4) + 1) 0).toUInt32) <<< 8)) ||| (((m.getD ((i * 4) + 2) 0).toUInt32) <<< 16)) ||| (((m.getD ((i * 4) + 3) 0).toUInt32) <<< 24)).toNat : Int))] (show ([.int .u32 (bor .u32 (((((m.getD (i * 4) 0).toUInt32) ||| (((m.getD ((i * 4) + 1) 0).toUInt32) <<< 8)) ||| (((m.getD ((i * 4) + 2) 0).toUInt32) <<< 16)).toNat : Int) (IntKind.u32.wrap ((IntKind.u32.wrap ((m.getD ((i * 4) + 3) 0).toNat : Int)) * 2 ^ 24)))] : List Value) = [.int .u32 ((((((m.getD (i * 4) 0).toUInt32) ||| (((m.getD ((i * 4) + 1) 0).toUInt32) <<< 8)) ||| (((m.getD ((i * 4) + 2) 0).toUInt32) <<< 16)) ||| (((m.getD ((i * 4) + 3) 0).toUInt32) <<< 24)).toNat : Int)] by rw [Kw.u32_of_u8 (m.getD ((i * 4) + 3) 0), Kw.u32_shl ((m.getD ((i * 4) + 3) 0).toUInt32) 24 24 rfl (by decide), Kw.u32_or ((((m.getD (i * 4) 0).toUInt32) ||| (((m.getD ((i * 4) + 1) 0).toUInt32) <<< 8)) ||| (((m.getD ((i * 4) + 2) 0).toUInt32) <<< 16)) (((m.getD ((i * 4) + 3) 0).toUInt32) <<< 24)]) (by kernel_rfl) rfl (fun β => ?_)
  refine HL_forget [(4, .int .u32 ((((((m.getD (i * 4) 0).toUInt32) ||| (((m.getD ((i * 4) + 1) 0).toUInt32) <<< 8)) ||| (((m.getD ((i * 4) + 2) 0).toUInt32) <<< 16)) ||| (((m.getD ((i * 4) + 3) 0).toUInt32) <<< 24)).toNat : Int))] (by kernel_rfl) (fun β => ?_)
  refine HL_fin (by kernel_rfl) ?_
  refine thn_normal ?_
  refine G_ret ?_
  refine res1 (v := .int .u32 ((((((m.getD (i * 4) 0).toUInt32) ||| (((m.getD ((i * 4) + 1) 0).toUInt32) <<< 8)) ||| (((m.getD ((i * 4) + 2) 0).toUInt32) <<< 16)) ||| (((m.getD ((i * 4) + 3) 0).toUInt32) <<< 24)).toNat : Int)) rfl (by kernel_rfl) ?_
  exact ⟨rfl, H⟩
/-- (posthorn/hash.register).with -/
theorem c_with {w0 w : World} {F : List Chunk} (T : List UInt32) (hT : T.length = 64) (gT : Gl w0 0 (u32s T)) (R : List UInt8) (hR : R.length = 16) (gR : Gl w0 1 (bs R)) (r0 r1 r2 r3 : UInt32) (m : List UInt8) (hm : m.length = 64) (H : Sep w0 w F) : Ret Tryd.prog 52 #[.agg #[.int .u32 (r0.toNat : Int), .int .u32 (r1.toNat : Int), .int .u32 (r2.toNat : Int), .int .u32 (r3.toNat : Int)], .agg (bs m).toArray] w (fun v w' => v = .agg #[U (withF T R m (r0, r1, r2, r3)).1, U (withF T R m (r0, r1, r2, r3)).2.1, U (withF T R m (r0, r1, r2, r3)).2.2.1, U (withF T R m (r0, r1, r2, r3)).2.2.2] ∧ Sep w0 w' F) := by
  refine Ret_enter (args := [.agg #[.int .u32 (r0.toNat : Int), .int .u32 (r1.toNat : Int), .int .u32 (r2.toNat : Int), .int .u32 (r3.toNat : Int)], .agg (bs m).toArray]) Tryd.func52 rfl (by kernel_rfl) ?_
  refine G_forget [(0, .agg #[.int .u32 (r0.toNat : Int), .int .u32 (r1.toNat : Int), .int .u32 (r2.toNat : Int), .int .u32 (r3.toNat : Int)]), (1, .agg (bs m).toArray)] (by kernel_rfl) (fun β => ?_)
  refine G_seq ?_
  refine G_region ?_
  refine GL_new (V := fun g => .pointer (some ⟨g, 0, none⟩)) (l := [.int .u32 (r0.toNat : Int), .int .u32 (r1.toNat : Int), .int .u32 (r2.toNat : Int), .int .u32 (r3.toNat : Int)]) (t := 113) H rfl (by kernel_rfl) (by kernel_rfl) (by kernel_rfl) (fun g1 w2 H => ?_)
  refine GL_new (V := fun g => .pointer (some ⟨g, 0, none⟩)) (l := bs m) (t := 101) H rfl (by kernel_rfl) (by kernel_rfl) (by kernel_rfl) (fun g3 w4 H => ?_)
  refine GL_new (V := fun g => .pointer (some ⟨g, 0, none⟩)) (l := [.int .u32 ((0 : UInt32).toNat : Int), .int .u32 ((0 : UInt32).toNat : Int), .int .u32 ((0 : UInt32).toNat : Int), .int .u32 ((0 : UInt32).toNat : Int)]) (t := 113) H rfl (by kernel_rfl) (by kernel_rfl) (by kernel_rfl) (fun g5 w6 H => ?_)
  refine GL_end (by kernel_rfl) ?_
  refine thn_normal ?_
  refine G_seq ?_
  refine G_region ?_
  refine GL_v (run_loadN (t := 113) (vs := [.int .u32 (r0.toNat : Int), .int .u32 (r1.toNat : Int), .int .u32 (r2.toNat : Int), .int .u32 (r3.toNat : Int)]) (by kernel_rfl) (by kernel_rfl) (H.blk_cells (i := 2) rfl 0 _ ⟨_, rfl⟩)) rfl (by kernel_rfl) (by kernel_rfl) (by kernel_rfl) ?_
  refine GL_new (V := fun g => .pointer (some ⟨g, 0, none⟩)) (l := [.int .u32 ((0 : UInt32).toNat : Int), .int .u32 ((0 : UInt32).toNat : Int), .int .u32 ((0 : UInt32).toNat : Int), .int .u32 ((0 : UInt32).toNat : Int)]) (t := 113) H rfl (by kernel_rfl) (by kernel_rfl) (by kernel_rfl) (fun g7 w8 H => ?_)
  obtain ⟨w9, hr10, H⟩ := R_store (P := Tryd.prog) (t := 113) (v := .agg #[.int .u32 (r0.toNat : Int), .int .u32 (r1.toNat : Int), .int .u32 (r2.toNat : Int), .int .u32 (r3.toNat : Int)]) (off := 0) H (i := 0) rfl (by kernel_rfl) (by kernel_rfl) (by kernel_rfl)
  replace H : Sep w0 w9 (.blk g7 113 [.int .u32 (r0.toNat : Int), .int .u32 (r1.toNat : Int), .int .u32 (r2.toNat : Int), .int .u32 (r3.toNat : Int)] :: .blk g5 113 [.int .u32 ((0 : UInt32).toNat : Int), .int .u32 ((0 : UInt32).toNat : Int), .int .u32 ((0 : UInt32).toNat : Int), .int .u32 ((0 : UInt32).toNat : Int)] :: .blk g3 101 (bs m) :: .blk g1 113 [.int .u32 (r0.toNat : Int), .int .u32 (r1.toNat : Int), .int .u32 (r2.toNat : Int), .int .u32 (r3.toNat : Int)] :: F) := H
  refine GL_u hr10 rfl (by kernel_rfl) (by kernel_rfl) (by kernel_rfl) ?_
  refine GL_end (by kernel_rfl) ?_
  refine thn_normal ?_
  refine G_seq ?_
  refine G_seq ?_
  refine G_region ?_
  refine GL_seg0 1 1 [(2, .pointer (some ⟨g1, 0, none⟩)), (3, .pointer (some ⟨g3, 0, none⟩)), (4, .pointer (some ⟨g5, 0, none⟩)), (5, .pointer (some ⟨g7, 0, none⟩)), (12, .int .i64 ((0 : Nat) : Int))] rfl (by kernel_rfl) (fun β => ?_)
  refine GL_end (by kernel_rfl) ?_
  refine thn_normal ?_
  refine G_block ?_
  refine G_loop (X := Nat × UInt32 × UInt32 × UInt32 × UInt32) (fun ⟨i, x0, x1, x2, x3⟩ => [(2, .pointer (some ⟨g1, 0, none⟩)), (3, .pointer (some ⟨g3, 0, none⟩)), (4, .pointer (some ⟨g5, 0, none⟩)), (5, .pointer (some ⟨g7, 0, none⟩)), (12, .int .i64 (i : Int))]) (fun ⟨i, x0, x1, x2, x3⟩ w_ => Sep w0 w_ (.blk g7 113 [.int .u32 (x0.toNat : Int), .int .u32 (x1.toNat : Int), .int .u32 (x2.toNat : Int), .int .u32 (x3.toNat : Int)] :: .blk g5 113 [.int .u32 ((0 : UInt32).toNat : Int), .int .u32 ((0 : UInt32).toNat : Int), .int .u32 ((0 : UInt32).toNat : Int), .int .u32 ((0 : UInt32).toNat : Int)] :: .blk g3 101 (bs m) :: .blk g1 113 [.int .u32 (r0.toNat : Int), .int .u32 (r1.toNat : Int), .int .u32 (r2.toNat : Int), .int .u32 (r3.toNat : Int)] :: F) ∧ (i ≤ 64 ∧ (x0, x1, x2, x3) = roundsF T R m (r0, r1, r2, r3) i)) (fun ⟨i, x0, x1, x2, x3⟩ => 64 - i) (0, r0, r1, r2, r3) (by kernel_rfl) ⟨H, ⟨by omega, rfl⟩⟩ ?_
  rintro ⟨i, x0, x1, x2, x3⟩ β w11 ⟨H, hI⟩
  refine G_forget [(2, .pointer (some ⟨g1, 0, none⟩)), (3, .pointer (some ⟨g3, 0, none⟩)), (4, .pointer (some ⟨g5, 0, none⟩)), (5, .pointer (some ⟨g7, 0, none⟩)), (12, .int .i64 (i : Int))] (by kernel_rfl) (fun β => ?_)
  replace H : Sep w0 w11 (.blk g7 113 [.int .u32 (x0.toNat : Int), .int .u32 (x1.toNat : Int), .int .u32 (x2.toNat : Int), .int .u32 (x3.toNat : Int)] :: .blk g5 113 [.int .u32 ((0 : UInt32).toNat : Int), .int .u32 ((0 : UInt32).toNat : Int), .int .u32 ((0 : UInt32).toNat : Int), .int .u32 ((0 : UInt32).toNat : Int)] :: .blk g3 101 (bs m) :: .blk g1 113 [.int .u32 (r0.toNat : Int), .int .u32 (r1.toNat : Int), .int .u32 (r2.toNat : Int), .int .u32 (r3.toNat : Int)] :: F) := H
  replace hI : i ≤ 64 ∧ (x0, x1, x2, x3) = roundsF T R m (r0, r1, r2, r3) i := hI
  obtain ⟨hI1, hI2⟩ := hI
  refine G_seq ?_
  refine G_region ?_
  refine GL_segr 1 1 [(2, .pointer (some ⟨g1, 0, none⟩)), (3, .pointer (some ⟨g3, 0, none⟩)), (4, .pointer (some ⟨g5, 0, none⟩)), (5, .pointer (some ⟨g7, 0, none⟩)), (12, .int .i64 (i : Int)), (13, .bool (decide (i < 64)))] rfl (by kernel_rfl) (show ([.pointer (some ⟨g1, 0, none⟩), .pointer (some ⟨g3, 0, none⟩), .pointer (some ⟨g5, 0, none⟩), .pointer (some ⟨g7, 0, none⟩), .int .i64 (i : Int), .bool (decide ((i : Int) < ((64 : Nat) : Int)))] : List Value) = [.pointer (some ⟨g1, 0, none⟩), .pointer (some ⟨g3, 0, none⟩), .pointer (some ⟨g5, 0, none⟩), .pointer (some ⟨g7, 0, none⟩), .int .i64 (i : Int), .bool (decide (i < 64))] by rw [nlss i 64]) rfl (fun β => ?_)
  refine GL_end (by kernel_rfl) ?_
  refine thn_normal ?_
  refine G_seq ?_
  refine G_cond (decide (i < 64)) (by kernel_rfl) (fun h0 => ?_) (fun h0 => ?_)
  · --yes
    replace h0 : i < 64 := of_decide_eq_true h0
    refine G_skip ?_
    refine thn_normal ?_
    refine G_seq ?_
    refine G_block ?_
    refine G_seq ?_
    refine G_region ?_
    refine GL_seg0 2 2 [(2, .pointer (some ⟨g1, 0, none⟩)), (3, .pointer (some ⟨g3, 0, none⟩)), (4, .pointer (some ⟨g5, 0, none⟩)), (5, .pointer (some ⟨g7, 0, none⟩)), (6, .int .i64 (i : Int)), (12, .int .i64 (i : Int))] rfl (by kernel_rfl) (fun β => ?_)
    refine GL_end (by kernel_rfl) ?_
    refine thn_normal ?_
    refine G_seq ?_
    refine G_region ?_
    refine GL_seg0 2 2 [(2, .pointer (some ⟨g1, 0, none⟩)), (3, .pointer (some ⟨g3, 0, none⟩)), (4, .pointer (some ⟨g5, 0, none⟩)), (5, .pointer (some ⟨g7, 0, none⟩)), (6, .int .i64 (i : Int)), (12, .int .i64 (i : Int)), (16, .int .i64 (i : Int)), (17, .pointer (some ⟨g7, 1, none⟩))] rfl (by kernel_rfl) (fun β => ?_)
    refine GL_v (run_load1 (t := 111) (by kernel_rfl) ((H.blk_cell (i := 0) rfl 1).trans rfl)) rfl (by kernel_rfl) (by kernel_rfl) (by kernel_rfl) ?_
    refine GL_seg0 1 4 [(2, .pointer (some ⟨g1, 0, none⟩)), (3, .pointer (some ⟨g3, 0, none⟩)), (4, .pointer (some ⟨g5, 0, none⟩)), (5, .pointer (some ⟨g7, 0, none⟩)), (6, .int .i64 (i : Int)), (12, .int .i64 (i : Int)), (16, .int .i64 (i : Int)), (18, .int .u32 (x1.toNat : Int)), (19, .pointer (some ⟨g7, 2, none⟩))] rfl (by kernel_rfl) (fun β => ?_)
    refine GL_v (run_load1 (t := 111) (by kernel_rfl) ((H.blk_cell (i := 0) rfl 2).trans rfl)) rfl (by kernel_rfl) (by kernel_rfl) (by kernel_rfl) ?_
    refine GL_seg0 1 6 [(2, .pointer (some ⟨g1, 0, none⟩)), (3, .pointer (some ⟨g3, 0, none⟩)), (4, .pointer (some ⟨g5, 0, none⟩)), (5, .pointer (some ⟨g7, 0, none⟩)), (6, .int .i64 (i : Int)), (12, .int .i64 (i : Int)), (16, .int .i64 (i : Int)), (18, .int .u32 (x1.toNat : Int)), (20, .int .u32 (x2.toNat : Int)), (21, .pointer (some ⟨g7, 3, none⟩))] rfl (by kernel_rfl) (fun β => ?_)
    refine GL_v (run_load1 (t := 111) (by kernel_rfl) ((H.blk_cell (i := 0) rfl 3).trans rfl)) rfl (by kernel_rfl) (by kernel_rfl) (by kernel_rfl) ?_
    refine GL_call (f := 60) (args := #[.int .i64 (i : Int), .int .u32 (x1.toNat : Int), .int .u32 (x2.toNat : Int), .int .u32 (x3.toNat : Int)]) rfl (by kernel_rfl) (by kernel_rfl) (by kernel_rfl) (c_step i (by omega) x1 x2 x3 _) ?_
    rintro _ _ ⟨rfl, rfl⟩
    refine GL_seg0 5 13 [(2, .pointer (some ⟨g1, 0, none⟩)), (3, .pointer (some ⟨g3, 0, none⟩)), (4, .pointer (some ⟨g5, 0, none⟩)), (5, .pointer (some ⟨g7, 0, none⟩)), (6, .int .i64 (i : Int)), (7, .int .u32 (((stepF i x1 x2 x3).1).toNat : Int)), (8, .int .i64 (((stepF i x1 x2 x3).2 : Nat) : Int)), (12, .int .i64 (i : Int))] rfl (by kernel_rfl) (fun β => ?_)
    refine GL_end (by kernel_rfl) ?_
    refine thn_normal ?_
    refine G_seq ?_
    refine G_drawS (fun w => w.cell? ⟨g7, 0, none⟩ = some (.int .u32 (x0.toNat : Int)) ∧ w.cell? ⟨0, i, none⟩ = some (.int .u32 ((T.getD i 0).toNat : Int)) ∧ True) 12 12 (by kernel_rfl) (by kernel_rfl) H (fun w12 H => ?_)
    refine HL_takes [0, 1] [(2, .pointer (some ⟨g1, 0, none⟩)), (3, .pointer (some ⟨g3, 0, none⟩)), (4, .pointer (some ⟨g5, 0, none⟩)), (5, .pointer (some ⟨g7, 0, none⟩)), (6, .int .i64 (i : Int)), (7, .int .u32 (((stepF i x1 x2 x3).1).toNat : Int)), (8, .int .i64 (((stepF i x1 x2 x3).2 : Nat) : Int)), (12, .int .i64 (i : Int)), (26, .int .u32 (((stepF i x1 x2 x3).1).toNat : Int)), (27, .pointer (some ⟨g7, 0, none⟩))] (mkL 12 [0, 1]) 10 (by kernel_rfl) rfl (by kernel_rfl) (fun _ => by kernel_rfl) ⟨((H.blk_cell (i := 0) rfl 0).trans rfl), (gT.cell H (u32s_get T i (by omega))), trivial⟩ (fun β => ?_)
    refine HL_t (i := 2) (m := 9) (fun w hS => run_load1 (t := 111) (by kernel_rfl) hS.1) rfl (by kernel_rfl) (by kernel_rfl) (by kernel_rfl) (by kernel_rfl) (by kernel_rfl) (by kernel_rfl) ⟨((H.blk_cell (i := 0) rfl 0).trans rfl), (gT.cell H (u32s_get T i (by omega))), trivial⟩ rfl ?_
    refine HL_takes [3] [(2, .pointer (some ⟨g1, 0, none⟩)), (3, .pointer (some ⟨g3, 0, none⟩)), (4, .pointer (some ⟨g5, 0, none⟩)), (5, .pointer (some ⟨g7, 0, none⟩)), (6, .int .i64 (i : Int)), (7, .int .u32 (((stepF i x1 x2 x3).1).toNat : Int)), (8, .int .i64 (((stepF i x1 x2 x3).2 : Nat) : Int)), (12, .int .i64 (i : Int)), (26, .int .u32 (((stepF i x1 x2 x3).1).toNat : Int)), (28, .int .u32 (x0.toNat : Int)), (29, .int .i64 (i : Int))] (mkL 12 [0, 1, 2, 3]) 8 (by kernel_rfl) rfl (by kernel_rfl) (fun _ => by kernel_rfl) ⟨((H.blk_cell (i := 0) rfl 0).trans rfl), (gT.cell H (u32s_get T i (by omega))), trivial⟩ (fun β => ?_)
    refine HL_t (i := 4) (m := 7) (fun w _ => (R_arrplace1 (t := 130) (e := 111) (n := 64) (g := 0) (i := i) (ki := .i64) (by kernel_rfl) (by kernel_rfl) (by omega))) rfl (by kernel_rfl) (by kernel_rfl) (by kernel_rfl) (by kernel_rfl) (by kernel_rfl) (by kernel_rfl) ⟨((H.blk_cell (i := 0) rfl 0).trans rfl), (gT.cell H (u32s_get T i (by omega))), trivial⟩ rfl ?_
    refine HL_t (i := 5) (m := 6) (fun w hS => run_load1 (t := 111) (by kernel_rfl) hS.2.1) rfl (by kernel_rfl) (by kernel_rfl) (by kernel_rfl) (by kernel_rfl) (by kernel_rfl) (by kernel_rfl) ⟨((H.blk_cell (i := 0) rfl 0).trans rfl), (gT.cell H (u32s_get T i (by omega))), trivial⟩ rfl ?_
    refine HL_takes [6, 7] [(2, .pointer (some ⟨g1, 0, none⟩)), (3, .pointer (some ⟨g3, 0, none⟩)), (4, .pointer (some ⟨g5, 0, none⟩)), (5, .pointer (some ⟨g7, 0, none⟩)), (6, .int .i64 (i : Int)), (7, .int .u32 (((stepF i x1 x2 x3).1).toNat : Int)), (12, .int .i64 (i : Int)), (26, .int .u32 (((stepF i x1 x2 x3).1).toNat : Int)), (32, .int .u32 (IntKind.u32.wrap ((x0.toNat : Int) + ((T.getD i 0).toNat : Int)))), (33, .int .i64 (((stepF i x1 x2 x3).2 : Nat) : Int))] (mkL 12 [0, 1, 2, 3, 4, 5, 6, 7]) 4 (by kernel_rfl) rfl (by kernel_rfl) (fun _ => by kernel_rfl) ⟨((H.blk_cell (i := 0) rfl 0).trans rfl), (gT.cell H (u32s_get T i (by omega))), trivial⟩ (fun β => ?_)
    refine HL_forgetr [(2, .pointer (some ⟨g1, 0, none⟩)), (3, .pointer (some ⟨g3, 0, none⟩)), (4, .pointer (some ⟨g5, 0, none⟩)), (5, .pointer (some ⟨g7, 0, none⟩)), (6, .int .i64 (i : Int)), (7, .int .u32 (((stepF i x1 x2 x3).1).toNat : Int)), (12, .int .i64 (i : Int)), (26, .int .u32 (((stepF i x1 x2 x3).1).toNat : Int)), (32, .int .u32 ((x0 + (T.getD i 0)).toNat : Int)), (33, .int .i64 (((stepF i x1 x2 x3).2 : Nat) : Int))] (show ([.pointer (some ⟨g1, 0, none⟩), .pointer (some ⟨g3, 0, none⟩), .pointer (some ⟨g5, 0, none⟩), .pointer (some ⟨g7, 0, none⟩), .int .i64 (i : Int), .int .u32 (((stepF i x1 x2 x3).1).toNat : Int), .int .i64 (i : Int), .int .u32 (((stepF i x1 x2 x3).1).toNat : Int), .int .u32 (IntKind.u32.wrap ((x0.toNat : Int) + ((T.getD i 0).toNat : Int))), .int .i64 (((stepF i x1 x2 x3).2 : Nat) : Int)] : List Value) = [.pointer (some ⟨g1, 0, none⟩), .pointer (some ⟨g3, 0, none⟩), .pointer (some ⟨g5, 0, none⟩), .pointer (some ⟨g7, 0, none⟩), .int .i64 (i : Int), .int .u32 (((stepF i x1 x2 x3).1).toNat : Int), .int .i64 (i : Int), .int .u32 (((stepF i x1 x2 x3).1).toNat : Int), .int .u32 ((x0 + (T.getD i 0)).toNat : Int), .int .i64 (((stepF i x1 x2 x3).2 : Nat) : Int)] by rw [Kw.u32_add x0 (T.getD i 0)]) (by kernel_rfl) rfl (fun β => ?_)
    replace H := H.front (i := 2) rfl
    replace H : Sep w0 w12 (.blk g3 101 (bs m) :: .blk g7 113 [.int .u32 (x0.toNat : Int), .int .u32 (x1.toNat : Int), .int .u32 (x2.toNat : Int), .int .u32 (x3.toNat : Int)] :: .blk g5 113 [.int .u32 ((0 : UInt32).toNat : Int), .int .u32 ((0 : UInt32).toNat : Int), .int .u32 ((0 : UInt32).toNat : Int), .int .u32 ((0 : UInt32).toNat : Int)] :: .blk g1 113 [.int .u32 (r0.toNat : Int), .int .u32 (r1.toNat : Int), .int .u32 (r2.toNat : Int), .int .u32 (r3.toNat : Int)] :: F) := H
    refine HL_call (i := 8) (f := 61) (args := #[.pointer (some ⟨g3, 0, none⟩), .int .i64 (((stepF i x1 x2 x3).2 : Nat) : Int)]) rfl (by kernel_rfl) (by kernel_rfl) (by kernel_rfl) (by kernel_rfl) (c_word m (by assumption) ((stepF i x1 x2 x3).2) (by exact stepF_lt _ _ _) H) ?_
    rintro _ w13 ⟨rfl, H⟩
    refine ⟨(.inr ⟨((H.blk_cell (i := 1) rfl 0).trans rfl), (gT.cell H (u32s_get T i (by omega))), trivial⟩), ?_⟩
    refine HL_takes [9, 10, 11] [(2, .pointer (some ⟨g1, 0, none⟩)), (3, .pointer (some ⟨g3, 0, none⟩)), (4, .pointer (some ⟨g5, 0, none⟩)), (5, .pointer (some ⟨g7, 0, none⟩)), (6, .int .i64 (i : Int)), (7, .int .u32 (IntKind.u32.wrap ((((stepF i x1 x2 x3).1).toNat : Int) + (IntKind.u32.wrap (((x0 + (T.getD i 0)).toNat : Int) + ((wordF m ((stepF i x1 x2 x3).2)).toNat : Int)))))), (12, .int .i64 (i : Int))] (mkL 12 [0, 1, 2, 3, 4, 5, 6, 7, 8, 9, 10, 11]) 0 (by kernel_rfl) rfl (by kernel_rfl) (fun _ => by kernel_rfl) ⟨((H.blk_cell (i := 1) rfl 0).trans rfl), (gT.cell H (u32s_get T i (by omega))), trivial⟩ (fun β => ?_)
    refine HL_forgetr [(2, .pointer (some ⟨g1, 0, none⟩)), (3, .pointer (some ⟨g3, 0, none⟩)), (4, .pointer (some ⟨g5, 0, none⟩)), (5, .pointer (some ⟨g7, 0, none⟩)), (6, .int .i64 (i : Int)), (7, .int .u32 ((((stepF i x1 x2 x3).1) + ((x0 + (T.getD i 0)) + (wordF m ((stepF i x1 x2 x3).2)))).toNat : Int)), (12, .int .i64 (i : Int))] (show ([.pointer (some ⟨g1, 0, none⟩), .pointer (some ⟨g3, 0, none⟩), .pointer (some ⟨g5, 0, none⟩), .pointer (some ⟨g7, 0, none⟩), .int .i64 (i : Int), .int .u32 (IntKind.u32.wrap ((((stepF i x1 x2 x3).1).toNat : Int) + (IntKind.u32.wrap (((x0 + (T.getD i 0)).toNat : Int) + ((wordF m ((stepF i x1 x2 x3).2)).toNat : Int))))), .int .i64 (i : Int)] : List Value) = [.pointer (some ⟨g1, 0, none⟩), .pointer (some ⟨g3, 0, none⟩), .pointer (some ⟨g5, 0, none⟩), .pointer (some ⟨g7, 0, none⟩), .int .i64 (i : Int), .int .u32 ((((stepF i x1 x2 x3).1) + ((x0 + (T.getD i 0)) + (wordF m ((stepF i x1 x2 x3).2)))).toNat : Int), .int .i64 (i : Int)] by rw [Kw.u32_add (x0 + (T.getD i 0)) (wordF m ((stepF i x1 x2 x3).2)), Kw.u32_add ((stepF i x1 x2 x3).1) ((x0 + (T.getD i 0)) + (wordF m ((stepF i x1 x2 x3).2)))]) (by kernel_rfl) rfl (fun β => ?_)
    refine HL_forget [(2, .pointer (some ⟨g1, 0, none⟩)), (3, .pointer (some ⟨g3, 0, none⟩)), (4, .pointer (some ⟨g5, 0, none⟩)), (5, .pointer (some ⟨g7, 0, none⟩)), (6, .int .i64 (i : Int)), (7, .int .u32 ((((stepF i x1 x2 x3).1) + ((x0 + (T.getD i 0)) + (wordF m ((stepF i x1 x2 x3).2)))).toNat : Int)), (12, .int .i64 (i : Int))] (by kernel_rfl) (fun β => ?_)
    refine HL_fin (by kernel_rfl) ?_
    refine thn_normal ?_
    refine G_seq ?_
    refine G_region ?_
    refine GL_segr 6 6 [(2, .pointer (some ⟨g1, 0, none⟩)), (3, .pointer (some ⟨g3, 0, none⟩)), (4, .pointer (some ⟨g5, 0, none⟩)), (5, .pointer (some ⟨g7, 0, none⟩)), (7, .int .u32 ((((stepF i x1 x2 x3).1) + ((x0 + (T.getD i 0)) + (wordF m ((stepF i x1 x2 x3).2)))).toNat : Int)), (12, .int .i64 (i : Int)), (42, .int .i64 ((((i / 16) * 4) + (i % 4) : Nat) : Int))] rfl (by kernel_rfl) (show ([.pointer (some ⟨g1, 0, none⟩), .pointer (some ⟨g3, 0, none⟩), .pointer (some ⟨g5, 0, none⟩), .pointer (some ⟨g7, 0, none⟩), .int .u32 ((((stepF i x1 x2 x3).1) + ((x0 + (T.getD i 0)) + (wordF m ((stepF i x1 x2 x3).2)))).toNat : Int), .int .i64 (i : Int), .int .i64 (IntKind.i64.wrap ((IntKind.i64.wrap ((IntKind.i64.wrap ((i : Int).tdiv ((16 : Nat) : Int))) * ((4 : Nat) : Int))) + ((i : Int).tmod ((4 : Nat) : Int))))] : List Value) = [.pointer (some ⟨g1, 0, none⟩), .pointer (some ⟨g3, 0, none⟩), .pointer (some ⟨g5, 0, none⟩), .pointer (some ⟨g7, 0, none⟩), .int .u32 ((((stepF i x1 x2 x3).1) + ((x0 + (T.getD i 0)) + (wordF m ((stepF i x1 x2 x3).2)))).toNat : Int), .int .i64 (i : Int), .int .i64 ((((i / 16) * 4) + (i % 4) : Nat) : Int)] by rw [nquo64 i 16 (by omega), nmul64 (i / 16) 4 (by omega), nrem64 i 4, nadd64 ((i / 16) * 4) (i % 4) (by omega)]) rfl (fun β => ?_)
    refine GL_v (R_arrplace1 (t := 82) (e := 5) (n := 16) (g := 1) (i := (((i / 16) * 4) + (i % 4))) (ki := .i64) (by kernel_rfl) (by kernel_rfl) (by omega)) rfl (by kernel_rfl) (by kernel_rfl) (by kernel_rfl) ?_
    refine GL_v (run_load1 (t := 5) (by kernel_rfl) (gR.cell H (bs_get R (((i / 16) * 4) + (i % 4)) (by omega)))) rfl (by kernel_rfl) (by kernel_rfl) (by kernel_rfl) ?_
    refine GL_seg0 1 9 [(2, .pointer (some ⟨g1, 0, none⟩)), (3, .pointer (some ⟨g3, 0, none⟩)), (4, .pointer (some ⟨g5, 0, none⟩)), (5, .pointer (some ⟨g7, 0, none⟩)), (7, .int .u32 ((((stepF i x1 x2 x3).1) + ((x0 + (T.getD i 0)) + (wordF m ((stepF i x1 x2 x3).2)))).toNat : Int)), (9, .int .u8 ((R.getD (((i / 16) * 4) + (i % 4)) 0).toNat : Int)), (12, .int .i64 (i : Int))] rfl (by kernel_rfl) (fun β => ?_)
    refine GL_end (by kernel_rfl) ?_
    refine thn_normal ?_
    refine G_region ?_
    refine GL_seg0 1 1 [(2, .pointer (some ⟨g1, 0, none⟩)), (3, .pointer (some ⟨g3, 0, none⟩)), (4, .pointer (some ⟨g5, 0, none⟩)), (5, .pointer (some ⟨g7, 0, none⟩)), (7, .int .u32 ((((stepF i x1 x2 x3).1) + ((x0 + (T.getD i 0)) + (wordF m ((stepF i x1 x2 x3).2)))).toNat : Int)), (9, .int .u8 ((R.getD (((i / 16) * 4) + (i % 4)) 0).toNat : Int)), (12, .int .i64 (i : Int)), (45, .pointer (some ⟨g7, 3, none⟩))] rfl (by kernel_rfl) (fun β => ?_)
    refine GL_v (run_load1 (t := 111) (by kernel_rfl) ((H.blk_cell (i := 1) rfl 3).trans rfl)) rfl (by kernel_rfl) (by kernel_rfl) (by kernel_rfl) ?_
    refine GL_seg0 1 3 [(2, .pointer (some ⟨g1, 0, none⟩)), (3, .pointer (some ⟨g3, 0, none⟩)), (4, .pointer (some ⟨g5, 0, none⟩)), (5, .pointer (some ⟨g7, 0, none⟩)), (7, .int .u32 ((((stepF i x1 x2 x3).1) + ((x0 + (T.getD i 0)) + (wordF m ((stepF i x1 x2 x3).2)))).toNat : Int)), (9, .int .u8 ((R.getD (((i / 16) * 4) + (i % 4)) 0).toNat : Int)), (12, .int .i64 (i : Int)), (46, .int .u32 (x3.toNat : Int)), (47, .pointer (some ⟨g7, 1, none⟩))] rfl (by kernel_rfl) (fun β => ?_)
    refine GL_v (run_load1 (t := 111) (by kernel_rfl) ((H.blk_cell (i := 1) rfl 1).trans rfl)) rfl (by kernel_rfl) (by kernel_rfl) (by kernel_rfl) ?_
    refine GL_seg0 2 6 [(2, .pointer (some ⟨g1, 0, none⟩)), (3, .pointer (some ⟨g3, 0, none⟩)), (4, .pointer (some ⟨g5, 0, none⟩)), (5, .pointer (some ⟨g7, 0, none⟩)), (7, .int .u32 ((((stepF i x1 x2 x3).1) + ((x0 + (T.getD i 0)) + (wordF m ((stepF i x1 x2 x3).2)))).toNat : Int)), (9, .int .u8 ((R.getD (((i / 16) * 4) + (i % 4)) 0).toNat : Int)), (12, .int .i64 (i : Int)), (46, .int .u32 (x3.toNat : Int)), (48, .int .u32 (x1.toNat : Int)), (49, .int .u32 ((((stepF i x1 x2 x3).1) + ((x0 + (T.getD i 0)) + (wordF m ((stepF i x1 x2 x3).2)))).toNat : Int)), (50, .int .u8 ((R.getD (((i / 16) * 4) + (i % 4)) 0).toNat : Int))] rfl (by kernel_rfl) (fun β => ?_)
    refine GL_v (R_shl32 (t := 111) (x := (((stepF i x1 x2 x3).1) + ((x0 + (T.getD i 0)) + (wordF m ((stepF i x1 x2 x3).2))))) (s := (R.getD (((i / 16) * 4) + (i % 4)) 0).toNat) (k := .u8)) rfl (by kernel_rfl) (by kernel_rfl) (by kernel_rfl) ?_
    refine GL_segr 3 10 [(2, .pointer (some ⟨g1, 0, none⟩)), (3, .pointer (some ⟨g3, 0, none⟩)), (4, .pointer (some ⟨g5, 0, none⟩)), (5, .pointer (some ⟨g7, 0, none⟩)), (12, .int .i64 (i : Int)), (46, .int .u32 (x3.toNat : Int)), (48, .int .u32 (x1.toNat : Int)), (51, .int .u32 ((shl32 (((stepF i x1 x2 x3).1) + ((x0 + (T.getD i 0)) + (wordF m ((stepF i x1 x2 x3).2)))) ((R.getD (((i / 16) * 4) + (i % 4)) 0).toNat)).toNat : Int)), (52, .int .u32 ((((stepF i x1 x2 x3).1) + ((x0 + (T.getD i 0)) + (wordF m ((stepF i x1 x2 x3).2)))).toNat : Int)), (54, .int .u8 (((32 : UInt8) - (R.getD (((i / 16) * 4) + (i % 4)) 0)).toNat : Int))] rfl (by kernel_rfl) (show ([.pointer (some ⟨g1, 0, none⟩), .pointer (some ⟨g3, 0, none⟩), .pointer (some ⟨g5, 0, none⟩), .pointer (some ⟨g7, 0, none⟩), .int .i64 (i : Int), .int .u32 (x3.toNat : Int), .int .u32 (x1.toNat : Int), .int .u32 ((shl32 (((stepF i x1 x2 x3).1) + ((x0 + (T.getD i 0)) + (wordF m ((stepF i x1 x2 x3).2)))) ((R.getD (((i / 16) * 4) + (i % 4)) 0).toNat)).toNat : Int), .int .u32 ((((stepF i x1 x2 x3).1) + ((x0 + (T.getD i 0)) + (wordF m ((stepF i x1 x2 x3).2)))).toNat : Int), .int .u8 (IntKind.u8.wrap (((32 : UInt8).toNat : Int) - ((R.getD (((i / 16) * 4) + (i % 4)) 0).toNat : Int)))] : List Value) = [.pointer (some ⟨g1, 0, none⟩), .pointer (some ⟨g3, 0, none⟩), .pointer (some ⟨g5, 0, none⟩), .pointer (some ⟨g7, 0, none⟩), .int .i64 (i : Int), .int .u32 (x3.toNat : Int), .int .u32 (x1.toNat : Int), .int .u32 ((shl32 (((stepF i x1 x2 x3).1) + ((x0 + (T.getD i 0)) + (wordF m ((stepF i x1 x2 x3).2)))) ((R.getD (((i / 16) * 4) + (i % 4)) 0).toNat)).toNat : Int), .int .u32 ((((stepF i x1 x2 x3).1) + ((x0 + (T.getD i 0)) + (wordF m ((stepF i x1 x2 x3).2)))).toNat : Int), .int .u8 (((32 : UInt8) - (R.getD (((i / 16) * 4) + (i % 4)) 0)).toNat : Int)] by rw [Kw.u8_sub (32 : UInt8) (R.getD (((i / 16) * 4) + (i % 4)) 0)]) rfl (fun β => ?_)
    refine GL_v (R_shr32 (t := 111) (x := (((stepF i x1 x2 x3).1) + ((x0 + (T.getD i 0)) + (wordF m ((stepF i x1 x2 x3).2))))) (s := ((32 : UInt8) - (R.getD (((i / 16) * 4) + (i % 4)) 0)).toNat) (k := .u8)) rfl (by kernel_rfl) (by kernel_rfl) (by kernel_rfl) ?_
    refine GL_segr 3 14 [(2, .pointer (some ⟨g1, 0, none⟩)), (3, .pointer (some ⟨g3, 0, none⟩)), (4, .pointer (some ⟨g5, 0, none⟩)), (5, .pointer (some ⟨g7, 0, none⟩)), (12, .int .i64 (i : Int)), (46, .int .u32 (x3.toNat : Int)), (57, .int .u32 ((x1 + ((shl32 (((stepF i x1 x2 x3).1) + ((x0 + (T.getD i 0)) + (wordF m ((stepF i x1 x2 x3).2)))) ((R.getD (((i / 16) * 4) + (i % 4)) 0).toNat)) ||| (shr32 (((stepF i x1 x2 x3).1) + ((x0 + (T.getD i 0)) + (wordF m ((stepF i x1 x2 x3).2)))) (((32 : UInt8) - (R.getD (((i / 16) * 4) + (i % 4)) 0)).toNat)))).toNat : Int)), (58, .pointer (some ⟨g7, 1, none⟩))] rfl (by kernel_rfl) (show ([.pointer (some ⟨g1, 0, none⟩), .pointer (some ⟨g3, 0, none⟩), .pointer (some ⟨g5, 0, none⟩), .pointer (some ⟨g7, 0, none⟩), .int .i64 (i : Int), .int .u32 (x3.toNat : Int), .int .u32 (IntKind.u32.wrap ((x1.toNat : Int) + (bor .u32 ((shl32 (((stepF i x1 x2 x3).1) + ((x0 + (T.getD i 0)) + (wordF m ((stepF i x1 x2 x3).2)))) ((R.getD (((i / 16) * 4) + (i % 4)) 0).toNat)).toNat : Int) ((shr32 (((stepF i x1 x2 x3).1) + ((x0 + (T.getD i 0)) + (wordF m ((stepF i x1 x2 x3).2)))) (((32 : UInt8) - (R.getD (((i / 16) * 4) + (i % 4)) 0)).toNat)).toNat : Int)))), .pointer (some ⟨g7, 1, none⟩)] : List Value) = [.pointer (some ⟨g1, 0, none⟩), .pointer (some ⟨g3, 0, none⟩), .pointer (some ⟨g5, 0, none⟩), .pointer (some ⟨g7, 0, none⟩), .int .i64 (i : Int), .int .u32 (x3.toNat : Int), .int .u32 ((x1 + ((shl32 (((stepF i x1 x2 x3).1) + ((x0 + (T.getD i 0)) + (wordF m ((stepF i x1 x2 x3).2)))) ((R.getD (((i / 16) * 4) + (i % 4)) 0).toNat)) ||| (shr32 (((stepF i x1 x2 x3).1) + ((x0 + (T.getD i 0)) + (wordF m ((stepF i x1 x2 x3).2)))) (((32 : UInt8) - (R.getD (((i / 16) * 4) + (i % 4)) 0)).toNat)))).toNat : Int), .pointer (some ⟨g7, 1, none⟩)] by rw [Kw.u32_or (shl32 (((stepF i x1 x2 x3).1) + ((x0 + (T.getD i 0)) + (wordF m ((stepF i x1 x2 x3).2)))) ((R.getD (((i / 16) * 4) + (i % 4)) 0).toNat)) (shr32 (((stepF i x1 x2 x3).1) + ((x0 + (T.getD i 0)) + (wordF m ((stepF i x1 x2 x3).2)))) (((32 : UInt8) - (R.getD (((i / 16) * 4) + (i % 4)) 0)).toNat)), Kw.u32_add x1 ((shl32 (((stepF i x1 x2 x3).1) + ((x0 + (T.getD i 0)) + (wordF m ((stepF i x1 x2 x3).2)))) ((R.getD (((i / 16) * 4) + (i % 4)) 0).toNat)) ||| (shr32 (((stepF i x1 x2 x3).1) + ((x0 + (T.getD i 0)) + (wordF m ((stepF i x1 x2 x3).2)))) (((32 : UInt8) - (R.getD (((i / 16) * 4) + (i % 4)) 0)).toNat)))]) rfl (fun β => ?_)
    refine GL_v (run_load1 (t := 111) (by kernel_rfl) ((H.blk_cell (i := 1) rfl 1).trans rfl)) rfl (by kernel_rfl) (by kernel_rfl) (by kernel_rfl) ?_
    refine GL_seg0 1 16 [(2, .pointer (some ⟨g1, 0, none⟩)), (3, .pointer (some ⟨g3, 0, none⟩)), (4, .pointer (some ⟨g5, 0, none⟩)), (5, .pointer (some ⟨g7, 0, none⟩)), (12, .int .i64 (i : Int)), (46, .int .u32 (x3.toNat : Int)), (57, .int .u32 ((x1 + ((shl32 (((stepF i x1 x2 x3).1) + ((x0 + (T.getD i 0)) + (wordF m ((stepF i x1 x2 x3).2)))) ((R.getD (((i / 16) * 4) + (i % 4)) 0).toNat)) ||| (shr32 (((stepF i x1 x2 x3).1) + ((x0 + (T.getD i 0)) + (wordF m ((stepF i x1 x2 x3).2)))) (((32 : UInt8) - (R.getD (((i / 16) * 4) + (i % 4)) 0)).toNat)))).toNat : Int)), (59, .int .u32 (x1.toNat : Int)), (60, .pointer (some ⟨g7, 2, none⟩))] rfl (by kernel_rfl) (fun β => ?_)
    refine GL_v (run_load1 (t := 111) (by kernel_rfl) ((H.blk_cell (i := 1) rfl 2).trans rfl)) rfl (by kernel_rfl) (by kernel_rfl) (by kernel_rfl) ?_
    refine GL_seg0 1 18 [(2, .pointer (some ⟨g1, 0, none⟩)), (3, .pointer (some ⟨g3, 0, none⟩)), (4, .pointer (some ⟨g5, 0, none⟩)), (5, .pointer (some ⟨g7, 0, none⟩)), (12, .int .i64 (i : Int)), (62, .agg #[.int .u32 (x3.toNat : Int), .int .u32 ((x1 + ((shl32 (((stepF i x1 x2 x3).1) + ((x0 + (T.getD i 0)) + (wordF m ((stepF i x1 x2 x3).2)))) ((R.getD (((i / 16) * 4) + (i % 4)) 0).toNat)) ||| (shr32 (((stepF i x1 x2 x3).1) + ((x0 + (T.getD i 0)) + (wordF m ((stepF i x1 x2 x3).2)))) (((32 : UInt8) - (R.getD (((i / 16) * 4) + (i % 4)) 0)).toNat)))).toNat : Int), .int .u32 (x1.toNat : Int), .int .u32 (x2.toNat : Int)])] rfl (by kernel_rfl) (fun β => ?_)
    obtain ⟨w14, hr15, H⟩ := R_store (P := Tryd.prog) (t := 113) (v := .agg #[.int .u32 (x3.toNat : Int), .int .u32 ((x1 + ((shl32 (((stepF i x1 x2 x3).1) + ((x0 + (T.getD i 0)) + (wordF m ((stepF i x1 x2 x3).2)))) ((R.getD (((i / 16) * 4) + (i % 4)) 0).toNat)) ||| (shr32 (((stepF i x1 x2 x3).1) + ((x0 + (T.getD i 0)) + (wordF m ((stepF i x1 x2 x3).2)))) (((32 : UInt8) - (R.getD (((i / 16) * 4) + (i % 4)) 0)).toNat)))).toNat : Int), .int .u32 (x1.toNat : Int), .int .u32 (x2.toNat : Int)]) (off := 0) H (i := 1) rfl (by kernel_rfl) (by kernel_rfl) (by kernel_rfl)
    replace H : Sep w0 w14 (.blk g3 101 (bs m) :: .blk g7 113 [.int .u32 (x3.toNat : Int), .int .u32 ((x1 + ((shl32 (((stepF i x1 x2 x3).1) + ((x0 + (T.getD i 0)) + (wordF m ((stepF i x1 x2 x3).2)))) ((R.getD (((i / 16) * 4) + (i % 4)) 0).toNat)) ||| (shr32 (((stepF i x1 x2 x3).1) + ((x0 + (T.getD i 0)) + (wordF m ((stepF i x1 x2 x3).2)))) (((32 : UInt8) - (R.getD (((i / 16) * 4) + (i % 4)) 0)).toNat)))).toNat : Int), .int .u32 (x1.toNat : Int), .int .u32 (x2.toNat : Int)] :: .blk g5 113 [.int .u32 ((0 : UInt32).toNat : Int), .int .u32 ((0 : UInt32).toNat : Int), .int .u32 ((0 : UInt32).toNat : Int), .int .u32 ((0 : UInt32).toNat : Int)] :: .blk g1 113 [.int .u32 (r0.toNat : Int), .int .u32 (r1.toNat : Int), .int .u32 (r2.toNat : Int), .int .u32 (r3.toNat : Int)] :: F) := H
    refine GL_u hr15 rfl (by kernel_rfl) (by kernel_rfl) (by kernel_rfl) ?_
    refine GL_end (by kernel_rfl) ?_
    refine inb_normal ?_
    refine thn_normal ?_
    refine G_region ?_
    refine GL_segr 2 2 [(2, .pointer (some ⟨g1, 0, none⟩)), (3, .pointer (some ⟨g3, 0, none⟩)), (4, .pointer (some ⟨g5, 0, none⟩)), (5, .pointer (some ⟨g7, 0, none⟩)), (12, .int .i64 ((i + 1 : Nat) : Int))] rfl (by kernel_rfl) (show ([.pointer (some ⟨g1, 0, none⟩), .pointer (some ⟨g3, 0, none⟩), .pointer (some ⟨g5, 0, none⟩), .pointer (some ⟨g7, 0, none⟩), .int .i64 (IntKind.i64.wrap ((i : Int) + ((1 : Nat) : Int)))] : List Value) = [.pointer (some ⟨g1, 0, none⟩), .pointer (some ⟨g3, 0, none⟩), .pointer (some ⟨g5, 0, none⟩), .pointer (some ⟨g7, 0, none⟩), .int .i64 ((i + 1 : Nat) : Int)] by rw [nadd64 i 1 (by omega)]) rfl (fun β => ?_)
    refine GL_end (by kernel_rfl) ?_
    have hlt := stepF_lt (i := i) x1 x2 x3
    replace H := H.front (i := 3) rfl
    replace H := H.front (i := 1) rfl
    replace H := H.front (i := 3) rfl
    replace H := H.front (i := 3) rfl
    replace H : Sep w0 w14 (.blk g7 113 [.int .u32 (x3.toNat : Int), .int .u32 ((x1 + ((shl32 (((stepF i x1 x2 x3).1) + ((x0 + (T.getD i 0)) + (wordF m ((stepF i x1 x2 x3).2)))) ((R.getD (((i / 16) * 4) + (i % 4)) 0).toNat)) ||| (shr32 (((stepF i x1 x2 x3).1) + ((x0 + (T.getD i 0)) + (wordF m ((stepF i x1 x2 x3).2)))) (((32 : UInt8) - (R.getD (((i / 16) * 4) + (i % 4)) 0)).toNat)))).toNat : Int), .int .u32 (x1.toNat : Int), .int .u32 (x2.toNat : Int)] :: .blk g5 113 [.int .u32 ((0 : UInt32).toNat : Int), .int .u32 ((0 : UInt32).toNat : Int), .int .u32 ((0 : UInt32).toNat : Int), .int .u32 ((0 : UInt32).toNat : Int)] :: .blk g3 101 (bs m) :: .blk g1 113 [.int .u32 (r0.toNat : Int), .int .u32 (r1.toNat : Int), .int .u32 (r2.toNat : Int), .int .u32 (r3.toNat : Int)] :: F) := H
    refine thn_normal ⟨(i + 1, x3, (x1 + ((shl32 (((stepF i x1 x2 x3).1) + ((x0 + (T.getD i 0)) + (wordF m ((stepF i x1 x2 x3).2)))) ((R.getD (((i / 16) * 4) + (i % 4)) 0).toNat)) ||| (shr32 (((stepF i x1 x2 x3).1) + ((x0 + (T.getD i 0)) + (wordF m ((stepF i x1 x2 x3).2)))) (((32 : UInt8) - (R.getD (((i / 16) * 4) + (i % 4)) 0)).toNat)))), x1, x2), Agr_of_keys (by kernel_rfl), ⟨H, ?_⟩, ?_⟩
    · exact ⟨by omega, by rw [roundsF, ← hI2]; rfl⟩
    · first | (dsimp only; omega) | omega
  · --no
    replace h0 : ¬ (i < 64) := of_decide_eq_false h0
    refine G_exit (thn_exit (thn_exit (inb_hit ?_)))
    refine thn_normal ?_
    refine G_seq ?_
    refine G_seq ?_
    refine G_region ?_
    refine GL_seg0 1 1 [(2, .pointer (some ⟨g1, 0, none⟩)), (4, .pointer (some ⟨g5, 0, none⟩)), (5, .pointer (some ⟨g7, 0, none⟩)), (64, .int .i64 ((0 : Nat) : Int))] rfl (by kernel_rfl) (fun β => ?_)
    refine GL_end (by kernel_rfl) ?_
    refine thn_normal ?_
    refine G_block ?_
    refine G_loop (X := Nat × (List UInt32)) (fun ⟨k, rr⟩ => [(2, .pointer (some ⟨g1, 0, none⟩)), (4, .pointer (some ⟨g5, 0, none⟩)), (5, .pointer (some ⟨g7, 0, none⟩)), (64, .int .i64 (k : Int))]) (fun ⟨k, rr⟩ w_ => Sep w0 w_ (.blk g7 113 (u32s [x0, x1, x2, x3]) :: .blk g5 113 [.int .u32 ((0 : UInt32).toNat : Int), .int .u32 ((0 : UInt32).toNat : Int), .int .u32 ((0 : UInt32).toNat : Int), .int .u32 ((0 : UInt32).toNat : Int)] :: .blk g3 101 (bs m) :: .blk g1 113 (u32s rr) :: F) ∧ (k ≤ 4 ∧ rr = addF [x0, x1, x2, x3] [r0, r1, r2, r3] k)) (fun ⟨k, rr⟩ => 4 - k) (0, [r0, r1, r2, r3]) (by kernel_rfl) ⟨H, ⟨by omega, rfl⟩⟩ ?_
    rintro ⟨k, rr⟩ β w16 ⟨H, hI⟩
    refine G_forget [(2, .pointer (some ⟨g1, 0, none⟩)), (4, .pointer (some ⟨g5, 0, none⟩)), (5, .pointer (some ⟨g7, 0, none⟩)), (64, .int .i64 (k : Int))] (by kernel_rfl) (fun β => ?_)
    replace H : Sep w0 w16 (.blk g7 113 (u32s [x0, x1, x2, x3]) :: .blk g5 113 [.int .u32 ((0 : UInt32).toNat : Int), .int .u32 ((0 : UInt32).toNat : Int), .int .u32 ((0 : UInt32).toNat : Int), .int .u32 ((0 : UInt32).toNat : Int)] :: .blk g3 101 (bs m) :: .blk g1 113 (u32s rr) :: F) := H
    replace hI : k ≤ 4 ∧ rr = addF [x0, x1, x2, x3] [r0, r1, r2, r3] k := hI
    obtain ⟨hK1, hK2⟩ := hI
    have hrr : rr.length = 4 := by rw [hK2, addF_len]; rfl
    have hxx : [x0, x1, x2, x3].length = 4 := rfl
    refine G_seq ?_
    refine G_region ?_
    refine GL_segr 1 1 [(2, .pointer (some ⟨g1, 0, none⟩)), (4, .pointer (some ⟨g5, 0, none⟩)), (5, .pointer (some ⟨g7, 0, none⟩)), (64, .int .i64 (k : Int)), (65, .bool (decide (k < 4)))] rfl (by kernel_rfl) (show ([.pointer (some ⟨g1, 0, none⟩), .pointer (some ⟨g5, 0, none⟩), .pointer (some ⟨g7, 0, none⟩), .int .i64 (k : Int), .bool (decide ((k : Int) < ((4 : Nat) : Int)))] : List Value) = [.pointer (some ⟨g1, 0, none⟩), .pointer (some ⟨g5, 0, none⟩), .pointer (some ⟨g7, 0, none⟩), .int .i64 (k : Int), .bool (decide (k < 4))] by rw [nlss k 4]) rfl (fun β => ?_)
    refine GL_end (by kernel_rfl) ?_
    refine thn_normal ?_
    refine G_seq ?_
    refine G_cond (decide (k < 4)) (by kernel_rfl) (fun h1 => ?_) (fun h1 => ?_)
    · --yes
      replace h1 : k < 4 := of_decide_eq_true h1
      refine G_skip ?_
      refine thn_normal ?_
      refine G_seq ?_
      refine G_block ?_
      refine G_seq ?_
      refine G_region ?_
      refine GL_seg0 2 2 [(2, .pointer (some ⟨g1, 0, none⟩)), (4, .pointer (some ⟨g5, 0, none⟩)), (5, .pointer (some ⟨g7, 0, none⟩)), (10, .int .i64 (k : Int)), (64, .int .i64 (k : Int))] rfl (by kernel_rfl) (fun β => ?_)
      refine GL_end (by kernel_rfl) ?_
      refine thn_normal ?_
      refine G_drawS (fun w => w.cell? ⟨g1, k, none⟩ = some (.int .u32 ((rr.getD k 0).toNat : Int)) ∧ w.cell? ⟨g7, k, none⟩ = some (.int .u32 (([x0, x1, x2, x3].getD k 0).toNat : Int)) ∧ True) 8 9 (by kernel_rfl) (by kernel_rfl) H (fun w17 H => ?_)
      refine HL_takes [0] [(2, .pointer (some ⟨g1, 0, none⟩)), (4, .pointer (some ⟨g5, 0, none⟩)), (5, .pointer (some ⟨g7, 0, none⟩)), (10, .int .i64 (k : Int)), (64, .int .i64 (k : Int)), (67, .int .i64 (k : Int))] (mkL 9 [0]) 8 (by kernel_rfl) rfl (by kernel_rfl) (fun _ => by kernel_rfl) ⟨((H.blk_cell (i := 3) rfl k).trans (u32s_get rr k (by omega))), ((H.blk_cell (i := 0) rfl k).trans (u32s_get [x0, x1, x2, x3] k (by omega))), trivial⟩ (fun β => ?_)
      refine HL_t (i := 1) (m := 7) (fun w _ => (R_arrplace1 (t := 113) (e := 111) (n := 4) (g := g1) (i := k) (ki := .i64) (by kernel_rfl) (by kernel_rfl) (by omega))) rfl (by kernel_rfl) (by kernel_rfl) (by kernel_rfl) (by kernel_rfl) (by kernel_rfl) (by kernel_rfl) ⟨((H.blk_cell (i := 3) rfl k).trans (u32s_get rr k (by omega))), ((H.blk_cell (i := 0) rfl k).trans (u32s_get [x0, x1, x2, x3] k (by omega))), trivial⟩ rfl ?_
      refine HL_t (i := 2) (m := 6) (fun w hS => run_load1 (t := 111) (by kernel_rfl) hS.1) rfl (by kernel_rfl) (by kernel_rfl) (by kernel_rfl) (by kernel_rfl) (by kernel_rfl) (by kernel_rfl) ⟨((H.blk_cell (i := 3) rfl k).trans (u32s_get rr k (by omega))), ((H.blk_cell (i := 0) rfl k).trans (u32s_get [x0, x1, x2, x3] k (by omega))), trivial⟩ rfl ?_
      refine HL_takes [3] [(2, .pointer (some ⟨g1, 0, none⟩)), (4, .pointer (some ⟨g5, 0, none⟩)), (5, .pointer (some ⟨g7, 0, none⟩)), (64, .int .i64 (k : Int)), (67, .int .i64 (k : Int)), (69, .int .u32 ((rr.getD k 0).toNat : Int)), (70, .int .i64 (k : Int))] (mkL 9 [0, 1, 2, 3]) 5 (by kernel_rfl) rfl (by kernel_rfl) (fun _ => by kernel_rfl) ⟨((H.blk_cell (i := 3) rfl k).trans (u32s_get rr k (by omega))), ((H.blk_cell (i := 0) rfl k).trans (u32s_get [x0, x1, x2, x3] k (by omega))), trivial⟩ (fun β => ?_)
      refine HL_t (i := 4) (m := 4) (fun w _ => (R_arrplace1 (t := 113) (e := 111) (n := 4) (g := g7) (i := k) (ki := .i64) (by kernel_rfl) (by kernel_rfl) (by omega))) rfl (by kernel_rfl) (by kernel_rfl) (by kernel_rfl) (by kernel_rfl) (by kernel_rfl) (by kernel_rfl) ⟨((H.blk_cell (i := 3) rfl k).trans (u32s_get rr k (by omega))), ((H.blk_cell (i := 0) rfl k).trans (u32s_get [x0, x1, x2, x3] k (by omega))), trivial⟩ rfl ?_
      refine HL_t (i := 5) (m := 3) (fun w hS => run_load1 (t := 111) (by kernel_rfl) hS.2.1) rfl (by kernel_rfl) (by kernel_rfl) (by kernel_rfl) (by kernel_rfl) (by kernel_rfl) (by kernel_rfl) ⟨((H.blk_cell (i := 3) rfl k).trans (u32s_get rr k (by omega))), ((H.blk_cell (i := 0) rfl k).trans (u32s_get [x0, x1, x2, x3] k (by omega))), trivial⟩ rfl ?_
      refine HL_takes [6] [(2, .pointer (some ⟨g1, 0, none⟩)), (4, .pointer (some ⟨g5, 0, none⟩)), (5, .pointer (some ⟨g7, 0, none⟩)), (64, .int .i64 (k : Int)), (67, .int .i64 (k : Int)), (73, .int .u32 (IntKind.u32.wrap (((rr.getD k 0).toNat : Int) + (([x0, x1, x2, x3].getD k 0).toNat : Int))))] (mkL 9 [0, 1, 2, 3, 4, 5, 6]) 2 (by kernel_rfl) rfl (by kernel_rfl) (fun _ => by kernel_rfl) ⟨((H.blk_cell (i := 3) rfl k).trans (u32s_get rr k (by omega))), ((H.blk_cell (i := 0) rfl k).trans (u32s_get [x0, x1, x2, x3] k (by omega))), trivial⟩ (fun β => ?_)
      refine HL_forgetr [(2, .pointer (some ⟨g1, 0, none⟩)), (4, .pointer (some ⟨g5, 0, none⟩)), (5, .pointer (some ⟨g7, 0, none⟩)), (64, .int .i64 (k : Int)), (67, .int .i64 (k : Int)), (73, .int .u32 (((rr.getD k 0) + ([x0, x1, x2, x3].getD k 0)).toNat : Int))] (show ([.pointer (some ⟨g1, 0, none⟩), .pointer (some ⟨g5, 0, none⟩), .pointer (some ⟨g7, 0, none⟩), .int .i64 (k : Int), .int .i64 (k : Int), .int .u32 (IntKind.u32.wrap (((rr.getD k 0).toNat : Int) + (([x0, x1, x2, x3].getD k 0).toNat : Int)))] : List Value) = [.pointer (some ⟨g1, 0, none⟩), .pointer (some ⟨g5, 0, none⟩), .pointer (some ⟨g7, 0, none⟩), .int .i64 (k : Int), .int .i64 (k : Int), .int .u32 (((rr.getD k 0) + ([x0, x1, x2, x3].getD k 0)).toNat : Int)] by rw [Kw.u32_add (rr.getD k 0) ([x0, x1, x2, x3].getD k 0)]) (by kernel_rfl) rfl (fun β => ?_)
      refine HL_t (i := 7) (m := 1) (fun w _ => (R_arrplace1 (t := 113) (e := 111) (n := 4) (g := g1) (i := k) (ki := .i64) (by kernel_rfl) (by kernel_rfl) (by omega))) rfl (by kernel_rfl) (by kernel_rfl) (by kernel_rfl) (by kernel_rfl) (by kernel_rfl) (by kernel_rfl) ⟨((H.blk_cell (i := 3) rfl k).trans (u32s_get rr k (by omega))), ((H.blk_cell (i := 0) rfl k).trans (u32s_get [x0, x1, x2, x3] k (by omega))), trivial⟩ rfl ?_
      obtain ⟨w18, hr19, H⟩ := R_bstore32 (P := Tryd.prog) (t := 111) (j := k) (b := ((rr.getD k 0) + ([x0, x1, x2, x3].getD k 0))) H (i := 3) rfl (by kernel_rfl) (by omega)
      replace H : Sep w0 w18 (.blk g7 113 (u32s [x0, x1, x2, x3]) :: .blk g5 113 [.int .u32 ((0 : UInt32).toNat : Int), .int .u32 ((0 : UInt32).toNat : Int), .int .u32 ((0 : UInt32).toNat : Int), .int .u32 ((0 : UInt32).toNat : Int)] :: .blk g3 101 (bs m) :: .blk g1 113 (u32s (rr.set k ((rr.getD k 0) + ([x0, x1, x2, x3].getD k 0)))) :: F) := H
      refine HL_u (i := 8) hr19 rfl (by kernel_rfl) (by kernel_rfl) (by kernel_rfl) (by kernel_rfl) (.inl (by kernel_rfl)) ?_
      refine HL_forget [(2, .pointer (some ⟨g1, 0, none⟩)), (4, .pointer (some ⟨g5, 0, none⟩)), (5, .pointer (some ⟨g7, 0, none⟩)), (64, .int .i64 (k : Int))] (by kernel_rfl) (fun β => ?_)
      refine HL_fin (by kernel_rfl) ?_
      refine inb_normal ?_
      refine thn_normal ?_
      refine G_region ?_
      refine GL_segr 2 2 [(2, .pointer (some ⟨g1, 0, none⟩)), (4, .pointer (some ⟨g5, 0, none⟩)), (5, .pointer (some ⟨g7, 0, none⟩)), (64, .int .i64 ((k + 1 : Nat) : Int))] rfl (by kernel_rfl) (show ([.pointer (some ⟨g1, 0, none⟩), .pointer (some ⟨g5, 0, none⟩), .pointer (some ⟨g7, 0, none⟩), .int .i64 (IntKind.i64.wrap ((k : Int) + ((1 : Nat) : Int)))] : List Value) = [.pointer (some ⟨g1, 0, none⟩), .pointer (some ⟨g5, 0, none⟩), .pointer (some ⟨g7, 0, none⟩), .int .i64 ((k + 1 : Nat) : Int)] by rw [nadd64 k 1 (by omega)]) rfl (fun β => ?_)
      refine GL_end (by kernel_rfl) ?_
      refine thn_normal ⟨(k + 1, rr.set k ((rr.getD k 0) + ([x0, x1, x2, x3].getD k 0))), Agr_of_keys (by kernel_rfl), ⟨H, ?_⟩, ?_⟩
      · exact ⟨by omega, by rw [addF, ← hK2]⟩
      · first | (dsimp only; omega) | omega
    · --no
      replace h1 : ¬ (k < 4) := of_decide_eq_false h1
      refine G_exit (thn_exit (thn_exit (inb_hit ?_)))
      refine thn_normal ?_
      refine G_seq ?_
      refine G_region ?_
      refine GL_v (run_loadN (t := 113) (vs := u32s rr) (by kernel_rfl) (by rw [u32s_length, show (rr).length = 4 from by first | (simp; done) | (simp [*]; done) | assumption | (simp; omega) | rfl]; kernel_rfl) (H.blk_cells (i := 3) rfl 0 _ ⟨[], List.append_nil _⟩)) rfl (by kernel_rfl) (by kernel_rfl) (by kernel_rfl) ?_
      obtain ⟨w20, hr21, H⟩ := R_storeL (P := Tryd.prog) (t := 113) (xs := u32s rr) H (i := 1) rfl (by rw [u32s_length, show (rr).length = 4 from by first | (simp; done) | (simp [*]; done) | assumption | (simp; omega) | rfl]; kernel_rfl) (by rw [u32s_length, show (rr).length = 4 from by first | (simp; done) | (simp [*]; done) | assumption | (simp; omega) | rfl]; rfl) (u32s_one _)
      replace H : Sep w0 w20 (.blk g7 113 (u32s [x0, x1, x2, x3]) :: .blk g5 113 (u32s rr) :: .blk g3 101 (bs m) :: .blk g1 113 (u32s rr) :: F) := H
      refine GL_u hr21 rfl (by kernel_rfl) (by kernel_rfl) (by kernel_rfl) ?_
      refine GL_end (by kernel_rfl) ?_
      refine thn_normal ?_
      refine G_ret ?_
      refine resC (t := 113) (vs := u32s rr) rfl (by kernel_rfl) (by kernel_rfl) (by rw [u32s_length, show (rr).length = 4 from by first | (simp; done) | (simp [*]; done) | assumption | (simp; omega) | rfl]; kernel_rfl) (H.blk_cells (i := 1) rfl 0 _ ⟨_, List.append_nil _⟩) ?_
      replace H := H.drop 3
      replace H := H.drop 2
      replace H := H.drop 1
      replace H := H.drop 0
      replace H : Sep w0 w20 (F) := H
      have HF := H
      have hi : i = 64 := by omega
      subst hi
      have hk : k = 4 := by omega
      subst hk
      subst hK2
      refine ⟨?_, HF⟩
      rw [withF, ← hI2]
      rfl
/-- (posthorn/hash.register).digest -/
theorem c_hdigest (r0 r1 r2 r3 : UInt32) {w0 w : World} {F : List Chunk} (H : Sep w0 w F) : Ret Tryd.prog 53 #[.agg #[.int .u32 (r0.toNat : Int), .int .u32 (r1.toNat : Int), .int .u32 (r2.toNat : Int), .int .u32 (r3.toNat : Int)]] w (fun v w' => v = .agg (bs (digF (r0, r1, r2, r3))).toArray ∧ Sep w0 w' F) := by
  refine Ret_enter (args := [.agg #[.int .u32 (r0.toNat : Int), .int .u32 (r1.toNat : Int), .int .u32 (r2.toNat : Int), .int .u32 (r3.toNat : Int)]]) Tryd.func53 rfl (by kernel_rfl) ?_
  refine G_forget [(0, .agg #[.int .u32 (r0.toNat : Int), .int .u32 (r1.toNat : Int), .int .u32 (r2.toNat : Int), .int .u32 (r3.toNat : Int)])] (by kernel_rfl) (fun β => ?_)
  refine G_seq ?_
  refine G_region ?_
  refine GL_new (V := fun g => .pointer (some ⟨g, 0, none⟩)) (l := [.int .u32 (r0.toNat : Int), .int .u32 (r1.toNat : Int), .int .u32 (r2.toNat : Int), .int .u32 (r3.toNat : Int)]) (t := 113) H rfl (by kernel_rfl) (by kernel_rfl) (by kernel_rfl) (fun g1 w2 H => ?_)
  refine GL_new (V := fun g => .pointer (some ⟨g, 0, none⟩)) (l := bs (List.replicate 16 (0 : UInt8))) (t := 82) H rfl (by kernel_rfl) (by kernel_rfl) (by kernel_rfl) (fun g3 w4 H => ?_)
  refine GL_end (by kernel_rfl) ?_
  refine thn_normal ?_
  refine G_seq ?_
  refine G_region ?_
  refine GL_new (V := fun g => .pointer (some ⟨g, 0, none⟩)) (l := bs (List.replicate 16 (0 : UInt8))) (t := 82) H rfl (by kernel_rfl) (by kernel_rfl) (by kernel_rfl) (fun g5 w6 H => ?_)
  refine GL_end (by kernel_rfl) ?_
  refine thn_normal ?_
  refine G_seq ?_
  refine G_seq ?_
  refine G_region ?_
  refine GL_v (run_loadN (t := 113) (vs := [.int .u32 (r0.toNat : Int), .int .u32 (r1.toNat : Int), .int .u32 (r2.toNat : Int), .int .u32 (r3.toNat : Int)]) (by kernel_rfl) (by kernel_rfl) (H.blk_cells (i := 2) rfl 0 _ ⟨_, rfl⟩)) rfl (by kernel_rfl) (by kernel_rfl) (by kernel_rfl) ?_
  refine GL_seg0 1 2 [(2, .pointer (some ⟨g3, 0, none⟩)), (3, .pointer (some ⟨g5, 0, none⟩)), (7, .agg #[.int .u32 (r0.toNat : Int), .int .u32 (r1.toNat : Int), .int .u32 (r2.toNat : Int), .int .u32 (r3.toNat : Int)]), (8, .int .i64 ((0 : Nat) : Int))] rfl (by kernel_rfl) (fun β => ?_)
  refine GL_end (by kernel_rfl) ?_
  refine thn_normal ?_
  refine G_block ?_
  refine G_loop (X := Nat × (List UInt8)) (fun ⟨i, o⟩ => [(2, .pointer (some ⟨g3, 0, none⟩)), (3, .pointer (some ⟨g5, 0, none⟩)), (7, .agg #[.int .u32 (r0.toNat : Int), .int .u32 (r1.toNat : Int), .int .u32 (r2.toNat : Int), .int .u32 (r3.toNat : Int)]), (8, .int .i64 (i : Int))]) (fun ⟨i, o⟩ w_ => Sep w0 w_ (.blk g5 82 (bs o) :: .blk g3 82 (bs (List.replicate 16 (0 : UInt8))) :: .blk g1 113 [.int .u32 (r0.toNat : Int), .int .u32 (r1.toNat : Int), .int .u32 (r2.toNat : Int), .int .u32 (r3.toNat : Int)] :: F) ∧ (i ≤ 4 ∧ o = digK [r0, r1, r2, r3] (4 * i))) (fun ⟨i, o⟩ => 4 - i) (0, List.replicate 16 0) (by kernel_rfl) ⟨H, ⟨by omega, rfl⟩⟩ ?_
  rintro ⟨i, o⟩ β w7 ⟨H, hI⟩
  refine G_forget [(2, .pointer (some ⟨g3, 0, none⟩)), (3, .pointer (some ⟨g5, 0, none⟩)), (7, .agg #[.int .u32 (r0.toNat : Int), .int .u32 (r1.toNat : Int), .int .u32 (r2.toNat : Int), .int .u32 (r3.toNat : Int)]), (8, .int .i64 (i : Int))] (by kernel_rfl) (fun β => ?_)
  replace H : Sep w0 w7 (.blk g5 82 (bs o) :: .blk g3 82 (bs (List.replicate 16 (0 : UInt8))) :: .blk g1 113 [.int .u32 (r0.toNat : Int), .int .u32 (r1.toNat : Int), .int .u32 (r2.toNat : Int), .int .u32 (r3.toNat : Int)] :: F) := H
  replace hI : i ≤ 4 ∧ o = digK [r0, r1, r2, r3] (4 * i) := hI
  obtain ⟨hI1, hI2⟩ := hI
  have hol : o.length = 16 := by rw [hI2, digK_len]
  refine G_seq ?_
  refine G_region ?_
  refine GL_segr 1 1 [(2, .pointer (some ⟨g3, 0, none⟩)), (3, .pointer (some ⟨g5, 0, none⟩)), (7, .agg #[.int .u32 (r0.toNat : Int), .int .u32 (r1.toNat : Int), .int .u32 (r2.toNat : Int), .int .u32 (r3.toNat : Int)]), (8, .int .i64 (i : Int)), (9, .bool (decide (i < 4)))] rfl (by kernel_rfl) (show ([.pointer (some ⟨g3, 0, none⟩), .pointer (some ⟨g5, 0, none⟩), .agg #[.int .u32 (r0.toNat : Int), .int .u32 (r1.toNat : Int), .int .u32 (r2.toNat : Int), .int .u32 (r3.toNat : Int)], .int .i64 (i : Int), .bool (decide ((i : Int) < ((4 : Nat) : Int)))] : List Value) = [.pointer (some ⟨g3, 0, none⟩), .pointer (some ⟨g5, 0, none⟩), .agg #[.int .u32 (r0.toNat : Int), .int .u32 (r1.toNat : Int), .int .u32 (r2.toNat : Int), .int .u32 (r3.toNat : Int)], .int .i64 (i : Int), .bool (decide (i < 4))] by rw [nlss i 4]) rfl (fun β => ?_)
  refine GL_end (by kernel_rfl) ?_
  refine thn_normal ?_
  refine G_seq ?_
  refine G_cond (decide (i < 4)) (by kernel_rfl) (fun h0 => ?_) (fun h0 => ?_)
  · --yes
    replace h0 : i < 4 := of_decide_eq_true h0
    refine G_skip ?_
    refine thn_normal ?_
    refine G_seq ?_
    refine G_block ?_
    refine G_seq ?_
    refine G_region ?_
    refine GL_seg0 1 1 [(2, .pointer (some ⟨g3, 0, none⟩)), (3, .pointer (some ⟨g5, 0, none⟩)), (7, .agg #[.int .u32 (r0.toNat : Int), .int .u32 (r1.toNat : Int), .int .u32 (r2.toNat : Int), .int .u32 (r3.toNat : Int)]), (8, .int .i64 (i : Int)), (10, .int .i64 (i : Int))] rfl (by kernel_rfl) (fun β => ?_)
    refine GL_v (R_aggidx (t := 113) (e := 111) (n := 4) (i := i) (ki := .i64) (xs := u32s ([r0, r1, r2, r3] : List UInt32)) (by kernel_rfl) (by kernel_rfl) (by kernel_rfl) (by omega) (u32s_get _ _ (by first | omega | (simp; omega)))) rfl (by kernel_rfl) (by kernel_rfl) (by kernel_rfl) ?_
    refine GL_seg0 2 4 [(2, .pointer (some ⟨g3, 0, none⟩)), (3, .pointer (some ⟨g5, 0, none⟩)), (4, .int .i64 (i : Int)), (5, .int .u32 ((([r0, r1, r2, r3] : List UInt32).getD i 0).toNat : Int)), (7, .agg #[.int .u32 (r0.toNat : Int), .int .u32 (r1.toNat : Int), .int .u32 (r2.toNat : Int), .int .u32 (r3.toNat : Int)]), (8, .int .i64 (i : Int))] rfl (by kernel_rfl) (fun β => ?_)
    refine GL_end (by kernel_rfl) ?_
    refine thn_normal ?_
    refine G_seq ?_
    refine G_region ?_
    refine GL_seg0 1 1 [(2, .pointer (some ⟨g3, 0, none⟩)), (3, .pointer (some ⟨g5, 0, none⟩)), (4, .int .i64 (i : Int)), (5, .int .u32 ((([r0, r1, r2, r3] : List UInt32).getD i 0).toNat : Int)), (7, .agg #[.int .u32 (r0.toNat : Int), .int .u32 (r1.toNat : Int), .int .u32 (r2.toNat : Int), .int .u32 (r3.toNat : Int)]), (8, .int .i64 (i : Int)), (12, .int .i64 ((0 : Nat) : Int))] rfl (by kernel_rfl) (fun β => ?_)
    refine GL_end (by kernel_rfl) ?_
    refine thn_normal ?_
    refine G_block ?_
    refine G_loop (X := Nat × (List UInt8)) (fun ⟨k, q⟩ => [(2, .pointer (some ⟨g3, 0, none⟩)), (3, .pointer (some ⟨g5, 0, none⟩)), (4, .int .i64 (i : Int)), (5, .int .u32 ((([r0, r1, r2, r3] : List UInt32).getD i 0).toNat : Int)), (7, .agg #[.int .u32 (r0.toNat : Int), .int .u32 (r1.toNat : Int), .int .u32 (r2.toNat : Int), .int .u32 (r3.toNat : Int)]), (8, .int .i64 (i : Int)), (12, .int .i64 (k : Int))]) (fun ⟨k, q⟩ w_ => Sep w0 w_ (.blk g5 82 (bs q) :: .blk g3 82 (bs (List.replicate 16 (0 : UInt8))) :: .blk g1 113 [.int .u32 (r0.toNat : Int), .int .u32 (r1.toNat : Int), .int .u32 (r2.toNat : Int), .int .u32 (r3.toNat : Int)] :: F) ∧ (k ≤ 4 ∧ q = digK [r0, r1, r2, r3] (4 * i + k))) (fun ⟨k, q⟩ => 4 - k) (0, o) (by kernel_rfl) ⟨H, ⟨by omega, hI2⟩⟩ ?_
    rintro ⟨k, q⟩ β w8 ⟨H, hI⟩
    refine G_forget [(2, .pointer (some ⟨g3, 0, none⟩)), (3, .pointer (some ⟨g5, 0, none⟩)), (4, .int .i64 (i : Int)), (5, .int .u32 ((([r0, r1, r2, r3] : List UInt32).getD i 0).toNat : Int)), (7, .agg #[.int .u32 (r0.toNat : Int), .int .u32 (r1.toNat : Int), .int .u32 (r2.toNat : Int), .int .u32 (r3.toNat : Int)]), (8, .int .i64 (i : Int)), (12, .int .i64 (k : Int))] (by kernel_rfl) (fun β => ?_)
    replace H : Sep w0 w8 (.blk g5 82 (bs q) :: .blk g3 82 (bs (List.replicate 16 (0 : UInt8))) :: .blk g1 113 [.int .u32 (r0.toNat : Int), .int .u32 (r1.toNat : Int), .int .u32 (r2.toNat : Int), .int .u32 (r3.toNat : Int)] :: F) := H
    replace hI : k ≤ 4 ∧ q = digK [r0, r1, r2, r3] (4 * i + k) := hI
    obtain ⟨hK1, hK2⟩ := hI
    have hql : q.length = 16 := by rw [hK2, digK_len]
    refine G_seq ?_
    refine G_region ?_
    refine GL_segr 1 1 [(2, .pointer (some ⟨g3, 0, none⟩)), (3, .pointer (some ⟨g5, 0, none⟩)), (4, .int .i64 (i : Int)), (5, .int .u32 ((([r0, r1, r2, r3] : List UInt32).getD i 0).toNat : Int)), (7, .agg #[.int .u32 (r0.toNat : Int), .int .u32 (r1.toNat : Int), .int .u32 (r2.toNat : Int), .int .u32 (r3.toNat : Int)]), (8, .int .i64 (i : Int)), (12, .int .i64 (k : Int)), (13, .bool (decide (k < 4)))] rfl (by kernel_rfl) (show ([.pointer (some ⟨g3, 0, none⟩), .pointer (some ⟨g5, 0, none⟩), .int .i64 (i : Int), .int .u32 ((([r0, r1, r2, r3] : List UInt32).getD i 0).toNat : Int), .agg #[.int .u32 (r0.toNat : Int), .int .u32 (r1.toNat : Int), .int .u32 (r2.toNat : Int), .int .u32 (r3.toNat : Int)], .int .i64 (i : Int), .int .i64 (k : Int), .bool (decide ((k : Int) < ((4 : Nat) : Int)))] : List Value) = [.pointer (some ⟨g3, 0, none⟩), .pointer (some ⟨g5, 0, none⟩), .int .i64 (i : Int), .int .u32 ((([r0, r1, r2, r3] : List UInt32).getD i 0).toNat : Int), .agg #[.int .u32 (r0.toNat : Int), .int .u32 (r1.toNat : Int), .int .u32 (r2.toNat : Int), .int .u32 (r3.toNat : Int)], .int .i64 (i : Int), .int .i64 (k : Int), .bool (decide (k < 4))] by rw [nlss k 4]) rfl (fun β => ?_)
    refine GL_end (by kernel_rfl) ?_
    refine thn_normal ?_
    refine G_seq ?_
    refine G_cond (decide (k < 4)) (by kernel_rfl) (fun h1 => ?_) (fun h1 => ?_)
    · --yes
      replace h1 : k < 4 := of_decide_eq_true h1
      refine G_skip ?_
      refine thn_normal ?_
      refine G_seq ?_
      refine G_block ?_
      refine G_seq ?_
      refine G_region ?_
      refine GL_seg0 2 2 [(2, .pointer (some ⟨g3, 0, none⟩)), (3, .pointer (some ⟨g5, 0, none⟩)), (4, .int .i64 (i : Int)), (5, .int .u32 ((([r0, r1, r2, r3] : List UInt32).getD i 0).toNat : Int)), (6, .int .i64 (k : Int)), (7, .agg #[.int .u32 (r0.toNat : Int), .int .u32 (r1.toNat : Int), .int .u32 (r2.toNat : Int), .int .u32 (r3.toNat : Int)]), (8, .int .i64 (i : Int)), (12, .int .i64 (k : Int))] rfl (by kernel_rfl) (fun β => ?_)
      refine GL_end (by kernel_rfl) ?_
      refine thn_normal ?_
      refine G_region ?_
      refine GL_segr 7 7 [(2, .pointer (some ⟨g3, 0, none⟩)), (3, .pointer (some ⟨g5, 0, none⟩)), (4, .int .i64 (i : Int)), (5, .int .u32 ((([r0, r1, r2, r3] : List UInt32).getD i 0).toNat : Int)), (7, .agg #[.int .u32 (r0.toNat : Int), .int .u32 (r1.toNat : Int), .int .u32 (r2.toNat : Int), .int .u32 (r3.toNat : Int)]), (8, .int .i64 (i : Int)), (12, .int .i64 (k : Int)), (18, .int .i64 (((4 * i) + k : Nat) : Int)), (19, .int .u32 ((([r0, r1, r2, r3] : List UInt32).getD i 0).toNat : Int)), (21, .int .i64 ((8 * k : Nat) : Int))] rfl (by kernel_rfl) (show ([.pointer (some ⟨g3, 0, none⟩), .pointer (some ⟨g5, 0, none⟩), .int .i64 (i : Int), .int .u32 ((([r0, r1, r2, r3] : List UInt32).getD i 0).toNat : Int), .agg #[.int .u32 (r0.toNat : Int), .int .u32 (r1.toNat : Int), .int .u32 (r2.toNat : Int), .int .u32 (r3.toNat : Int)], .int .i64 (i : Int), .int .i64 (k : Int), .int .i64 (IntKind.i64.wrap ((IntKind.i64.wrap (((4 : Nat) : Int) * (i : Int))) + (k : Int))), .int .u32 ((([r0, r1, r2, r3] : List UInt32).getD i 0).toNat : Int), .int .i64 (IntKind.i64.wrap (((8 : Nat) : Int) * (k : Int)))] : List Value) = [.pointer (some ⟨g3, 0, none⟩), .pointer (some ⟨g5, 0, none⟩), .int .i64 (i : Int), .int .u32 ((([r0, r1, r2, r3] : List UInt32).getD i 0).toNat : Int), .agg #[.int .u32 (r0.toNat : Int), .int .u32 (r1.toNat : Int), .int .u32 (r2.toNat : Int), .int .u32 (r3.toNat : Int)], .int .i64 (i : Int), .int .i64 (k : Int), .int .i64 (((4 * i) + k : Nat) : Int), .int .u32 ((([r0, r1, r2, r3] : List UInt32).getD i 0).toNat : Int), .int .i64 ((8 * k : Nat) : Int)] by rw [nmul64 4 i (by omega), nadd64 (4 * i) k (by omega), nmul64 8 k (by omega)]) rfl (fun β => ?_)
      refine GL_v (R_shr32 (t := 111) (x := (([r0, r1, r2, r3] : List UInt32).getD i 0)) (s := (8 * k)) (k := .i64)) rfl (by kernel_rfl) (by kernel_rfl) (by kernel_rfl) ?_
      refine GL_segr 1 9 [(2, .pointer (some ⟨g3, 0, none⟩)), (3, .pointer (some ⟨g5, 0, none⟩)), (4, .int .i64 (i : Int)), (5, .int .u32 ((([r0, r1, r2, r3] : List UInt32).getD i 0).toNat : Int)), (7, .agg #[.int .u32 (r0.toNat : Int), .int .u32 (r1.toNat : Int), .int .u32 (r2.toNat : Int), .int .u32 (r3.toNat : Int)]), (8, .int .i64 (i : Int)), (12, .int .i64 (k : Int)), (18, .int .i64 (((4 * i) + k : Nat) : Int)), (23, .int .u8 (((shr32 (([r0, r1, r2, r3] : List UInt32).getD i 0) (8 * k)).toUInt8).toNat : Int))] rfl (by kernel_rfl) (show ([.pointer (some ⟨g3, 0, none⟩), .pointer (some ⟨g5, 0, none⟩), .int .i64 (i : Int), .int .u32 ((([r0, r1, r2, r3] : List UInt32).getD i 0).toNat : Int), .agg #[.int .u32 (r0.toNat : Int), .int .u32 (r1.toNat : Int), .int .u32 (r2.toNat : Int), .int .u32 (r3.toNat : Int)], .int .i64 (i : Int), .int .i64 (k : Int), .int .i64 (((4 * i) + k : Nat) : Int), .int .u8 (IntKind.u8.wrap ((shr32 (([r0, r1, r2, r3] : List UInt32).getD i 0) (8 * k)).toNat : Int))] : List Value) = [.pointer (some ⟨g3, 0, none⟩), .pointer (some ⟨g5, 0, none⟩), .int .i64 (i : Int), .int .u32 ((([r0, r1, r2, r3] : List UInt32).getD i 0).toNat : Int), .agg #[.int .u32 (r0.toNat : Int), .int .u32 (r1.toNat : Int), .int .u32 (r2.toNat : Int), .int .u32 (r3.toNat : Int)], .int .i64 (i : Int), .int .i64 (k : Int), .int .i64 (((4 * i) + k : Nat) : Int), .int .u8 (((shr32 (([r0, r1, r2, r3] : List UInt32).getD i 0) (8 * k)).toUInt8).toNat : Int)] by rw [Kw.u8_of_u32 (shr32 (([r0, r1, r2, r3] : List UInt32).getD i 0) (8 * k))]) rfl (fun β => ?_)
      refine GL_v (R_arrplace1 (t := 82) (e := 5) (n := 16) (g := g5) (i := ((4 * i) + k)) (ki := .i64) (by kernel_rfl) (by kernel_rfl) (by omega)) rfl (by kernel_rfl) (by kernel_rfl) (by kernel_rfl) ?_
      obtain ⟨w9, hr10, H⟩ := R_bstore8 (P := Tryd.prog) (t := 5) (j := ((4 * i) + k)) (b := (shr32 (([r0, r1, r2, r3] : List UInt32).getD i 0) (8 * k)).toUInt8) H (i := 0) rfl (by kernel_rfl) (by omega)
      replace H : Sep w0 w9 (.blk g5 82 (bs (q.set ((4 * i) + k) ((shr32 (([r0, r1, r2, r3] : List UInt32).getD i 0) (8 * k)).toUInt8))) :: .blk g3 82 (bs (List.replicate 16 (0 : UInt8))) :: .blk g1 113 [.int .u32 (r0.toNat : Int), .int .u32 (r1.toNat : Int), .int .u32 (r2.toNat : Int), .int .u32 (r3.toNat : Int)] :: F) := H
      refine GL_u hr10 rfl (by kernel_rfl) (by kernel_rfl) (by kernel_rfl) ?_
      refine GL_end (by kernel_rfl) ?_
      refine inb_normal ?_
      refine thn_normal ?_
      refine G_region ?_
      refine GL_segr 2 2 [(2, .pointer (some ⟨g3, 0, none⟩)), (3, .pointer (some ⟨g5, 0, none⟩)), (4, .int .i64 (i : Int)), (5, .int .u32 ((([r0, r1, r2, r3] : List UInt32).getD i 0).toNat : Int)), (7, .agg #[.int .u32 (r0.toNat : Int), .int .u32 (r1.toNat : Int), .int .u32 (r2.toNat : Int), .int .u32 (r3.toNat : Int)]), (8, .int .i64 (i : Int)), (12, .int .i64 ((k + 1 : Nat) : Int))] rfl (by kernel_rfl) (show ([.pointer (some ⟨g3, 0, none⟩), .pointer (some ⟨g5, 0, none⟩), .int .i64 (i : Int), .int .u32 ((([r0, r1, r2, r3] : List UInt32).getD i 0).toNat : Int), .agg #[.int .u32 (r0.toNat : Int), .int .u32 (r1.toNat : Int), .int .u32 (r2.toNat : Int), .int .u32 (r3.toNat : Int)], .int .i64 (i : Int), .int .i64 (IntKind.i64.wrap ((k : Int) + ((1 : Nat) : Int)))] : List Value) = [.pointer (some ⟨g3, 0, none⟩), .pointer (some ⟨g5, 0, none⟩), .int .i64 (i : Int), .int .u32 ((([r0, r1, r2, r3] : List UInt32).getD i 0).toNat : Int), .agg #[.int .u32 (r0.toNat : Int), .int .u32 (r1.toNat : Int), .int .u32 (r2.toNat : Int), .int .u32 (r3.toNat : Int)], .int .i64 (i : Int), .int .i64 ((k + 1 : Nat) : Int)] by rw [nadd64 k 1 (by omega)]) rfl (fun β => ?_)
      refine GL_end (by kernel_rfl) ?_
      refine thn_normal ⟨(k + 1, q.set ((4 * i) + k) ((shr32 (([r0, r1, r2, r3] : List UInt32).getD i 0) (8 * k)).toUInt8)), Agr_of_keys (by kernel_rfl), ⟨H, ?_⟩, ?_⟩
      · exact ⟨by omega, by rw [show 4 * i + (k + 1) = (4 * i + k) + 1 from by omega, digK, ← hK2, show (4 * i + k) / 4 = i from by omega, show (4 * i + k) % 4 = k from by omega]⟩
      · first | (dsimp only; omega) | omega
    · --no
      replace h1 : ¬ (k < 4) := of_decide_eq_false h1
      refine G_exit (thn_exit (thn_exit (inb_hit ?_)))
      refine inb_normal ?_
      refine thn_normal ?_
      refine G_region ?_
      refine GL_segr 2 2 [(2, .pointer (some ⟨g3, 0, none⟩)), (3, .pointer (some ⟨g5, 0, none⟩)), (7, .agg #[.int .u32 (r0.toNat : Int), .int .u32 (r1.toNat : Int), .int .u32 (r2.toNat : Int), .int .u32 (r3.toNat : Int)]), (8, .int .i64 ((i + 1 : Nat) : Int))] rfl (by kernel_rfl) (show ([.pointer (some ⟨g3, 0, none⟩), .pointer (some ⟨g5, 0, none⟩), .agg #[.int .u32 (r0.toNat : Int), .int .u32 (r1.toNat : Int), .int .u32 (r2.toNat : Int), .int .u32 (r3.toNat : Int)], .int .i64 (IntKind.i64.wrap ((i : Int) + ((1 : Nat) : Int)))] : List Value) = [.pointer (some ⟨g3, 0, none⟩), .pointer (some ⟨g5, 0, none⟩), .agg #[.int .u32 (r0.toNat : Int), .int .u32 (r1.toNat : Int), .int .u32 (r2.toNat : Int), .int .u32 (r3.toNat : Int)], .int .i64 ((i + 1 : Nat) : Int)] by rw [nadd64 i 1 (by omega)]) rfl (fun β => ?_)
      refine GL_end (by kernel_rfl) ?_
      have hk : k = 4 := by omega
      subst hk
      refine thn_normal ⟨(i + 1, q), Agr_of_keys (by kernel_rfl), ⟨H, ?_⟩, ?_⟩
      · exact ⟨by omega, hK2⟩
      · first | (dsimp only; omega) | omega
  · --no
    replace h0 : ¬ (i < 4) := of_decide_eq_false h0
    refine G_exit (thn_exit (thn_exit (inb_hit ?_)))
    refine thn_normal ?_
    refine G_seq ?_
    refine G_region ?_
    refine GL_v (run_loadN (t := 82) (vs := bs o) (by kernel_rfl) (by rw [bs_length, show (o).length = 16 from by first | (simp; done) | (simp [*]; done) | assumption | (simp; omega) | rfl]; kernel_rfl) (H.blk_cells (i := 0) rfl 0 _ ⟨[], List.append_nil _⟩)) rfl (by kernel_rfl) (by kernel_rfl) (by kernel_rfl) ?_
    obtain ⟨w11, hr12, H⟩ := R_storeL (P := Tryd.prog) (t := 82) (xs := bs o) H (i := 1) rfl (by rw [bs_length, show (o).length = 16 from by first | (simp; done) | (simp [*]; done) | assumption | (simp; omega) | rfl]; kernel_rfl) (by rw [bs_length, bs_length, show (List.replicate 16 (0 : UInt8)).length = 16 from by first | (simp; done) | (simp [*]; done) | assumption | (simp; omega) | rfl, show (o).length = 16 from by first | (simp; done) | (simp [*]; done) | assumption | (simp; omega) | rfl]) (bs_one _)
    replace H : Sep w0 w11 (.blk g5 82 (bs o) :: .blk g3 82 (bs o) :: .blk g1 113 [.int .u32 (r0.toNat : Int), .int .u32 (r1.toNat : Int), .int .u32 (r2.toNat : Int), .int .u32 (r3.toNat : Int)] :: F) := H
    refine GL_u hr12 rfl (by kernel_rfl) (by kernel_rfl) (by kernel_rfl) ?_
    refine GL_end (by kernel_rfl) ?_
    refine thn_normal ?_
    refine G_ret ?_
    refine resC (t := 82) (vs := bs o) rfl (by kernel_rfl) (by kernel_rfl) (by rw [bs_length, show (o).length = 16 from by first | (simp; done) | (simp [*]; done) | assumption | (simp; omega) | rfl]; kernel_rfl) (H.blk_cells (i := 1) rfl 0 _ ⟨_, List.append_nil _⟩) ?_
    replace H := H.drop 2
    replace H := H.drop 1
    replace H := H.drop 0
    replace H : Sep w0 w11 (F) := H
    have HF := H
    have hi : i = 4 := by omega
    subst hi
    subst hI2
    exact ⟨rfl, HF⟩
end Go.Proofs.YtadiljnfkbbmcaaDoor
