-- printed by gw.py (my own program), checked by Lean
import Derived.Test.YtadiljnfkbbmcaaDoorR4
import Derived.Test.YtadiljnfkbbmcaaDoorD4
set_option linter.unusedVariables false
set_option linter.unusedSimpArgs false
set_option maxRecDepth 100000
set_option maxHeartbeats 400000
namespace Go.Proofs.YtadiljnfkbbmcaaDoor
open Go.Kw Go.RowKit

def smalls : List UInt8 := [97, 98, 99, 100, 101, 102, 103, 104, 105, 106, 107, 108, 109, 110, 111, 112, 113, 114, 115, 116, 117, 118, 119, 120, 121, 122]
def capitals : List UInt8 := [65, 66, 67, 68, 69, 70, 71, 72, 73, 74, 75, 76, 77, 78, 79, 80, 81, 82, 83, 84, 85, 86, 87, 88, 89, 90]
def upK (c : UInt8) : Nat → UInt8
  | 0 => c
  | k + 1 => if smalls.getD k 0 = c then capitals.getD k 0 else upK c k
theorem upK_up (c : UInt8) : upK c 26 = up c := all_bytes (p := fun c => upK c 26 = up c) (by decide +kernel) c
theorem map_step {l : List UInt8} {k : Nat} (hk : k < l.length) : (l.take (k + 1)).map up = (l.take k).map up ++ [up (l.getD k 0)] := by
  rw [List.take_add_one, List.getElem?_eq_getElem hk, List.map_append]
  simp [List.getD_eq_getElem?_getD, List.getElem?_eq_getElem hk]
theorem cnt_step {l : List UInt8} {b : UInt8} {k : Nat} (hk : k < l.length) : cntF (l.take (k + 1)) b = cntF (l.take k) b + if l.getD k 0 = b then 1 else 0 := by
  have key : ∀ (a : List UInt8) (x : UInt8), cntF (a ++ [x]) b = cntF a b + if x = b then 1 else 0 := by
    intro a x
    unfold cntF
    rw [List.foldl_append]
    simp only [List.foldl_cons, List.foldl_nil, beq_iff_eq]
    split <;> omega
  rw [List.take_add_one, List.getElem?_eq_getElem hk]
  simp only [Option.toList_some, key, List.getD_eq_getElem?_getD, List.getElem?_eq_getElem hk, Option.getD_some]
def ins (l : List Nat) : List Value := l.map In
theorem ins_len (l : List Nat) : (ins l).length = l.length := by simp [ins]
theorem ins_append (l m : List Nat) : ins (l ++ m) = ins l ++ ins m := by simp [ins]
/-- posthorn/posthornref01.Upper -/
theorem c_rUpper (l : List UInt8) (hl : l.length ≤ 1099511627776) {w0 w : World} {F : List Chunk} (H : Sep w0 w F) : Ret Tryd.prog 44 #[S l] w (fun v w' => v = S (l.map up) ∧ Sep w0 w' F) := by
 refine Ret_enter (args := [S l]) Tryd.func44 rfl (by kernel_rfl) ?_
 refine G_forget [(0, S l)] (by kernel_rfl) (fun β => ?_)
 refine G_sr ?_
 refine GL_st 1 1 [(0, S l)] fun β => ?_
 refine G_sr ?_
 refine GL_st 1 1 [(0, S l), (3, .slice none 0 0)] fun β => ?_
 refine G_seq ?_
 refine G_sr ?_
 refine GL_st 1 1 [(0, S l), (3, .slice none 0 0), (4, In 0)] fun β => ?_
 refine G_block ?_
 have H := H.nilRow 5 1
 refine G_loop (X := Nat × (List UInt8) × (Option Addr) × Nat) (fun ⟨k, o, A, cp⟩ => [(0, S l), (3, .slice A o.length cp), (4, In k)]) (fun ⟨k, o, A, cp⟩ w_ => Sep w0 w_ (.row (.slice A o.length cp) 5 1 o.length (bs o) :: F) ∧ (k ≤ l.length ∧ o = (l.take k).map up)) (fun ⟨k, o, A, cp⟩ => l.length - k) (0, [], none, 0) (by kernel_rfl) ⟨H, ⟨by omega, rfl⟩⟩ ?_
 rintro ⟨k, o, A, cp⟩ β w1 ⟨H, hI⟩
 refine G_forget [(0, S l), (3, .slice A o.length cp), (4, In k)] (by kernel_rfl) (fun β => ?_)
 replace H : Sep w0 w1 (.row (.slice A o.length cp) 5 1 o.length (bs o) :: F) := H
 replace hI : k ≤ l.length ∧ o = (l.take k).map up := hI
 obtain ⟨hI1, hI2⟩ := hI
 have hol : o.length ≤ l.length := by rw [hI2]; simp; omega
 refine G_seq ?_
 refine G_sr ?_
 refine GL_srt 4 4 [(0, S l), (3, .slice A o.length cp), (4, In k), (10, .bool (decide (k < l.length)))] (show ([S l, .slice A o.length cp, .int .i64 (k : Int), .bool (decide ((k : Int) < (l.length : Int)))] : List Value) = [S l, .slice A o.length cp, In k, .bool (decide (k < l.length))] by rw [nlss k l.length]) fun β => ?_
 refine G_cond (decide (k < l.length)) (by kernel_rfl) (fun h0 => ?_) (fun h0 => ?_)
 · --yes
  replace h0 : k < l.length := of_decide_eq_true h0
  refine G_skip ?_
  refine thn_normal ?_
  refine G_seq ?_
  refine G_block ?_
  refine G_sr ?_
  refine GL_s 2 2 [(0, S l), (3, .slice A o.length cp), (4, In k), (13, S l), (14, In k)] fun β => ?_
  refine GL_V (R_index (P := Tryd.prog) (w := _) (t := 9) (ki := .i64) (i := k) (l := l) (by kernel_rfl) (by omega)) ?_
  refine GL_st 1 4 [(0, S l), (3, .slice A o.length cp), (4, In k), (5, By (l.getD k 0))] fun β => ?_
  refine G_seq ?_
  refine G_sr ?_
  refine GL_st 1 1 [(0, S l), (3, .slice A o.length cp), (4, In k), (5, By (l.getD k 0)), (6, In 0)] fun β => ?_
  refine G_block ?_
  refine G_loop (X := Nat × UInt8) (fun ⟨j, b⟩ => [(0, S l), (3, .slice A o.length cp), (4, In k), (5, By b), (6, In j)]) (fun ⟨j, b⟩ w_ => Sep w0 w_ (.row (.slice A o.length cp) 5 1 o.length (bs o) :: F) ∧ (j ≤ 26 ∧ b = upK (l.getD k 0) j)) (fun ⟨j, b⟩ => 26 - j) (0, (l.getD k 0)) (by kernel_rfl) ⟨H, ⟨by omega, rfl⟩⟩ ?_
  rintro ⟨j, b⟩ β w2 ⟨H, hI⟩
  refine G_forget [(0, S l), (3, .slice A o.length cp), (4, In k), (5, By b), (6, In j)] (by kernel_rfl) (fun β => ?_)
  replace H : Sep w0 w2 (.row (.slice A o.length cp) 5 1 o.length (bs o) :: F) := H
  replace hI : j ≤ 26 ∧ b = upK (l.getD k 0) j := hI
  obtain ⟨hJ1, hJ2⟩ := hI
  refine G_seq ?_
  refine G_sr ?_
  refine GL_srt 2 2 [(0, S l), (3, .slice A o.length cp), (4, In k), (5, By b), (6, In j), (17, .bool (decide (j < 26)))] (show ([S l, .slice A o.length cp, .int .i64 (k : Int), .int .u8 (b.toNat : Int), .int .i64 (j : Int), .bool (decide ((j : Int) < ((26 : Nat) : Int)))] : List Value) = [S l, .slice A o.length cp, In k, By b, In j, .bool (decide (j < 26))] by rw [nlss j 26]) fun β => ?_
  refine G_cond (decide (j < 26)) (by kernel_rfl) (fun h1 => ?_) (fun h1 => ?_)
  · --yes
   replace h1 : j < 26 := of_decide_eq_true h1
   refine G_skip ?_
   refine thn_normal ?_
   refine G_seq ?_
   refine G_block ?_
   refine G_seq ?_
   refine G_drawS (fun w => True) 6 6 (by kernel_rfl) (by kernel_rfl) H (fun w3 H => ?_)
   refine HL_takes [0] [(0, S l), (3, .slice A o.length cp), (4, .int .i64 (k : Int)), (5, .int .u8 (b.toNat : Int)), (6, .int .i64 (j : Int)), (20, .int .i64 (j : Int))] (mkL 6 [0]) 5 (by kernel_rfl) rfl (by kernel_rfl) (fun _ => by kernel_rfl) trivial (fun β => ?_)
   refine HL_t (i := 1) (m := 4) (fun w _ => (R_index (P := Tryd.prog) (w := _) (t := 9) (ki := .i64) (i := j) (l := smalls) (by kernel_rfl) (by show j < 26; omega))) rfl (by kernel_rfl) (by kernel_rfl) (by kernel_rfl) (by kernel_rfl) (by kernel_rfl) (by kernel_rfl) trivial rfl ?_
   refine HL_takes [2, 3] [(0, S l), (3, .slice A o.length cp), (4, .int .i64 (k : Int)), (5, .int .u8 (b.toNat : Int)), (6, .int .i64 (j : Int)), (21, .int .u8 ((smalls.getD j 0).toNat : Int)), (22, S l), (23, .int .i64 (k : Int))] (mkL 6 [0, 1, 2, 3]) 2 (by kernel_rfl) rfl (by kernel_rfl) (fun _ => by kernel_rfl) trivial (fun β => ?_)
   refine HL_t (i := 4) (m := 1) (fun w _ => (R_index (P := Tryd.prog) (w := _) (t := 9) (ki := .i64) (i := k) (l := l) (by kernel_rfl) (by omega))) rfl (by kernel_rfl) (by kernel_rfl) (by kernel_rfl) (by kernel_rfl) (by kernel_rfl) (by kernel_rfl) trivial rfl ?_
   refine HL_takes [5] [(0, S l), (3, .slice A o.length cp), (4, .int .i64 (k : Int)), (5, .int .u8 (b.toNat : Int)), (6, .int .i64 (j : Int)), (25, .bool (((smalls.getD j 0).toNat : Int) == ((l.getD k 0).toNat : Int)))] (mkL 6 [0, 1, 2, 3, 4, 5]) 0 (by kernel_rfl) rfl (by kernel_rfl) (fun _ => by kernel_rfl) trivial (fun β => ?_)
   refine HL_forgetr [(0, S l), (3, .slice A o.length cp), (4, In k), (5, By b), (6, In j), (25, .bool ((smalls.getD j 0) == (l.getD k 0)))] (show ([S l, .slice A o.length cp, .int .i64 (k : Int), .int .u8 (b.toNat : Int), .int .i64 (j : Int), .bool (((smalls.getD j 0).toNat : Int) == ((l.getD k 0).toNat : Int))] : List Value) = [S l, .slice A o.length cp, In k, By b, In j, .bool ((smalls.getD j 0) == (l.getD k 0))] by rw [Kw.u8_eql (smalls.getD j 0) (l.getD k 0)]) (by kernel_rfl) rfl (fun β => ?_)
   refine HL_forget [(0, S l), (3, .slice A o.length cp), (4, In k), (5, By b), (6, In j), (25, .bool ((smalls.getD j 0) == (l.getD k 0)))] (by kernel_rfl) (fun β => ?_)
   refine HL_fin (by kernel_rfl) ?_
   refine thn_normal ?_
   refine G_cond ((smalls.getD j 0) == (l.getD k 0)) (by kernel_rfl) (fun h2 => ?_) (fun h2 => ?_)
   · --yes
    replace h2 : (smalls.getD j 0) = (l.getD k 0) := eql_T h2
    refine G_region ?_
    refine GL_s 1 1 [(0, S l), (3, .slice A o.length cp), (4, In k), (6, In j), (26, In j)] fun β => ?_
    refine GL_V (R_index (P := Tryd.prog) (w := _) (t := 9) (ki := .i64) (i := j) (l := capitals) (by kernel_rfl) (by show j < 26; omega)) ?_
    refine GL_s 1 3 [(0, S l), (3, .slice A o.length cp), (4, In k), (5, By (capitals.getD j 0)), (6, In j)] fun β => ?_
    refine GL_end (by kernel_rfl) ?_
    refine inb_normal ?_
    refine thn_normal ?_
    refine G_region ?_
    refine GL_sr 3 3 [(0, S l), (3, .slice A o.length cp), (4, In k), (5, By (capitals.getD j 0)), (6, In (j + 1))] (show ([S l, .slice A o.length cp, .int .i64 (k : Int), .int .u8 ((capitals.getD j 0).toNat : Int), .int .i64 (IntKind.i64.wrap ((j : Int) + ((1 : Nat) : Int)))] : List Value) = [S l, .slice A o.length cp, In k, By (capitals.getD j 0), In (j + 1)] by rw [nadd64 j 1 (by omega)]) fun β => ?_
    refine GL_end (by kernel_rfl) ?_
    refine thn_normal ⟨(j + 1, (capitals.getD j 0)), Agr_of_keys (by kernel_rfl), ⟨H, ?_⟩, ?_⟩
    · first | exact ⟨by omega, by rw [upK, if_pos h2]⟩ | exact ⟨by omega, by rw [upK, if_neg h2]; exact hJ2⟩
    · first | (dsimp only; omega) | omega
   · --no
    replace h2 : ¬ ((smalls.getD j 0) = (l.getD k 0)) := eql_F h2
    refine G_skip ?_
    refine inb_normal ?_
    refine thn_normal ?_
    refine G_region ?_
    refine GL_sr 3 3 [(0, S l), (3, .slice A o.length cp), (4, In k), (5, By b), (6, In (j + 1))] (show ([S l, .slice A o.length cp, .int .i64 (k : Int), .int .u8 (b.toNat : Int), .int .i64 (IntKind.i64.wrap ((j : Int) + ((1 : Nat) : Int)))] : List Value) = [S l, .slice A o.length cp, In k, By b, In (j + 1)] by rw [nadd64 j 1 (by omega)]) fun β => ?_
    refine GL_end (by kernel_rfl) ?_
    refine thn_normal ⟨(j + 1, b), Agr_of_keys (by kernel_rfl), ⟨H, ?_⟩, ?_⟩
    · first | exact ⟨by omega, by rw [upK, if_pos h2]⟩ | exact ⟨by omega, by rw [upK, if_neg h2]; exact hJ2⟩
    · first | (dsimp only; omega) | omega
  · --no
   replace h1 : ¬ (j < 26) := of_decide_eq_false h1
   refine G_exit (thn_exit (thn_exit (inb_hit ?_)))
   refine thn_normal ?_
   refine G_region ?_
   refine GL_s 2 2 [(0, S l), (4, In k), (28, .slice A o.length cp), (29, By b)] fun β => ?_
   refine GL_new (V := fun g => .slice (some ⟨g, 0, none⟩) 1 1) (l := [By b]) (t := 5) H rfl (by kernel_rfl) (by kernel_rfl) (by kernel_rfl) (fun g4 w5 H => ?_)
   obtain ⟨A6, c7, w8, o10, ho11, hl12, hr9, H⟩ := R_append8 (P := Tryd.prog) (t := 68) (ty := 68) (l := o) (news := [b]) H (i := 1) rfl (by kernel_rfl) (Src.blkp (m := 1) (c := 1) (off := 0) H (i := 0) rfl [By b] rfl ⟨_, rfl⟩) rfl (by omega)
   replace H := H.drop 0
   replace H : Sep w0 w8 (.row (.slice A6 o10.length c7) 5 1 o10.length (bs o10) :: F) := H
   refine GL_V hr9 ?_
   refine GL_s 1 5 [(0, S l), (3, .slice A6 o10.length c7), (4, In k)] fun β => ?_
   refine GL_end (by kernel_rfl) ?_
   refine inb_normal ?_
   refine thn_normal ?_
   refine G_region ?_
   refine GL_sr 3 3 [(0, S l), (3, .slice A6 o10.length c7), (4, In (k + 1))] (show ([S l, .slice A6 o10.length c7, .int .i64 (IntKind.i64.wrap ((k : Int) + ((1 : Nat) : Int)))] : List Value) = [S l, .slice A6 o10.length c7, In (k + 1)] by rw [nadd64 k 1 (by omega)]) fun β => ?_
   refine GL_end (by kernel_rfl) ?_
   refine thn_normal ⟨(k + 1, o10, A6, c7), Agr_of_keys (by kernel_rfl), ⟨H, ?_⟩, ?_⟩
   · exact ⟨by omega, by rw [map_step (by omega), ← hI2]; have hj : j = 26 := (by omega); rw [hj, upK_up] at hJ2; simp [*]⟩
   · first | (dsimp only; omega) | omega
 · --no
  replace h0 : ¬ (k < l.length) := of_decide_eq_false h0
  refine G_exit (thn_exit (thn_exit (inb_hit ?_)))
  refine thn_normal ?_
  refine G_sr ?_
  refine GL_s 1 1 [(32, .slice A o.length cp)] fun β => ?_
  refine GL_V (R_conv_bs (s := 68) (t := 9) (e := 5) (l := o) (by kernel_rfl) (by kernel_rfl) (by kernel_rfl) (Src.row H (i := 0) rfl)) ?_
  refine GL_st 1 3 [(2, S o)] fun β => ?_
  refine G_ret ?_
  refine res1 (v := S o) rfl (by kernel_rfl) ?_
  replace H := H.drop 0
  replace H : Sep w0 w1 (F) := H
  exact ⟨by rw [hI2, List.take_of_length_le (by omega)], H⟩
/-- posthorn/posthornref01.Same -/
theorem c_rSame (a b : List UInt8) (ha : a.length ≤ 1099511627776) (hb : b.length ≤ 1099511627776) {w0 w : World} {F : List Chunk} (H : Sep w0 w F) : Ret Tryd.prog 33 #[S a, S b] w (fun v w' => v = .bool (a.map up == b.map up) ∧ Sep w0 w' F) := by
 refine Ret_enter (args := [S a, S b]) Tryd.func33 rfl (by kernel_rfl) ?_
 refine G_forget [(0, S a), (1, S b)] (by kernel_rfl) (fun β => ?_)
 refine G_sr ?_
 refine GL_st 1 1 [(0, S a), (1, S b)] fun β => ?_
 refine G_sr ?_
 refine GL_s 1 1 [(1, S b), (5, S a)] fun β => ?_
 refine GL_C (c_rUpper a (by first | omega | decide) H) ?_
 rintro _ w1 ⟨rfl, H⟩
 refine GL_s 1 3 [(6, S (a.map up)), (7, S b)] fun β => ?_
 refine GL_C (c_rUpper b (by first | omega | decide) H) ?_
 rintro _ w2 ⟨rfl, H⟩
 refine GL_V (R_streq (t := 9) (l := (a.map up)) (m := (b.map up))) ?_
 refine GL_st 1 6 [(4, .bool ((a.map up) == (b.map up)))] fun β => ?_
 refine G_ret ?_
 refine res1 (v := .bool ((a.map up) == (b.map up))) rfl (by kernel_rfl) ?_
 replace H : Sep w0 w2 (F) := H
 exact ⟨rfl, H⟩
/-- posthorn/posthornref22.Mechanisms -/
theorem c_rMechs {w0 w : World} {F : List Chunk} (H : Sep w0 w F) : Ret Tryd.prog 32 #[] w (fun v w' => ∃ g, v = .slice (some ⟨g, 0, none⟩) 3 3 ∧ Sep w0 w' (.blk g 9 [S [80, 76, 65, 73, 78], S [76, 79, 71, 73, 78], S [67, 82, 65, 77, 45, 77, 68, 53]] :: F)) := by
 refine Ret_enter (args := []) Tryd.func32 rfl (by kernel_rfl) ?_
 refine G_forget [] (by kernel_rfl) (fun β => ?_)
 refine G_sr ?_
 refine GL_st 1 1 [] fun β => ?_
 refine G_sr ?_
 refine GL_new (V := fun g => .slice (some ⟨g, 0, none⟩) 3 3) (l := [S [80, 76, 65, 73, 78], S [76, 79, 71, 73, 78], S [67, 82, 65, 77, 45, 77, 68, 53]]) (t := 9) H rfl (by kernel_rfl) (by kernel_rfl) (by kernel_rfl) (fun g1 w2 H => ?_)
 refine GL_st 1 2 [(0, .slice (some ⟨g1, 0, none⟩) 3 3)] fun β => ?_
 refine G_ret ?_
 refine res1 (v := .slice (some ⟨g1, 0, none⟩) 3 3) rfl (by kernel_rfl) ?_
 exact ⟨_, rfl, H⟩

def plcF (m : List UInt8) : Int := if m.map up = [80, 76, 65, 73, 78] then 0 else if m.map up = [76, 79, 71, 73, 78] then 1 else if m.map up = [67, 82, 65, 77, 45, 77, 68, 53] then 2 else -1
theorem plc_cases (m : List UInt8) : plcF m = 0 ∨ plcF m = 1 ∨ plcF m = 2 ∨ plcF m = -1 := by
  unfold plcF
  split
  · exact .inl rfl
  · split
    · exact .inr (.inl rfl)
    · split
      · exact .inr (.inr (.inl rfl))
      · exact .inr (.inr (.inr rfl))
theorem ups : ([80, 76, 65, 73, 78] : List UInt8).map up = [80, 76, 65, 73, 78] ∧ ([76, 79, 71, 73, 78] : List UInt8).map up = [76, 79, 71, 73, 78] ∧ ([67, 82, 65, 77, 45, 77, 68, 53] : List UInt8).map up = ([67, 82, 65, 77, 45, 77, 68, 53] : List UInt8) := by decide
/-- posthorn/posthornref22.Place -/
theorem c_Place (m : List UInt8) (hl : m.length ≤ 1099511627776) {w0 w : World} {F : List Chunk} (H : Sep w0 w F) : Ret Tryd.prog 22 #[S m] w (fun v w' => v = .int .i64 (plcF m) ∧ Sep w0 w' F) := by
 refine Ret_enter (args := [S m]) Tryd.func22 rfl (by kernel_rfl) ?_
 refine G_forget [(0, S m)] (by kernel_rfl) (fun β => ?_)
 refine G_sr ?_
 refine GL_st 1 1 [(0, S m)] fun β => ?_
 refine G_sr ?_
 refine GL_C (c_rMechs H) ?_
 rintro _ w2 ⟨g1, rfl, H⟩
 replace H : Sep w0 w2 (.blk g1 9 [S [80, 76, 65, 73, 78], S [76, 79, 71, 73, 78], S [67, 82, 65, 77, 45, 77, 68, 53]] :: F) := H
 refine GL_st 1 2 [(0, S m), (3, .slice (some ⟨g1, 0, none⟩) 3 3)] fun β => ?_
 refine G_seq ?_
 refine G_sr ?_
 refine GL_st 1 1 [(0, S m), (3, .slice (some ⟨g1, 0, none⟩) 3 3), (4, In 0)] fun β => ?_
 refine G_block ?_
 refine G_un 4 ?_
 refine GU_step ?_
 refine G_forget [(0, S m), (3, .slice (some ⟨g1, 0, none⟩) 3 3), (4, In 0)] (by kernel_rfl) (fun β => ?_)
 refine G_seq ?_
 refine G_sr ?_
 refine GL_st 4 4 [(0, S m), (3, .slice (some ⟨g1, 0, none⟩) 3 3), (4, In 0), (9, .bool true)] fun β => ?_
 refine G_true (by kernel_rfl) ?_
 refine G_skip ?_
 refine thn_normal ?_
 refine G_seq ?_
 refine G_block ?_
 refine G_sr ?_
 refine GL_s 3 3 [(0, S m), (3, .slice (some ⟨g1, 0, none⟩) 3 3), (4, In 0), (14, Pt g1 0)] fun β => ?_
 refine GL_V (run_load1 (t := 9) (by kernel_rfl) ((H.blk_cell (i := 0) rfl 0).trans rfl)) ?_
 refine GL_s 1 5 [(0, S m), (3, .slice (some ⟨g1, 0, none⟩) 3 3), (4, In 0), (15, S [80, 76, 65, 73, 78]), (16, S m)] fun β => ?_
 refine GL_C (c_rSame [80, 76, 65, 73, 78] m (by first | omega | decide) (by first | omega | decide) H) ?_
 rintro _ w3 ⟨rfl, H⟩
 refine GL_et ?_
 refine G_cond ([80, 76, 65, 73, 78].map up == m.map up) (by kernel_rfl) (fun h0 => ?_) (fun h0 => ?_)
 · --yes
  replace h0 : [80, 76, 65, 73, 78].map up = m.map up := eql_T h0
  refine G_sr ?_
  refine GL_st 2 2 [(2, In 0)] fun β => ?_
  refine G_ret ?_
  refine inb_ret (thn_ret (thn_ret (inb_ret (thn_ret (res1 (v := In 0) rfl (by kernel_rfl) ?_)))))
  replace H := H.drop 0
  replace H : Sep w0 w3 (F) := H
  refine ⟨?_, H⟩
  clear H
  unfold plcF
  first | (rw [if_pos (h0.symm.trans ups.1)]; rfl) | (rw [if_neg (fun e => h0 (ups.1.trans e.symm)), if_pos (h1.symm.trans ups.2.1)]; rfl) | (rw [if_neg (fun e => h0 (ups.1.trans e.symm)), if_neg (fun e => h1 (ups.2.1.trans e.symm)), if_pos (h2.symm.trans ups.2.2)]; rfl) | (rw [if_neg (fun e => h0 (ups.1.trans e.symm)), if_neg (fun e => h1 (ups.2.1.trans e.symm)), if_neg (fun e => h2 (ups.2.2.trans e.symm))])
 · --no
  replace h0 : ¬ ([80, 76, 65, 73, 78].map up = m.map up) := eql_F h0
  refine G_skip ?_
  refine inb_normal ?_
  refine thn_normal ?_
  refine G_region ?_
  refine GL_st 3 3 [(0, S m), (3, .slice (some ⟨g1, 0, none⟩) 3 3), (4, In 1)] fun β => ?_
  refine GU_step ?_
  refine G_forget [(0, S m), (3, .slice (some ⟨g1, 0, none⟩) 3 3), (4, In 1)] (by kernel_rfl) (fun β => ?_)
  refine G_seq ?_
  refine G_sr ?_
  refine GL_st 4 4 [(0, S m), (3, .slice (some ⟨g1, 0, none⟩) 3 3), (4, In 1), (9, .bool true)] fun β => ?_
  refine G_true (by kernel_rfl) ?_
  refine G_skip ?_
  refine thn_normal ?_
  refine G_seq ?_
  refine G_block ?_
  refine G_sr ?_
  refine GL_s 3 3 [(0, S m), (3, .slice (some ⟨g1, 0, none⟩) 3 3), (4, In 1), (14, Pt g1 1)] fun β => ?_
  refine GL_V (run_load1 (t := 9) (by kernel_rfl) ((H.blk_cell (i := 0) rfl 1).trans rfl)) ?_
  refine GL_s 1 5 [(0, S m), (3, .slice (some ⟨g1, 0, none⟩) 3 3), (4, In 1), (15, S [76, 79, 71, 73, 78]), (16, S m)] fun β => ?_
  refine GL_C (c_rSame [76, 79, 71, 73, 78] m (by first | omega | decide) (by first | omega | decide) H) ?_
  rintro _ w4 ⟨rfl, H⟩
  refine GL_et ?_
  refine G_cond ([76, 79, 71, 73, 78].map up == m.map up) (by kernel_rfl) (fun h1 => ?_) (fun h1 => ?_)
  · --yes
   replace h1 : [76, 79, 71, 73, 78].map up = m.map up := eql_T h1
   refine G_sr ?_
   refine GL_st 2 2 [(2, In 1)] fun β => ?_
   refine G_ret ?_
   refine inb_ret (thn_ret (thn_ret (inb_ret (thn_ret (res1 (v := In 1) rfl (by kernel_rfl) ?_)))))
   replace H := H.drop 0
   replace H : Sep w0 w4 (F) := H
   refine ⟨?_, H⟩
   clear H
   unfold plcF
   first | (rw [if_pos (h0.symm.trans ups.1)]; rfl) | (rw [if_neg (fun e => h0 (ups.1.trans e.symm)), if_pos (h1.symm.trans ups.2.1)]; rfl) | (rw [if_neg (fun e => h0 (ups.1.trans e.symm)), if_neg (fun e => h1 (ups.2.1.trans e.symm)), if_pos (h2.symm.trans ups.2.2)]; rfl) | (rw [if_neg (fun e => h0 (ups.1.trans e.symm)), if_neg (fun e => h1 (ups.2.1.trans e.symm)), if_neg (fun e => h2 (ups.2.2.trans e.symm))])
  · --no
   replace h1 : ¬ ([76, 79, 71, 73, 78].map up = m.map up) := eql_F h1
   refine G_skip ?_
   refine inb_normal ?_
   refine thn_normal ?_
   refine G_region ?_
   refine GL_st 3 3 [(0, S m), (3, .slice (some ⟨g1, 0, none⟩) 3 3), (4, In 2)] fun β => ?_
   refine GU_step ?_
   refine G_forget [(0, S m), (3, .slice (some ⟨g1, 0, none⟩) 3 3), (4, In 2)] (by kernel_rfl) (fun β => ?_)
   refine G_seq ?_
   refine G_sr ?_
   refine GL_st 4 4 [(0, S m), (3, .slice (some ⟨g1, 0, none⟩) 3 3), (4, In 2), (9, .bool true)] fun β => ?_
   refine G_true (by kernel_rfl) ?_
   refine G_skip ?_
   refine thn_normal ?_
   refine G_seq ?_
   refine G_block ?_
   refine G_sr ?_
   refine GL_s 3 3 [(0, S m), (3, .slice (some ⟨g1, 0, none⟩) 3 3), (4, In 2), (14, Pt g1 2)] fun β => ?_
   refine GL_V (run_load1 (t := 9) (by kernel_rfl) ((H.blk_cell (i := 0) rfl 2).trans rfl)) ?_
   refine GL_s 1 5 [(0, S m), (3, .slice (some ⟨g1, 0, none⟩) 3 3), (4, In 2), (15, S [67, 82, 65, 77, 45, 77, 68, 53]), (16, S m)] fun β => ?_
   refine GL_C (c_rSame [67, 82, 65, 77, 45, 77, 68, 53] m (by first | omega | decide) (by first | omega | decide) H) ?_
   rintro _ w5 ⟨rfl, H⟩
   refine GL_et ?_
   refine G_cond ([67, 82, 65, 77, 45, 77, 68, 53].map up == m.map up) (by kernel_rfl) (fun h2 => ?_) (fun h2 => ?_)
   · --yes
    replace h2 : [67, 82, 65, 77, 45, 77, 68, 53].map up = m.map up := eql_T h2
    refine G_sr ?_
    refine GL_st 2 2 [(2, In 2)] fun β => ?_
    refine G_ret ?_
    refine inb_ret (thn_ret (thn_ret (inb_ret (thn_ret (res1 (v := In 2) rfl (by kernel_rfl) ?_)))))
    replace H := H.drop 0
    replace H : Sep w0 w5 (F) := H
    refine ⟨?_, H⟩
    clear H
    unfold plcF
    first | (rw [if_pos (h0.symm.trans ups.1)]; rfl) | (rw [if_neg (fun e => h0 (ups.1.trans e.symm)), if_pos (h1.symm.trans ups.2.1)]; rfl) | (rw [if_neg (fun e => h0 (ups.1.trans e.symm)), if_neg (fun e => h1 (ups.2.1.trans e.symm)), if_pos (h2.symm.trans ups.2.2)]; rfl) | (rw [if_neg (fun e => h0 (ups.1.trans e.symm)), if_neg (fun e => h1 (ups.2.1.trans e.symm)), if_neg (fun e => h2 (ups.2.2.trans e.symm))])
   · --no
    replace h2 : ¬ ([67, 82, 65, 77, 45, 77, 68, 53].map up = m.map up) := eql_F h2
    refine G_skip ?_
    refine inb_normal ?_
    refine thn_normal ?_
    refine G_region ?_
    refine GL_st 3 3 [(0, S m), (3, .slice (some ⟨g1, 0, none⟩) 3 3), (4, In 3)] fun β => ?_
    refine GU_step ?_
    refine G_forget [(0, S m), (3, .slice (some ⟨g1, 0, none⟩) 3 3), (4, In 3)] (by kernel_rfl) (fun β => ?_)
    refine G_seq ?_
    refine G_sr ?_
    refine GL_st 4 4 [(0, S m), (3, .slice (some ⟨g1, 0, none⟩) 3 3), (4, In 3), (9, .bool false)] fun β => ?_
    refine G_false (by kernel_rfl) ?_
    refine G_exit (thn_exit (thn_exit (inb_hit ?_)))
    refine thn_normal ?_
    refine G_sr ?_
    refine GL_st 1 1 [(2, .int .i64 (-1 : Int))] fun β => ?_
    refine G_ret ?_
    refine res1 (v := .int .i64 (-1 : Int)) rfl (by kernel_rfl) ?_
    replace H := H.drop 0
    replace H : Sep w0 w5 (F) := H
    refine ⟨?_, H⟩
    clear H
    unfold plcF
    first | (rw [if_pos (h0.symm.trans ups.1)]; rfl) | (rw [if_neg (fun e => h0 (ups.1.trans e.symm)), if_pos (h1.symm.trans ups.2.1)]; rfl) | (rw [if_neg (fun e => h0 (ups.1.trans e.symm)), if_neg (fun e => h1 (ups.2.1.trans e.symm)), if_pos (h2.symm.trans ups.2.2)]; rfl) | (rw [if_neg (fun e => h0 (ups.1.trans e.symm)), if_neg (fun e => h1 (ups.2.1.trans e.symm)), if_neg (fun e => h2 (ups.2.2.trans e.symm))])
/-- posthorn/posthornref22.read -/
theorem c_rread (l : List UInt8) (hl : l.length ≤ 68719476736) {w0 w : World} {F : List Chunk} (H : Sep w0 w F) : Ret Tryd.prog 23 #[S l] w (fun v w' => ∃ o e p, dec l = (o, e, p) ∧ o.length ≤ 3 * l.length ∧ v = .tuple #[S o, .bool (e == 0)] ∧ Sep w0 w' F) := by
 refine Ret_enter (args := [S l]) Tryd.func23 rfl (by kernel_rfl) ?_
 refine G_forget [(0, S l)] (by kernel_rfl) (fun β => ?_)
 refine G_sr ?_
 refine GL_st 2 2 [(0, S l)] fun β => ?_
 refine G_sr ?_
 refine GL_s 1 1 [(7, S l)] fun β => ?_
 refine GL_C (c_rUnb l (by omega) H) ?_
 rintro _ w8 ⟨o1, e2, p3, A4, c5, hd6, hl7, rfl, H⟩
 refine GL_s 3 5 [(9, .slice A4 o1.length c5), (10, .agg #[In e2, In p3])] fun β => ?_
 refine GL_new (V := fun g => Pt g 0) (l := [In 0, In 0]) (t := 70) H rfl (by kernel_rfl) (by kernel_rfl) (by kernel_rfl) (fun g9 w10 H => ?_)
 refine GL_s 1 7 [(4, .slice A4 o1.length c5), (5, Pt g9 0), (10, .agg #[In e2, In p3])] fun β => ?_
 obtain ⟨w11, hr12, H⟩ := R_store (P := Tryd.prog) (t := 70) (v := .agg #[In e2, In p3]) (off := 0) H (i := 0) rfl (by kernel_rfl) (by kernel_rfl) (by kernel_rfl)
 replace H : Sep w0 w11 (.blk g9 70 [In e2, In p3] :: .row (.slice A4 o1.length c5) 5 1 o1.length (bs o1) :: F) := H
 refine GL_U hr12 ?_
 refine GL_et ?_
 refine G_seq ?_
 refine G_drawS (fun w => w.cell? ⟨g9, 0, none⟩ = some (In e2) ∧ True) 7 7 (by kernel_rfl) (by kernel_rfl) H (fun w13 H => ?_)
 refine HL_takes [0, 2] [(11, .slice A4 o1.length c5), (13, Pt g9 0)] (mkL 7 [0, 2]) 5 (by kernel_rfl) rfl (by kernel_rfl) (fun _ => by kernel_rfl) ⟨((H.blk_cell (i := 0) rfl 0).trans rfl), trivial⟩ (fun β => ?_)
 refine HL_t (i := 3) (m := 4) (fun w hS => run_load1 (t := 28) (by kernel_rfl) hS.1) rfl (by kernel_rfl) (by kernel_rfl) (by kernel_rfl) (by kernel_rfl) (by kernel_rfl) (by kernel_rfl) ⟨((H.blk_cell (i := 0) rfl 0).trans rfl), trivial⟩ rfl ?_
 refine HL_takes [4] [(11, .slice A4 o1.length c5), (15, .bool ((e2 : Int) == ((0 : Nat) : Int)))] (mkL 7 [0, 2, 3, 4]) 3 (by kernel_rfl) rfl (by kernel_rfl) (fun _ => by kernel_rfl) ⟨((H.blk_cell (i := 0) rfl 0).trans rfl), trivial⟩ (fun β => ?_)
 refine HL_forgetr [(11, .slice A4 o1.length c5), (15, .bool (e2 == 0))] (show ([.slice A4 o1.length c5, .bool ((e2 : Int) == ((0 : Nat) : Int))] : List Value) = [.slice A4 o1.length c5, .bool (e2 == 0)] by rw [neql e2 0]) (by kernel_rfl) rfl (fun β => ?_)
 refine HL_v (i := 1) (R_conv_bs (s := 68) (t := 9) (e := 5) (l := o1) (by kernel_rfl) (by kernel_rfl) (by kernel_rfl) (Src.row H (i := 1) rfl)) rfl (by kernel_rfl) (by kernel_rfl) (by kernel_rfl) (by kernel_rfl) (.inr ⟨((H.blk_cell (i := 0) rfl 0).trans rfl), trivial⟩) ?_
 refine HL_takes [5, 6] [(2, S o1), (3, .bool (e2 == 0))] (mkL 7 [0, 2, 3, 4, 1, 5, 6]) 0 (by kernel_rfl) rfl (by kernel_rfl) (fun _ => by kernel_rfl) ⟨((H.blk_cell (i := 0) rfl 0).trans rfl), trivial⟩ (fun β => ?_)
 refine HL_forget [(2, S o1), (3, .bool (e2 == 0))] (by kernel_rfl) (fun β => ?_)
 refine HL_fin (by kernel_rfl) ?_
 refine thn_normal ?_
 refine G_ret ?_
 refine res2 (v := S o1) (x := .bool (e2 == 0)) rfl (by kernel_rfl) (by kernel_rfl) ?_
 replace H := H.drop 1
 replace H := H.drop 0
 replace H : Sep w0 w13 (F) := H
 exact ⟨_, _, _, hd6, by assumption, rfl, H⟩
/-- posthorn/posthornref22.places -/
theorem c_places (s : List UInt8) (b : UInt8) (hs : s.length ≤ 1099511627776) {w0 w : World} {F : List Chunk} (H : Sep w0 w F) : Ret Tryd.prog 35 #[S s, .int .u8 (b.toNat : Int)] w (fun v w' => ∃ (o : List Nat) (A : Option Addr) (cp : Nat), o.length = cntF s b ∧ v = .slice A o.length cp ∧ Sep w0 w' (.row (.slice A o.length cp) 3 1 o.length (ins o) :: F)) := by
 refine Ret_enter (args := [S s, By b]) Tryd.func35 rfl (by kernel_rfl) ?_
 refine G_forget [(0, S s), (1, By b)] (by kernel_rfl) (fun β => ?_)
 refine G_sr ?_
 refine GL_st 1 1 [(0, S s), (1, By b)] fun β => ?_
 refine G_sr ?_
 refine GL_st 1 1 [(0, S s), (1, By b), (5, .slice none 0 0)] fun β => ?_
 refine G_seq ?_
 refine G_sr ?_
 refine GL_st 1 1 [(0, S s), (1, By b), (5, .slice none 0 0), (6, In 0)] fun β => ?_
 refine G_block ?_
 have H := H.nilRow 3 1
 refine G_loop (X := Nat × (List Nat) × (Option Addr) × Nat) (fun ⟨k, o, A, cp⟩ => [(0, S s), (1, By b), (5, .slice A o.length cp), (6, In k)]) (fun ⟨k, o, A, cp⟩ w_ => Sep w0 w_ (.row (.slice A o.length cp) 3 1 o.length (ins o) :: F) ∧ (k ≤ s.length ∧ o.length = cntF (s.take k) b)) (fun ⟨k, o, A, cp⟩ => s.length - k) (0, [], none, 0) (by kernel_rfl) ⟨H, ⟨by omega, rfl⟩⟩ ?_
 rintro ⟨k, o, A, cp⟩ β w1 ⟨H, hI⟩
 refine G_forget [(0, S s), (1, By b), (5, .slice A o.length cp), (6, In k)] (by kernel_rfl) (fun β => ?_)
 replace H : Sep w0 w1 (.row (.slice A o.length cp) 3 1 o.length (ins o) :: F) := H
 replace hI : k ≤ s.length ∧ o.length = cntF (s.take k) b := hI
 obtain ⟨hI1, hI2⟩ := hI
 have hcl := cnt_le b (s.take k)
 have htl : (s.take k).length ≤ k := by simp; omega
 refine G_seq ?_
 refine G_sr ?_
 refine GL_srt 4 4 [(0, S s), (1, By b), (5, .slice A o.length cp), (6, In k), (10, .bool (decide (k < s.length)))] (show ([S s, .int .u8 (b.toNat : Int), .slice A o.length cp, .int .i64 (k : Int), .bool (decide ((k : Int) < (s.length : Int)))] : List Value) = [S s, By b, .slice A o.length cp, In k, .bool (decide (k < s.length))] by rw [nlss k s.length]) fun β => ?_
 refine G_cond (decide (k < s.length)) (by kernel_rfl) (fun h0 => ?_) (fun h0 => ?_)
 · --yes
  replace h0 : k < s.length := of_decide_eq_true h0
  refine G_skip ?_
  refine thn_normal ?_
  refine G_seq ?_
  refine G_block ?_
  refine G_sr ?_
  refine GL_s 2 2 [(0, S s), (1, By b), (5, .slice A o.length cp), (6, In k), (13, S s), (14, In k)] fun β => ?_
  refine GL_V (R_index (P := Tryd.prog) (w := _) (t := 9) (ki := .i64) (i := k) (l := s) (by kernel_rfl) (by omega)) ?_
  refine GL_srt 2 5 [(0, S s), (1, By b), (5, .slice A o.length cp), (6, In k), (17, .bool ((s.getD k 0) == b))] (show ([S s, .int .u8 (b.toNat : Int), .slice A o.length cp, .int .i64 (k : Int), .bool (((s.getD k 0).toNat : Int) == (b.toNat : Int))] : List Value) = [S s, By b, .slice A o.length cp, In k, .bool ((s.getD k 0) == b)] by rw [Kw.u8_eql (s.getD k 0) b]) fun β => ?_
  refine G_cond ((s.getD k 0) == b) (by kernel_rfl) (fun h1 => ?_) (fun h1 => ?_)
  · --yes
   replace h1 : (s.getD k 0) = b := eql_T h1
   refine G_region ?_
   refine GL_s 2 2 [(0, S s), (1, By b), (6, In k), (18, .slice A o.length cp), (19, In k)] fun β => ?_
   refine GL_new (V := fun g => .slice (some ⟨g, 0, none⟩) 1 1) (l := [In k]) (t := 3) H rfl (by kernel_rfl) (by kernel_rfl) (by kernel_rfl) (fun g2 w3 H => ?_)
   obtain ⟨A4, c5, w6, hr7, H⟩ := R_append (P := Tryd.prog) (t := 89) (ty := 89) (e := 3) (z := .int .i64 0) (sz := 1) (by_ := 8) H (i := 1) rfl (by kernel_rfl) rfl (Src.blkp (m := 1) (c := 1) (off := 0) H (i := 0) rfl [In k] rfl ⟨_, rfl⟩) (one_list rfl) (by unfold maxLen; omega) (by omega)
   replace H := H.drop 0
   replace H : Sep w0 w6 (.row (.slice A4 (o.length + 1) c5) 3 1 (o.length + 1) (ins o ++ [In k]) :: F) := H
   refine GL_V hr7 ?_
   refine GL_s 1 5 [(0, S s), (1, By b), (5, .slice A4 (o.length + 1) c5), (6, In k)] fun β => ?_
   refine GL_end (by kernel_rfl) ?_
   refine inb_normal ?_
   refine thn_normal ?_
   refine G_region ?_
   refine GL_sr 3 3 [(0, S s), (1, By b), (5, .slice A4 (o.length + 1) c5), (6, In (k + 1))] (show ([S s, .int .u8 (b.toNat : Int), .slice A4 (o.length + 1) c5, .int .i64 (IntKind.i64.wrap ((k : Int) + ((1 : Nat) : Int)))] : List Value) = [S s, By b, .slice A4 (o.length + 1) c5, In (k + 1)] by rw [nadd64 k 1 (by omega)]) fun β => ?_
   refine GL_end (by kernel_rfl) ?_
   have hno : o.length + 1 = (o ++ [k]).length := by simp
   rw [hno] at H ⊢
   replace H : Sep w0 w6 (.row (.slice A4 ((o ++ [k]).length) c5) 3 1 ((o ++ [k]).length) (ins (o ++ [k])) :: F) := by rw [ins_append]; exact H
   replace H : Sep w0 w6 (.row (.slice A4 ((o ++ [k]).length) c5) 3 1 ((o ++ [k]).length) (ins (o ++ [k])) :: F) := H
   refine thn_normal ⟨(k + 1, o ++ [k], A4, c5), Agr_of_keys (by kernel_rfl), ⟨H, ?_⟩, ?_⟩
   · first | exact ⟨by omega, by rw [cnt_step (by omega), if_pos h1]; simp [hI2]⟩ | exact ⟨by omega, by rw [cnt_step (by omega), if_neg h1]; simp [hI2]⟩
   · first | (dsimp only; omega) | omega
  · --no
   replace h1 : ¬ ((s.getD k 0) = b) := eql_F h1
   refine G_skip ?_
   refine inb_normal ?_
   refine thn_normal ?_
   refine G_region ?_
   refine GL_sr 3 3 [(0, S s), (1, By b), (5, .slice A o.length cp), (6, In (k + 1))] (show ([S s, .int .u8 (b.toNat : Int), .slice A o.length cp, .int .i64 (IntKind.i64.wrap ((k : Int) + ((1 : Nat) : Int)))] : List Value) = [S s, By b, .slice A o.length cp, In (k + 1)] by rw [nadd64 k 1 (by omega)]) fun β => ?_
   refine GL_end (by kernel_rfl) ?_
   replace H : Sep w0 w1 (.row (.slice A o.length cp) 3 1 o.length (ins o) :: F) := H
   refine thn_normal ⟨(k + 1, o, A, cp), Agr_of_keys (by kernel_rfl), ⟨H, ?_⟩, ?_⟩
   · first | exact ⟨by omega, by rw [cnt_step (by omega), if_pos h1]; simp [hI2]⟩ | exact ⟨by omega, by rw [cnt_step (by omega), if_neg h1]; simp [hI2]⟩
   · first | (dsimp only; omega) | omega
 · --no
  replace h0 : ¬ (k < s.length) := of_decide_eq_false h0
  refine G_exit (thn_exit (thn_exit (inb_hit ?_)))
  refine thn_normal ?_
  refine G_sr ?_
  refine GL_st 2 2 [(4, .slice A o.length cp)] fun β => ?_
  refine G_ret ?_
  refine res1 (v := .slice A o.length cp) rfl (by kernel_rfl) ?_
  replace H : Sep w0 w1 (.row (.slice A o.length cp) 3 1 o.length (ins o) :: F) := H
  have hk : k = s.length := by omega
  subst hk
  rw [List.take_length] at hI2
  exact ⟨_, _, _, hI2, rfl, H⟩

def rdbF (k : Nat) (a : List UInt8) : Bool := if k = 0 then cntF a 0 == 2 else if k = 2 then decide (0 < cntF a 32) else true
/-- posthorn/posthornref22.readable -/
theorem c_readable_0 (a : List UInt8) (ha : a.length ≤ 1099511627776) {w0 w : World} {F : List Chunk} (H : Sep w0 w F) : Ret Tryd.prog 24 #[In 0, S a] w (fun v w' => v = .bool (rdbF 0 a) ∧ Sep w0 w' F) := by
 refine Ret_enter (args := [In 0, S a]) Tryd.func24 rfl (by kernel_rfl) ?_
 refine G_forget [(0, In 0), (1, S a)] (by kernel_rfl) (fun β => ?_)
 refine G_sr ?_
 refine GL_st 1 1 [(0, In 0), (1, S a)] fun β => ?_
 refine G_seq ?_
 refine G_sr ?_
 refine GL_st 1 1 [(1, S a), (5, In 0)] fun β => ?_
 refine G_block ?_
 refine G_sr ?_
 refine GL_st 2 2 [(1, S a), (5, In 0), (6, .bool true)] fun β => ?_
 refine G_true (by kernel_rfl) ?_
 refine G_sr ?_
 refine GL_s 1 1 [(8, S a)] fun β => ?_
 refine GL_C (c_places a (0 : UInt8) (by omega) H) ?_
 rintro _ w5 ⟨o1, A2, c3, ho4, rfl, H⟩
 refine GL_srt 3 5 [(4, .bool (o1.length == 2))] (show ([.bool ((o1.length : Int) == ((2 : Nat) : Int))] : List Value) = [.bool (o1.length == 2)] by rw [neql o1.length 2]) fun β => ?_
 refine G_ret ?_
 refine inb_ret (thn_ret (res1 (v := .bool (o1.length == 2)) rfl (by kernel_rfl) ?_))
 replace H := H.drop 0
 replace H : Sep w0 w5 (F) := H
 refine ⟨?_, H⟩
 first | rfl | simp [rdbF, *]
/-- posthorn/posthornref22.readable -/
theorem c_readable_1 (a : List UInt8) (ha : a.length ≤ 1099511627776) {w0 w : World} {F : List Chunk} (H : Sep w0 w F) : Ret Tryd.prog 24 #[In 1, S a] w (fun v w' => v = .bool (rdbF 1 a) ∧ Sep w0 w' F) := by
 refine Ret_enter (args := [In 1, S a]) Tryd.func24 rfl (by kernel_rfl) ?_
 refine G_forget [(0, In 1), (1, S a)] (by kernel_rfl) (fun β => ?_)
 refine G_sr ?_
 refine GL_st 1 1 [(0, In 1), (1, S a)] fun β => ?_
 refine G_seq ?_
 refine G_sr ?_
 refine GL_st 1 1 [(1, S a), (5, In 1)] fun β => ?_
 refine G_block ?_
 refine G_sr ?_
 refine GL_st 2 2 [(1, S a), (5, In 1), (6, .bool false)] fun β => ?_
 refine G_false (by kernel_rfl) ?_
 refine G_sr ?_
 refine GL_st 2 2 [(1, S a), (12, .bool false)] fun β => ?_
 refine G_false (by kernel_rfl) ?_
 refine G_skip ?_
 refine inb_normal ?_
 refine thn_normal ?_
 refine G_sr ?_
 refine GL_st 1 1 [(4, .bool true)] fun β => ?_
 refine G_ret ?_
 refine res1 (v := .bool true) rfl (by kernel_rfl) ?_
 replace H : Sep w0 w (F) := H
 refine ⟨?_, H⟩
 first | rfl | simp [rdbF, *]
/-- posthorn/posthornref22.readable -/
theorem c_readable_2 (a : List UInt8) (ha : a.length ≤ 1099511627776) {w0 w : World} {F : List Chunk} (H : Sep w0 w F) : Ret Tryd.prog 24 #[In 2, S a] w (fun v w' => v = .bool (rdbF 2 a) ∧ Sep w0 w' F) := by
 refine Ret_enter (args := [In 2, S a]) Tryd.func24 rfl (by kernel_rfl) ?_
 refine G_forget [(0, In 2), (1, S a)] (by kernel_rfl) (fun β => ?_)
 refine G_sr ?_
 refine GL_st 1 1 [(0, In 2), (1, S a)] fun β => ?_
 refine G_seq ?_
 refine G_sr ?_
 refine GL_st 1 1 [(1, S a), (5, In 2)] fun β => ?_
 refine G_block ?_
 refine G_sr ?_
 refine GL_st 2 2 [(1, S a), (5, In 2), (6, .bool false)] fun β => ?_
 refine G_false (by kernel_rfl) ?_
 refine G_sr ?_
 refine GL_st 2 2 [(1, S a), (12, .bool true)] fun β => ?_
 refine G_true (by kernel_rfl) ?_
 refine G_sr ?_
 refine GL_s 1 1 [(14, S a)] fun β => ?_
 refine GL_C (c_places a (32 : UInt8) (by omega) H) ?_
 rintro _ w5 ⟨o1, A2, c3, ho4, rfl, H⟩
 refine GL_srt 3 5 [(4, .bool (decide (o1.length > 0)))] (show ([.bool (decide ((o1.length : Int) > ((0 : Nat) : Int)))] : List Value) = [.bool (decide (o1.length > 0))] by rw [ngtr o1.length 0]) fun β => ?_
 refine G_ret ?_
 refine inb_ret (thn_ret (res1 (v := .bool (decide (o1.length > 0))) rfl (by kernel_rfl) ?_))
 replace H := H.drop 0
 replace H : Sep w0 w5 (F) := H
 refine ⟨?_, H⟩
 first | rfl | simp [rdbF, *]

/-- The error of Begin. -/
def begE (m y : List UInt8) (has : Bool) : Nat :=
  if plcF m < 0 then 220 else if has = false then 0
  else if (dec (if y = [61] then [] else y)).2.1 = 0 ∧ ¬ plcF m = 2 ∧ rdbF (plcF m).toNat (dec (if y = [61] then [] else y)).1 = true then 0 else 221
/-- posthorn/posthornref22.Begin -/
theorem c_rBegin_m1_true (l : List Str2) (hl : l.length ≤ 1099511627776) (m st y : List UInt8) (hml : m.length ≤ 1099511627776) (hy : y.length ≤ 68719476736) (hp : plcF m = -1) {B : Option Addr} {d : Nat} {w0 w : World} {F : List Chunk} (RU : Rd w0 F (.slice B l.length d) 2 l.length (us l)) (H : Sep w0 w F) : Ret Tryd.prog 8 #[.slice B l.length d, S m, S st, S y, .bool true] w (fun v w' => ∃ p, v = .tuple #[p, In (begE m y true)] ∧ Sep w0 w' F) := by
 refine Ret_enter (args := [.slice B l.length d, S m, S st, S y, .bool true]) Tryd.func8 rfl (by kernel_rfl) ?_
 refine G_forget [(0, .slice B l.length d), (1, S m), (2, S st), (3, S y), (4, .bool true)] (by kernel_rfl) (fun β => ?_)
 refine G_sr ?_
 refine GL_st 2 2 [(0, .slice B l.length d), (1, S m), (2, S st), (3, S y), (4, .bool true)] fun β => ?_
 refine G_sr ?_
 refine GL_s 1 1 [(0, .slice B l.length d), (2, S st), (3, S y), (4, .bool true), (16, S m)] fun β => ?_
 refine GL_C (c_Place m (by omega) H) ?_
 rintro _ w1 ⟨rfl, H⟩
 rw [hp]
 refine GL_st 1 3 [(0, .slice B l.length d), (2, S st), (3, S y), (4, .bool true), (12, .int .i64 (-1 : Int))] fun β => ?_
 refine G_seq ?_
 refine G_sr ?_
 refine GL_st 2 2 [(0, .slice B l.length d), (2, S st), (3, S y), (4, .bool true), (12, .int .i64 (-1 : Int)), (19, .bool true)] fun β => ?_
 refine G_true (by kernel_rfl) ?_
 refine G_sr ?_
 refine GL_st 2 2 [(10, .pointer none), (11, In 220)] fun β => ?_
 refine G_ret ?_
 refine thn_ret (res2 (v := .pointer none) (x := In 220) rfl (by kernel_rfl) (by kernel_rfl) ?_)
 replace H : Sep w0 w1 (F) := H
 have e : begE m y true = 220 := by simp [begE, *]
 rw [e]
 exact ⟨_, rfl, H⟩
/-- posthorn/posthornref22.Begin -/
theorem c_rBegin_m1_false (l : List Str2) (hl : l.length ≤ 1099511627776) (m st y : List UInt8) (hml : m.length ≤ 1099511627776) (hy : y.length ≤ 68719476736) (hp : plcF m = -1) {B : Option Addr} {d : Nat} {w0 w : World} {F : List Chunk} (RU : Rd w0 F (.slice B l.length d) 2 l.length (us l)) (H : Sep w0 w F) : Ret Tryd.prog 8 #[.slice B l.length d, S m, S st, S y, .bool false] w (fun v w' => ∃ p, v = .tuple #[p, In (begE m y false)] ∧ Sep w0 w' F) := by
 refine Ret_enter (args := [.slice B l.length d, S m, S st, S y, .bool false]) Tryd.func8 rfl (by kernel_rfl) ?_
 refine G_forget [(0, .slice B l.length d), (1, S m), (2, S st), (3, S y), (4, .bool false)] (by kernel_rfl) (fun β => ?_)
 refine G_sr ?_
 refine GL_st 2 2 [(0, .slice B l.length d), (1, S m), (2, S st), (3, S y), (4, .bool false)] fun β => ?_
 refine G_sr ?_
 refine GL_s 1 1 [(0, .slice B l.length d), (2, S st), (3, S y), (4, .bool false), (16, S m)] fun β => ?_
 refine GL_C (c_Place m (by omega) H) ?_
 rintro _ w1 ⟨rfl, H⟩
 rw [hp]
 refine GL_st 1 3 [(0, .slice B l.length d), (2, S st), (3, S y), (4, .bool false), (12, .int .i64 (-1 : Int))] fun β => ?_
 refine G_seq ?_
 refine G_sr ?_
 refine GL_st 2 2 [(0, .slice B l.length d), (2, S st), (3, S y), (4, .bool false), (12, .int .i64 (-1 : Int)), (19, .bool true)] fun β => ?_
 refine G_true (by kernel_rfl) ?_
 refine G_sr ?_
 refine GL_st 2 2 [(10, .pointer none), (11, In 220)] fun β => ?_
 refine G_ret ?_
 refine thn_ret (res2 (v := .pointer none) (x := In 220) rfl (by kernel_rfl) (by kernel_rfl) ?_)
 replace H : Sep w0 w1 (F) := H
 have e : begE m y false = 220 := by simp [begE, *]
 rw [e]
 exact ⟨_, rfl, H⟩
/-- posthorn/posthornref22.Begin -/
theorem c_rBegin_0_true (l : List Str2) (hl : l.length ≤ 1099511627776) (m st y : List UInt8) (hml : m.length ≤ 1099511627776) (hy : y.length ≤ 68719476736) (hp : plcF m = 0) {B : Option Addr} {d : Nat} {w0 w : World} {F : List Chunk} (RU : Rd w0 F (.slice B l.length d) 2 l.length (us l)) (H : Sep w0 w F) : Ret Tryd.prog 8 #[.slice B l.length d, S m, S st, S y, .bool true] w (fun v w' => ∃ p, v = .tuple #[p, In (begE m y true)] ∧ Sep w0 w' F) := by
 refine Ret_enter (args := [.slice B l.length d, S m, S st, S y, .bool true]) Tryd.func8 rfl (by kernel_rfl) ?_
 refine G_forget [(0, .slice B l.length d), (1, S m), (2, S st), (3, S y), (4, .bool true)] (by kernel_rfl) (fun β => ?_)
 refine G_sr ?_
 refine GL_st 2 2 [(0, .slice B l.length d), (1, S m), (2, S st), (3, S y), (4, .bool true)] fun β => ?_
 refine G_sr ?_
 refine GL_s 1 1 [(0, .slice B l.length d), (2, S st), (3, S y), (4, .bool true), (16, S m)] fun β => ?_
 refine GL_C (c_Place m (by omega) H) ?_
 rintro _ w1 ⟨rfl, H⟩
 rw [hp]
 refine GL_st 1 3 [(0, .slice B l.length d), (2, S st), (3, S y), (4, .bool true), (12, In 0)] fun β => ?_
 refine G_seq ?_
 refine G_sr ?_
 refine GL_st 2 2 [(0, .slice B l.length d), (2, S st), (3, S y), (4, .bool true), (12, In 0), (19, .bool false)] fun β => ?_
 refine G_false (by kernel_rfl) ?_
 refine G_skip ?_
 refine thn_normal ?_
 refine G_sr ?_
 refine GL_s 3 3 [(0, .slice B l.length d), (3, S y), (4, .bool true), (12, In 0), (22, .agg #[.slice none 0 0, In 0, S st, .slice none 0 0, In 0])] fun β => ?_
 refine GL_new (V := fun g => Pt g 0) (l := [.slice none 0 0, In 0, S st, .slice none 0 0, In 0]) (t := 64) H rfl (by kernel_rfl) (by kernel_rfl) (by kernel_rfl) (fun g2 w3 H => ?_)
 refine GL_st 1 5 [(0, .slice B l.length d), (3, S y), (4, .bool true), (12, In 0), (13, Pt g2 0)] fun β => ?_
 refine G_sr ?_
 refine GL_s 4 4 [(0, .slice B l.length d), (3, S y), (4, .bool true), (12, In 0), (13, Pt g2 0), (24, Pt g2 0), (27, Pt g2 0)] fun β => ?_
 refine GL_V (run_load1 (t := 22) (by kernel_rfl) ((H.blk_cell (i := 0) rfl 0).trans rfl)) ?_
 refine GL_s 1 6 [(3, S y), (4, .bool true), (12, In 0), (13, Pt g2 0), (24, Pt g2 0), (28, .slice none 0 0), (29, .slice B l.length d)] fun β => ?_
 obtain ⟨A4, c5, w6, hr7, H⟩ := R_append_nil (P := Tryd.prog) (t := 22) (ty := 22) (e := 40) (z := .agg #[S ([] : List UInt8), S ([] : List UInt8)]) (sz := 2) (by_ := 32) H (by kernel_rfl) rfl (Rd.src RU (H.drop 0)) (us_one _) (by unfold maxLen; omega) (by omega)
 replace H : Sep w0 w6 (.row (.slice A4 l.length c5) 40 2 l.length (us l) :: .blk g2 64 [.slice none 0 0, In 0, S st, .slice none 0 0, In 0] :: F) := H
 refine GL_V hr7 ?_
 refine GL_s 2 9 [(3, S y), (4, .bool true), (12, In 0), (13, Pt g2 0), (30, .slice A4 l.length c5), (32, Pt g2 0)] fun β => ?_
 obtain ⟨w8, hr9, H⟩ := R_store (P := Tryd.prog) (t := 22) (v := .slice A4 l.length c5) (off := 0) H (i := 1) rfl (by kernel_rfl) (by kernel_rfl) (by kernel_rfl)
 replace H : Sep w0 w8 (.row (.slice A4 l.length c5) 40 2 l.length (us l) :: .blk g2 64 [.slice A4 l.length c5, In 0, S st, .slice none 0 0, In 0] :: F) := H
 refine GL_U hr9 ?_
 refine GL_et ?_
 refine G_seq ?_
 refine G_sr ?_
 refine GL_st 2 2 [(3, S y), (12, In 0), (13, Pt g2 0), (34, .bool false)] fun β => ?_
 refine G_false (by kernel_rfl) ?_
 refine G_skip ?_
 refine thn_normal ?_
 refine G_seq ?_
 refine G_sr ?_
 refine GL_s 1 1 [(3, S y), (12, In 0), (13, Pt g2 0), (36, S y)] fun β => ?_
 refine GL_V (R_streq (t := 9) (l := y) (m := [61])) ?_
 refine GL_et ?_
 refine G_cond (y == [61]) (by kernel_rfl) (fun h0 => ?_) (fun h0 => ?_)
 · --yes
  replace h0 : y = [61] := eql_T h0
  refine G_region ?_
  refine GL_st 1 1 [(3, S ([] : List UInt8)), (12, In 0), (13, Pt g2 0)] fun β => ?_
  refine G_sr ?_
  refine GL_s 1 1 [(12, In 0), (13, Pt g2 0), (39, S ([] : List UInt8))] fun β => ?_
  refine GL_C (c_rread ([] : List UInt8) (by first | omega | (simp only [List.length_nil]; omega)) H) ?_
  rintro _ w15 ⟨o10, e11, p12, hd13, hl14, rfl, H⟩
  refine GL_st 5 7 [(12, In 0), (13, Pt g2 0), (14, S o10), (15, .bool (e11 == 0))] fun β => ?_
  refine G_seq ?_
  refine G_sr ?_
  refine GL_s 3 3 [(12, In 0), (13, Pt g2 0), (14, S o10), (45, .bool (!(e11 == 0)))] fun β => ?_
  rcases Bool.eq_false_or_eq_true (!(e11 == 0)) with h1 | h1
  · --yes
   refine GL_re [(12, In 0), (13, Pt g2 0), (14, S o10), (45, .bool true)] (show ([In 0, Pt g2 0, S o10, .bool (!(e11 == 0))] : List Value) = [In 0, Pt g2 0, S o10, .bool true] by rw [h1]) (fun β => ?_)
   have h1 := not_F h1
   replace h1 : ¬ (e11 = 0) := eql_F h1
   refine GL_st 9 12 [(13, Pt g2 0), (14, S o10), (54, .bool true)] fun β => ?_
   refine G_true (by kernel_rfl) ?_
   refine G_sr ?_
   refine GL_st 2 2 [(10, .pointer none), (11, In 221)] fun β => ?_
   refine G_ret ?_
   refine thn_ret (res2 (v := .pointer none) (x := In 221) rfl (by kernel_rfl) (by kernel_rfl) ?_)
   replace H := H.drop 1
   replace H := H.drop 0
   replace H : Sep w0 w15 (F) := H
   have e : begE m y true = 221 := by simp [begE, *]
   rw [e]
   exact ⟨_, rfl, H⟩
  · --no
   refine GL_re [(12, In 0), (13, Pt g2 0), (14, S o10), (45, .bool false)] (show ([In 0, Pt g2 0, S o10, .bool (!(e11 == 0))] : List Value) = [In 0, Pt g2 0, S o10, .bool false] by rw [h1]) (fun β => ?_)
   have h1 := not_T h1
   replace h1 : e11 = 0 := eql_T h1
   refine GL_s 6 9 [(13, Pt g2 0), (14, S o10), (49, .bool false), (50, In 0), (51, S o10)] fun β => ?_
   refine GL_C (c_readable_0 o10 (by first | omega | (simp only [List.length_nil] at *; omega)) H) ?_
   rintro _ w16 ⟨rfl, H⟩
   refine GL_st 2 12 [(13, Pt g2 0), (14, S o10), (54, .bool (!(rdbF 0 o10)))] fun β => ?_
   refine G_cond (!(rdbF 0 o10)) (by kernel_rfl) (fun h2 => ?_) (fun h2 => ?_)
   · --yes
    have h2 := not_F h2
    refine G_sr ?_
    refine GL_st 2 2 [(10, .pointer none), (11, In 221)] fun β => ?_
    refine G_ret ?_
    refine thn_ret (res2 (v := .pointer none) (x := In 221) rfl (by kernel_rfl) (by kernel_rfl) ?_)
    replace H := H.drop 1
    replace H := H.drop 0
    replace H : Sep w0 w16 (F) := H
    have e : begE m y true = 221 := by simp [begE, *]
    rw [e]
    exact ⟨_, rfl, H⟩
   · --no
    have h2 := not_T h2
    refine G_skip ?_
    refine thn_normal ?_
    refine G_sr ?_
    refine GL_s 4 4 [(13, Pt g2 0), (14, S o10), (55, Pt g2 0), (58, Pt g2 3)] fun β => ?_
    refine GL_V (run_load1 (t := 23) (by kernel_rfl) ((H.blk_cell (i := 1) rfl 3).trans rfl)) ?_
    refine GL_s 1 6 [(13, Pt g2 0), (55, Pt g2 0), (59, .slice none 0 0), (60, S o10)] fun β => ?_
    refine GL_new (V := fun g => .slice (some ⟨g, 0, none⟩) 1 1) (l := [S o10]) (t := 9) H rfl (by kernel_rfl) (by kernel_rfl) (by kernel_rfl) (fun g17 w18 H => ?_)
    obtain ⟨A19, c20, w21, hr22, H⟩ := R_append_nil (P := Tryd.prog) (t := 23) (ty := 23) (e := 9) (z := S ([] : List UInt8)) (sz := 1) (by_ := 16) H (by kernel_rfl) rfl (Src.blkp (m := 1) (c := 1) (off := 0) H (i := 0) rfl [S o10] rfl ⟨_, rfl⟩) (one_list rfl) (by unfold maxLen; omega) (by omega)
    replace H := H.drop 1
    replace H : Sep w0 w21 (.row (.slice A19 1 c20) 9 1 1 [S o10] :: .row (.slice A4 l.length c5) 40 2 l.length (us l) :: .blk g2 64 [.slice A4 l.length c5, In 0, S st, .slice none 0 0, In 0] :: F) := H
    refine GL_V hr22 ?_
    refine GL_s 2 10 [(13, Pt g2 0), (62, .slice A19 1 c20), (64, Pt g2 3)] fun β => ?_
    obtain ⟨w23, hr24, H⟩ := R_store (P := Tryd.prog) (t := 23) (v := .slice A19 1 c20) (off := 3) H (i := 2) rfl (by kernel_rfl) (by kernel_rfl) (by kernel_rfl)
    replace H : Sep w0 w23 (.row (.slice A19 1 c20) 9 1 1 [S o10] :: .row (.slice A4 l.length c5) 40 2 l.length (us l) :: .blk g2 64 [.slice A4 l.length c5, In 0, S st, .slice A19 1 c20, In 0] :: F) := H
    refine GL_U hr24 ?_
    refine GL_et ?_
    refine G_sr ?_
    refine GL_st 3 3 [(10, Pt g2 0), (11, In 0)] fun β => ?_
    refine G_ret ?_
    refine res2 (v := Pt g2 0) (x := In 0) rfl (by kernel_rfl) (by kernel_rfl) ?_
    replace H := H.drop 2
    replace H := H.drop 1
    replace H := H.drop 0
    replace H : Sep w0 w23 (F) := H
    have e : begE m y true = 0 := by simp [begE, *]
    rw [e]
    exact ⟨_, rfl, H⟩
 · --no
  replace h0 : ¬ (y = [61]) := eql_F h0
  refine G_skip ?_
  refine thn_normal ?_
  refine G_sr ?_
  refine GL_s 1 1 [(12, In 0), (13, Pt g2 0), (39, S y)] fun β => ?_
  refine GL_C (c_rread y (by first | omega | (simp only [List.length_nil]; omega)) H) ?_
  rintro _ w30 ⟨o25, e26, p27, hd28, hl29, rfl, H⟩
  refine GL_st 5 7 [(12, In 0), (13, Pt g2 0), (14, S o25), (15, .bool (e26 == 0))] fun β => ?_
  refine G_seq ?_
  refine G_sr ?_
  refine GL_s 3 3 [(12, In 0), (13, Pt g2 0), (14, S o25), (45, .bool (!(e26 == 0)))] fun β => ?_
  rcases Bool.eq_false_or_eq_true (!(e26 == 0)) with h3 | h3
  · --yes
   refine GL_re [(12, In 0), (13, Pt g2 0), (14, S o25), (45, .bool true)] (show ([In 0, Pt g2 0, S o25, .bool (!(e26 == 0))] : List Value) = [In 0, Pt g2 0, S o25, .bool true] by rw [h3]) (fun β => ?_)
   have h3 := not_F h3
   replace h3 : ¬ (e26 = 0) := eql_F h3
   refine GL_st 9 12 [(13, Pt g2 0), (14, S o25), (54, .bool true)] fun β => ?_
   refine G_true (by kernel_rfl) ?_
   refine G_sr ?_
   refine GL_st 2 2 [(10, .pointer none), (11, In 221)] fun β => ?_
   refine G_ret ?_
   refine thn_ret (res2 (v := .pointer none) (x := In 221) rfl (by kernel_rfl) (by kernel_rfl) ?_)
   replace H := H.drop 1
   replace H := H.drop 0
   replace H : Sep w0 w30 (F) := H
   have e : begE m y true = 221 := by simp [begE, *]
   rw [e]
   exact ⟨_, rfl, H⟩
  · --no
   refine GL_re [(12, In 0), (13, Pt g2 0), (14, S o25), (45, .bool false)] (show ([In 0, Pt g2 0, S o25, .bool (!(e26 == 0))] : List Value) = [In 0, Pt g2 0, S o25, .bool false] by rw [h3]) (fun β => ?_)
   have h3 := not_T h3
   replace h3 : e26 = 0 := eql_T h3
   refine GL_s 6 9 [(13, Pt g2 0), (14, S o25), (49, .bool false), (50, In 0), (51, S o25)] fun β => ?_
   refine GL_C (c_readable_0 o25 (by first | omega | (simp only [List.length_nil] at *; omega)) H) ?_
   rintro _ w31 ⟨rfl, H⟩
   refine GL_st 2 12 [(13, Pt g2 0), (14, S o25), (54, .bool (!(rdbF 0 o25)))] fun β => ?_
   refine G_cond (!(rdbF 0 o25)) (by kernel_rfl) (fun h4 => ?_) (fun h4 => ?_)
   · --yes
    have h4 := not_F h4
    refine G_sr ?_
    refine GL_st 2 2 [(10, .pointer none), (11, In 221)] fun β => ?_
    refine G_ret ?_
    refine thn_ret (res2 (v := .pointer none) (x := In 221) rfl (by kernel_rfl) (by kernel_rfl) ?_)
    replace H := H.drop 1
    replace H := H.drop 0
    replace H : Sep w0 w31 (F) := H
    have e : begE m y true = 221 := by simp [begE, *]
    rw [e]
    exact ⟨_, rfl, H⟩
   · --no
    have h4 := not_T h4
    refine G_skip ?_
    refine thn_normal ?_
    refine G_sr ?_
    refine GL_s 4 4 [(13, Pt g2 0), (14, S o25), (55, Pt g2 0), (58, Pt g2 3)] fun β => ?_
    refine GL_V (run_load1 (t := 23) (by kernel_rfl) ((H.blk_cell (i := 1) rfl 3).trans rfl)) ?_
    refine GL_s 1 6 [(13, Pt g2 0), (55, Pt g2 0), (59, .slice none 0 0), (60, S o25)] fun β => ?_
    refine GL_new (V := fun g => .slice (some ⟨g, 0, none⟩) 1 1) (l := [S o25]) (t := 9) H rfl (by kernel_rfl) (by kernel_rfl) (by kernel_rfl) (fun g32 w33 H => ?_)
    obtain ⟨A34, c35, w36, hr37, H⟩ := R_append_nil (P := Tryd.prog) (t := 23) (ty := 23) (e := 9) (z := S ([] : List UInt8)) (sz := 1) (by_ := 16) H (by kernel_rfl) rfl (Src.blkp (m := 1) (c := 1) (off := 0) H (i := 0) rfl [S o25] rfl ⟨_, rfl⟩) (one_list rfl) (by unfold maxLen; omega) (by omega)
    replace H := H.drop 1
    replace H : Sep w0 w36 (.row (.slice A34 1 c35) 9 1 1 [S o25] :: .row (.slice A4 l.length c5) 40 2 l.length (us l) :: .blk g2 64 [.slice A4 l.length c5, In 0, S st, .slice none 0 0, In 0] :: F) := H
    refine GL_V hr37 ?_
    refine GL_s 2 10 [(13, Pt g2 0), (62, .slice A34 1 c35), (64, Pt g2 3)] fun β => ?_
    obtain ⟨w38, hr39, H⟩ := R_store (P := Tryd.prog) (t := 23) (v := .slice A34 1 c35) (off := 3) H (i := 2) rfl (by kernel_rfl) (by kernel_rfl) (by kernel_rfl)
    replace H : Sep w0 w38 (.row (.slice A34 1 c35) 9 1 1 [S o25] :: .row (.slice A4 l.length c5) 40 2 l.length (us l) :: .blk g2 64 [.slice A4 l.length c5, In 0, S st, .slice A34 1 c35, In 0] :: F) := H
    refine GL_U hr39 ?_
    refine GL_et ?_
    refine G_sr ?_
    refine GL_st 3 3 [(10, Pt g2 0), (11, In 0)] fun β => ?_
    refine G_ret ?_
    refine res2 (v := Pt g2 0) (x := In 0) rfl (by kernel_rfl) (by kernel_rfl) ?_
    replace H := H.drop 2
    replace H := H.drop 1
    replace H := H.drop 0
    replace H : Sep w0 w38 (F) := H
    have e : begE m y true = 0 := by simp [begE, *]
    rw [e]
    exact ⟨_, rfl, H⟩
/-- posthorn/posthornref22.Begin -/
theorem c_rBegin_0_false (l : List Str2) (hl : l.length ≤ 1099511627776) (m st y : List UInt8) (hml : m.length ≤ 1099511627776) (hy : y.length ≤ 68719476736) (hp : plcF m = 0) {B : Option Addr} {d : Nat} {w0 w : World} {F : List Chunk} (RU : Rd w0 F (.slice B l.length d) 2 l.length (us l)) (H : Sep w0 w F) : Ret Tryd.prog 8 #[.slice B l.length d, S m, S st, S y, .bool false] w (fun v w' => ∃ p, v = .tuple #[p, In (begE m y false)] ∧ Sep w0 w' F) := by
 refine Ret_enter (args := [.slice B l.length d, S m, S st, S y, .bool false]) Tryd.func8 rfl (by kernel_rfl) ?_
 refine G_forget [(0, .slice B l.length d), (1, S m), (2, S st), (3, S y), (4, .bool false)] (by kernel_rfl) (fun β => ?_)
 refine G_sr ?_
 refine GL_st 2 2 [(0, .slice B l.length d), (1, S m), (2, S st), (3, S y), (4, .bool false)] fun β => ?_
 refine G_sr ?_
 refine GL_s 1 1 [(0, .slice B l.length d), (2, S st), (3, S y), (4, .bool false), (16, S m)] fun β => ?_
 refine GL_C (c_Place m (by omega) H) ?_
 rintro _ w1 ⟨rfl, H⟩
 rw [hp]
 refine GL_st 1 3 [(0, .slice B l.length d), (2, S st), (3, S y), (4, .bool false), (12, In 0)] fun β => ?_
 refine G_seq ?_
 refine G_sr ?_
 refine GL_st 2 2 [(0, .slice B l.length d), (2, S st), (3, S y), (4, .bool false), (12, In 0), (19, .bool false)] fun β => ?_
 refine G_false (by kernel_rfl) ?_
 refine G_skip ?_
 refine thn_normal ?_
 refine G_sr ?_
 refine GL_s 3 3 [(0, .slice B l.length d), (3, S y), (4, .bool false), (12, In 0), (22, .agg #[.slice none 0 0, In 0, S st, .slice none 0 0, In 0])] fun β => ?_
 refine GL_new (V := fun g => Pt g 0) (l := [.slice none 0 0, In 0, S st, .slice none 0 0, In 0]) (t := 64) H rfl (by kernel_rfl) (by kernel_rfl) (by kernel_rfl) (fun g2 w3 H => ?_)
 refine GL_st 1 5 [(0, .slice B l.length d), (3, S y), (4, .bool false), (12, In 0), (13, Pt g2 0)] fun β => ?_
 refine G_sr ?_
 refine GL_s 4 4 [(0, .slice B l.length d), (3, S y), (4, .bool false), (12, In 0), (13, Pt g2 0), (24, Pt g2 0), (27, Pt g2 0)] fun β => ?_
 refine GL_V (run_load1 (t := 22) (by kernel_rfl) ((H.blk_cell (i := 0) rfl 0).trans rfl)) ?_
 refine GL_s 1 6 [(3, S y), (4, .bool false), (12, In 0), (13, Pt g2 0), (24, Pt g2 0), (28, .slice none 0 0), (29, .slice B l.length d)] fun β => ?_
 obtain ⟨A4, c5, w6, hr7, H⟩ := R_append_nil (P := Tryd.prog) (t := 22) (ty := 22) (e := 40) (z := .agg #[S ([] : List UInt8), S ([] : List UInt8)]) (sz := 2) (by_ := 32) H (by kernel_rfl) rfl (Rd.src RU (H.drop 0)) (us_one _) (by unfold maxLen; omega) (by omega)
 replace H : Sep w0 w6 (.row (.slice A4 l.length c5) 40 2 l.length (us l) :: .blk g2 64 [.slice none 0 0, In 0, S st, .slice none 0 0, In 0] :: F) := H
 refine GL_V hr7 ?_
 refine GL_s 2 9 [(3, S y), (4, .bool false), (12, In 0), (13, Pt g2 0), (30, .slice A4 l.length c5), (32, Pt g2 0)] fun β => ?_
 obtain ⟨w8, hr9, H⟩ := R_store (P := Tryd.prog) (t := 22) (v := .slice A4 l.length c5) (off := 0) H (i := 1) rfl (by kernel_rfl) (by kernel_rfl) (by kernel_rfl)
 replace H : Sep w0 w8 (.row (.slice A4 l.length c5) 40 2 l.length (us l) :: .blk g2 64 [.slice A4 l.length c5, In 0, S st, .slice none 0 0, In 0] :: F) := H
 refine GL_U hr9 ?_
 refine GL_et ?_
 refine G_seq ?_
 refine G_sr ?_
 refine GL_st 2 2 [(3, S y), (12, In 0), (13, Pt g2 0), (34, .bool true)] fun β => ?_
 refine G_true (by kernel_rfl) ?_
 refine G_sr ?_
 refine GL_st 3 3 [(10, Pt g2 0), (11, In 0)] fun β => ?_
 refine G_ret ?_
 refine thn_ret (res2 (v := Pt g2 0) (x := In 0) rfl (by kernel_rfl) (by kernel_rfl) ?_)
 replace H := H.drop 1
 replace H := H.drop 0
 replace H : Sep w0 w8 (F) := H
 have e : begE m y false = 0 := by simp [begE, *]
 rw [e]
 exact ⟨_, rfl, H⟩
/-- posthorn/posthornref22.Begin -/
theorem c_rBegin_1_true (l : List Str2) (hl : l.length ≤ 1099511627776) (m st y : List UInt8) (hml : m.length ≤ 1099511627776) (hy : y.length ≤ 68719476736) (hp : plcF m = 1) {B : Option Addr} {d : Nat} {w0 w : World} {F : List Chunk} (RU : Rd w0 F (.slice B l.length d) 2 l.length (us l)) (H : Sep w0 w F) : Ret Tryd.prog 8 #[.slice B l.length d, S m, S st, S y, .bool true] w (fun v w' => ∃ p, v = .tuple #[p, In (begE m y true)] ∧ Sep w0 w' F) := by
 refine Ret_enter (args := [.slice B l.length d, S m, S st, S y, .bool true]) Tryd.func8 rfl (by kernel_rfl) ?_
 refine G_forget [(0, .slice B l.length d), (1, S m), (2, S st), (3, S y), (4, .bool true)] (by kernel_rfl) (fun β => ?_)
 refine G_sr ?_
 refine GL_st 2 2 [(0, .slice B l.length d), (1, S m), (2, S st), (3, S y), (4, .bool true)] fun β => ?_
 refine G_sr ?_
 refine GL_s 1 1 [(0, .slice B l.length d), (2, S st), (3, S y), (4, .bool true), (16, S m)] fun β => ?_
 refine GL_C (c_Place m (by omega) H) ?_
 rintro _ w1 ⟨rfl, H⟩
 rw [hp]
 refine GL_st 1 3 [(0, .slice B l.length d), (2, S st), (3, S y), (4, .bool true), (12, In 1)] fun β => ?_
 refine G_seq ?_
 refine G_sr ?_
 refine GL_st 2 2 [(0, .slice B l.length d), (2, S st), (3, S y), (4, .bool true), (12, In 1), (19, .bool false)] fun β => ?_
 refine G_false (by kernel_rfl) ?_
 refine G_skip ?_
 refine thn_normal ?_
 refine G_sr ?_
 refine GL_s 3 3 [(0, .slice B l.length d), (3, S y), (4, .bool true), (12, In 1), (22, .agg #[.slice none 0 0, In 1, S st, .slice none 0 0, In 0])] fun β => ?_
 refine GL_new (V := fun g => Pt g 0) (l := [.slice none 0 0, In 1, S st, .slice none 0 0, In 0]) (t := 64) H rfl (by kernel_rfl) (by kernel_rfl) (by kernel_rfl) (fun g2 w3 H => ?_)
 refine GL_st 1 5 [(0, .slice B l.length d), (3, S y), (4, .bool true), (12, In 1), (13, Pt g2 0)] fun β => ?_
 refine G_sr ?_
 refine GL_s 4 4 [(0, .slice B l.length d), (3, S y), (4, .bool true), (12, In 1), (13, Pt g2 0), (24, Pt g2 0), (27, Pt g2 0)] fun β => ?_
 refine GL_V (run_load1 (t := 22) (by kernel_rfl) ((H.blk_cell (i := 0) rfl 0).trans rfl)) ?_
 refine GL_s 1 6 [(3, S y), (4, .bool true), (12, In 1), (13, Pt g2 0), (24, Pt g2 0), (28, .slice none 0 0), (29, .slice B l.length d)] fun β => ?_
 obtain ⟨A4, c5, w6, hr7, H⟩ := R_append_nil (P := Tryd.prog) (t := 22) (ty := 22) (e := 40) (z := .agg #[S ([] : List UInt8), S ([] : List UInt8)]) (sz := 2) (by_ := 32) H (by kernel_rfl) rfl (Rd.src RU (H.drop 0)) (us_one _) (by unfold maxLen; omega) (by omega)
 replace H : Sep w0 w6 (.row (.slice A4 l.length c5) 40 2 l.length (us l) :: .blk g2 64 [.slice none 0 0, In 1, S st, .slice none 0 0, In 0] :: F) := H
 refine GL_V hr7 ?_
 refine GL_s 2 9 [(3, S y), (4, .bool true), (12, In 1), (13, Pt g2 0), (30, .slice A4 l.length c5), (32, Pt g2 0)] fun β => ?_
 obtain ⟨w8, hr9, H⟩ := R_store (P := Tryd.prog) (t := 22) (v := .slice A4 l.length c5) (off := 0) H (i := 1) rfl (by kernel_rfl) (by kernel_rfl) (by kernel_rfl)
 replace H : Sep w0 w8 (.row (.slice A4 l.length c5) 40 2 l.length (us l) :: .blk g2 64 [.slice A4 l.length c5, In 1, S st, .slice none 0 0, In 0] :: F) := H
 refine GL_U hr9 ?_
 refine GL_et ?_
 refine G_seq ?_
 refine G_sr ?_
 refine GL_st 2 2 [(3, S y), (12, In 1), (13, Pt g2 0), (34, .bool false)] fun β => ?_
 refine G_false (by kernel_rfl) ?_
 refine G_skip ?_
 refine thn_normal ?_
 refine G_seq ?_
 refine G_sr ?_
 refine GL_s 1 1 [(3, S y), (12, In 1), (13, Pt g2 0), (36, S y)] fun β => ?_
 refine GL_V (R_streq (t := 9) (l := y) (m := [61])) ?_
 refine GL_et ?_
 refine G_cond (y == [61]) (by kernel_rfl) (fun h0 => ?_) (fun h0 => ?_)
 · --yes
  replace h0 : y = [61] := eql_T h0
  refine G_region ?_
  refine GL_st 1 1 [(3, S ([] : List UInt8)), (12, In 1), (13, Pt g2 0)] fun β => ?_
  refine G_sr ?_
  refine GL_s 1 1 [(12, In 1), (13, Pt g2 0), (39, S ([] : List UInt8))] fun β => ?_
  refine GL_C (c_rread ([] : List UInt8) (by first | omega | (simp only [List.length_nil]; omega)) H) ?_
  rintro _ w15 ⟨o10, e11, p12, hd13, hl14, rfl, H⟩
  refine GL_st 5 7 [(12, In 1), (13, Pt g2 0), (14, S o10), (15, .bool (e11 == 0))] fun β => ?_
  refine G_seq ?_
  refine G_sr ?_
  refine GL_s 3 3 [(12, In 1), (13, Pt g2 0), (14, S o10), (45, .bool (!(e11 == 0)))] fun β => ?_
  rcases Bool.eq_false_or_eq_true (!(e11 == 0)) with h1 | h1
  · --yes
   refine GL_re [(12, In 1), (13, Pt g2 0), (14, S o10), (45, .bool true)] (show ([In 1, Pt g2 0, S o10, .bool (!(e11 == 0))] : List Value) = [In 1, Pt g2 0, S o10, .bool true] by rw [h1]) (fun β => ?_)
   have h1 := not_F h1
   replace h1 : ¬ (e11 = 0) := eql_F h1
   refine GL_st 9 12 [(13, Pt g2 0), (14, S o10), (54, .bool true)] fun β => ?_
   refine G_true (by kernel_rfl) ?_
   refine G_sr ?_
   refine GL_st 2 2 [(10, .pointer none), (11, In 221)] fun β => ?_
   refine G_ret ?_
   refine thn_ret (res2 (v := .pointer none) (x := In 221) rfl (by kernel_rfl) (by kernel_rfl) ?_)
   replace H := H.drop 1
   replace H := H.drop 0
   replace H : Sep w0 w15 (F) := H
   have e : begE m y true = 221 := by simp [begE, *]
   rw [e]
   exact ⟨_, rfl, H⟩
  · --no
   refine GL_re [(12, In 1), (13, Pt g2 0), (14, S o10), (45, .bool false)] (show ([In 1, Pt g2 0, S o10, .bool (!(e11 == 0))] : List Value) = [In 1, Pt g2 0, S o10, .bool false] by rw [h1]) (fun β => ?_)
   have h1 := not_T h1
   replace h1 : e11 = 0 := eql_T h1
   refine GL_s 6 9 [(13, Pt g2 0), (14, S o10), (49, .bool false), (50, In 1), (51, S o10)] fun β => ?_
   refine GL_C (c_readable_1 o10 (by first | omega | (simp only [List.length_nil] at *; omega)) H) ?_
   rintro _ w16 ⟨rfl, H⟩
   refine GL_st 2 12 [(13, Pt g2 0), (14, S o10), (54, .bool (!(rdbF 1 o10)))] fun β => ?_
   refine G_cond (!(rdbF 1 o10)) (by kernel_rfl) (fun h2 => ?_) (fun h2 => ?_)
   · --yes
    have h2 := not_F h2
    refine G_sr ?_
    refine GL_st 2 2 [(10, .pointer none), (11, In 221)] fun β => ?_
    refine G_ret ?_
    refine thn_ret (res2 (v := .pointer none) (x := In 221) rfl (by kernel_rfl) (by kernel_rfl) ?_)
    replace H := H.drop 1
    replace H := H.drop 0
    replace H : Sep w0 w16 (F) := H
    have e : begE m y true = 221 := by simp [begE, *]
    rw [e]
    exact ⟨_, rfl, H⟩
   · --no
    have h2 := not_T h2
    refine G_skip ?_
    refine thn_normal ?_
    refine G_sr ?_
    refine GL_s 4 4 [(13, Pt g2 0), (14, S o10), (55, Pt g2 0), (58, Pt g2 3)] fun β => ?_
    refine GL_V (run_load1 (t := 23) (by kernel_rfl) ((H.blk_cell (i := 1) rfl 3).trans rfl)) ?_
    refine GL_s 1 6 [(13, Pt g2 0), (55, Pt g2 0), (59, .slice none 0 0), (60, S o10)] fun β => ?_
    refine GL_new (V := fun g => .slice (some ⟨g, 0, none⟩) 1 1) (l := [S o10]) (t := 9) H rfl (by kernel_rfl) (by kernel_rfl) (by kernel_rfl) (fun g17 w18 H => ?_)
    obtain ⟨A19, c20, w21, hr22, H⟩ := R_append_nil (P := Tryd.prog) (t := 23) (ty := 23) (e := 9) (z := S ([] : List UInt8)) (sz := 1) (by_ := 16) H (by kernel_rfl) rfl (Src.blkp (m := 1) (c := 1) (off := 0) H (i := 0) rfl [S o10] rfl ⟨_, rfl⟩) (one_list rfl) (by unfold maxLen; omega) (by omega)
    replace H := H.drop 1
    replace H : Sep w0 w21 (.row (.slice A19 1 c20) 9 1 1 [S o10] :: .row (.slice A4 l.length c5) 40 2 l.length (us l) :: .blk g2 64 [.slice A4 l.length c5, In 1, S st, .slice none 0 0, In 0] :: F) := H
    refine GL_V hr22 ?_
    refine GL_s 2 10 [(13, Pt g2 0), (62, .slice A19 1 c20), (64, Pt g2 3)] fun β => ?_
    obtain ⟨w23, hr24, H⟩ := R_store (P := Tryd.prog) (t := 23) (v := .slice A19 1 c20) (off := 3) H (i := 2) rfl (by kernel_rfl) (by kernel_rfl) (by kernel_rfl)
    replace H : Sep w0 w23 (.row (.slice A19 1 c20) 9 1 1 [S o10] :: .row (.slice A4 l.length c5) 40 2 l.length (us l) :: .blk g2 64 [.slice A4 l.length c5, In 1, S st, .slice A19 1 c20, In 0] :: F) := H
    refine GL_U hr24 ?_
    refine GL_et ?_
    refine G_sr ?_
    refine GL_st 3 3 [(10, Pt g2 0), (11, In 0)] fun β => ?_
    refine G_ret ?_
    refine res2 (v := Pt g2 0) (x := In 0) rfl (by kernel_rfl) (by kernel_rfl) ?_
    replace H := H.drop 2
    replace H := H.drop 1
    replace H := H.drop 0
    replace H : Sep w0 w23 (F) := H
    have e : begE m y true = 0 := by simp [begE, *]
    rw [e]
    exact ⟨_, rfl, H⟩
 · --no
  replace h0 : ¬ (y = [61]) := eql_F h0
  refine G_skip ?_
  refine thn_normal ?_
  refine G_sr ?_
  refine GL_s 1 1 [(12, In 1), (13, Pt g2 0), (39, S y)] fun β => ?_
  refine GL_C (c_rread y (by first | omega | (simp only [List.length_nil]; omega)) H) ?_
  rintro _ w30 ⟨o25, e26, p27, hd28, hl29, rfl, H⟩
  refine GL_st 5 7 [(12, In 1), (13, Pt g2 0), (14, S o25), (15, .bool (e26 == 0))] fun β => ?_
  refine G_seq ?_
  refine G_sr ?_
  refine GL_s 3 3 [(12, In 1), (13, Pt g2 0), (14, S o25), (45, .bool (!(e26 == 0)))] fun β => ?_
  rcases Bool.eq_false_or_eq_true (!(e26 == 0)) with h3 | h3
  · --yes
   refine GL_re [(12, In 1), (13, Pt g2 0), (14, S o25), (45, .bool true)] (show ([In 1, Pt g2 0, S o25, .bool (!(e26 == 0))] : List Value) = [In 1, Pt g2 0, S o25, .bool true] by rw [h3]) (fun β => ?_)
   have h3 := not_F h3
   replace h3 : ¬ (e26 = 0) := eql_F h3
   refine GL_st 9 12 [(13, Pt g2 0), (14, S o25), (54, .bool true)] fun β => ?_
   refine G_true (by kernel_rfl) ?_
   refine G_sr ?_
   refine GL_st 2 2 [(10, .pointer none), (11, In 221)] fun β => ?_
   refine G_ret ?_
   refine thn_ret (res2 (v := .pointer none) (x := In 221) rfl (by kernel_rfl) (by kernel_rfl) ?_)
   replace H := H.drop 1
   replace H := H.drop 0
   replace H : Sep w0 w30 (F) := H
   have e : begE m y true = 221 := by simp [begE, *]
   rw [e]
   exact ⟨_, rfl, H⟩
  · --no
   refine GL_re [(12, In 1), (13, Pt g2 0), (14, S o25), (45, .bool false)] (show ([In 1, Pt g2 0, S o25, .bool (!(e26 == 0))] : List Value) = [In 1, Pt g2 0, S o25, .bool false] by rw [h3]) (fun β => ?_)
   have h3 := not_T h3
   replace h3 : e26 = 0 := eql_T h3
   refine GL_s 6 9 [(13, Pt g2 0), (14, S o25), (49, .bool false), (50, In 1), (51, S o25)] fun β => ?_
   refine GL_C (c_readable_1 o25 (by first | omega | (simp only [List.length_nil] at *; omega)) H) ?_
   rintro _ w31 ⟨rfl, H⟩
   refine GL_st 2 12 [(13, Pt g2 0), (14, S o25), (54, .bool (!(rdbF 1 o25)))] fun β => ?_
   refine G_cond (!(rdbF 1 o25)) (by kernel_rfl) (fun h4 => ?_) (fun h4 => ?_)
   · --yes
    have h4 := not_F h4
    refine G_sr ?_
    refine GL_st 2 2 [(10, .pointer none), (11, In 221)] fun β => ?_
    refine G_ret ?_
    refine thn_ret (res2 (v := .pointer none) (x := In 221) rfl (by kernel_rfl) (by kernel_rfl) ?_)
    replace H := H.drop 1
    replace H := H.drop 0
    replace H : Sep w0 w31 (F) := H
    have e : begE m y true = 221 := by simp [begE, *]
    rw [e]
    exact ⟨_, rfl, H⟩
   · --no
    have h4 := not_T h4
    refine G_skip ?_
    refine thn_normal ?_
    refine G_sr ?_
    refine GL_s 4 4 [(13, Pt g2 0), (14, S o25), (55, Pt g2 0), (58, Pt g2 3)] fun β => ?_
    refine GL_V (run_load1 (t := 23) (by kernel_rfl) ((H.blk_cell (i := 1) rfl 3).trans rfl)) ?_
    refine GL_s 1 6 [(13, Pt g2 0), (55, Pt g2 0), (59, .slice none 0 0), (60, S o25)] fun β => ?_
    refine GL_new (V := fun g => .slice (some ⟨g, 0, none⟩) 1 1) (l := [S o25]) (t := 9) H rfl (by kernel_rfl) (by kernel_rfl) (by kernel_rfl) (fun g32 w33 H => ?_)
    obtain ⟨A34, c35, w36, hr37, H⟩ := R_append_nil (P := Tryd.prog) (t := 23) (ty := 23) (e := 9) (z := S ([] : List UInt8)) (sz := 1) (by_ := 16) H (by kernel_rfl) rfl (Src.blkp (m := 1) (c := 1) (off := 0) H (i := 0) rfl [S o25] rfl ⟨_, rfl⟩) (one_list rfl) (by unfold maxLen; omega) (by omega)
    replace H := H.drop 1
    replace H : Sep w0 w36 (.row (.slice A34 1 c35) 9 1 1 [S o25] :: .row (.slice A4 l.length c5) 40 2 l.length (us l) :: .blk g2 64 [.slice A4 l.length c5, In 1, S st, .slice none 0 0, In 0] :: F) := H
    refine GL_V hr37 ?_
    refine GL_s 2 10 [(13, Pt g2 0), (62, .slice A34 1 c35), (64, Pt g2 3)] fun β => ?_
    obtain ⟨w38, hr39, H⟩ := R_store (P := Tryd.prog) (t := 23) (v := .slice A34 1 c35) (off := 3) H (i := 2) rfl (by kernel_rfl) (by kernel_rfl) (by kernel_rfl)
    replace H : Sep w0 w38 (.row (.slice A34 1 c35) 9 1 1 [S o25] :: .row (.slice A4 l.length c5) 40 2 l.length (us l) :: .blk g2 64 [.slice A4 l.length c5, In 1, S st, .slice A34 1 c35, In 0] :: F) := H
    refine GL_U hr39 ?_
    refine GL_et ?_
    refine G_sr ?_
    refine GL_st 3 3 [(10, Pt g2 0), (11, In 0)] fun β => ?_
    refine G_ret ?_
    refine res2 (v := Pt g2 0) (x := In 0) rfl (by kernel_rfl) (by kernel_rfl) ?_
    replace H := H.drop 2
    replace H := H.drop 1
    replace H := H.drop 0
    replace H : Sep w0 w38 (F) := H
    have e : begE m y true = 0 := by simp [begE, *]
    rw [e]
    exact ⟨_, rfl, H⟩
/-- posthorn/posthornref22.Begin -/
theorem c_rBegin_1_false (l : List Str2) (hl : l.length ≤ 1099511627776) (m st y : List UInt8) (hml : m.length ≤ 1099511627776) (hy : y.length ≤ 68719476736) (hp : plcF m = 1) {B : Option Addr} {d : Nat} {w0 w : World} {F : List Chunk} (RU : Rd w0 F (.slice B l.length d) 2 l.length (us l)) (H : Sep w0 w F) : Ret Tryd.prog 8 #[.slice B l.length d, S m, S st, S y, .bool false] w (fun v w' => ∃ p, v = .tuple #[p, In (begE m y false)] ∧ Sep w0 w' F) := by
 refine Ret_enter (args := [.slice B l.length d, S m, S st, S y, .bool false]) Tryd.func8 rfl (by kernel_rfl) ?_
 refine G_forget [(0, .slice B l.length d), (1, S m), (2, S st), (3, S y), (4, .bool false)] (by kernel_rfl) (fun β => ?_)
 refine G_sr ?_
 refine GL_st 2 2 [(0, .slice B l.length d), (1, S m), (2, S st), (3, S y), (4, .bool false)] fun β => ?_
 refine G_sr ?_
 refine GL_s 1 1 [(0, .slice B l.length d), (2, S st), (3, S y), (4, .bool false), (16, S m)] fun β => ?_
 refine GL_C (c_Place m (by omega) H) ?_
 rintro _ w1 ⟨rfl, H⟩
 rw [hp]
 refine GL_st 1 3 [(0, .slice B l.length d), (2, S st), (3, S y), (4, .bool false), (12, In 1)] fun β => ?_
 refine G_seq ?_
 refine G_sr ?_
 refine GL_st 2 2 [(0, .slice B l.length d), (2, S st), (3, S y), (4, .bool false), (12, In 1), (19, .bool false)] fun β => ?_
 refine G_false (by kernel_rfl) ?_
 refine G_skip ?_
 refine thn_normal ?_
 refine G_sr ?_
 refine GL_s 3 3 [(0, .slice B l.length d), (3, S y), (4, .bool false), (12, In 1), (22, .agg #[.slice none 0 0, In 1, S st, .slice none 0 0, In 0])] fun β => ?_
 refine GL_new (V := fun g => Pt g 0) (l := [.slice none 0 0, In 1, S st, .slice none 0 0, In 0]) (t := 64) H rfl (by kernel_rfl) (by kernel_rfl) (by kernel_rfl) (fun g2 w3 H => ?_)
 refine GL_st 1 5 [(0, .slice B l.length d), (3, S y), (4, .bool false), (12, In 1), (13, Pt g2 0)] fun β => ?_
 refine G_sr ?_
 refine GL_s 4 4 [(0, .slice B l.length d), (3, S y), (4, .bool false), (12, In 1), (13, Pt g2 0), (24, Pt g2 0), (27, Pt g2 0)] fun β => ?_
 refine GL_V (run_load1 (t := 22) (by kernel_rfl) ((H.blk_cell (i := 0) rfl 0).trans rfl)) ?_
 refine GL_s 1 6 [(3, S y), (4, .bool false), (12, In 1), (13, Pt g2 0), (24, Pt g2 0), (28, .slice none 0 0), (29, .slice B l.length d)] fun β => ?_
 obtain ⟨A4, c5, w6, hr7, H⟩ := R_append_nil (P := Tryd.prog) (t := 22) (ty := 22) (e := 40) (z := .agg #[S ([] : List UInt8), S ([] : List UInt8)]) (sz := 2) (by_ := 32) H (by kernel_rfl) rfl (Rd.src RU (H.drop 0)) (us_one _) (by unfold maxLen; omega) (by omega)
 replace H : Sep w0 w6 (.row (.slice A4 l.length c5) 40 2 l.length (us l) :: .blk g2 64 [.slice none 0 0, In 1, S st, .slice none 0 0, In 0] :: F) := H
 refine GL_V hr7 ?_
 refine GL_s 2 9 [(3, S y), (4, .bool false), (12, In 1), (13, Pt g2 0), (30, .slice A4 l.length c5), (32, Pt g2 0)] fun β => ?_
 obtain ⟨w8, hr9, H⟩ := R_store (P := Tryd.prog) (t := 22) (v := .slice A4 l.length c5) (off := 0) H (i := 1) rfl (by kernel_rfl) (by kernel_rfl) (by kernel_rfl)
 replace H : Sep w0 w8 (.row (.slice A4 l.length c5) 40 2 l.length (us l) :: .blk g2 64 [.slice A4 l.length c5, In 1, S st, .slice none 0 0, In 0] :: F) := H
 refine GL_U hr9 ?_
 refine GL_et ?_
 refine G_seq ?_
 refine G_sr ?_
 refine GL_st 2 2 [(3, S y), (12, In 1), (13, Pt g2 0), (34, .bool true)] fun β => ?_
 refine G_true (by kernel_rfl) ?_
 refine G_sr ?_
 refine GL_st 3 3 [(10, Pt g2 0), (11, In 0)] fun β => ?_
 refine G_ret ?_
 refine thn_ret (res2 (v := Pt g2 0) (x := In 0) rfl (by kernel_rfl) (by kernel_rfl) ?_)
 replace H := H.drop 1
 replace H := H.drop 0
 replace H : Sep w0 w8 (F) := H
 have e : begE m y false = 0 := by simp [begE, *]
 rw [e]
 exact ⟨_, rfl, H⟩
/-- posthorn/posthornref22.Begin -/
theorem c_rBegin_2_true (l : List Str2) (hl : l.length ≤ 1099511627776) (m st y : List UInt8) (hml : m.length ≤ 1099511627776) (hy : y.length ≤ 68719476736) (hp : plcF m = 2) {B : Option Addr} {d : Nat} {w0 w : World} {F : List Chunk} (RU : Rd w0 F (.slice B l.length d) 2 l.length (us l)) (H : Sep w0 w F) : Ret Tryd.prog 8 #[.slice B l.length d, S m, S st, S y, .bool true] w (fun v w' => ∃ p, v = .tuple #[p, In (begE m y true)] ∧ Sep w0 w' F) := by
 refine Ret_enter (args := [.slice B l.length d, S m, S st, S y, .bool true]) Tryd.func8 rfl (by kernel_rfl) ?_
 refine G_forget [(0, .slice B l.length d), (1, S m), (2, S st), (3, S y), (4, .bool true)] (by kernel_rfl) (fun β => ?_)
 refine G_sr ?_
 refine GL_st 2 2 [(0, .slice B l.length d), (1, S m), (2, S st), (3, S y), (4, .bool true)] fun β => ?_
 refine G_sr ?_
 refine GL_s 1 1 [(0, .slice B l.length d), (2, S st), (3, S y), (4, .bool true), (16, S m)] fun β => ?_
 refine GL_C (c_Place m (by omega) H) ?_
 rintro _ w1 ⟨rfl, H⟩
 rw [hp]
 refine GL_st 1 3 [(0, .slice B l.length d), (2, S st), (3, S y), (4, .bool true), (12, In 2)] fun β => ?_
 refine G_seq ?_
 refine G_sr ?_
 refine GL_st 2 2 [(0, .slice B l.length d), (2, S st), (3, S y), (4, .bool true), (12, In 2), (19, .bool false)] fun β => ?_
 refine G_false (by kernel_rfl) ?_
 refine G_skip ?_
 refine thn_normal ?_
 refine G_sr ?_
 refine GL_s 3 3 [(0, .slice B l.length d), (3, S y), (4, .bool true), (12, In 2), (22, .agg #[.slice none 0 0, In 2, S st, .slice none 0 0, In 0])] fun β => ?_
 refine GL_new (V := fun g => Pt g 0) (l := [.slice none 0 0, In 2, S st, .slice none 0 0, In 0]) (t := 64) H rfl (by kernel_rfl) (by kernel_rfl) (by kernel_rfl) (fun g2 w3 H => ?_)
 refine GL_st 1 5 [(0, .slice B l.length d), (3, S y), (4, .bool true), (12, In 2), (13, Pt g2 0)] fun β => ?_
 refine G_sr ?_
 refine GL_s 4 4 [(0, .slice B l.length d), (3, S y), (4, .bool true), (12, In 2), (13, Pt g2 0), (24, Pt g2 0), (27, Pt g2 0)] fun β => ?_
 refine GL_V (run_load1 (t := 22) (by kernel_rfl) ((H.blk_cell (i := 0) rfl 0).trans rfl)) ?_
 refine GL_s 1 6 [(3, S y), (4, .bool true), (12, In 2), (13, Pt g2 0), (24, Pt g2 0), (28, .slice none 0 0), (29, .slice B l.length d)] fun β => ?_
 obtain ⟨A4, c5, w6, hr7, H⟩ := R_append_nil (P := Tryd.prog) (t := 22) (ty := 22) (e := 40) (z := .agg #[S ([] : List UInt8), S ([] : List UInt8)]) (sz := 2) (by_ := 32) H (by kernel_rfl) rfl (Rd.src RU (H.drop 0)) (us_one _) (by unfold maxLen; omega) (by omega)
 replace H : Sep w0 w6 (.row (.slice A4 l.length c5) 40 2 l.length (us l) :: .blk g2 64 [.slice none 0 0, In 2, S st, .slice none 0 0, In 0] :: F) := H
 refine GL_V hr7 ?_
 refine GL_s 2 9 [(3, S y), (4, .bool true), (12, In 2), (13, Pt g2 0), (30, .slice A4 l.length c5), (32, Pt g2 0)] fun β => ?_
 obtain ⟨w8, hr9, H⟩ := R_store (P := Tryd.prog) (t := 22) (v := .slice A4 l.length c5) (off := 0) H (i := 1) rfl (by kernel_rfl) (by kernel_rfl) (by kernel_rfl)
 replace H : Sep w0 w8 (.row (.slice A4 l.length c5) 40 2 l.length (us l) :: .blk g2 64 [.slice A4 l.length c5, In 2, S st, .slice none 0 0, In 0] :: F) := H
 refine GL_U hr9 ?_
 refine GL_et ?_
 refine G_seq ?_
 refine G_sr ?_
 refine GL_st 2 2 [(3, S y), (12, In 2), (13, Pt g2 0), (34, .bool false)] fun β => ?_
 refine G_false (by kernel_rfl) ?_
 refine G_skip ?_
 refine thn_normal ?_
 refine G_seq ?_
 refine G_sr ?_
 refine GL_s 1 1 [(3, S y), (12, In 2), (13, Pt g2 0), (36, S y)] fun β => ?_
 refine GL_V (R_streq (t := 9) (l := y) (m := [61])) ?_
 refine GL_et ?_
 refine G_cond (y == [61]) (by kernel_rfl) (fun h0 => ?_) (fun h0 => ?_)
 · --yes
  replace h0 : y = [61] := eql_T h0
  refine G_region ?_
  refine GL_st 1 1 [(3, S ([] : List UInt8)), (12, In 2), (13, Pt g2 0)] fun β => ?_
  refine G_sr ?_
  refine GL_s 1 1 [(12, In 2), (13, Pt g2 0), (39, S ([] : List UInt8))] fun β => ?_
  refine GL_C (c_rread ([] : List UInt8) (by first | omega | (simp only [List.length_nil]; omega)) H) ?_
  rintro _ w15 ⟨o10, e11, p12, hd13, hl14, rfl, H⟩
  refine GL_st 5 7 [(12, In 2), (13, Pt g2 0), (14, S o10), (15, .bool (e11 == 0))] fun β => ?_
  refine G_seq ?_
  refine G_sr ?_
  refine GL_s 3 3 [(12, In 2), (13, Pt g2 0), (14, S o10), (45, .bool (!(e11 == 0)))] fun β => ?_
  rcases Bool.eq_false_or_eq_true (!(e11 == 0)) with h1 | h1
  · --yes
   refine GL_re [(12, In 2), (13, Pt g2 0), (14, S o10), (45, .bool true)] (show ([In 2, Pt g2 0, S o10, .bool (!(e11 == 0))] : List Value) = [In 2, Pt g2 0, S o10, .bool true] by rw [h1]) (fun β => ?_)
   have h1 := not_F h1
   replace h1 : ¬ (e11 = 0) := eql_F h1
   refine GL_st 9 12 [(13, Pt g2 0), (14, S o10), (54, .bool true)] fun β => ?_
   refine G_true (by kernel_rfl) ?_
   refine G_sr ?_
   refine GL_st 2 2 [(10, .pointer none), (11, In 221)] fun β => ?_
   refine G_ret ?_
   refine thn_ret (res2 (v := .pointer none) (x := In 221) rfl (by kernel_rfl) (by kernel_rfl) ?_)
   replace H := H.drop 1
   replace H := H.drop 0
   replace H : Sep w0 w15 (F) := H
   have e : begE m y true = 221 := by simp [begE, *]
   rw [e]
   exact ⟨_, rfl, H⟩
  · --no
   refine GL_re [(12, In 2), (13, Pt g2 0), (14, S o10), (45, .bool false)] (show ([In 2, Pt g2 0, S o10, .bool (!(e11 == 0))] : List Value) = [In 2, Pt g2 0, S o10, .bool false] by rw [h1]) (fun β => ?_)
   have h1 := not_T h1
   replace h1 : e11 = 0 := eql_T h1
   refine GL_st 9 12 [(13, Pt g2 0), (14, S o10), (54, .bool true)] fun β => ?_
   refine G_true (by kernel_rfl) ?_
   refine G_sr ?_
   refine GL_st 2 2 [(10, .pointer none), (11, In 221)] fun β => ?_
   refine G_ret ?_
   refine thn_ret (res2 (v := .pointer none) (x := In 221) rfl (by kernel_rfl) (by kernel_rfl) ?_)
   replace H := H.drop 1
   replace H := H.drop 0
   replace H : Sep w0 w15 (F) := H
   have e : begE m y true = 221 := by simp [begE, *]
   rw [e]
   exact ⟨_, rfl, H⟩
 · --no
  replace h0 : ¬ (y = [61]) := eql_F h0
  refine G_skip ?_
  refine thn_normal ?_
  refine G_sr ?_
  refine GL_s 1 1 [(12, In 2), (13, Pt g2 0), (39, S y)] fun β => ?_
  refine GL_C (c_rread y (by first | omega | (simp only [List.length_nil]; omega)) H) ?_
  rintro _ w21 ⟨o16, e17, p18, hd19, hl20, rfl, H⟩
  refine GL_st 5 7 [(12, In 2), (13, Pt g2 0), (14, S o16), (15, .bool (e17 == 0))] fun β => ?_
  refine G_seq ?_
  refine G_sr ?_
  refine GL_s 3 3 [(12, In 2), (13, Pt g2 0), (14, S o16), (45, .bool (!(e17 == 0)))] fun β => ?_
  rcases Bool.eq_false_or_eq_true (!(e17 == 0)) with h2 | h2
  · --yes
   refine GL_re [(12, In 2), (13, Pt g2 0), (14, S o16), (45, .bool true)] (show ([In 2, Pt g2 0, S o16, .bool (!(e17 == 0))] : List Value) = [In 2, Pt g2 0, S o16, .bool true] by rw [h2]) (fun β => ?_)
   have h2 := not_F h2
   replace h2 : ¬ (e17 = 0) := eql_F h2
   refine GL_st 9 12 [(13, Pt g2 0), (14, S o16), (54, .bool true)] fun β => ?_
   refine G_true (by kernel_rfl) ?_
   refine G_sr ?_
   refine GL_st 2 2 [(10, .pointer none), (11, In 221)] fun β => ?_
   refine G_ret ?_
   refine thn_ret (res2 (v := .pointer none) (x := In 221) rfl (by kernel_rfl) (by kernel_rfl) ?_)
   replace H := H.drop 1
   replace H := H.drop 0
   replace H : Sep w0 w21 (F) := H
   have e : begE m y true = 221 := by simp [begE, *]
   rw [e]
   exact ⟨_, rfl, H⟩
  · --no
   refine GL_re [(12, In 2), (13, Pt g2 0), (14, S o16), (45, .bool false)] (show ([In 2, Pt g2 0, S o16, .bool (!(e17 == 0))] : List Value) = [In 2, Pt g2 0, S o16, .bool false] by rw [h2]) (fun β => ?_)
   have h2 := not_T h2
   replace h2 : e17 = 0 := eql_T h2
   refine GL_st 9 12 [(13, Pt g2 0), (14, S o16), (54, .bool true)] fun β => ?_
   refine G_true (by kernel_rfl) ?_
   refine G_sr ?_
   refine GL_st 2 2 [(10, .pointer none), (11, In 221)] fun β => ?_
   refine G_ret ?_
   refine thn_ret (res2 (v := .pointer none) (x := In 221) rfl (by kernel_rfl) (by kernel_rfl) ?_)
   replace H := H.drop 1
   replace H := H.drop 0
   replace H : Sep w0 w21 (F) := H
   have e : begE m y true = 221 := by simp [begE, *]
   rw [e]
   exact ⟨_, rfl, H⟩
/-- posthorn/posthornref22.Begin -/
theorem c_rBegin_2_false (l : List Str2) (hl : l.length ≤ 1099511627776) (m st y : List UInt8) (hml : m.length ≤ 1099511627776) (hy : y.length ≤ 68719476736) (hp : plcF m = 2) {B : Option Addr} {d : Nat} {w0 w : World} {F : List Chunk} (RU : Rd w0 F (.slice B l.length d) 2 l.length (us l)) (H : Sep w0 w F) : Ret Tryd.prog 8 #[.slice B l.length d, S m, S st, S y, .bool false] w (fun v w' => ∃ p, v = .tuple #[p, In (begE m y false)] ∧ Sep w0 w' F) := by
 refine Ret_enter (args := [.slice B l.length d, S m, S st, S y, .bool false]) Tryd.func8 rfl (by kernel_rfl) ?_
 refine G_forget [(0, .slice B l.length d), (1, S m), (2, S st), (3, S y), (4, .bool false)] (by kernel_rfl) (fun β => ?_)
 refine G_sr ?_
 refine GL_st 2 2 [(0, .slice B l.length d), (1, S m), (2, S st), (3, S y), (4, .bool false)] fun β => ?_
 refine G_sr ?_
 refine GL_s 1 1 [(0, .slice B l.length d), (2, S st), (3, S y), (4, .bool false), (16, S m)] fun β => ?_
 refine GL_C (c_Place m (by omega) H) ?_
 rintro _ w1 ⟨rfl, H⟩
 rw [hp]
 refine GL_st 1 3 [(0, .slice B l.length d), (2, S st), (3, S y), (4, .bool false), (12, In 2)] fun β => ?_
 refine G_seq ?_
 refine G_sr ?_
 refine GL_st 2 2 [(0, .slice B l.length d), (2, S st), (3, S y), (4, .bool false), (12, In 2), (19, .bool false)] fun β => ?_
 refine G_false (by kernel_rfl) ?_
 refine G_skip ?_
 refine thn_normal ?_
 refine G_sr ?_
 refine GL_s 3 3 [(0, .slice B l.length d), (3, S y), (4, .bool false), (12, In 2), (22, .agg #[.slice none 0 0, In 2, S st, .slice none 0 0, In 0])] fun β => ?_
 refine GL_new (V := fun g => Pt g 0) (l := [.slice none 0 0, In 2, S st, .slice none 0 0, In 0]) (t := 64) H rfl (by kernel_rfl) (by kernel_rfl) (by kernel_rfl) (fun g2 w3 H => ?_)
 refine GL_st 1 5 [(0, .slice B l.length d), (3, S y), (4, .bool false), (12, In 2), (13, Pt g2 0)] fun β => ?_
 refine G_sr ?_
 refine GL_s 4 4 [(0, .slice B l.length d), (3, S y), (4, .bool false), (12, In 2), (13, Pt g2 0), (24, Pt g2 0), (27, Pt g2 0)] fun β => ?_
 refine GL_V (run_load1 (t := 22) (by kernel_rfl) ((H.blk_cell (i := 0) rfl 0).trans rfl)) ?_
 refine GL_s 1 6 [(3, S y), (4, .bool false), (12, In 2), (13, Pt g2 0), (24, Pt g2 0), (28, .slice none 0 0), (29, .slice B l.length d)] fun β => ?_
 obtain ⟨A4, c5, w6, hr7, H⟩ := R_append_nil (P := Tryd.prog) (t := 22) (ty := 22) (e := 40) (z := .agg #[S ([] : List UInt8), S ([] : List UInt8)]) (sz := 2) (by_ := 32) H (by kernel_rfl) rfl (Rd.src RU (H.drop 0)) (us_one _) (by unfold maxLen; omega) (by omega)
 replace H : Sep w0 w6 (.row (.slice A4 l.length c5) 40 2 l.length (us l) :: .blk g2 64 [.slice none 0 0, In 2, S st, .slice none 0 0, In 0] :: F) := H
 refine GL_V hr7 ?_
 refine GL_s 2 9 [(3, S y), (4, .bool false), (12, In 2), (13, Pt g2 0), (30, .slice A4 l.length c5), (32, Pt g2 0)] fun β => ?_
 obtain ⟨w8, hr9, H⟩ := R_store (P := Tryd.prog) (t := 22) (v := .slice A4 l.length c5) (off := 0) H (i := 1) rfl (by kernel_rfl) (by kernel_rfl) (by kernel_rfl)
 replace H : Sep w0 w8 (.row (.slice A4 l.length c5) 40 2 l.length (us l) :: .blk g2 64 [.slice A4 l.length c5, In 2, S st, .slice none 0 0, In 0] :: F) := H
 refine GL_U hr9 ?_
 refine GL_et ?_
 refine G_seq ?_
 refine G_sr ?_
 refine GL_st 2 2 [(3, S y), (12, In 2), (13, Pt g2 0), (34, .bool true)] fun β => ?_
 refine G_true (by kernel_rfl) ?_
 refine G_sr ?_
 refine GL_st 3 3 [(10, Pt g2 0), (11, In 0)] fun β => ?_
 refine G_ret ?_
 refine thn_ret (res2 (v := Pt g2 0) (x := In 0) rfl (by kernel_rfl) (by kernel_rfl) ?_)
 replace H := H.drop 1
 replace H := H.drop 0
 replace H : Sep w0 w8 (F) := H
 have e : begE m y false = 0 := by simp [begE, *]
 rw [e]
 exact ⟨_, rfl, H⟩
theorem c_rBegin (l : List Str2) (hl : l.length ≤ 1099511627776) (m st y : List UInt8) (has : Bool) (hml : m.length ≤ 1099511627776) (hy : y.length ≤ 68719476736) {B : Option Addr} {d : Nat} {w0 w : World} {F : List Chunk} (RU : Rd w0 F (.slice B l.length d) 2 l.length (us l)) (H : Sep w0 w F) : Ret Tryd.prog 8 #[.slice B l.length d, S m, S st, S y, .bool has] w (fun v w' => ∃ p, v = .tuple #[p, In (begE m y has)] ∧ Sep w0 w' F) := by
  rcases plc_cases m with h | h | h | h <;> cases has
  · exact c_rBegin_0_false l hl m st y hml hy h RU H
  · exact c_rBegin_0_true l hl m st y hml hy h RU H
  · exact c_rBegin_1_false l hl m st y hml hy h RU H
  · exact c_rBegin_1_true l hl m st y hml hy h RU H
  · exact c_rBegin_2_false l hl m st y hml hy h RU H
  · exact c_rBegin_2_true l hl m st y hml hy h RU H
  · exact c_rBegin_m1_false l hl m st y hml hy h RU H
  · exact c_rBegin_m1_true l hl m st y hml hy h RU H
end Go.Proofs.YtadiljnfkbbmcaaDoor
