-- printed by gw.py (my own program), checked by Lean
import Derived.Test.YtadiljnfkbbmcaaDoorA4
import Derived.Test.YtadiljnfkbbmcaaDoorKw8
set_option linter.unusedVariables false
set_option linter.unusedSimpArgs false
set_option maxRecDepth 100000
set_option maxHeartbeats 400000
namespace Go.Proofs.YtadiljnfkbbmcaaDoor
open Go.Kw Go.RowKit

def pairF (l : List Str2) (n s : List UInt8) : Bool := l.any fun u => u.1 == n && u.2 == s
theorem pair_step {l : List Str2} {n s : List UInt8} {k : Nat} (hk : k < l.length) (h : pairF (l.take k) n s = false) (e : ((l.getD k ([], [])).1 == n && (l.getD k ([], [])).2 == s) = false) : pairF (l.take (k + 1)) n s = false := by
  unfold pairF at *
  rw [List.take_add_one, List.getElem?_eq_getElem hk, List.any_append, h]
  simp only [List.getD_eq_getElem?_getD, List.getElem?_eq_getElem hk, Option.getD_some] at e
  simp only [Option.toList_some, List.any_cons, List.any_nil, Bool.or_false, Bool.false_or]
  exact e
theorem pair_yes {l : List Str2} {n s : List UInt8} {k : Nat} (hk : k < l.length) (e : ((l.getD k ([], [])).1 == n && (l.getD k ([], [])).2 == s) = true) : pairF l n s = true := by
  simp only [List.getD_eq_getElem?_getD, List.getElem?_eq_getElem hk, Option.getD_some] at e
  exact List.any_eq_true.2 ⟨l[k], List.getElem_mem hk, e⟩
/-- posthorn/sasl.paired -/
theorem c_paired (n s : List UInt8) (l : List Str2) (hl : l.length ≤ 1099511627776) {A : Option Addr} {c : Nat} {w0 w : World} {F : List Chunk} (R : Rd w0 F (.slice A l.length c) 2 l.length (us l)) (H : Sep w0 w F) : Ret Tryd.prog 116 #[.slice A l.length c, S n, S s] w (fun v w' => v = .bool (pairF l n s) ∧ Sep w0 w' F) := by
 refine Ret_enter (args := [.slice A l.length c, S n, S s]) Tryd.func116 rfl (by kernel_rfl) ?_
 refine G_forget [(0, .slice A l.length c), (1, S n), (2, S s)] (by kernel_rfl) (fun β => ?_)
 refine G_sr ?_
 refine GL_st 1 1 [(0, .slice A l.length c), (1, S n), (2, S s)] fun β => ?_
 refine G_seq ?_
 refine G_sr ?_
 refine GL_st 3 3 [(1, S n), (2, S s), (9, .slice A l.length c), (10, In l.length), (11, In 0)] fun β => ?_
 refine G_block ?_
 refine G_loop (X := Nat) (fun k => [(1, S n), (2, S s), (9, .slice A l.length c), (10, In l.length), (11, In k)]) (fun k w_ => Sep w0 w_ (F) ∧ (k ≤ l.length ∧ pairF (l.take k) n s = false)) (fun k => l.length - k) (0) (by kernel_rfl) ⟨H, ⟨by omega, rfl⟩⟩ ?_
 rintro k β w1 ⟨H, hI⟩
 refine G_forget [(1, S n), (2, S s), (9, .slice A l.length c), (10, In l.length), (11, In k)] (by kernel_rfl) (fun β => ?_)
 replace H : Sep w0 w1 (F) := H
 replace hI : k ≤ l.length ∧ pairF (l.take k) n s = false := hI
 obtain ⟨hI1, hI2⟩ := hI
 refine G_sr ?_
 refine GL_srt 1 1 [(1, S n), (2, S s), (9, .slice A l.length c), (10, In l.length), (11, In k), (12, .bool (decide (k < l.length)))] (show ([S n, S s, .slice A l.length c, .int .i64 (l.length : Int), .int .i64 (k : Int), .bool (decide ((k : Int) < (l.length : Int)))] : List Value) = [S n, S s, .slice A l.length c, In l.length, In k, .bool (decide (k < l.length))] by rw [nlss k l.length]) fun β => ?_
 refine G_seq ?_
 refine G_cond (decide (k < l.length)) (by kernel_rfl) (fun h0 => ?_) (fun h0 => ?_)
 · --yes
  replace h0 : k < l.length := of_decide_eq_true h0
  refine G_skip ?_
  refine thn_normal ?_
  refine G_seq ?_
  refine G_block ?_
  refine G_sr ?_
  obtain ⟨ad3, hr2, hc4⟩ := R_place (P := Tryd.prog) (t := 22) (e := 40) (i := k) (ki := .i64) R (by omega) (by kernel_rfl) (by kernel_rfl)
  refine GL_V (hr2 _) ?_
  refine GL_V (run_loadN (t := 40) (vs := [S ((l.getD k ([], [])).1), S ((l.getD k ([], [])).2)]) (by kernel_rfl) (by kernel_rfl) (us_at hc4 H (by omega))) ?_
  refine GL_new (V := fun g => Pt g 0) (l := [S ([] : List UInt8), S ([] : List UInt8)]) (t := 40) H rfl (by kernel_rfl) (by kernel_rfl) (by kernel_rfl) (fun g5 w6 H => ?_)
  obtain ⟨w7, hr8, H⟩ := R_store (P := Tryd.prog) (t := 40) (v := .agg #[S ((l.getD k ([], [])).1), S ((l.getD k ([], [])).2)]) (off := 0) H (i := 0) rfl (by kernel_rfl) (by kernel_rfl) (by kernel_rfl)
  replace H : Sep w0 w7 (.blk g5 40 [S ((l.getD k ([], [])).1), S ((l.getD k ([], [])).2)] :: F) := H
  refine GL_U hr8 ?_
  refine GL_et ?_
  refine G_sr ?_
  refine GL_V (run_loadN (t := 40) (vs := [S ((l.getD k ([], [])).1), S ((l.getD k ([], [])).2)]) (by kernel_rfl) (by kernel_rfl) (H.blk_cells (i := 0) rfl 0 _ ⟨_, rfl⟩)) ?_
  refine GL_s 3 4 [(1, S n), (2, S s), (9, .slice A l.length c), (10, In l.length), (11, In k), (15, .agg #[S ((l.getD k ([], [])).1), S ((l.getD k ([], [])).2)]), (18, .agg #[S n, S s])] fun β => ?_
  refine GL_V (R_eq2 (t := 40) (a := (l.getD k ([], [])).1) (b := (l.getD k ([], [])).2) (c := n) (d := s) (by kernel_rfl)) ?_
  refine GL_et ?_
  refine G_cond (((l.getD k ([], [])).1) == n && ((l.getD k ([], [])).2) == s) (by kernel_rfl) (fun h1 => ?_) (fun h1 => ?_)
  · --yes
   refine G_sr ?_
   refine GL_st 1 1 [(6, .bool true)] fun β => ?_
   refine G_ret ?_
   refine inb_ret (thn_ret (thn_ret (inb_ret (thn_ret (res1 (v := .bool true) rfl (by kernel_rfl) ?_)))))
   replace H := H.drop 0
   replace H : Sep w0 w7 (F) := H
   exact ⟨by rw [pair_yes (by omega) h1], H⟩
  · --no
   refine G_skip ?_
   refine inb_normal ?_
   refine thn_normal ?_
   refine G_region ?_
   refine GL_sr 2 2 [(1, S n), (2, S s), (9, .slice A l.length c), (10, In l.length), (11, In (k + 1))] (show ([S n, S s, .slice A l.length c, .int .i64 (l.length : Int), .int .i64 (IntKind.i64.wrap ((k : Int) + ((1 : Nat) : Int)))] : List Value) = [S n, S s, .slice A l.length c, In l.length, In (k + 1)] by rw [nadd64 k 1 (by omega)]) fun β => ?_
   refine GL_end (by kernel_rfl) ?_
   replace H := H.drop 0
   replace H : Sep w0 w7 (F) := H
   refine thn_normal ⟨(k + 1), Agr_of_keys (by kernel_rfl), ⟨H, ?_⟩, ?_⟩
   · exact ⟨by omega, pair_step (by omega) hI2 h1⟩
   · first | (dsimp only; omega) | omega
 · --no
  replace h0 : ¬ (k < l.length) := of_decide_eq_false h0
  refine G_exit (thn_exit (thn_exit (inb_hit ?_)))
  refine thn_normal ?_
  refine G_sr ?_
  refine GL_st 1 1 [(6, .bool false)] fun β => ?_
  refine G_ret ?_
  refine res1 (v := .bool false) rfl (by kernel_rfl) ?_
  replace H : Sep w0 w1 (F) := H
  have hk : k = l.length := by omega
  subst hk
  rw [List.take_length] at hI2
  exact ⟨by rw [hI2], H⟩
/-- (posthorn/sasl.plain).asks -/
theorem c_asks_plain {w0 w : World} {F : List Chunk} (H : Sep w0 w F) : Ret Tryd.prog 113 #[.agg #[]] w (fun v w' => v = S [] ∧ Sep w0 w' F) := by
 refine Ret_enter (args := [.agg #[]]) Tryd.func113 rfl (by kernel_rfl) ?_
 refine G_forget [(0, .agg #[])] (by kernel_rfl) (fun β => ?_)
 refine G_sr ?_
 refine GL_new (V := fun g => Pt g 0) (l := []) (t := 85) H rfl (by kernel_rfl) (by kernel_rfl) (by kernel_rfl) (fun g1 w2 H => ?_)
 refine GL_st 1 2 [] fun β => ?_
 refine G_sr ?_
 refine GL_st 1 1 [(2, S ([] : List UInt8))] fun β => ?_
 refine G_ret ?_
 refine res1 (v := S ([] : List UInt8)) rfl (by kernel_rfl) ?_
 replace H := H.drop 0
 replace H : Sep w0 w2 (F) := H
 exact ⟨rfl, H⟩
/-- (posthorn/sasl.login).asks -/
theorem c_asks_login {w0 w : World} {F : List Chunk} (H : Sep w0 w F) : Ret Tryd.prog 128 #[.agg #[]] w (fun v w' => v = S [85, 115, 101, 114, 110, 97, 109, 101, 58] ∧ Sep w0 w' F) := by
 refine Ret_enter (args := [.agg #[]]) Tryd.func128 rfl (by kernel_rfl) ?_
 refine G_forget [(0, .agg #[])] (by kernel_rfl) (fun β => ?_)
 refine G_sr ?_
 refine GL_new (V := fun g => Pt g 0) (l := []) (t := 86) H rfl (by kernel_rfl) (by kernel_rfl) (by kernel_rfl) (fun g1 w2 H => ?_)
 refine GL_st 1 2 [] fun β => ?_
 refine G_sr ?_
 refine GL_st 1 1 [(2, S [85, 115, 101, 114, 110, 97, 109, 101, 58])] fun β => ?_
 refine G_ret ?_
 refine res1 (v := S [85, 115, 101, 114, 110, 97, 109, 101, 58]) rfl (by kernel_rfl) ?_
 replace H := H.drop 0
 replace H : Sep w0 w2 (F) := H
 exact ⟨rfl, H⟩
/-- (posthorn/sasl.word).asks -/
theorem c_asks_word (x : List UInt8) {w0 w : World} {F : List Chunk} (H : Sep w0 w F) : Ret Tryd.prog 133 #[.agg #[S x]] w (fun v w' => v = S [80, 97, 115, 115, 119, 111, 114, 100, 58] ∧ Sep w0 w' F) := by
 refine Ret_enter (args := [.agg #[S x]]) Tryd.func133 rfl (by kernel_rfl) ?_
 refine G_forget [(0, .agg #[S x])] (by kernel_rfl) (fun β => ?_)
 refine G_sr ?_
 refine GL_new (V := fun g => Pt g 0) (l := [S x]) (t := 167) H rfl (by kernel_rfl) (by kernel_rfl) (by kernel_rfl) (fun g1 w2 H => ?_)
 refine GL_st 1 2 [] fun β => ?_
 refine G_sr ?_
 refine GL_st 1 1 [(2, S [80, 97, 115, 115, 119, 111, 114, 100, 58])] fun β => ?_
 refine G_ret ?_
 refine res1 (v := S [80, 97, 115, 115, 119, 111, 114, 100, 58]) rfl (by kernel_rfl) ?_
 replace H := H.drop 0
 replace H : Sep w0 w2 (F) := H
 exact ⟨rfl, H⟩
/-- (posthorn/sasl.cram).asks -/
theorem c_asks_cram (x : List UInt8) {w0 w : World} {F : List Chunk} (H : Sep w0 w F) : Ret Tryd.prog 104 #[.agg #[S x]] w (fun v w' => v = S x ∧ Sep w0 w' F) := by
 refine Ret_enter (args := [.agg #[S x]]) Tryd.func104 rfl (by kernel_rfl) ?_
 refine G_forget [(0, .agg #[S x])] (by kernel_rfl) (fun β => ?_)
 refine G_sr ?_
 refine GL_new (V := fun g => Pt g 0) (l := [S x]) (t := 60) H rfl (by kernel_rfl) (by kernel_rfl) (by kernel_rfl) (fun g1 w2 H => ?_)
 refine GL_st 1 2 [(1, Pt g1 0)] fun β => ?_
 refine G_sr ?_
 refine GL_s 1 1 [(3, Pt g1 0)] fun β => ?_
 refine GL_V (run_load1 (t := 9) (by kernel_rfl) ((H.blk_cell (i := 0) rfl 0).trans rfl)) ?_
 refine GL_st 1 3 [(2, S x)] fun β => ?_
 refine G_ret ?_
 refine res1 (v := S x) rfl (by kernel_rfl) ?_
 replace H := H.drop 0
 replace H : Sep w0 w2 (F) := H
 exact ⟨rfl, H⟩
/-- (posthorn/sasl.word).take -/
theorem c_take_word (x y : List UInt8) (l : List Str2) (hl : l.length ≤ 1099511627776) {A : Option Addr} {c : Nat} {w0 w : World} {F : List Chunk} (R : Rd w0 F (.slice A l.length c) 2 l.length (us l)) (H : Sep w0 w F) : Ret Tryd.prog 134 #[.agg #[S x], .slice A l.length c, S y] w (fun v w' => v = .tuple #[.nilIface, S x, .bool (pairF l x y), .int .i64 ((0 : Nat) : Int)] ∧ Sep w0 w' F) := by
 refine Ret_enter (args := [.agg #[S x], .slice A l.length c, S y]) Tryd.func134 rfl (by kernel_rfl) ?_
 refine G_forget [(0, .agg #[S x]), (1, .slice A l.length c), (2, S y)] (by kernel_rfl) (fun β => ?_)
 refine G_sr ?_
 refine GL_new (V := fun g => Pt g 0) (l := [S x]) (t := 167) H rfl (by kernel_rfl) (by kernel_rfl) (by kernel_rfl) (fun g1 w2 H => ?_)
 refine GL_st 4 5 [(1, .slice A l.length c), (2, S y), (3, Pt g1 0)] fun β => ?_
 refine G_seq ?_
 refine G_drawS (fun w => w.cell? ⟨g1, 0, none⟩ = some (S x) ∧ True) 11 11 (by kernel_rfl) (by kernel_rfl) H (fun w3 H => ?_)
 refine HL_takes [0] [(1, .slice A l.length c), (2, S y), (3, Pt g1 0), (10, Pt g1 0)] (mkL 11 [0]) 10 (by kernel_rfl) rfl (by kernel_rfl) (fun _ => by kernel_rfl) ⟨((H.blk_cell (i := 0) rfl 0).trans rfl), trivial⟩ (fun β => ?_)
 refine HL_t (i := 1) (m := 9) (fun w hS => run_load1 (t := 9) (by kernel_rfl) hS.1) rfl (by kernel_rfl) (by kernel_rfl) (by kernel_rfl) (by kernel_rfl) (by kernel_rfl) (by kernel_rfl) ⟨((H.blk_cell (i := 0) rfl 0).trans rfl), trivial⟩ rfl ?_
 refine HL_takes [2, 3] [(2, S y), (11, S x), (12, .slice A l.length c), (13, Pt g1 0)] (mkL 11 [0, 1, 2, 3]) 7 (by kernel_rfl) rfl (by kernel_rfl) (fun _ => by kernel_rfl) ⟨((H.blk_cell (i := 0) rfl 0).trans rfl), trivial⟩ (fun β => ?_)
 refine HL_t (i := 4) (m := 6) (fun w hS => run_load1 (t := 9) (by kernel_rfl) hS.1) rfl (by kernel_rfl) (by kernel_rfl) (by kernel_rfl) (by kernel_rfl) (by kernel_rfl) (by kernel_rfl) ⟨((H.blk_cell (i := 0) rfl 0).trans rfl), trivial⟩ rfl ?_
 refine HL_takes [5] [(11, S x), (12, .slice A l.length c), (14, S x), (15, S y)] (mkL 11 [0, 1, 2, 3, 4, 5]) 5 (by kernel_rfl) rfl (by kernel_rfl) (fun _ => by kernel_rfl) ⟨((H.blk_cell (i := 0) rfl 0).trans rfl), trivial⟩ (fun β => ?_)
 refine HL_call (i := 6) (f := 116) (args := #[.slice A l.length c, S x, S y]) rfl (by kernel_rfl) (by kernel_rfl) (by kernel_rfl) (by kernel_rfl) (c_paired x y l (by omega) (Rd.more R (.cons _ (.refl _))) H) ?_
 rintro _ w4 ⟨rfl, H⟩
 refine ⟨(.inr ⟨((H.blk_cell (i := 0) rfl 0).trans rfl), trivial⟩), ?_⟩
 refine HL_takes [7, 8, 9, 10] [(6, .nilIface), (7, S x), (8, .bool (pairF l x y)), (9, .int .i64 ((0 : Nat) : Int))] (mkL 11 [0, 1, 2, 3, 4, 5, 6, 7, 8, 9, 10]) 0 (by kernel_rfl) rfl (by kernel_rfl) (fun _ => by kernel_rfl) ⟨((H.blk_cell (i := 0) rfl 0).trans rfl), trivial⟩ (fun β => ?_)
 refine HL_forget [(6, .nilIface), (7, S x), (8, .bool (pairF l x y)), (9, In 0)] (by kernel_rfl) (fun β => ?_)
 refine HL_fin (by kernel_rfl) ?_
 refine thn_normal ?_
 refine G_ret ?_
 refine res4 (v := .nilIface) (x := S x) (y := .bool (pairF l x y)) (z := In 0) rfl (by kernel_rfl) (by kernel_rfl) (by kernel_rfl) (by kernel_rfl) ?_
 replace H := H.drop 0
 replace H : Sep w0 w4 (F) := H
 exact ⟨rfl, H⟩
/-- (posthorn/sasl.login).take -/
theorem c_take_login (y : List UInt8) {A : Option Addr} {n c : Nat} {w0 w : World} {F : List Chunk} (H : Sep w0 w F) : Ret Tryd.prog 129 #[.agg #[], .slice A n c, S y] w (fun v w' => v = .tuple #[.iface 167 (.agg #[S y]), S [], .bool false, .int .i64 ((0 : Nat) : Int)] ∧ Sep w0 w' F) := by
 refine Ret_enter (args := [.agg #[], .slice A n c, S y]) Tryd.func129 rfl (by kernel_rfl) ?_
 refine G_forget [(0, .agg #[]), (2, S y)] (by kernel_rfl) (fun β => ?_)
 refine G_sr ?_
 refine GL_new (V := fun g => Pt g 0) (l := []) (t := 86) H rfl (by kernel_rfl) (by kernel_rfl) (by kernel_rfl) (fun g1 w2 H => ?_)
 refine GL_st 4 5 [(2, S y)] fun β => ?_
 refine G_sr ?_
 refine GL_st 7 7 [(6, .iface 167 (.agg #[S y])), (7, S ([] : List UInt8)), (8, .bool false), (9, In 0)] fun β => ?_
 refine G_ret ?_
 refine res4 (v := .iface 167 (.agg #[S y])) (x := S ([] : List UInt8)) (y := .bool false) (z := In 0) rfl (by kernel_rfl) (by kernel_rfl) (by kernel_rfl) (by kernel_rfl) ?_
 replace H := H.drop 0
 replace H : Sep w0 w2 (F) := H
 exact ⟨rfl, H⟩
/-- posthorn/sasl.first -/
theorem c_first_plain (m st : List UInt8) (hl : m.length ≤ 1099511627776) (hm : m.map up = [80, 76, 65, 73, 78]) {w0 w : World} {F : List Chunk} (H : Sep w0 w F) : Ret Tryd.prog 20 #[S m, S st] w (fun v w' => v = .iface 85 (.agg #[]) ∧ Sep w0 w' F) := by
 refine Ret_enter (args := [S m, S st]) Tryd.func20 rfl (by kernel_rfl) ?_
 refine G_forget [(0, S m), (1, S st)] (by kernel_rfl) (fun β => ?_)
 refine G_sr ?_
 refine GL_st 1 1 [(0, S m), (1, S st)] fun β => ?_
 refine G_seq ?_
 refine G_sr ?_
 refine GL_s 1 1 [(1, S st), (5, S m)] fun β => ?_
 refine GL_C (c_Upper m (by omega) H) ?_
 rintro _ w1 ⟨rfl, H⟩
 refine GL_et ?_
 refine G_block ?_
 refine G_sr ?_
 refine GL_V (R_streq (t := 9) (l := (m.map up)) (m := [80, 76, 65, 73, 78])) ?_
 refine GL_st 1 2 [(1, S st), (6, S (m.map up)), (7, .bool ((m.map up) == [80, 76, 65, 73, 78]))] fun β => ?_
 refine G_cond ((m.map up) == [80, 76, 65, 73, 78]) (by kernel_rfl) (fun h0 => ?_) (fun h0 => ?_)
 · --yes
  replace h0 : (m.map up) = [80, 76, 65, 73, 78] := eql_T h0
  refine G_sr ?_
  refine GL_st 3 3 [(4, .iface 85 (.agg #[]))] fun β => ?_
  refine G_ret ?_
  refine inb_ret (thn_ret (res1 (v := .iface 85 (.agg #[])) rfl (by kernel_rfl) ?_))
  replace H : Sep w0 w1 (F) := H
  exact ⟨rfl, H⟩
 · --no
  replace h0 : ¬ ((m.map up) = [80, 76, 65, 73, 78]) := eql_F h0
  exact absurd hm h0
/-- posthorn/sasl.first -/
theorem c_first_login (m st : List UInt8) (hl : m.length ≤ 1099511627776) (hm : m.map up = [76, 79, 71, 73, 78]) {w0 w : World} {F : List Chunk} (H : Sep w0 w F) : Ret Tryd.prog 20 #[S m, S st] w (fun v w' => v = .iface 86 (.agg #[]) ∧ Sep w0 w' F) := by
 refine Ret_enter (args := [S m, S st]) Tryd.func20 rfl (by kernel_rfl) ?_
 refine G_forget [(0, S m), (1, S st)] (by kernel_rfl) (fun β => ?_)
 refine G_sr ?_
 refine GL_st 1 1 [(0, S m), (1, S st)] fun β => ?_
 refine G_seq ?_
 refine G_sr ?_
 refine GL_s 1 1 [(1, S st), (5, S m)] fun β => ?_
 refine GL_C (c_Upper m (by omega) H) ?_
 rintro _ w1 ⟨rfl, H⟩
 refine GL_et ?_
 refine G_block ?_
 refine G_sr ?_
 refine GL_V (R_streq (t := 9) (l := (m.map up)) (m := [80, 76, 65, 73, 78])) ?_
 refine GL_st 1 2 [(1, S st), (6, S (m.map up)), (7, .bool ((m.map up) == [80, 76, 65, 73, 78]))] fun β => ?_
 refine G_cond ((m.map up) == [80, 76, 65, 73, 78]) (by kernel_rfl) (fun h0 => ?_) (fun h0 => ?_)
 · --yes
  replace h0 : (m.map up) = [80, 76, 65, 73, 78] := eql_T h0
  exact absurd (hm.symm.trans h0) (by decide)
 · --no
  replace h0 : ¬ ((m.map up) = [80, 76, 65, 73, 78]) := eql_F h0
  refine G_sr ?_
  refine GL_V (R_streq (t := 9) (l := (m.map up)) (m := [76, 79, 71, 73, 78])) ?_
  refine GL_st 1 2 [(1, S st), (6, S (m.map up)), (11, .bool ((m.map up) == [76, 79, 71, 73, 78]))] fun β => ?_
  refine G_cond ((m.map up) == [76, 79, 71, 73, 78]) (by kernel_rfl) (fun h1 => ?_) (fun h1 => ?_)
  · --yes
   replace h1 : (m.map up) = [76, 79, 71, 73, 78] := eql_T h1
   refine G_sr ?_
   refine GL_st 3 3 [(4, .iface 86 (.agg #[]))] fun β => ?_
   refine G_ret ?_
   refine inb_ret (thn_ret (res1 (v := .iface 86 (.agg #[])) rfl (by kernel_rfl) ?_))
   replace H : Sep w0 w1 (F) := H
   exact ⟨rfl, H⟩
  · --no
   replace h1 : ¬ ((m.map up) = [76, 79, 71, 73, 78]) := eql_F h1
   exact absurd hm h1
/-- posthorn/sasl.first -/
theorem c_first_cram (m st : List UInt8) (hl : m.length ≤ 1099511627776) (hm : m.map up = [67, 82, 65, 77, 45, 77, 68, 53]) {w0 w : World} {F : List Chunk} (H : Sep w0 w F) : Ret Tryd.prog 20 #[S m, S st] w (fun v w' => v = .iface 60 (.agg #[S st]) ∧ Sep w0 w' F) := by
 refine Ret_enter (args := [S m, S st]) Tryd.func20 rfl (by kernel_rfl) ?_
 refine G_forget [(0, S m), (1, S st)] (by kernel_rfl) (fun β => ?_)
 refine G_sr ?_
 refine GL_st 1 1 [(0, S m), (1, S st)] fun β => ?_
 refine G_seq ?_
 refine G_sr ?_
 refine GL_s 1 1 [(1, S st), (5, S m)] fun β => ?_
 refine GL_C (c_Upper m (by omega) H) ?_
 rintro _ w1 ⟨rfl, H⟩
 refine GL_et ?_
 refine G_block ?_
 refine G_sr ?_
 refine GL_V (R_streq (t := 9) (l := (m.map up)) (m := [80, 76, 65, 73, 78])) ?_
 refine GL_st 1 2 [(1, S st), (6, S (m.map up)), (7, .bool ((m.map up) == [80, 76, 65, 73, 78]))] fun β => ?_
 refine G_cond ((m.map up) == [80, 76, 65, 73, 78]) (by kernel_rfl) (fun h0 => ?_) (fun h0 => ?_)
 · --yes
  replace h0 : (m.map up) = [80, 76, 65, 73, 78] := eql_T h0
  exact absurd (hm.symm.trans h0) (by decide)
 · --no
  replace h0 : ¬ ((m.map up) = [80, 76, 65, 73, 78]) := eql_F h0
  refine G_sr ?_
  refine GL_V (R_streq (t := 9) (l := (m.map up)) (m := [76, 79, 71, 73, 78])) ?_
  refine GL_st 1 2 [(1, S st), (6, S (m.map up)), (11, .bool ((m.map up) == [76, 79, 71, 73, 78]))] fun β => ?_
  refine G_cond ((m.map up) == [76, 79, 71, 73, 78]) (by kernel_rfl) (fun h1 => ?_) (fun h1 => ?_)
  · --yes
   replace h1 : (m.map up) = [76, 79, 71, 73, 78] := eql_T h1
   exact absurd (hm.symm.trans h1) (by decide)
  · --no
   replace h1 : ¬ ((m.map up) = [76, 79, 71, 73, 78]) := eql_F h1
   refine G_sr ?_
   refine GL_V (R_streq (t := 9) (l := (m.map up)) (m := [67, 82, 65, 77, 45, 77, 68, 53])) ?_
   refine GL_st 1 2 [(1, S st), (15, .bool ((m.map up) == [67, 82, 65, 77, 45, 77, 68, 53]))] fun β => ?_
   refine G_cond ((m.map up) == [67, 82, 65, 77, 45, 77, 68, 53]) (by kernel_rfl) (fun h2 => ?_) (fun h2 => ?_)
   · --yes
    replace h2 : (m.map up) = [67, 82, 65, 77, 45, 77, 68, 53] := eql_T h2
    refine G_sr ?_
    refine GL_st 4 4 [(4, .iface 60 (.agg #[S st]))] fun β => ?_
    refine G_ret ?_
    refine inb_ret (thn_ret (res1 (v := .iface 60 (.agg #[S st])) rfl (by kernel_rfl) ?_))
    replace H : Sep w0 w1 (F) := H
    exact ⟨rfl, H⟩
   · --no
    replace h2 : ¬ ((m.map up) = [67, 82, 65, 77, 45, 77, 68, 53]) := eql_F h2
    exact absurd hm h2
/-- posthorn/sasl.first -/
theorem c_first_none (m st : List UInt8) (hl : m.length ≤ 1099511627776) (hm : ¬ m.map up = [80, 76, 65, 73, 78] ∧ ¬ m.map up = [76, 79, 71, 73, 78] ∧ ¬ m.map up = [67, 82, 65, 77, 45, 77, 68, 53]) {w0 w : World} {F : List Chunk} (H : Sep w0 w F) : Ret Tryd.prog 20 #[S m, S st] w (fun v w' => v = .nilIface ∧ Sep w0 w' F) := by
 refine Ret_enter (args := [S m, S st]) Tryd.func20 rfl (by kernel_rfl) ?_
 refine G_forget [(0, S m), (1, S st)] (by kernel_rfl) (fun β => ?_)
 refine G_sr ?_
 refine GL_st 1 1 [(0, S m), (1, S st)] fun β => ?_
 refine G_seq ?_
 refine G_sr ?_
 refine GL_s 1 1 [(1, S st), (5, S m)] fun β => ?_
 refine GL_C (c_Upper m (by omega) H) ?_
 rintro _ w1 ⟨rfl, H⟩
 refine GL_et ?_
 refine G_block ?_
 refine G_sr ?_
 refine GL_V (R_streq (t := 9) (l := (m.map up)) (m := [80, 76, 65, 73, 78])) ?_
 refine GL_st 1 2 [(1, S st), (6, S (m.map up)), (7, .bool ((m.map up) == [80, 76, 65, 73, 78]))] fun β => ?_
 refine G_cond ((m.map up) == [80, 76, 65, 73, 78]) (by kernel_rfl) (fun h0 => ?_) (fun h0 => ?_)
 · --yes
  replace h0 : (m.map up) = [80, 76, 65, 73, 78] := eql_T h0
  exact absurd h0 hm.1
 · --no
  replace h0 : ¬ ((m.map up) = [80, 76, 65, 73, 78]) := eql_F h0
  refine G_sr ?_
  refine GL_V (R_streq (t := 9) (l := (m.map up)) (m := [76, 79, 71, 73, 78])) ?_
  refine GL_st 1 2 [(1, S st), (6, S (m.map up)), (11, .bool ((m.map up) == [76, 79, 71, 73, 78]))] fun β => ?_
  refine G_cond ((m.map up) == [76, 79, 71, 73, 78]) (by kernel_rfl) (fun h1 => ?_) (fun h1 => ?_)
  · --yes
   replace h1 : (m.map up) = [76, 79, 71, 73, 78] := eql_T h1
   exact absurd h1 hm.2.1
  · --no
   replace h1 : ¬ ((m.map up) = [76, 79, 71, 73, 78]) := eql_F h1
   refine G_sr ?_
   refine GL_V (R_streq (t := 9) (l := (m.map up)) (m := [67, 82, 65, 77, 45, 77, 68, 53])) ?_
   refine GL_st 1 2 [(1, S st), (15, .bool ((m.map up) == [67, 82, 65, 77, 45, 77, 68, 53]))] fun β => ?_
   refine G_cond ((m.map up) == [67, 82, 65, 77, 45, 77, 68, 53]) (by kernel_rfl) (fun h2 => ?_) (fun h2 => ?_)
   · --yes
    replace h2 : (m.map up) = [67, 82, 65, 77, 45, 77, 68, 53] := eql_T h2
    exact absurd h2 hm.2.2
   · --no
    replace h2 : ¬ ((m.map up) = [67, 82, 65, 77, 45, 77, 68, 53]) := eql_F h2
    refine G_skip ?_
    refine inb_normal ?_
    refine thn_normal ?_
    refine G_sr ?_
    refine GL_st 1 1 [(4, .nilIface)] fun β => ?_
    refine G_ret ?_
    refine res1 (v := .nilIface) rfl (by kernel_rfl) ?_
    replace H : Sep w0 w1 (F) := H
    exact ⟨rfl, H⟩
end Go.Proofs.YtadiljnfkbbmcaaDoor
