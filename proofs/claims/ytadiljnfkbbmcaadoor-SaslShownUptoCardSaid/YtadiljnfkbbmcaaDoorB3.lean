-- printed by gw.py (my own program), checked by Lean
import Derived.Test.YtadiljnfkbbmcaaDoorB4
set_option linter.unusedVariables false
set_option linter.unusedSimpArgs false
set_option maxRecDepth 100000
set_option maxHeartbeats 400000
namespace Go.Proofs.YtadiljnfkbbmcaaDoor
open Go.Kw Go.RowKit

inductive Stp | plain | login | word (x : List UInt8) | cram (x : List UInt8)
def Stp.v : Stp → Value
  | .plain => .iface 85 (.agg #[])
  | .login => .iface 86 (.agg #[])
  | .word x => .iface 167 (.agg #[S x])
  | .cram x => .iface 60 (.agg #[S x])
def Stp.ask : Stp → List UInt8
  | .plain => []
  | .login => [85, 115, 101, 114, 110, 97, 109, 101, 58]
  | .word _ => [80, 97, 115, 115, 119, 111, 114, 100, 58]
  | .cram x => x
/-- (*posthorn/sasl.Exchange).State -/
theorem c_State (n : Nat) (v1 v3 v4 : Value) {g : Nat} {w0 w : World} {F : List Chunk} (H : Sep w0 w (.blk g 58 [v1, In n, v3, v4] :: F)) : Ret Tryd.prog 9 #[.pointer (some ⟨g, 0, none⟩)] w (fun v w' => v = .int .i64 (n : Int) ∧ Sep w0 w' (.blk g 58 [v1, In n, v3, v4] :: F)) := by
 refine Ret_enter (args := [Pt g 0]) Tryd.func9 rfl (by kernel_rfl) ?_
 refine G_forget [(0, Pt g 0)] (by kernel_rfl) (fun β => ?_)
 refine G_sr ?_
 refine GL_st 1 1 [(0, Pt g 0)] fun β => ?_
 refine G_seq ?_
 refine G_sr ?_
 refine GL_st 2 2 [(0, Pt g 0), (4, .bool false)] fun β => ?_
 refine G_false (by kernel_rfl) ?_
 refine G_skip ?_
 refine thn_normal ?_
 refine G_sr ?_
 refine GL_s 3 3 [(7, Pt g 1)] fun β => ?_
 refine GL_V (run_load1 (t := 3) (by kernel_rfl) ((H.blk_cell (i := 0) rfl 1).trans rfl)) ?_
 refine GL_st 1 5 [(2, In n)] fun β => ?_
 refine G_ret ?_
 refine res1 (v := In n) rfl (by kernel_rfl) ?_
 exact ⟨rfl, H⟩
/-- (*posthorn/sasl.Exchange).State -/
theorem c_State_nil {w0 w : World} {F : List Chunk} (H : Sep w0 w F) : Ret Tryd.prog 9 #[.pointer none] w (fun v w' => v = .int .i64 ((0 : Nat) : Int) ∧ Sep w0 w' F) := by
 refine Ret_enter (args := [.pointer none]) Tryd.func9 rfl (by kernel_rfl) ?_
 refine G_forget [(0, .pointer none)] (by kernel_rfl) (fun β => ?_)
 refine G_sr ?_
 refine GL_st 1 1 [(0, .pointer none)] fun β => ?_
 refine G_seq ?_
 refine G_sr ?_
 refine GL_st 2 2 [(0, .pointer none), (4, .bool true)] fun β => ?_
 refine G_true (by kernel_rfl) ?_
 refine G_sr ?_
 refine GL_st 1 1 [(2, In 0)] fun β => ?_
 refine G_ret ?_
 refine thn_ret (res1 (v := In 0) rfl (by kernel_rfl) ?_)
 exact ⟨rfl, H⟩
/-- (*posthorn/sasl.Exchange).User -/
theorem c_User (n : Nat) (v1 v3 : Value) (nm : List UInt8) {g : Nat} {w0 w : World} {F : List Chunk} (H : Sep w0 w (.blk g 58 [v1, In n, v3, S nm] :: F)) : Ret Tryd.prog 10 #[.pointer (some ⟨g, 0, none⟩)] w (fun v w' => v = S (if n = 2 then nm else []) ∧ Sep w0 w' (.blk g 58 [v1, In n, v3, S nm] :: F)) := by
 refine Ret_enter (args := [Pt g 0]) Tryd.func10 rfl (by kernel_rfl) ?_
 refine G_forget [(0, Pt g 0)] (by kernel_rfl) (fun β => ?_)
 refine G_sr ?_
 refine GL_st 1 1 [(0, Pt g 0)] fun β => ?_
 refine G_seq ?_
 refine G_sr ?_
 refine GL_s 1 1 [(0, Pt g 0), (3, Pt g 0)] fun β => ?_
 replace H : Sep w0 w (.blk g 58 [v1, In n, v3, S nm] :: F) := H
 refine GL_C (c_State n v1 v3 (S nm) H) ?_
 rintro _ w1 ⟨rfl, H⟩
 refine GL_srt 1 3 [(0, Pt g 0), (5, .bool (n != 2))] (show ([Pt g 0, .bool ((n : Int) != ((2 : Nat) : Int))] : List Value) = [Pt g 0, .bool (n != 2)] by rw [nneq n 2]) fun β => ?_
 refine G_cond (n != 2) (by kernel_rfl) (fun h0 => ?_) (fun h0 => ?_)
 · --yes
  replace h0 : ¬ (n = 2) := neq_T h0
  refine G_sr ?_
  refine GL_st 1 1 [(2, S ([] : List UInt8))] fun β => ?_
  refine G_ret ?_
  refine thn_ret (res1 (v := S ([] : List UInt8)) rfl (by kernel_rfl) ?_)
  exact ⟨by simp [*], H⟩
 · --no
  replace h0 : n = 2 := neq_F h0
  refine G_skip ?_
  refine thn_normal ?_
  refine G_sr ?_
  refine GL_s 3 3 [(8, Pt g 3)] fun β => ?_
  refine GL_V (run_load1 (t := 9) (by kernel_rfl) ((H.blk_cell (i := 0) rfl 3).trans rfl)) ?_
  refine GL_st 1 5 [(2, S nm)] fun β => ?_
  refine G_ret ?_
  refine res1 (v := S nm) rfl (by kernel_rfl) ?_
  exact ⟨by simp [*], H⟩
/-- (*posthorn/sasl.Exchange).Ask -/
theorem c_Ask_plain (n : Nat) (v1 v4 : Value) {g : Nat} {w0 w : World} {F : List Chunk} (H : Sep w0 w (.blk g 58 [v1, In n, .iface 85 (.agg #[]), v4] :: F)) : Ret Tryd.prog 12 #[.pointer (some ⟨g, 0, none⟩)] w (fun v w' => v = S (if n = 1 then enc (Stp.plain).ask else []) ∧ Sep w0 w' (.blk g 58 [v1, In n, .iface 85 (.agg #[]), v4] :: F)) := by
 refine Ret_enter (args := [Pt g 0]) Tryd.func12 rfl (by kernel_rfl) ?_
 refine G_forget [(0, Pt g 0)] (by kernel_rfl) (fun β => ?_)
 refine G_sr ?_
 refine GL_st 1 1 [(0, Pt g 0)] fun β => ?_
 refine G_seq ?_
 refine G_sr ?_
 refine GL_s 1 1 [(0, Pt g 0), (3, Pt g 0)] fun β => ?_
 replace H : Sep w0 w (.blk g 58 [v1, In n, .iface 85 (.agg #[]), v4] :: F) := H
 refine GL_C (c_State n v1 (.iface 85 (.agg #[])) v4 H) ?_
 rintro _ w1 ⟨rfl, H⟩
 refine GL_srt 1 3 [(0, Pt g 0), (5, .bool (n != 1))] (show ([Pt g 0, .bool ((n : Int) != ((1 : Nat) : Int))] : List Value) = [Pt g 0, .bool (n != 1)] by rw [nneq n 1]) fun β => ?_
 refine G_cond (n != 1) (by kernel_rfl) (fun h0 => ?_) (fun h0 => ?_)
 · --yes
  replace h0 : ¬ (n = 1) := neq_T h0
  refine G_sr ?_
  refine GL_st 1 1 [(2, S ([] : List UInt8))] fun β => ?_
  refine G_ret ?_
  refine thn_ret (res1 (v := S ([] : List UInt8)) rfl (by kernel_rfl) ?_)
  replace H : Sep w0 w1 (.blk g 58 [v1, In n, .iface 85 (.agg #[]), v4] :: F) := H
  exact ⟨by simp [Stp.ask, *], H⟩
 · --no
  replace h0 : n = 1 := neq_F h0
  refine G_skip ?_
  refine thn_normal ?_
  refine G_sr ?_
  refine GL_s 3 3 [(8, Pt g 2)] fun β => ?_
  refine GL_V (run_load1 (t := 55) (by kernel_rfl) ((H.blk_cell (i := 0) rfl 2).trans rfl)) ?_
  refine GL_C (c_asks_plain H) ?_
  rintro _ w2 ⟨rfl, H⟩
  obtain ⟨A3, c4, w5, hr6, H⟩ := R_conv_sb (P := Tryd.prog) (s := 9) (t := 68) (e := 5) (u := .string) (l := ([] : List UInt8)) H (by kernel_rfl) (by kernel_rfl) (by kernel_rfl) (by unfold maxLen; (try simp only [List.length_append, List.length_cons, List.length_nil]); omega)
  replace H : Sep w0 w5 (.row (.slice A3 (([] : List UInt8).length) c4) 5 1 (([] : List UInt8).length) (bs ([] : List UInt8)) :: .blk g 58 [v1, In n, .iface 85 (.agg #[]), v4] :: F) := H
  refine GL_V hr6 ?_
  refine GL_C (c_Base64 (l := ([] : List UInt8)) (hl := by first | omega | (simp; done)) (R := (Rd.of_row H (i := 0) rfl)) (H := H)) ?_
  rintro _ w7 ⟨rfl, H⟩
  refine GL_st 1 8 [(2, S (enc ([] : List UInt8)))] fun β => ?_
  refine G_ret ?_
  refine res1 (v := S (enc ([] : List UInt8))) rfl (by kernel_rfl) ?_
  replace H := H.drop 0
  replace H : Sep w0 w7 (.blk g 58 [v1, In n, .iface 85 (.agg #[]), v4] :: F) := H
  exact ⟨by simp [Stp.ask, *], H⟩
/-- (*posthorn/sasl.Exchange).Ask -/
theorem c_Ask_login (n : Nat) (v1 v4 : Value) {g : Nat} {w0 w : World} {F : List Chunk} (H : Sep w0 w (.blk g 58 [v1, In n, .iface 86 (.agg #[]), v4] :: F)) : Ret Tryd.prog 12 #[.pointer (some ⟨g, 0, none⟩)] w (fun v w' => v = S (if n = 1 then enc (Stp.login).ask else []) ∧ Sep w0 w' (.blk g 58 [v1, In n, .iface 86 (.agg #[]), v4] :: F)) := by
 refine Ret_enter (args := [Pt g 0]) Tryd.func12 rfl (by kernel_rfl) ?_
 refine G_forget [(0, Pt g 0)] (by kernel_rfl) (fun β => ?_)
 refine G_sr ?_
 refine GL_st 1 1 [(0, Pt g 0)] fun β => ?_
 refine G_seq ?_
 refine G_sr ?_
 refine GL_s 1 1 [(0, Pt g 0), (3, Pt g 0)] fun β => ?_
 replace H : Sep w0 w (.blk g 58 [v1, In n, .iface 86 (.agg #[]), v4] :: F) := H
 refine GL_C (c_State n v1 (.iface 86 (.agg #[])) v4 H) ?_
 rintro _ w1 ⟨rfl, H⟩
 refine GL_srt 1 3 [(0, Pt g 0), (5, .bool (n != 1))] (show ([Pt g 0, .bool ((n : Int) != ((1 : Nat) : Int))] : List Value) = [Pt g 0, .bool (n != 1)] by rw [nneq n 1]) fun β => ?_
 refine G_cond (n != 1) (by kernel_rfl) (fun h0 => ?_) (fun h0 => ?_)
 · --yes
  replace h0 : ¬ (n = 1) := neq_T h0
  refine G_sr ?_
  refine GL_st 1 1 [(2, S ([] : List UInt8))] fun β => ?_
  refine G_ret ?_
  refine thn_ret (res1 (v := S ([] : List UInt8)) rfl (by kernel_rfl) ?_)
  replace H : Sep w0 w1 (.blk g 58 [v1, In n, .iface 86 (.agg #[]), v4] :: F) := H
  exact ⟨by simp [Stp.ask, *], H⟩
 · --no
  replace h0 : n = 1 := neq_F h0
  refine G_skip ?_
  refine thn_normal ?_
  refine G_sr ?_
  refine GL_s 3 3 [(8, Pt g 2)] fun β => ?_
  refine GL_V (run_load1 (t := 55) (by kernel_rfl) ((H.blk_cell (i := 0) rfl 2).trans rfl)) ?_
  refine GL_C (c_asks_login H) ?_
  rintro _ w2 ⟨rfl, H⟩
  obtain ⟨A3, c4, w5, hr6, H⟩ := R_conv_sb (P := Tryd.prog) (s := 9) (t := 68) (e := 5) (u := .string) (l := [85, 115, 101, 114, 110, 97, 109, 101, 58]) H (by kernel_rfl) (by kernel_rfl) (by kernel_rfl) (by unfold maxLen; (try simp only [List.length_append, List.length_cons, List.length_nil]); omega)
  replace H : Sep w0 w5 (.row (.slice A3 ([85, 115, 101, 114, 110, 97, 109, 101, 58].length) c4) 5 1 ([85, 115, 101, 114, 110, 97, 109, 101, 58].length) (bs [85, 115, 101, 114, 110, 97, 109, 101, 58]) :: .blk g 58 [v1, In n, .iface 86 (.agg #[]), v4] :: F) := H
  refine GL_V hr6 ?_
  refine GL_C (c_Base64 (l := [85, 115, 101, 114, 110, 97, 109, 101, 58]) (hl := by first | omega | (simp; done)) (R := (Rd.of_row H (i := 0) rfl)) (H := H)) ?_
  rintro _ w7 ⟨rfl, H⟩
  refine GL_st 1 8 [(2, S (enc [85, 115, 101, 114, 110, 97, 109, 101, 58]))] fun β => ?_
  refine G_ret ?_
  refine res1 (v := S (enc [85, 115, 101, 114, 110, 97, 109, 101, 58])) rfl (by kernel_rfl) ?_
  replace H := H.drop 0
  replace H : Sep w0 w7 (.blk g 58 [v1, In n, .iface 86 (.agg #[]), v4] :: F) := H
  exact ⟨by simp [Stp.ask, *], H⟩
/-- (*posthorn/sasl.Exchange).Ask -/
theorem c_Ask_word (n : Nat) (v1 v4 : Value) (x : List UInt8) (hx : x.length ≤ 68719476736) {g : Nat} {w0 w : World} {F : List Chunk} (H : Sep w0 w (.blk g 58 [v1, In n, .iface 167 (.agg #[S x]), v4] :: F)) : Ret Tryd.prog 12 #[.pointer (some ⟨g, 0, none⟩)] w (fun v w' => v = S (if n = 1 then enc (Stp.word x).ask else []) ∧ Sep w0 w' (.blk g 58 [v1, In n, .iface 167 (.agg #[S x]), v4] :: F)) := by
 refine Ret_enter (args := [Pt g 0]) Tryd.func12 rfl (by kernel_rfl) ?_
 refine G_forget [(0, Pt g 0)] (by kernel_rfl) (fun β => ?_)
 refine G_sr ?_
 refine GL_st 1 1 [(0, Pt g 0)] fun β => ?_
 refine G_seq ?_
 refine G_sr ?_
 refine GL_s 1 1 [(0, Pt g 0), (3, Pt g 0)] fun β => ?_
 replace H : Sep w0 w (.blk g 58 [v1, In n, .iface 167 (.agg #[S x]), v4] :: F) := H
 refine GL_C (c_State n v1 (.iface 167 (.agg #[S x])) v4 H) ?_
 rintro _ w1 ⟨rfl, H⟩
 refine GL_srt 1 3 [(0, Pt g 0), (5, .bool (n != 1))] (show ([Pt g 0, .bool ((n : Int) != ((1 : Nat) : Int))] : List Value) = [Pt g 0, .bool (n != 1)] by rw [nneq n 1]) fun β => ?_
 refine G_cond (n != 1) (by kernel_rfl) (fun h0 => ?_) (fun h0 => ?_)
 · --yes
  replace h0 : ¬ (n = 1) := neq_T h0
  refine G_sr ?_
  refine GL_st 1 1 [(2, S ([] : List UInt8))] fun β => ?_
  refine G_ret ?_
  refine thn_ret (res1 (v := S ([] : List UInt8)) rfl (by kernel_rfl) ?_)
  replace H : Sep w0 w1 (.blk g 58 [v1, In n, .iface 167 (.agg #[S x]), v4] :: F) := H
  exact ⟨by simp [Stp.ask, *], H⟩
 · --no
  replace h0 : n = 1 := neq_F h0
  refine G_skip ?_
  refine thn_normal ?_
  refine G_sr ?_
  refine GL_s 3 3 [(8, Pt g 2)] fun β => ?_
  refine GL_V (run_load1 (t := 55) (by kernel_rfl) ((H.blk_cell (i := 0) rfl 2).trans rfl)) ?_
  refine GL_C (c_asks_word x H) ?_
  rintro _ w2 ⟨rfl, H⟩
  obtain ⟨A3, c4, w5, hr6, H⟩ := R_conv_sb (P := Tryd.prog) (s := 9) (t := 68) (e := 5) (u := .string) (l := [80, 97, 115, 115, 119, 111, 114, 100, 58]) H (by kernel_rfl) (by kernel_rfl) (by kernel_rfl) (by unfold maxLen; (try simp only [List.length_append, List.length_cons, List.length_nil]); omega)
  replace H : Sep w0 w5 (.row (.slice A3 ([80, 97, 115, 115, 119, 111, 114, 100, 58].length) c4) 5 1 ([80, 97, 115, 115, 119, 111, 114, 100, 58].length) (bs [80, 97, 115, 115, 119, 111, 114, 100, 58]) :: .blk g 58 [v1, In n, .iface 167 (.agg #[S x]), v4] :: F) := H
  refine GL_V hr6 ?_
  refine GL_C (c_Base64 (l := [80, 97, 115, 115, 119, 111, 114, 100, 58]) (hl := by first | omega | (simp; done)) (R := (Rd.of_row H (i := 0) rfl)) (H := H)) ?_
  rintro _ w7 ⟨rfl, H⟩
  refine GL_st 1 8 [(2, S (enc [80, 97, 115, 115, 119, 111, 114, 100, 58]))] fun β => ?_
  refine G_ret ?_
  refine res1 (v := S (enc [80, 97, 115, 115, 119, 111, 114, 100, 58])) rfl (by kernel_rfl) ?_
  replace H := H.drop 0
  replace H : Sep w0 w7 (.blk g 58 [v1, In n, .iface 167 (.agg #[S x]), v4] :: F) := H
  exact ⟨by simp [Stp.ask, *], H⟩
/-- (*posthorn/sasl.Exchange).Ask -/
theorem c_Ask_cram (n : Nat) (v1 v4 : Value) (x : List UInt8) (hx : x.length ≤ 68719476736) {g : Nat} {w0 w : World} {F : List Chunk} (H : Sep w0 w (.blk g 58 [v1, In n, .iface 60 (.agg #[S x]), v4] :: F)) : Ret Tryd.prog 12 #[.pointer (some ⟨g, 0, none⟩)] w (fun v w' => v = S (if n = 1 then enc (Stp.cram x).ask else []) ∧ Sep w0 w' (.blk g 58 [v1, In n, .iface 60 (.agg #[S x]), v4] :: F)) := by
 refine Ret_enter (args := [Pt g 0]) Tryd.func12 rfl (by kernel_rfl) ?_
 refine G_forget [(0, Pt g 0)] (by kernel_rfl) (fun β => ?_)
 refine G_sr ?_
 refine GL_st 1 1 [(0, Pt g 0)] fun β => ?_
 refine G_seq ?_
 refine G_sr ?_
 refine GL_s 1 1 [(0, Pt g 0), (3, Pt g 0)] fun β => ?_
 replace H : Sep w0 w (.blk g 58 [v1, In n, .iface 60 (.agg #[S x]), v4] :: F) := H
 refine GL_C (c_State n v1 (.iface 60 (.agg #[S x])) v4 H) ?_
 rintro _ w1 ⟨rfl, H⟩
 refine GL_srt 1 3 [(0, Pt g 0), (5, .bool (n != 1))] (show ([Pt g 0, .bool ((n : Int) != ((1 : Nat) : Int))] : List Value) = [Pt g 0, .bool (n != 1)] by rw [nneq n 1]) fun β => ?_
 refine G_cond (n != 1) (by kernel_rfl) (fun h0 => ?_) (fun h0 => ?_)
 · --yes
  replace h0 : ¬ (n = 1) := neq_T h0
  refine G_sr ?_
  refine GL_st 1 1 [(2, S ([] : List UInt8))] fun β => ?_
  refine G_ret ?_
  refine thn_ret (res1 (v := S ([] : List UInt8)) rfl (by kernel_rfl) ?_)
  replace H : Sep w0 w1 (.blk g 58 [v1, In n, .iface 60 (.agg #[S x]), v4] :: F) := H
  exact ⟨by simp [Stp.ask, *], H⟩
 · --no
  replace h0 : n = 1 := neq_F h0
  refine G_skip ?_
  refine thn_normal ?_
  refine G_sr ?_
  refine GL_s 3 3 [(8, Pt g 2)] fun β => ?_
  refine GL_V (run_load1 (t := 55) (by kernel_rfl) ((H.blk_cell (i := 0) rfl 2).trans rfl)) ?_
  refine GL_C (c_asks_cram x H) ?_
  rintro _ w2 ⟨rfl, H⟩
  obtain ⟨A3, c4, w5, hr6, H⟩ := R_conv_sb (P := Tryd.prog) (s := 9) (t := 68) (e := 5) (u := .string) (l := x) H (by kernel_rfl) (by kernel_rfl) (by kernel_rfl) (by unfold maxLen; (try simp only [List.length_append, List.length_cons, List.length_nil]); omega)
  replace H : Sep w0 w5 (.row (.slice A3 x.length c4) 5 1 x.length (bs x) :: .blk g 58 [v1, In n, .iface 60 (.agg #[S x]), v4] :: F) := H
  refine GL_V hr6 ?_
  refine GL_C (c_Base64 (l := x) (hl := by first | omega | (simp; done)) (R := (Rd.of_row H (i := 0) rfl)) (H := H)) ?_
  rintro _ w7 ⟨rfl, H⟩
  refine GL_st 1 8 [(2, S (enc x))] fun β => ?_
  refine G_ret ?_
  refine res1 (v := S (enc x)) rfl (by kernel_rfl) ?_
  replace H := H.drop 0
  replace H : Sep w0 w7 (.blk g 58 [v1, In n, .iface 60 (.agg #[S x]), v4] :: F) := H
  exact ⟨by simp [Stp.ask, *], H⟩

def takeF (T : List UInt32) (R : List UInt8) (l : List Str2) : Stp → List UInt8 → Option Stp × List UInt8 × Bool × Nat
  | .plain, y => (none, (plF l y).1, (plF l y).2.1, (plF l y).2.2)
  | .login, y => (some (.word y), [], false, 0)
  | .word x, y => (none, x, pairF l x y, 0)
  | .cram st, y => (none, (crF T R l st y).1, (crF T R l st y).2.1, (crF T R l st y).2.2)
def readF (T : List UInt32) (R : List UInt8) (l : List Str2) (n : Nat) (s : Stp) (nm line : List UInt8) : Nat × Nat × Stp × List UInt8 :=
  if (dec line).2.1 ≠ 0 then (221, n, s, nm)
  else if (takeF T R l s (dec line).1).2.2.2 ≠ 0 then ((takeF T R l s (dec line).1).2.2.2, n, s, nm)
  else match (takeF T R l s (dec line).1).1 with
    | some s' => (0, n, s', nm)
    | none => if (takeF T R l s (dec line).1).2.2.1 = true then (0, 2, s, (takeF T R l s (dec line).1).2.1) else (0, 3, s, nm)
theorem dec_len (l : List UInt8) : (dec l).1.length ≤ 3 * l.length := by
  have key : ∀ (l : List UInt8) (g : List UInt8) (ov : Bool) (o : List UInt8) (k : Nat), (decGo g ov o k l).1.length ≤ o.length + 3 * l.length := by
    intro l
    induction l with
    | nil => intro g ov o k; unfold decGo; split <;> simp
    | cons c l ih =>
      intro g ov o k
      unfold decGo
      split
      · simp
      · have h1 := ih (stp g ov c o).1 (stp g ov c o).2.1 (stp g ov c o).2.2.1 (k + 1)
        have h2 := stp_len (g := g) (ov := ov) (c := c) (o := o) (g' := (stp g ov c o).1) (ov' := (stp g ov c o).2.1) (o' := (stp g ov c o).2.2.1) (e := (stp g ov c o).2.2.2) rfl
        simp only [List.length_cons]
        omega
  have := key l [] false [] 0
  simpa [dec] using this
theorem c_Unb (l : List UInt8) (hl : l.length ≤ 68719476736) {w0 w : World} {F : List Chunk} (H : Sep w0 w F) : Ret Tryd.prog 25 #[S l] w (fun v w' => ∃ o e p A cp, dec l = (o, e, p) ∧ o.length ≤ 3 * l.length ∧ v = .tuple #[.slice A o.length cp, .agg #[.int .i64 (e : Int), .int .i64 (p : Int)]] ∧ Sep w0 w' (.row (.slice A o.length cp) 5 1 o.length (bs o) :: F)) :=
  (c_Unbase64 l hl H).mono fun v w' ⟨A, cp, hv, H⟩ => ⟨_, _, _, A, cp, rfl, dec_len l, hv, H⟩
/-- (*posthorn/sasl.Exchange).read -/
theorem c_read_plain {w0 w : World} {F : List Chunk} (T : List UInt32) (hT : T.length = 64) (gT : Gl w0 0 (u32s T)) (R : List UInt8) (hR : R.length = 16) (gR : Gl w0 1 (bs R)) (n : Nat) (nm y : List UInt8) (hy : y.length ≤ 68719476736) (l : List Str2) (hl : l.length ≤ 1099511627776) (hU : ∀ u ∈ l, u.1.length ≤ 549755813888 ∧ u.2.length ≤ 549755813888) {g c : Nat} {A : Option Addr} (H : Sep w0 w (.blk g 58 [.slice A l.length c, In n, .iface 85 (.agg #[]), S nm] :: .row (.slice A l.length c) 40 2 l.length (us l) :: F)) : Ret Tryd.prog 21 #[.pointer (some ⟨g, 0, none⟩), S y] w (fun v w' => v = .int .i64 ((readF T R l n (Stp.plain) nm y).1 : Int) ∧ Sep w0 w' (.blk g 58 [.slice A l.length c, In ((readF T R l n (Stp.plain) nm y).2.1), (readF T R l n (Stp.plain) nm y).2.2.1.v, S ((readF T R l n (Stp.plain) nm y).2.2.2)] :: .row (.slice A l.length c) 40 2 l.length (us l) :: F)) := by
 refine Ret_enter (args := [Pt g 0, S y]) Tryd.func21 rfl (by kernel_rfl) ?_
 refine G_forget [(0, Pt g 0), (1, S y)] (by kernel_rfl) (fun β => ?_)
 refine G_sr ?_
 refine GL_st 1 1 [(0, Pt g 0), (1, S y)] fun β => ?_
 refine G_sr ?_
 refine GL_s 1 1 [(0, Pt g 0), (12, S y)] fun β => ?_
 refine GL_C (c_Unb y (by omega) H) ?_
 rintro _ w8 ⟨o1, e2, p3, A4, c5, hd6, hl7, rfl, H⟩
 refine GL_s 3 5 [(0, Pt g 0), (14, .slice A4 o1.length c5), (15, .agg #[In e2, In p3])] fun β => ?_
 refine GL_new (V := fun g => Pt g 0) (l := [In 0, In 0]) (t := 70) H rfl (by kernel_rfl) (by kernel_rfl) (by kernel_rfl) (fun g9 w10 H => ?_)
 refine GL_s 1 7 [(0, Pt g 0), (5, .slice A4 o1.length c5), (6, Pt g9 0), (15, .agg #[In e2, In p3])] fun β => ?_
 obtain ⟨w11, hr12, H⟩ := R_store (P := Tryd.prog) (t := 70) (v := .agg #[In e2, In p3]) (off := 0) H (i := 0) rfl (by kernel_rfl) (by kernel_rfl) (by kernel_rfl)
 replace H : Sep w0 w11 (.blk g9 70 [In e2, In p3] :: .row (.slice A4 o1.length c5) 5 1 o1.length (bs o1) :: .blk g 58 [.slice A l.length c, In n, .iface 85 (.agg #[]), S nm] :: .row (.slice A l.length c) 40 2 l.length (us l) :: F) := H
 refine GL_U hr12 ?_
 refine GL_et ?_
 refine G_seq ?_
 refine G_sr ?_
 refine GL_s 1 1 [(0, Pt g 0), (5, .slice A4 o1.length c5), (16, Pt g9 0)] fun β => ?_
 refine GL_V (run_load1 (t := 28) (by kernel_rfl) ((H.blk_cell (i := 0) rfl 0).trans rfl)) ?_
 refine GL_srt 1 3 [(0, Pt g 0), (5, .slice A4 o1.length c5), (18, .bool (e2 != 0))] (show ([Pt g 0, .slice A4 o1.length c5, .bool ((e2 : Int) != ((0 : Nat) : Int))] : List Value) = [Pt g 0, .slice A4 o1.length c5, .bool (e2 != 0)] by rw [nneq e2 0]) fun β => ?_
 refine G_cond (e2 != 0) (by kernel_rfl) (fun h0 => ?_) (fun h0 => ?_)
 · --yes
  replace h0 : ¬ (e2 = 0) := neq_T h0
  refine G_sr ?_
  refine GL_st 1 1 [(4, In 221)] fun β => ?_
  refine G_ret ?_
  refine thn_ret (res1 (v := In 221) rfl (by kernel_rfl) ?_)
  replace H := H.drop 1
  replace H := H.drop 0
  replace H := H.front (i := 1) rfl
  replace H := H.front (i := 1) rfl
  replace H : Sep w0 w11 (.blk g 58 [.slice A l.length c, In n, .iface 85 (.agg #[]), S nm] :: .row (.slice A l.length c) 40 2 l.length (us l) :: F) := H
  have e : (readF T R l n (Stp.plain) nm y) = (221, n, (Stp.plain), nm) := by simp [readF, takeF, hd6, *]
  rw [e]
  exact ⟨rfl, H⟩
 · --no
  replace h0 : e2 = 0 := neq_F h0
  refine G_skip ?_
  refine thn_normal ?_
  refine G_seq ?_
  refine G_drawS (fun w => w.cell? ⟨g, 2, none⟩ = some (.iface 85 (.agg #[])) ∧ w.cell? ⟨g, 0, none⟩ = some (.slice A l.length c) ∧ True) 22 22 (by kernel_rfl) (by kernel_rfl) H (fun w13 H => ?_)
  refine HL_takes [0, 1, 2] [(0, Pt g 0), (5, .slice A4 o1.length c5), (22, Pt g 2)] (mkL 22 [0, 1, 2]) 19 (by kernel_rfl) rfl (by kernel_rfl) (fun _ => by kernel_rfl) ⟨((H.blk_cell (i := 2) rfl 2).trans rfl), ((H.blk_cell (i := 2) rfl 0).trans rfl), trivial⟩ (fun β => ?_)
  refine HL_t (i := 3) (m := 18) (fun w hS => run_load1 (t := 55) (by kernel_rfl) hS.1) rfl (by kernel_rfl) (by kernel_rfl) (by kernel_rfl) (by kernel_rfl) (by kernel_rfl) (by kernel_rfl) ⟨((H.blk_cell (i := 2) rfl 2).trans rfl), ((H.blk_cell (i := 2) rfl 0).trans rfl), trivial⟩ rfl ?_
  refine HL_takes [4, 5, 6] [(0, Pt g 0), (5, .slice A4 o1.length c5), (23, .iface 85 (.agg #[])), (26, Pt g 0)] (mkL 22 [0, 1, 2, 3, 4, 5, 6]) 15 (by kernel_rfl) rfl (by kernel_rfl) (fun _ => by kernel_rfl) ⟨((H.blk_cell (i := 2) rfl 2).trans rfl), ((H.blk_cell (i := 2) rfl 0).trans rfl), trivial⟩ (fun β => ?_)
  refine HL_t (i := 7) (m := 14) (fun w hS => run_load1 (t := 22) (by kernel_rfl) hS.2.1) rfl (by kernel_rfl) (by kernel_rfl) (by kernel_rfl) (by kernel_rfl) (by kernel_rfl) (by kernel_rfl) ⟨((H.blk_cell (i := 2) rfl 2).trans rfl), ((H.blk_cell (i := 2) rfl 0).trans rfl), trivial⟩ rfl ?_
  refine HL_takes [8, 10, 11] [(0, Pt g 0), (27, .slice A l.length c), (28, .slice A4 o1.length c5), (31, .iface 85 (.agg #[]))] (mkL 22 [0, 1, 2, 3, 4, 5, 6, 7, 8, 10, 11]) 11 (by kernel_rfl) rfl (by kernel_rfl) (fun _ => by kernel_rfl) ⟨((H.blk_cell (i := 2) rfl 2).trans rfl), ((H.blk_cell (i := 2) rfl 0).trans rfl), trivial⟩ (fun β => ?_)
  refine HL_v (i := 9) (R_conv_bs (s := 68) (t := 9) (e := 5) (l := o1) (by kernel_rfl) (by kernel_rfl) (by kernel_rfl) (Src.row H (i := 1) rfl)) rfl (by kernel_rfl) (by kernel_rfl) (by kernel_rfl) (by kernel_rfl) (.inr ⟨((H.blk_cell (i := 2) rfl 2).trans rfl), ((H.blk_cell (i := 2) rfl 0).trans rfl), trivial⟩) ?_
  refine HL_call (i := 12) (f := 114) (args := #[.agg #[], .slice A l.length c, S o1]) rfl (by kernel_rfl) (by kernel_rfl) (by kernel_rfl) (by kernel_rfl) (c_take_plain o1 (by omega) l (by omega) (Rd.of_row H (i := 3) rfl) H) ?_
  rintro _ w14 ⟨rfl, H⟩
  refine ⟨(.inr ⟨((H.blk_cell (i := 2) rfl 2).trans rfl), ((H.blk_cell (i := 2) rfl 0).trans rfl), trivial⟩), ?_⟩
  refine HL_takes [13, 14, 15, 16, 17, 18, 19, 20, 21] [(0, Pt g 0), (7, .nilIface), (8, S ((plF l o1).1)), (9, .bool ((plF l o1).2.1)), (10, .int .i64 (((plF l o1).2.2 : Nat) : Int))] (mkL 22 [0, 1, 2, 3, 4, 5, 6, 7, 8, 10, 11, 9, 12, 13, 14, 15, 16, 17, 18, 19, 20, 21]) 0 (by kernel_rfl) rfl (by kernel_rfl) (fun _ => by kernel_rfl) ⟨((H.blk_cell (i := 2) rfl 2).trans rfl), ((H.blk_cell (i := 2) rfl 0).trans rfl), trivial⟩ (fun β => ?_)
  refine HL_forget [(0, Pt g 0), (7, .nilIface), (8, S ((plF l o1).1)), (9, .bool ((plF l o1).2.1)), (10, In ((plF l o1).2.2))] (by kernel_rfl) (fun β => ?_)
  refine HL_fin (by kernel_rfl) ?_
  refine thn_normal ?_
  refine G_seq ?_
  refine G_block ?_
  refine G_sr ?_
  refine GL_srt 3 3 [(0, Pt g 0), (7, .nilIface), (8, S ((plF l o1).1)), (9, .bool ((plF l o1).2.1)), (10, In ((plF l o1).2.2)), (40, .bool (((plF l o1).2.2) != 0))] (show ([Pt g 0, .nilIface, S ((plF l o1).1), .bool ((plF l o1).2.1), .int .i64 (((plF l o1).2.2 : Nat) : Int), .bool ((((plF l o1).2.2 : Nat) : Int) != ((0 : Nat) : Int))] : List Value) = [Pt g 0, .nilIface, S ((plF l o1).1), .bool ((plF l o1).2.1), In ((plF l o1).2.2), .bool (((plF l o1).2.2) != 0)] by rw [nneq ((plF l o1).2.2) 0]) fun β => ?_
  refine G_cond (((plF l o1).2.2) != 0) (by kernel_rfl) (fun h1 => ?_) (fun h1 => ?_)
  · --yes
   replace h1 : ¬ ((plF l o1).2.2 = 0) := neq_T h1
   refine G_sr ?_
   refine GL_st 2 2 [(4, In ((plF l o1).2.2))] fun β => ?_
   refine G_ret ?_
   refine inb_ret (thn_ret (res1 (v := In ((plF l o1).2.2)) rfl (by kernel_rfl) ?_))
   replace H := H.drop 1
   replace H := H.drop 0
   replace H := H.front (i := 1) rfl
   replace H := H.front (i := 1) rfl
   replace H : Sep w0 w14 (.blk g 58 [.slice A l.length c, In n, .iface 85 (.agg #[]), S nm] :: .row (.slice A l.length c) 40 2 l.length (us l) :: F) := H
   have e : (readF T R l n (Stp.plain) nm y) = ((plF l o1).2.2, n, (Stp.plain), nm) := by simp [readF, takeF, hd6, *]
   rw [e]
   exact ⟨rfl, H⟩
  · --no
   replace h1 : (plF l o1).2.2 = 0 := neq_F h1
   refine G_sr ?_
   refine GL_st 3 3 [(0, Pt g 0), (7, .nilIface), (8, S ((plF l o1).1)), (9, .bool ((plF l o1).2.1)), (44, .bool false)] fun β => ?_
   refine G_false (by kernel_rfl) ?_
   refine G_sr ?_
   refine GL_st 2 2 [(0, Pt g 0), (8, S ((plF l o1).1)), (51, .bool ((plF l o1).2.1))] fun β => ?_
   refine G_cond ((plF l o1).2.1) (by kernel_rfl) (fun h2 => ?_) (fun h2 => ?_)
   · --yes
    refine G_region ?_
    refine GL_s 5 5 [(54, Pt g 0), (55, S ((plF l o1).1)), (57, Pt g 1)] fun β => ?_
    obtain ⟨w15, hr16, H⟩ := R_store (P := Tryd.prog) (t := 3) (v := In 2) (off := 1) H (i := 2) rfl (by kernel_rfl) (by kernel_rfl) (by kernel_rfl)
    replace H : Sep w0 w15 (.blk g9 70 [In e2, In p3] :: .row (.slice A4 o1.length c5) 5 1 o1.length (bs o1) :: .blk g 58 [.slice A l.length c, In 2, .iface 85 (.agg #[]), S nm] :: .row (.slice A l.length c) 40 2 l.length (us l) :: F) := H
    refine GL_U hr16 ?_
    refine GL_s 2 8 [(55, S ((plF l o1).1)), (59, Pt g 3)] fun β => ?_
    obtain ⟨w17, hr18, H⟩ := R_store (P := Tryd.prog) (t := 9) (v := S ((plF l o1).1)) (off := 3) H (i := 2) rfl (by kernel_rfl) (by kernel_rfl) (by kernel_rfl)
    replace H : Sep w0 w17 (.blk g9 70 [In e2, In p3] :: .row (.slice A4 o1.length c5) 5 1 o1.length (bs o1) :: .blk g 58 [.slice A l.length c, In 2, .iface 85 (.agg #[]), S ((plF l o1).1)] :: .row (.slice A l.length c) 40 2 l.length (us l) :: F) := H
    refine GL_U hr18 ?_
    refine GL_end (by kernel_rfl) ?_
    refine inb_normal ?_
    refine thn_normal ?_
    refine G_sr ?_
    refine GL_st 1 1 [(4, In 0)] fun β => ?_
    refine G_ret ?_
    refine res1 (v := In 0) rfl (by kernel_rfl) ?_
    replace H := H.drop 1
    replace H := H.drop 0
    replace H := H.front (i := 1) rfl
    replace H := H.front (i := 1) rfl
    replace H : Sep w0 w17 (.blk g 58 [.slice A l.length c, In 2, .iface 85 (.agg #[]), S ((plF l o1).1)] :: .row (.slice A l.length c) 40 2 l.length (us l) :: F) := H
    have e : (readF T R l n (Stp.plain) nm y) = (0, 2, (Stp.plain), (plF l o1).1) := by simp [readF, takeF, hd6, *]
    rw [e]
    exact ⟨rfl, H⟩
   · --no
    refine G_region ?_
    refine GL_s 3 3 [(39, Pt g 1)] fun β => ?_
    obtain ⟨w19, hr20, H⟩ := R_store (P := Tryd.prog) (t := 3) (v := In 3) (off := 1) H (i := 2) rfl (by kernel_rfl) (by kernel_rfl) (by kernel_rfl)
    replace H : Sep w0 w19 (.blk g9 70 [In e2, In p3] :: .row (.slice A4 o1.length c5) 5 1 o1.length (bs o1) :: .blk g 58 [.slice A l.length c, In 3, .iface 85 (.agg #[]), S nm] :: .row (.slice A l.length c) 40 2 l.length (us l) :: F) := H
    refine GL_U hr20 ?_
    refine GL_end (by kernel_rfl) ?_
    refine inb_normal ?_
    refine thn_normal ?_
    refine G_sr ?_
    refine GL_st 1 1 [(4, In 0)] fun β => ?_
    refine G_ret ?_
    refine res1 (v := In 0) rfl (by kernel_rfl) ?_
    replace H := H.drop 1
    replace H := H.drop 0
    replace H := H.front (i := 1) rfl
    replace H := H.front (i := 1) rfl
    replace H : Sep w0 w19 (.blk g 58 [.slice A l.length c, In 3, .iface 85 (.agg #[]), S nm] :: .row (.slice A l.length c) 40 2 l.length (us l) :: F) := H
    have e : (readF T R l n (Stp.plain) nm y) = (0, 3, (Stp.plain), nm) := by simp [readF, takeF, hd6, *]
    rw [e]
    exact ⟨rfl, H⟩
/-- (*posthorn/sasl.Exchange).read -/
theorem c_read_login {w0 w : World} {F : List Chunk} (T : List UInt32) (hT : T.length = 64) (gT : Gl w0 0 (u32s T)) (R : List UInt8) (hR : R.length = 16) (gR : Gl w0 1 (bs R)) (n : Nat) (nm y : List UInt8) (hy : y.length ≤ 68719476736) (l : List Str2) (hl : l.length ≤ 1099511627776) (hU : ∀ u ∈ l, u.1.length ≤ 549755813888 ∧ u.2.length ≤ 549755813888) {g c : Nat} {A : Option Addr} (H : Sep w0 w (.blk g 58 [.slice A l.length c, In n, .iface 86 (.agg #[]), S nm] :: .row (.slice A l.length c) 40 2 l.length (us l) :: F)) : Ret Tryd.prog 21 #[.pointer (some ⟨g, 0, none⟩), S y] w (fun v w' => v = .int .i64 ((readF T R l n (Stp.login) nm y).1 : Int) ∧ Sep w0 w' (.blk g 58 [.slice A l.length c, In ((readF T R l n (Stp.login) nm y).2.1), (readF T R l n (Stp.login) nm y).2.2.1.v, S ((readF T R l n (Stp.login) nm y).2.2.2)] :: .row (.slice A l.length c) 40 2 l.length (us l) :: F)) := by
 refine Ret_enter (args := [Pt g 0, S y]) Tryd.func21 rfl (by kernel_rfl) ?_
 refine G_forget [(0, Pt g 0), (1, S y)] (by kernel_rfl) (fun β => ?_)
 refine G_sr ?_
 refine GL_st 1 1 [(0, Pt g 0), (1, S y)] fun β => ?_
 refine G_sr ?_
 refine GL_s 1 1 [(0, Pt g 0), (12, S y)] fun β => ?_
 refine GL_C (c_Unb y (by omega) H) ?_
 rintro _ w8 ⟨o1, e2, p3, A4, c5, hd6, hl7, rfl, H⟩
 refine GL_s 3 5 [(0, Pt g 0), (14, .slice A4 o1.length c5), (15, .agg #[In e2, In p3])] fun β => ?_
 refine GL_new (V := fun g => Pt g 0) (l := [In 0, In 0]) (t := 70) H rfl (by kernel_rfl) (by kernel_rfl) (by kernel_rfl) (fun g9 w10 H => ?_)
 refine GL_s 1 7 [(0, Pt g 0), (5, .slice A4 o1.length c5), (6, Pt g9 0), (15, .agg #[In e2, In p3])] fun β => ?_
 obtain ⟨w11, hr12, H⟩ := R_store (P := Tryd.prog) (t := 70) (v := .agg #[In e2, In p3]) (off := 0) H (i := 0) rfl (by kernel_rfl) (by kernel_rfl) (by kernel_rfl)
 replace H : Sep w0 w11 (.blk g9 70 [In e2, In p3] :: .row (.slice A4 o1.length c5) 5 1 o1.length (bs o1) :: .blk g 58 [.slice A l.length c, In n, .iface 86 (.agg #[]), S nm] :: .row (.slice A l.length c) 40 2 l.length (us l) :: F) := H
 refine GL_U hr12 ?_
 refine GL_et ?_
 refine G_seq ?_
 refine G_sr ?_
 refine GL_s 1 1 [(0, Pt g 0), (5, .slice A4 o1.length c5), (16, Pt g9 0)] fun β => ?_
 refine GL_V (run_load1 (t := 28) (by kernel_rfl) ((H.blk_cell (i := 0) rfl 0).trans rfl)) ?_
 refine GL_srt 1 3 [(0, Pt g 0), (5, .slice A4 o1.length c5), (18, .bool (e2 != 0))] (show ([Pt g 0, .slice A4 o1.length c5, .bool ((e2 : Int) != ((0 : Nat) : Int))] : List Value) = [Pt g 0, .slice A4 o1.length c5, .bool (e2 != 0)] by rw [nneq e2 0]) fun β => ?_
 refine G_cond (e2 != 0) (by kernel_rfl) (fun h0 => ?_) (fun h0 => ?_)
 · --yes
  replace h0 : ¬ (e2 = 0) := neq_T h0
  refine G_sr ?_
  refine GL_st 1 1 [(4, In 221)] fun β => ?_
  refine G_ret ?_
  refine thn_ret (res1 (v := In 221) rfl (by kernel_rfl) ?_)
  replace H := H.drop 1
  replace H := H.drop 0
  replace H := H.front (i := 1) rfl
  replace H := H.front (i := 1) rfl
  replace H : Sep w0 w11 (.blk g 58 [.slice A l.length c, In n, .iface 86 (.agg #[]), S nm] :: .row (.slice A l.length c) 40 2 l.length (us l) :: F) := H
  have e : (readF T R l n (Stp.login) nm y) = (221, n, (Stp.login), nm) := by simp [readF, takeF, hd6, *]
  rw [e]
  exact ⟨rfl, H⟩
 · --no
  replace h0 : e2 = 0 := neq_F h0
  refine G_skip ?_
  refine thn_normal ?_
  refine G_seq ?_
  refine G_drawS (fun w => w.cell? ⟨g, 2, none⟩ = some (.iface 86 (.agg #[])) ∧ w.cell? ⟨g, 0, none⟩ = some (.slice A l.length c) ∧ True) 22 22 (by kernel_rfl) (by kernel_rfl) H (fun w13 H => ?_)
  refine HL_takes [0, 1, 2] [(0, Pt g 0), (5, .slice A4 o1.length c5), (22, Pt g 2)] (mkL 22 [0, 1, 2]) 19 (by kernel_rfl) rfl (by kernel_rfl) (fun _ => by kernel_rfl) ⟨((H.blk_cell (i := 2) rfl 2).trans rfl), ((H.blk_cell (i := 2) rfl 0).trans rfl), trivial⟩ (fun β => ?_)
  refine HL_t (i := 3) (m := 18) (fun w hS => run_load1 (t := 55) (by kernel_rfl) hS.1) rfl (by kernel_rfl) (by kernel_rfl) (by kernel_rfl) (by kernel_rfl) (by kernel_rfl) (by kernel_rfl) ⟨((H.blk_cell (i := 2) rfl 2).trans rfl), ((H.blk_cell (i := 2) rfl 0).trans rfl), trivial⟩ rfl ?_
  refine HL_takes [4, 5, 6] [(0, Pt g 0), (5, .slice A4 o1.length c5), (23, .iface 86 (.agg #[])), (26, Pt g 0)] (mkL 22 [0, 1, 2, 3, 4, 5, 6]) 15 (by kernel_rfl) rfl (by kernel_rfl) (fun _ => by kernel_rfl) ⟨((H.blk_cell (i := 2) rfl 2).trans rfl), ((H.blk_cell (i := 2) rfl 0).trans rfl), trivial⟩ (fun β => ?_)
  refine HL_t (i := 7) (m := 14) (fun w hS => run_load1 (t := 22) (by kernel_rfl) hS.2.1) rfl (by kernel_rfl) (by kernel_rfl) (by kernel_rfl) (by kernel_rfl) (by kernel_rfl) (by kernel_rfl) ⟨((H.blk_cell (i := 2) rfl 2).trans rfl), ((H.blk_cell (i := 2) rfl 0).trans rfl), trivial⟩ rfl ?_
  refine HL_takes [8, 10, 11] [(0, Pt g 0), (27, .slice A l.length c), (28, .slice A4 o1.length c5), (31, .iface 86 (.agg #[]))] (mkL 22 [0, 1, 2, 3, 4, 5, 6, 7, 8, 10, 11]) 11 (by kernel_rfl) rfl (by kernel_rfl) (fun _ => by kernel_rfl) ⟨((H.blk_cell (i := 2) rfl 2).trans rfl), ((H.blk_cell (i := 2) rfl 0).trans rfl), trivial⟩ (fun β => ?_)
  refine HL_v (i := 9) (R_conv_bs (s := 68) (t := 9) (e := 5) (l := o1) (by kernel_rfl) (by kernel_rfl) (by kernel_rfl) (Src.row H (i := 1) rfl)) rfl (by kernel_rfl) (by kernel_rfl) (by kernel_rfl) (by kernel_rfl) (.inr ⟨((H.blk_cell (i := 2) rfl 2).trans rfl), ((H.blk_cell (i := 2) rfl 0).trans rfl), trivial⟩) ?_
  refine HL_call (i := 12) (f := 129) (args := #[.agg #[], .slice A l.length c, S o1]) rfl (by kernel_rfl) (by kernel_rfl) (by kernel_rfl) (by kernel_rfl) (c_take_login o1 H) ?_
  rintro _ w14 ⟨rfl, H⟩
  refine ⟨(.inr ⟨((H.blk_cell (i := 2) rfl 2).trans rfl), ((H.blk_cell (i := 2) rfl 0).trans rfl), trivial⟩), ?_⟩
  refine HL_takes [13, 14, 15, 16, 17, 18, 19, 20, 21] [(0, Pt g 0), (7, .iface 167 (.agg #[S o1])), (8, S ([] : List UInt8)), (9, .bool false), (10, .int .i64 ((0 : Nat) : Int))] (mkL 22 [0, 1, 2, 3, 4, 5, 6, 7, 8, 10, 11, 9, 12, 13, 14, 15, 16, 17, 18, 19, 20, 21]) 0 (by kernel_rfl) rfl (by kernel_rfl) (fun _ => by kernel_rfl) ⟨((H.blk_cell (i := 2) rfl 2).trans rfl), ((H.blk_cell (i := 2) rfl 0).trans rfl), trivial⟩ (fun β => ?_)
  refine HL_forget [(0, Pt g 0), (7, .iface 167 (.agg #[S o1])), (8, S ([] : List UInt8)), (9, .bool false), (10, In 0)] (by kernel_rfl) (fun β => ?_)
  refine HL_fin (by kernel_rfl) ?_
  refine thn_normal ?_
  refine G_seq ?_
  refine G_block ?_
  refine G_sr ?_
  refine GL_st 3 3 [(0, Pt g 0), (7, .iface 167 (.agg #[S o1])), (8, S ([] : List UInt8)), (9, .bool false), (10, In 0), (40, .bool false)] fun β => ?_
  refine G_false (by kernel_rfl) ?_
  refine G_sr ?_
  refine GL_st 3 3 [(0, Pt g 0), (7, .iface 167 (.agg #[S o1])), (8, S ([] : List UInt8)), (9, .bool false), (44, .bool true)] fun β => ?_
  refine G_true (by kernel_rfl) ?_
  refine G_region ?_
  refine GL_s 4 4 [(48, .iface 167 (.agg #[S o1])), (50, Pt g 2)] fun β => ?_
  obtain ⟨w15, hr16, H⟩ := R_store (P := Tryd.prog) (t := 55) (v := .iface 167 (.agg #[S o1])) (off := 2) H (i := 2) rfl (by kernel_rfl) (by kernel_rfl) (by kernel_rfl)
  replace H : Sep w0 w15 (.blk g9 70 [In e2, In p3] :: .row (.slice A4 o1.length c5) 5 1 o1.length (bs o1) :: .blk g 58 [.slice A l.length c, In n, .iface 167 (.agg #[S o1]), S nm] :: .row (.slice A l.length c) 40 2 l.length (us l) :: F) := H
  refine GL_U hr16 ?_
  refine GL_end (by kernel_rfl) ?_
  refine inb_normal ?_
  refine thn_normal ?_
  refine G_sr ?_
  refine GL_st 1 1 [(4, In 0)] fun β => ?_
  refine G_ret ?_
  refine res1 (v := In 0) rfl (by kernel_rfl) ?_
  replace H := H.drop 1
  replace H := H.drop 0
  replace H := H.front (i := 1) rfl
  replace H := H.front (i := 1) rfl
  replace H : Sep w0 w15 (.blk g 58 [.slice A l.length c, In n, .iface 167 (.agg #[S o1]), S nm] :: .row (.slice A l.length c) 40 2 l.length (us l) :: F) := H
  have e : (readF T R l n (Stp.login) nm y) = (0, n, .word o1, nm) := by simp [readF, takeF, hd6, *]
  rw [e]
  exact ⟨rfl, H⟩
/-- (*posthorn/sasl.Exchange).read -/
theorem c_read_word {w0 w : World} {F : List Chunk} (T : List UInt32) (hT : T.length = 64) (gT : Gl w0 0 (u32s T)) (R : List UInt8) (hR : R.length = 16) (gR : Gl w0 1 (bs R)) (n : Nat) (x : List UInt8) (hx : x.length ≤ 68719476736) (nm y : List UInt8) (hy : y.length ≤ 68719476736) (l : List Str2) (hl : l.length ≤ 1099511627776) (hU : ∀ u ∈ l, u.1.length ≤ 549755813888 ∧ u.2.length ≤ 549755813888) {g c : Nat} {A : Option Addr} (H : Sep w0 w (.blk g 58 [.slice A l.length c, In n, .iface 167 (.agg #[S x]), S nm] :: .row (.slice A l.length c) 40 2 l.length (us l) :: F)) : Ret Tryd.prog 21 #[.pointer (some ⟨g, 0, none⟩), S y] w (fun v w' => v = .int .i64 ((readF T R l n (Stp.word x) nm y).1 : Int) ∧ Sep w0 w' (.blk g 58 [.slice A l.length c, In ((readF T R l n (Stp.word x) nm y).2.1), (readF T R l n (Stp.word x) nm y).2.2.1.v, S ((readF T R l n (Stp.word x) nm y).2.2.2)] :: .row (.slice A l.length c) 40 2 l.length (us l) :: F)) := by
 refine Ret_enter (args := [Pt g 0, S y]) Tryd.func21 rfl (by kernel_rfl) ?_
 refine G_forget [(0, Pt g 0), (1, S y)] (by kernel_rfl) (fun β => ?_)
 refine G_sr ?_
 refine GL_st 1 1 [(0, Pt g 0), (1, S y)] fun β => ?_
 refine G_sr ?_
 refine GL_s 1 1 [(0, Pt g 0), (12, S y)] fun β => ?_
 refine GL_C (c_Unb y (by omega) H) ?_
 rintro _ w8 ⟨o1, e2, p3, A4, c5, hd6, hl7, rfl, H⟩
 refine GL_s 3 5 [(0, Pt g 0), (14, .slice A4 o1.length c5), (15, .agg #[In e2, In p3])] fun β => ?_
 refine GL_new (V := fun g => Pt g 0) (l := [In 0, In 0]) (t := 70) H rfl (by kernel_rfl) (by kernel_rfl) (by kernel_rfl) (fun g9 w10 H => ?_)
 refine GL_s 1 7 [(0, Pt g 0), (5, .slice A4 o1.length c5), (6, Pt g9 0), (15, .agg #[In e2, In p3])] fun β => ?_
 obtain ⟨w11, hr12, H⟩ := R_store (P := Tryd.prog) (t := 70) (v := .agg #[In e2, In p3]) (off := 0) H (i := 0) rfl (by kernel_rfl) (by kernel_rfl) (by kernel_rfl)
 replace H : Sep w0 w11 (.blk g9 70 [In e2, In p3] :: .row (.slice A4 o1.length c5) 5 1 o1.length (bs o1) :: .blk g 58 [.slice A l.length c, In n, .iface 167 (.agg #[S x]), S nm] :: .row (.slice A l.length c) 40 2 l.length (us l) :: F) := H
 refine GL_U hr12 ?_
 refine GL_et ?_
 refine G_seq ?_
 refine G_sr ?_
 refine GL_s 1 1 [(0, Pt g 0), (5, .slice A4 o1.length c5), (16, Pt g9 0)] fun β => ?_
 refine GL_V (run_load1 (t := 28) (by kernel_rfl) ((H.blk_cell (i := 0) rfl 0).trans rfl)) ?_
 refine GL_srt 1 3 [(0, Pt g 0), (5, .slice A4 o1.length c5), (18, .bool (e2 != 0))] (show ([Pt g 0, .slice A4 o1.length c5, .bool ((e2 : Int) != ((0 : Nat) : Int))] : List Value) = [Pt g 0, .slice A4 o1.length c5, .bool (e2 != 0)] by rw [nneq e2 0]) fun β => ?_
 refine G_cond (e2 != 0) (by kernel_rfl) (fun h0 => ?_) (fun h0 => ?_)
 · --yes
  replace h0 : ¬ (e2 = 0) := neq_T h0
  refine G_sr ?_
  refine GL_st 1 1 [(4, In 221)] fun β => ?_
  refine G_ret ?_
  refine thn_ret (res1 (v := In 221) rfl (by kernel_rfl) ?_)
  replace H := H.drop 1
  replace H := H.drop 0
  replace H := H.front (i := 1) rfl
  replace H := H.front (i := 1) rfl
  replace H : Sep w0 w11 (.blk g 58 [.slice A l.length c, In n, .iface 167 (.agg #[S x]), S nm] :: .row (.slice A l.length c) 40 2 l.length (us l) :: F) := H
  have e : (readF T R l n (Stp.word x) nm y) = (221, n, (Stp.word x), nm) := by simp [readF, takeF, hd6, *]
  rw [e]
  exact ⟨rfl, H⟩
 · --no
  replace h0 : e2 = 0 := neq_F h0
  refine G_skip ?_
  refine thn_normal ?_
  refine G_seq ?_
  refine G_drawS (fun w => w.cell? ⟨g, 2, none⟩ = some (.iface 167 (.agg #[S x])) ∧ w.cell? ⟨g, 0, none⟩ = some (.slice A l.length c) ∧ True) 22 22 (by kernel_rfl) (by kernel_rfl) H (fun w13 H => ?_)
  refine HL_takes [0, 1, 2] [(0, Pt g 0), (5, .slice A4 o1.length c5), (22, Pt g 2)] (mkL 22 [0, 1, 2]) 19 (by kernel_rfl) rfl (by kernel_rfl) (fun _ => by kernel_rfl) ⟨((H.blk_cell (i := 2) rfl 2).trans rfl), ((H.blk_cell (i := 2) rfl 0).trans rfl), trivial⟩ (fun β => ?_)
  refine HL_t (i := 3) (m := 18) (fun w hS => run_load1 (t := 55) (by kernel_rfl) hS.1) rfl (by kernel_rfl) (by kernel_rfl) (by kernel_rfl) (by kernel_rfl) (by kernel_rfl) (by kernel_rfl) ⟨((H.blk_cell (i := 2) rfl 2).trans rfl), ((H.blk_cell (i := 2) rfl 0).trans rfl), trivial⟩ rfl ?_
  refine HL_takes [4, 5, 6] [(0, Pt g 0), (5, .slice A4 o1.length c5), (23, .iface 167 (.agg #[S x])), (26, Pt g 0)] (mkL 22 [0, 1, 2, 3, 4, 5, 6]) 15 (by kernel_rfl) rfl (by kernel_rfl) (fun _ => by kernel_rfl) ⟨((H.blk_cell (i := 2) rfl 2).trans rfl), ((H.blk_cell (i := 2) rfl 0).trans rfl), trivial⟩ (fun β => ?_)
  refine HL_t (i := 7) (m := 14) (fun w hS => run_load1 (t := 22) (by kernel_rfl) hS.2.1) rfl (by kernel_rfl) (by kernel_rfl) (by kernel_rfl) (by kernel_rfl) (by kernel_rfl) (by kernel_rfl) ⟨((H.blk_cell (i := 2) rfl 2).trans rfl), ((H.blk_cell (i := 2) rfl 0).trans rfl), trivial⟩ rfl ?_
  refine HL_takes [8, 10, 11] [(0, Pt g 0), (27, .slice A l.length c), (28, .slice A4 o1.length c5), (31, .iface 167 (.agg #[S x]))] (mkL 22 [0, 1, 2, 3, 4, 5, 6, 7, 8, 10, 11]) 11 (by kernel_rfl) rfl (by kernel_rfl) (fun _ => by kernel_rfl) ⟨((H.blk_cell (i := 2) rfl 2).trans rfl), ((H.blk_cell (i := 2) rfl 0).trans rfl), trivial⟩ (fun β => ?_)
  refine HL_v (i := 9) (R_conv_bs (s := 68) (t := 9) (e := 5) (l := o1) (by kernel_rfl) (by kernel_rfl) (by kernel_rfl) (Src.row H (i := 1) rfl)) rfl (by kernel_rfl) (by kernel_rfl) (by kernel_rfl) (by kernel_rfl) (.inr ⟨((H.blk_cell (i := 2) rfl 2).trans rfl), ((H.blk_cell (i := 2) rfl 0).trans rfl), trivial⟩) ?_
  refine HL_call (i := 12) (f := 134) (args := #[.agg #[S x], .slice A l.length c, S o1]) rfl (by kernel_rfl) (by kernel_rfl) (by kernel_rfl) (by kernel_rfl) (c_take_word x o1 l (by omega) (Rd.of_row H (i := 3) rfl) H) ?_
  rintro _ w14 ⟨rfl, H⟩
  refine ⟨(.inr ⟨((H.blk_cell (i := 2) rfl 2).trans rfl), ((H.blk_cell (i := 2) rfl 0).trans rfl), trivial⟩), ?_⟩
  refine HL_takes [13, 14, 15, 16, 17, 18, 19, 20, 21] [(0, Pt g 0), (7, .nilIface), (8, S x), (9, .bool (pairF l x o1)), (10, .int .i64 ((0 : Nat) : Int))] (mkL 22 [0, 1, 2, 3, 4, 5, 6, 7, 8, 10, 11, 9, 12, 13, 14, 15, 16, 17, 18, 19, 20, 21]) 0 (by kernel_rfl) rfl (by kernel_rfl) (fun _ => by kernel_rfl) ⟨((H.blk_cell (i := 2) rfl 2).trans rfl), ((H.blk_cell (i := 2) rfl 0).trans rfl), trivial⟩ (fun β => ?_)
  refine HL_forget [(0, Pt g 0), (7, .nilIface), (8, S x), (9, .bool (pairF l x o1)), (10, In 0)] (by kernel_rfl) (fun β => ?_)
  refine HL_fin (by kernel_rfl) ?_
  refine thn_normal ?_
  refine G_seq ?_
  refine G_block ?_
  refine G_sr ?_
  refine GL_st 3 3 [(0, Pt g 0), (7, .nilIface), (8, S x), (9, .bool (pairF l x o1)), (10, In 0), (40, .bool false)] fun β => ?_
  refine G_false (by kernel_rfl) ?_
  refine G_sr ?_
  refine GL_st 3 3 [(0, Pt g 0), (7, .nilIface), (8, S x), (9, .bool (pairF l x o1)), (44, .bool false)] fun β => ?_
  refine G_false (by kernel_rfl) ?_
  refine G_sr ?_
  refine GL_st 2 2 [(0, Pt g 0), (8, S x), (51, .bool (pairF l x o1))] fun β => ?_
  refine G_cond (pairF l x o1) (by kernel_rfl) (fun h1 => ?_) (fun h1 => ?_)
  · --yes
   refine G_region ?_
   refine GL_s 5 5 [(54, Pt g 0), (55, S x), (57, Pt g 1)] fun β => ?_
   obtain ⟨w15, hr16, H⟩ := R_store (P := Tryd.prog) (t := 3) (v := In 2) (off := 1) H (i := 2) rfl (by kernel_rfl) (by kernel_rfl) (by kernel_rfl)
   replace H : Sep w0 w15 (.blk g9 70 [In e2, In p3] :: .row (.slice A4 o1.length c5) 5 1 o1.length (bs o1) :: .blk g 58 [.slice A l.length c, In 2, .iface 167 (.agg #[S x]), S nm] :: .row (.slice A l.length c) 40 2 l.length (us l) :: F) := H
   refine GL_U hr16 ?_
   refine GL_s 2 8 [(55, S x), (59, Pt g 3)] fun β => ?_
   obtain ⟨w17, hr18, H⟩ := R_store (P := Tryd.prog) (t := 9) (v := S x) (off := 3) H (i := 2) rfl (by kernel_rfl) (by kernel_rfl) (by kernel_rfl)
   replace H : Sep w0 w17 (.blk g9 70 [In e2, In p3] :: .row (.slice A4 o1.length c5) 5 1 o1.length (bs o1) :: .blk g 58 [.slice A l.length c, In 2, .iface 167 (.agg #[S x]), S x] :: .row (.slice A l.length c) 40 2 l.length (us l) :: F) := H
   refine GL_U hr18 ?_
   refine GL_end (by kernel_rfl) ?_
   refine inb_normal ?_
   refine thn_normal ?_
   refine G_sr ?_
   refine GL_st 1 1 [(4, In 0)] fun β => ?_
   refine G_ret ?_
   refine res1 (v := In 0) rfl (by kernel_rfl) ?_
   replace H := H.drop 1
   replace H := H.drop 0
   replace H := H.front (i := 1) rfl
   replace H := H.front (i := 1) rfl
   replace H : Sep w0 w17 (.blk g 58 [.slice A l.length c, In 2, .iface 167 (.agg #[S x]), S x] :: .row (.slice A l.length c) 40 2 l.length (us l) :: F) := H
   have e : (readF T R l n (Stp.word x) nm y) = (0, 2, (Stp.word x), x) := by simp [readF, takeF, hd6, *]
   rw [e]
   exact ⟨rfl, H⟩
  · --no
   refine G_region ?_
   refine GL_s 3 3 [(39, Pt g 1)] fun β => ?_
   obtain ⟨w19, hr20, H⟩ := R_store (P := Tryd.prog) (t := 3) (v := In 3) (off := 1) H (i := 2) rfl (by kernel_rfl) (by kernel_rfl) (by kernel_rfl)
   replace H : Sep w0 w19 (.blk g9 70 [In e2, In p3] :: .row (.slice A4 o1.length c5) 5 1 o1.length (bs o1) :: .blk g 58 [.slice A l.length c, In 3, .iface 167 (.agg #[S x]), S nm] :: .row (.slice A l.length c) 40 2 l.length (us l) :: F) := H
   refine GL_U hr20 ?_
   refine GL_end (by kernel_rfl) ?_
   refine inb_normal ?_
   refine thn_normal ?_
   refine G_sr ?_
   refine GL_st 1 1 [(4, In 0)] fun β => ?_
   refine G_ret ?_
   refine res1 (v := In 0) rfl (by kernel_rfl) ?_
   replace H := H.drop 1
   replace H := H.drop 0
   replace H := H.front (i := 1) rfl
   replace H := H.front (i := 1) rfl
   replace H : Sep w0 w19 (.blk g 58 [.slice A l.length c, In 3, .iface 167 (.agg #[S x]), S nm] :: .row (.slice A l.length c) 40 2 l.length (us l) :: F) := H
   have e : (readF T R l n (Stp.word x) nm y) = (0, 3, (Stp.word x), nm) := by simp [readF, takeF, hd6, *]
   rw [e]
   exact ⟨rfl, H⟩
/-- (*posthorn/sasl.Exchange).read -/
theorem c_read_cram {w0 w : World} {F : List Chunk} (T : List UInt32) (hT : T.length = 64) (gT : Gl w0 0 (u32s T)) (R : List UInt8) (hR : R.length = 16) (gR : Gl w0 1 (bs R)) (n : Nat) (x : List UInt8) (hx : x.length ≤ 68719476736) (nm y : List UInt8) (hy : y.length ≤ 68719476736) (l : List Str2) (hl : l.length ≤ 1099511627776) (hU : ∀ u ∈ l, u.1.length ≤ 549755813888 ∧ u.2.length ≤ 549755813888) {g c : Nat} {A : Option Addr} (H : Sep w0 w (.blk g 58 [.slice A l.length c, In n, .iface 60 (.agg #[S x]), S nm] :: .row (.slice A l.length c) 40 2 l.length (us l) :: F)) : Ret Tryd.prog 21 #[.pointer (some ⟨g, 0, none⟩), S y] w (fun v w' => v = .int .i64 ((readF T R l n (Stp.cram x) nm y).1 : Int) ∧ Sep w0 w' (.blk g 58 [.slice A l.length c, In ((readF T R l n (Stp.cram x) nm y).2.1), (readF T R l n (Stp.cram x) nm y).2.2.1.v, S ((readF T R l n (Stp.cram x) nm y).2.2.2)] :: .row (.slice A l.length c) 40 2 l.length (us l) :: F)) := by
 refine Ret_enter (args := [Pt g 0, S y]) Tryd.func21 rfl (by kernel_rfl) ?_
 refine G_forget [(0, Pt g 0), (1, S y)] (by kernel_rfl) (fun β => ?_)
 refine G_sr ?_
 refine GL_st 1 1 [(0, Pt g 0), (1, S y)] fun β => ?_
 refine G_sr ?_
 refine GL_s 1 1 [(0, Pt g 0), (12, S y)] fun β => ?_
 refine GL_C (c_Unb y (by omega) H) ?_
 rintro _ w8 ⟨o1, e2, p3, A4, c5, hd6, hl7, rfl, H⟩
 refine GL_s 3 5 [(0, Pt g 0), (14, .slice A4 o1.length c5), (15, .agg #[In e2, In p3])] fun β => ?_
 refine GL_new (V := fun g => Pt g 0) (l := [In 0, In 0]) (t := 70) H rfl (by kernel_rfl) (by kernel_rfl) (by kernel_rfl) (fun g9 w10 H => ?_)
 refine GL_s 1 7 [(0, Pt g 0), (5, .slice A4 o1.length c5), (6, Pt g9 0), (15, .agg #[In e2, In p3])] fun β => ?_
 obtain ⟨w11, hr12, H⟩ := R_store (P := Tryd.prog) (t := 70) (v := .agg #[In e2, In p3]) (off := 0) H (i := 0) rfl (by kernel_rfl) (by kernel_rfl) (by kernel_rfl)
 replace H : Sep w0 w11 (.blk g9 70 [In e2, In p3] :: .row (.slice A4 o1.length c5) 5 1 o1.length (bs o1) :: .blk g 58 [.slice A l.length c, In n, .iface 60 (.agg #[S x]), S nm] :: .row (.slice A l.length c) 40 2 l.length (us l) :: F) := H
 refine GL_U hr12 ?_
 refine GL_et ?_
 refine G_seq ?_
 refine G_sr ?_
 refine GL_s 1 1 [(0, Pt g 0), (5, .slice A4 o1.length c5), (16, Pt g9 0)] fun β => ?_
 refine GL_V (run_load1 (t := 28) (by kernel_rfl) ((H.blk_cell (i := 0) rfl 0).trans rfl)) ?_
 refine GL_srt 1 3 [(0, Pt g 0), (5, .slice A4 o1.length c5), (18, .bool (e2 != 0))] (show ([Pt g 0, .slice A4 o1.length c5, .bool ((e2 : Int) != ((0 : Nat) : Int))] : List Value) = [Pt g 0, .slice A4 o1.length c5, .bool (e2 != 0)] by rw [nneq e2 0]) fun β => ?_
 refine G_cond (e2 != 0) (by kernel_rfl) (fun h0 => ?_) (fun h0 => ?_)
 · --yes
  replace h0 : ¬ (e2 = 0) := neq_T h0
  refine G_sr ?_
  refine GL_st 1 1 [(4, In 221)] fun β => ?_
  refine G_ret ?_
  refine thn_ret (res1 (v := In 221) rfl (by kernel_rfl) ?_)
  replace H := H.drop 1
  replace H := H.drop 0
  replace H := H.front (i := 1) rfl
  replace H := H.front (i := 1) rfl
  replace H : Sep w0 w11 (.blk g 58 [.slice A l.length c, In n, .iface 60 (.agg #[S x]), S nm] :: .row (.slice A l.length c) 40 2 l.length (us l) :: F) := H
  have e : (readF T R l n (Stp.cram x) nm y) = (221, n, (Stp.cram x), nm) := by simp [readF, takeF, hd6, *]
  rw [e]
  exact ⟨rfl, H⟩
 · --no
  replace h0 : e2 = 0 := neq_F h0
  refine G_skip ?_
  refine thn_normal ?_
  refine G_seq ?_
  refine G_drawS (fun w => w.cell? ⟨g, 2, none⟩ = some (.iface 60 (.agg #[S x])) ∧ w.cell? ⟨g, 0, none⟩ = some (.slice A l.length c) ∧ True) 22 22 (by kernel_rfl) (by kernel_rfl) H (fun w13 H => ?_)
  refine HL_takes [0, 1, 2] [(0, Pt g 0), (5, .slice A4 o1.length c5), (22, Pt g 2)] (mkL 22 [0, 1, 2]) 19 (by kernel_rfl) rfl (by kernel_rfl) (fun _ => by kernel_rfl) ⟨((H.blk_cell (i := 2) rfl 2).trans rfl), ((H.blk_cell (i := 2) rfl 0).trans rfl), trivial⟩ (fun β => ?_)
  refine HL_t (i := 3) (m := 18) (fun w hS => run_load1 (t := 55) (by kernel_rfl) hS.1) rfl (by kernel_rfl) (by kernel_rfl) (by kernel_rfl) (by kernel_rfl) (by kernel_rfl) (by kernel_rfl) ⟨((H.blk_cell (i := 2) rfl 2).trans rfl), ((H.blk_cell (i := 2) rfl 0).trans rfl), trivial⟩ rfl ?_
  refine HL_takes [4, 5, 6] [(0, Pt g 0), (5, .slice A4 o1.length c5), (23, .iface 60 (.agg #[S x])), (26, Pt g 0)] (mkL 22 [0, 1, 2, 3, 4, 5, 6]) 15 (by kernel_rfl) rfl (by kernel_rfl) (fun _ => by kernel_rfl) ⟨((H.blk_cell (i := 2) rfl 2).trans rfl), ((H.blk_cell (i := 2) rfl 0).trans rfl), trivial⟩ (fun β => ?_)
  refine HL_t (i := 7) (m := 14) (fun w hS => run_load1 (t := 22) (by kernel_rfl) hS.2.1) rfl (by kernel_rfl) (by kernel_rfl) (by kernel_rfl) (by kernel_rfl) (by kernel_rfl) (by kernel_rfl) ⟨((H.blk_cell (i := 2) rfl 2).trans rfl), ((H.blk_cell (i := 2) rfl 0).trans rfl), trivial⟩ rfl ?_
  refine HL_takes [8, 10, 11] [(0, Pt g 0), (27, .slice A l.length c), (28, .slice A4 o1.length c5), (31, .iface 60 (.agg #[S x]))] (mkL 22 [0, 1, 2, 3, 4, 5, 6, 7, 8, 10, 11]) 11 (by kernel_rfl) rfl (by kernel_rfl) (fun _ => by kernel_rfl) ⟨((H.blk_cell (i := 2) rfl 2).trans rfl), ((H.blk_cell (i := 2) rfl 0).trans rfl), trivial⟩ (fun β => ?_)
  refine HL_v (i := 9) (R_conv_bs (s := 68) (t := 9) (e := 5) (l := o1) (by kernel_rfl) (by kernel_rfl) (by kernel_rfl) (Src.row H (i := 1) rfl)) rfl (by kernel_rfl) (by kernel_rfl) (by kernel_rfl) (by kernel_rfl) (.inr ⟨((H.blk_cell (i := 2) rfl 2).trans rfl), ((H.blk_cell (i := 2) rfl 0).trans rfl), trivial⟩) ?_
  refine HL_call (i := 12) (f := 105) (args := #[.agg #[S x], .slice A l.length c, S o1]) rfl (by kernel_rfl) (by kernel_rfl) (by kernel_rfl) (by kernel_rfl) (c_take_cram T hT gT R hR gR x o1 (by omega) (by omega) l (by omega) hU (Rd.of_row H (i := 3) rfl) H) ?_
  rintro _ w14 ⟨rfl, H⟩
  refine ⟨(.inr ⟨((H.blk_cell (i := 2) rfl 2).trans rfl), ((H.blk_cell (i := 2) rfl 0).trans rfl), trivial⟩), ?_⟩
  refine HL_takes [13, 14, 15, 16, 17, 18, 19, 20, 21] [(0, Pt g 0), (7, .nilIface), (8, S ((crF T R l x o1).1)), (9, .bool ((crF T R l x o1).2.1)), (10, .int .i64 (((crF T R l x o1).2.2 : Nat) : Int))] (mkL 22 [0, 1, 2, 3, 4, 5, 6, 7, 8, 10, 11, 9, 12, 13, 14, 15, 16, 17, 18, 19, 20, 21]) 0 (by kernel_rfl) rfl (by kernel_rfl) (fun _ => by kernel_rfl) ⟨((H.blk_cell (i := 2) rfl 2).trans rfl), ((H.blk_cell (i := 2) rfl 0).trans rfl), trivial⟩ (fun β => ?_)
  refine HL_forget [(0, Pt g 0), (7, .nilIface), (8, S ((crF T R l x o1).1)), (9, .bool ((crF T R l x o1).2.1)), (10, In ((crF T R l x o1).2.2))] (by kernel_rfl) (fun β => ?_)
  refine HL_fin (by kernel_rfl) ?_
  refine thn_normal ?_
  refine G_seq ?_
  refine G_block ?_
  refine G_sr ?_
  refine GL_srt 3 3 [(0, Pt g 0), (7, .nilIface), (8, S ((crF T R l x o1).1)), (9, .bool ((crF T R l x o1).2.1)), (10, In ((crF T R l x o1).2.2)), (40, .bool (((crF T R l x o1).2.2) != 0))] (show ([Pt g 0, .nilIface, S ((crF T R l x o1).1), .bool ((crF T R l x o1).2.1), .int .i64 (((crF T R l x o1).2.2 : Nat) : Int), .bool ((((crF T R l x o1).2.2 : Nat) : Int) != ((0 : Nat) : Int))] : List Value) = [Pt g 0, .nilIface, S ((crF T R l x o1).1), .bool ((crF T R l x o1).2.1), In ((crF T R l x o1).2.2), .bool (((crF T R l x o1).2.2) != 0)] by rw [nneq ((crF T R l x o1).2.2) 0]) fun β => ?_
  refine G_cond (((crF T R l x o1).2.2) != 0) (by kernel_rfl) (fun h1 => ?_) (fun h1 => ?_)
  · --yes
   replace h1 : ¬ ((crF T R l x o1).2.2 = 0) := neq_T h1
   refine G_sr ?_
   refine GL_st 2 2 [(4, In ((crF T R l x o1).2.2))] fun β => ?_
   refine G_ret ?_
   refine inb_ret (thn_ret (res1 (v := In ((crF T R l x o1).2.2)) rfl (by kernel_rfl) ?_))
   replace H := H.drop 1
   replace H := H.drop 0
   replace H := H.front (i := 1) rfl
   replace H := H.front (i := 1) rfl
   replace H : Sep w0 w14 (.blk g 58 [.slice A l.length c, In n, .iface 60 (.agg #[S x]), S nm] :: .row (.slice A l.length c) 40 2 l.length (us l) :: F) := H
   have e : (readF T R l n (Stp.cram x) nm y) = ((crF T R l x o1).2.2, n, (Stp.cram x), nm) := by simp [readF, takeF, hd6, *]
   rw [e]
   exact ⟨rfl, H⟩
  · --no
   replace h1 : (crF T R l x o1).2.2 = 0 := neq_F h1
   refine G_sr ?_
   refine GL_st 3 3 [(0, Pt g 0), (7, .nilIface), (8, S ((crF T R l x o1).1)), (9, .bool ((crF T R l x o1).2.1)), (44, .bool false)] fun β => ?_
   refine G_false (by kernel_rfl) ?_
   refine G_sr ?_
   refine GL_st 2 2 [(0, Pt g 0), (8, S ((crF T R l x o1).1)), (51, .bool ((crF T R l x o1).2.1))] fun β => ?_
   refine G_cond ((crF T R l x o1).2.1) (by kernel_rfl) (fun h2 => ?_) (fun h2 => ?_)
   · --yes
    refine G_region ?_
    refine GL_s 5 5 [(54, Pt g 0), (55, S ((crF T R l x o1).1)), (57, Pt g 1)] fun β => ?_
    obtain ⟨w15, hr16, H⟩ := R_store (P := Tryd.prog) (t := 3) (v := In 2) (off := 1) H (i := 2) rfl (by kernel_rfl) (by kernel_rfl) (by kernel_rfl)
    replace H : Sep w0 w15 (.blk g9 70 [In e2, In p3] :: .row (.slice A4 o1.length c5) 5 1 o1.length (bs o1) :: .blk g 58 [.slice A l.length c, In 2, .iface 60 (.agg #[S x]), S nm] :: .row (.slice A l.length c) 40 2 l.length (us l) :: F) := H
    refine GL_U hr16 ?_
    refine GL_s 2 8 [(55, S ((crF T R l x o1).1)), (59, Pt g 3)] fun β => ?_
    obtain ⟨w17, hr18, H⟩ := R_store (P := Tryd.prog) (t := 9) (v := S ((crF T R l x o1).1)) (off := 3) H (i := 2) rfl (by kernel_rfl) (by kernel_rfl) (by kernel_rfl)
    replace H : Sep w0 w17 (.blk g9 70 [In e2, In p3] :: .row (.slice A4 o1.length c5) 5 1 o1.length (bs o1) :: .blk g 58 [.slice A l.length c, In 2, .iface 60 (.agg #[S x]), S ((crF T R l x o1).1)] :: .row (.slice A l.length c) 40 2 l.length (us l) :: F) := H
    refine GL_U hr18 ?_
    refine GL_end (by kernel_rfl) ?_
    refine inb_normal ?_
    refine thn_normal ?_
    refine G_sr ?_
    refine GL_st 1 1 [(4, In 0)] fun β => ?_
    refine G_ret ?_
    refine res1 (v := In 0) rfl (by kernel_rfl) ?_
    replace H := H.drop 1
    replace H := H.drop 0
    replace H := H.front (i := 1) rfl
    replace H := H.front (i := 1) rfl
    replace H : Sep w0 w17 (.blk g 58 [.slice A l.length c, In 2, .iface 60 (.agg #[S x]), S ((crF T R l x o1).1)] :: .row (.slice A l.length c) 40 2 l.length (us l) :: F) := H
    have e : (readF T R l n (Stp.cram x) nm y) = (0, 2, (Stp.cram x), (crF T R l x o1).1) := by simp [readF, takeF, hd6, *]
    rw [e]
    exact ⟨rfl, H⟩
   · --no
    refine G_region ?_
    refine GL_s 3 3 [(39, Pt g 1)] fun β => ?_
    obtain ⟨w19, hr20, H⟩ := R_store (P := Tryd.prog) (t := 3) (v := In 3) (off := 1) H (i := 2) rfl (by kernel_rfl) (by kernel_rfl) (by kernel_rfl)
    replace H : Sep w0 w19 (.blk g9 70 [In e2, In p3] :: .row (.slice A4 o1.length c5) 5 1 o1.length (bs o1) :: .blk g 58 [.slice A l.length c, In 3, .iface 60 (.agg #[S x]), S nm] :: .row (.slice A l.length c) 40 2 l.length (us l) :: F) := H
    refine GL_U hr20 ?_
    refine GL_end (by kernel_rfl) ?_
    refine inb_normal ?_
    refine thn_normal ?_
    refine G_sr ?_
    refine GL_st 1 1 [(4, In 0)] fun β => ?_
    refine G_ret ?_
    refine res1 (v := In 0) rfl (by kernel_rfl) ?_
    replace H := H.drop 1
    replace H := H.drop 0
    replace H := H.front (i := 1) rfl
    replace H := H.front (i := 1) rfl
    replace H : Sep w0 w19 (.blk g 58 [.slice A l.length c, In 3, .iface 60 (.agg #[S x]), S nm] :: .row (.slice A l.length c) 40 2 l.length (us l) :: F) := H
    have e : (readF T R l n (Stp.cram x) nm y) = (0, 3, (Stp.cram x), nm) := by simp [readF, takeF, hd6, *]
    rw [e]
    exact ⟨rfl, H⟩
end Go.Proofs.YtadiljnfkbbmcaaDoor
