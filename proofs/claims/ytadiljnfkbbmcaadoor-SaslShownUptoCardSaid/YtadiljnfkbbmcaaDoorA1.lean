-- printed by gw.py (my own program), checked by Lean
import Derived.Test.YtadiljnfkbbmcaaDoorProg
import Derived.Test.YtadiljnfkbbmcaaDoorKw1
import Derived.Test.YtadiljnfkbbmcaaDoorKw2
import Derived.Test.YtadiljnfkbbmcaaDoorKw3
import Derived.Test.YtadiljnfkbbmcaaDoorKw4
import Derived.Test.YtadiljnfkbbmcaaDoorKw5
import Derived.Test.YtadiljnfkbbmcaaDoorKw6
import Derived.Test.YtadiljnfkbbmcaaDoorKw7
import Derived.Test.YtadiljnfkbbmcaaDoorA0
set_option linter.unusedVariables false
set_option linter.unusedSimpArgs false
set_option maxRecDepth 100000
set_option maxHeartbeats 400000
namespace Go.Proofs.YtadiljnfkbbmcaaDoor
open Go.Kw Go.RowKit

def up (c : UInt8) : UInt8 := if 97 ≤ c then (if c ≤ 122 then c - 97 + 65 else c) else c
theorem upper_step (l : List UInt8) (k : Nat) (h : k < l.length) (o : List UInt8) (ho : o = (l.take k).map up ++ List.replicate (l.length - k) 0) : o.set k (up (l.getD k 0)) = (l.take (k + 1)).map up ++ List.replicate (l.length - (k + 1)) 0 := by
  subst ho
  obtain ⟨m, hm⟩ : ∃ m, l.length - k = m + 1 := ⟨l.length - k - 1, by omega⟩
  rw [hm, List.replicate_succ, List.set_append_right _ _ (by simp; omega)]
  have e : k - (List.map up (List.take k l)).length = 0 := by simp; omega
  rw [e, List.set_cons_zero, show l.length - (k + 1) = m from by omega, List.take_add_one, List.getElem?_eq_getElem h]
  simp only [List.getD_eq_getElem?_getD, List.getElem?_eq_getElem h, Option.getD_some, Option.toList_some, List.map_append, List.map_cons, List.map_nil, List.append_assoc, List.cons_append, List.nil_append]
/-- posthorn/octet.upper -/
theorem c_upper (c : UInt8) (w : World) : Ret Tryd.prog 39 #[.int .u8 (c.toNat : Int)] w (fun v w' => v = .int .u8 ((up c).toNat : Int) ∧ w = w') := by
 refine Ret_enter (args := [By c]) Tryd.func39 rfl (by kernel_rfl) ?_
 refine G_forget [(0, By c)] (by kernel_rfl) (fun β => ?_)
 refine G_sr ?_
 refine GL_st 1 1 [(0, By c)] fun β => ?_
 refine G_seq ?_
 refine G_sr ?_
 refine GL_sr 3 3 [(0, By c), (5, .bool (decide ((97 : UInt8) ≤ c)))] (show ([.int .u8 (c.toNat : Int), .bool (decide (((97 : UInt8).toNat : Int) ≤ (c.toNat : Int)))] : List Value) = [By c, .bool (decide ((97 : UInt8) ≤ c))] by rw [Kw.u8_leq (97 : UInt8) c]) fun β => ?_
 rcases Bool.eq_false_or_eq_true (decide ((97 : UInt8) ≤ c)) with h0 | h0
 · --yes
  refine GL_re [(0, By c), (5, .bool true)] (show ([By c, .bool (decide ((97 : UInt8) ≤ c))] : List Value) = [By c, .bool true] by rw [h0]) (fun β => ?_)
  replace h0 : (97 : UInt8) ≤ c := of_decide_eq_true h0
  refine GL_srt 3 6 [(0, By c), (8, .bool (decide (c ≤ (122 : UInt8))))] (show ([.int .u8 (c.toNat : Int), .bool (decide ((c.toNat : Int) ≤ ((122 : UInt8).toNat : Int)))] : List Value) = [By c, .bool (decide (c ≤ (122 : UInt8)))] by rw [Kw.u8_leq c (122 : UInt8)]) fun β => ?_
  refine G_cond (decide (c ≤ (122 : UInt8))) (by kernel_rfl) (fun h1 => ?_) (fun h1 => ?_)
  · --yes
   replace h1 : c ≤ (122 : UInt8) := of_decide_eq_true h1
   refine G_sr ?_
   refine GL_srt 4 4 [(2, By ((c - (97 : UInt8)) + (65 : UInt8)))] (show ([.int .u8 (IntKind.u8.wrap ((IntKind.u8.wrap ((c.toNat : Int) - ((97 : UInt8).toNat : Int))) + ((65 : UInt8).toNat : Int)))] : List Value) = [By ((c - (97 : UInt8)) + (65 : UInt8))] by rw [Kw.u8_sub c (97 : UInt8), Kw.u8_add (c - (97 : UInt8)) (65 : UInt8)]) fun β => ?_
   refine G_ret ?_
   refine thn_ret (res1 (v := By ((c - (97 : UInt8)) + (65 : UInt8))) rfl (by kernel_rfl) ?_)
   exact ⟨by simp [up, *], rfl⟩
  · --no
   replace h1 : ¬ (c ≤ (122 : UInt8)) := of_decide_eq_false h1
   refine G_skip ?_
   refine thn_normal ?_
   refine G_sr ?_
   refine GL_st 2 2 [(2, By c)] fun β => ?_
   refine G_ret ?_
   refine res1 (v := By c) rfl (by kernel_rfl) ?_
   exact ⟨by simp [up, *], rfl⟩
 · --no
  refine GL_re [(0, By c), (5, .bool false)] (show ([By c, .bool (decide ((97 : UInt8) ≤ c))] : List Value) = [By c, .bool false] by rw [h0]) (fun β => ?_)
  replace h0 : ¬ ((97 : UInt8) ≤ c) := of_decide_eq_false h0
  refine GL_st 3 6 [(0, By c), (8, .bool false)] fun β => ?_
  refine G_false (by kernel_rfl) ?_
  refine G_skip ?_
  refine thn_normal ?_
  refine G_sr ?_
  refine GL_st 2 2 [(2, By c)] fun β => ?_
  refine G_ret ?_
  refine res1 (v := By c) rfl (by kernel_rfl) ?_
  exact ⟨by simp [up, *], rfl⟩
/-- posthorn/code.value -/
theorem c_value (c : UInt8) (w : World) : Ret Tryd.prog 48 #[.int .u8 (c.toNat : Int)] w (fun v w' => v = .int .u8 ((val c).toNat : Int) ∧ w = w') := by
 refine Ret_enter (args := [By c]) Tryd.func48 rfl (by kernel_rfl) ?_
 refine G_forget [(0, By c)] (by kernel_rfl) (fun β => ?_)
 refine G_sr ?_
 refine GL_st 1 1 [(0, By c)] fun β => ?_
 refine G_seq ?_
 refine G_block ?_
 refine G_sr ?_
 refine GL_sr 3 3 [(0, By c), (6, .bool (decide (c ≥ (65 : UInt8))))] (show ([.int .u8 (c.toNat : Int), .bool (decide ((c.toNat : Int) ≥ ((65 : UInt8).toNat : Int)))] : List Value) = [By c, .bool (decide (c ≥ (65 : UInt8)))] by rw [Kw.u8_geq c (65 : UInt8)]) fun β => ?_
 rcases Bool.eq_false_or_eq_true (decide (c ≥ (65 : UInt8))) with h0 | h0
 · --yes
  refine GL_re [(0, By c), (6, .bool true)] (show ([By c, .bool (decide (c ≥ (65 : UInt8)))] : List Value) = [By c, .bool true] by rw [h0]) (fun β => ?_)
  replace h0 : c ≥ (65 : UInt8) := of_decide_eq_true h0
  refine GL_srt 4 7 [(0, By c), (3, .bool (decide (c ≤ (90 : UInt8))))] (show ([.int .u8 (c.toNat : Int), .bool (decide ((c.toNat : Int) ≤ ((90 : UInt8).toNat : Int)))] : List Value) = [By c, .bool (decide (c ≤ (90 : UInt8)))] by rw [Kw.u8_leq c (90 : UInt8)]) fun β => ?_
  refine G_cond (decide (c ≤ (90 : UInt8))) (by kernel_rfl) (fun h1 => ?_) (fun h1 => ?_)
  · --yes
   replace h1 : c ≤ (90 : UInt8) := of_decide_eq_true h1
   refine G_sr ?_
   refine GL_srt 3 3 [(2, By (c - (65 : UInt8)))] (show ([.int .u8 (IntKind.u8.wrap ((c.toNat : Int) - ((65 : UInt8).toNat : Int)))] : List Value) = [By (c - (65 : UInt8))] by rw [Kw.u8_sub c (65 : UInt8)]) fun β => ?_
   refine G_ret ?_
   refine inb_ret (thn_ret (res1 (v := By (c - (65 : UInt8))) rfl (by kernel_rfl) ?_))
   exact ⟨by simp [val, *], rfl⟩
  · --no
   replace h1 : ¬ (c ≤ (90 : UInt8)) := of_decide_eq_false h1
   refine G_sr ?_
   refine GL_sr 3 3 [(0, By c), (15, .bool (decide (c ≥ (97 : UInt8))))] (show ([.int .u8 (c.toNat : Int), .bool (decide ((c.toNat : Int) ≥ ((97 : UInt8).toNat : Int)))] : List Value) = [By c, .bool (decide (c ≥ (97 : UInt8)))] by rw [Kw.u8_geq c (97 : UInt8)]) fun β => ?_
   rcases Bool.eq_false_or_eq_true (decide (c ≥ (97 : UInt8))) with h2 | h2
   · --yes
    refine GL_re [(0, By c), (15, .bool true)] (show ([By c, .bool (decide (c ≥ (97 : UInt8)))] : List Value) = [By c, .bool true] by rw [h2]) (fun β => ?_)
    replace h2 : c ≥ (97 : UInt8) := of_decide_eq_true h2
    refine GL_srt 4 7 [(0, By c), (12, .bool (decide (c ≤ (122 : UInt8))))] (show ([.int .u8 (c.toNat : Int), .bool (decide ((c.toNat : Int) ≤ ((122 : UInt8).toNat : Int)))] : List Value) = [By c, .bool (decide (c ≤ (122 : UInt8)))] by rw [Kw.u8_leq c (122 : UInt8)]) fun β => ?_
    refine G_cond (decide (c ≤ (122 : UInt8))) (by kernel_rfl) (fun h3 => ?_) (fun h3 => ?_)
    · --yes
     replace h3 : c ≤ (122 : UInt8) := of_decide_eq_true h3
     refine G_sr ?_
     refine GL_srt 4 4 [(2, By ((c - (97 : UInt8)) + (26 : UInt8)))] (show ([.int .u8 (IntKind.u8.wrap ((IntKind.u8.wrap ((c.toNat : Int) - ((97 : UInt8).toNat : Int))) + ((26 : UInt8).toNat : Int)))] : List Value) = [By ((c - (97 : UInt8)) + (26 : UInt8))] by rw [Kw.u8_sub c (97 : UInt8), Kw.u8_add (c - (97 : UInt8)) (26 : UInt8)]) fun β => ?_
     refine G_ret ?_
     refine inb_ret (thn_ret (res1 (v := By ((c - (97 : UInt8)) + (26 : UInt8))) rfl (by kernel_rfl) ?_))
     exact ⟨by simp [val, *], rfl⟩
    · --no
     replace h3 : ¬ (c ≤ (122 : UInt8)) := of_decide_eq_false h3
     refine G_sr ?_
     refine GL_sr 3 3 [(0, By c), (25, .bool (decide (c ≥ (48 : UInt8))))] (show ([.int .u8 (c.toNat : Int), .bool (decide ((c.toNat : Int) ≥ ((48 : UInt8).toNat : Int)))] : List Value) = [By c, .bool (decide (c ≥ (48 : UInt8)))] by rw [Kw.u8_geq c (48 : UInt8)]) fun β => ?_
     rcases Bool.eq_false_or_eq_true (decide (c ≥ (48 : UInt8))) with h4 | h4
     · --yes
      refine GL_re [(0, By c), (25, .bool true)] (show ([By c, .bool (decide (c ≥ (48 : UInt8)))] : List Value) = [By c, .bool true] by rw [h4]) (fun β => ?_)
      replace h4 : c ≥ (48 : UInt8) := of_decide_eq_true h4
      refine GL_srt 4 7 [(0, By c), (22, .bool (decide (c ≤ (57 : UInt8))))] (show ([.int .u8 (c.toNat : Int), .bool (decide ((c.toNat : Int) ≤ ((57 : UInt8).toNat : Int)))] : List Value) = [By c, .bool (decide (c ≤ (57 : UInt8)))] by rw [Kw.u8_leq c (57 : UInt8)]) fun β => ?_
      refine G_cond (decide (c ≤ (57 : UInt8))) (by kernel_rfl) (fun h5 => ?_) (fun h5 => ?_)
      · --yes
       replace h5 : c ≤ (57 : UInt8) := of_decide_eq_true h5
       refine G_sr ?_
       refine GL_srt 4 4 [(2, By ((c - (48 : UInt8)) + (52 : UInt8)))] (show ([.int .u8 (IntKind.u8.wrap ((IntKind.u8.wrap ((c.toNat : Int) - ((48 : UInt8).toNat : Int))) + ((52 : UInt8).toNat : Int)))] : List Value) = [By ((c - (48 : UInt8)) + (52 : UInt8))] by rw [Kw.u8_sub c (48 : UInt8), Kw.u8_add (c - (48 : UInt8)) (52 : UInt8)]) fun β => ?_
       refine G_ret ?_
       refine inb_ret (thn_ret (res1 (v := By ((c - (48 : UInt8)) + (52 : UInt8))) rfl (by kernel_rfl) ?_))
       exact ⟨by simp [val, *], rfl⟩
      · --no
       replace h5 : ¬ (c ≤ (57 : UInt8)) := of_decide_eq_false h5
       refine G_sr ?_
       refine GL_srt 3 3 [(0, By c), (32, .bool (c == (43 : UInt8)))] (show ([.int .u8 (c.toNat : Int), .bool ((c.toNat : Int) == ((43 : UInt8).toNat : Int))] : List Value) = [By c, .bool (c == (43 : UInt8))] by rw [Kw.u8_eql c (43 : UInt8)]) fun β => ?_
       refine G_cond (c == (43 : UInt8)) (by kernel_rfl) (fun h6 => ?_) (fun h6 => ?_)
       · --yes
        replace h6 : c = (43 : UInt8) := eql_T h6
        refine G_sr ?_
        refine GL_st 1 1 [(2, By (62 : UInt8))] fun β => ?_
        refine G_ret ?_
        refine inb_ret (thn_ret (res1 (v := By (62 : UInt8)) rfl (by kernel_rfl) ?_))
        exact ⟨by simp [val, *], rfl⟩
       · --no
        replace h6 : ¬ (c = (43 : UInt8)) := eql_F h6
        refine G_sr ?_
        refine GL_srt 3 3 [(0, By c), (35, .bool (c == (47 : UInt8)))] (show ([.int .u8 (c.toNat : Int), .bool ((c.toNat : Int) == ((47 : UInt8).toNat : Int))] : List Value) = [By c, .bool (c == (47 : UInt8))] by rw [Kw.u8_eql c (47 : UInt8)]) fun β => ?_
        refine G_cond (c == (47 : UInt8)) (by kernel_rfl) (fun h7 => ?_) (fun h7 => ?_)
        · --yes
         replace h7 : c = (47 : UInt8) := eql_T h7
         refine G_sr ?_
         refine GL_st 1 1 [(2, By (63 : UInt8))] fun β => ?_
         refine G_ret ?_
         refine inb_ret (thn_ret (res1 (v := By (63 : UInt8)) rfl (by kernel_rfl) ?_))
         exact ⟨by simp [val, *], rfl⟩
        · --no
         replace h7 : ¬ (c = (47 : UInt8)) := eql_F h7
         refine G_sr ?_
         refine GL_srt 3 3 [(38, .bool (c == (61 : UInt8)))] (show ([.bool ((c.toNat : Int) == ((61 : UInt8).toNat : Int))] : List Value) = [.bool (c == (61 : UInt8))] by rw [Kw.u8_eql c (61 : UInt8)]) fun β => ?_
         refine G_cond (c == (61 : UInt8)) (by kernel_rfl) (fun h8 => ?_) (fun h8 => ?_)
         · --yes
          replace h8 : c = (61 : UInt8) := eql_T h8
          refine G_sr ?_
          refine GL_st 1 1 [(2, By (64 : UInt8))] fun β => ?_
          refine G_ret ?_
          refine inb_ret (thn_ret (res1 (v := By (64 : UInt8)) rfl (by kernel_rfl) ?_))
          exact ⟨by simp [val, *], rfl⟩
         · --no
          replace h8 : ¬ (c = (61 : UInt8)) := eql_F h8
          refine G_skip ?_
          refine inb_normal ?_
          refine thn_normal ?_
          refine G_sr ?_
          refine GL_st 1 1 [(2, By (65 : UInt8))] fun β => ?_
          refine G_ret ?_
          refine res1 (v := By (65 : UInt8)) rfl (by kernel_rfl) ?_
          exact ⟨by simp [val, *], rfl⟩
     · --no
      refine GL_re [(0, By c), (25, .bool false)] (show ([By c, .bool (decide (c ≥ (48 : UInt8)))] : List Value) = [By c, .bool false] by rw [h4]) (fun β => ?_)
      replace h4 : ¬ (c ≥ (48 : UInt8)) := of_decide_eq_false h4
      refine GL_st 4 7 [(0, By c), (22, .bool false)] fun β => ?_
      refine G_false (by kernel_rfl) ?_
      refine G_sr ?_
      refine GL_srt 3 3 [(0, By c), (32, .bool (c == (43 : UInt8)))] (show ([.int .u8 (c.toNat : Int), .bool ((c.toNat : Int) == ((43 : UInt8).toNat : Int))] : List Value) = [By c, .bool (c == (43 : UInt8))] by rw [Kw.u8_eql c (43 : UInt8)]) fun β => ?_
      refine G_cond (c == (43 : UInt8)) (by kernel_rfl) (fun h9 => ?_) (fun h9 => ?_)
      · --yes
       replace h9 : c = (43 : UInt8) := eql_T h9
       refine G_sr ?_
       refine GL_st 1 1 [(2, By (62 : UInt8))] fun β => ?_
       refine G_ret ?_
       refine inb_ret (thn_ret (res1 (v := By (62 : UInt8)) rfl (by kernel_rfl) ?_))
       exact ⟨by simp [val, *], rfl⟩
      · --no
       replace h9 : ¬ (c = (43 : UInt8)) := eql_F h9
       refine G_sr ?_
       refine GL_srt 3 3 [(0, By c), (35, .bool (c == (47 : UInt8)))] (show ([.int .u8 (c.toNat : Int), .bool ((c.toNat : Int) == ((47 : UInt8).toNat : Int))] : List Value) = [By c, .bool (c == (47 : UInt8))] by rw [Kw.u8_eql c (47 : UInt8)]) fun β => ?_
       refine G_cond (c == (47 : UInt8)) (by kernel_rfl) (fun h10 => ?_) (fun h10 => ?_)
       · --yes
        replace h10 : c = (47 : UInt8) := eql_T h10
        refine G_sr ?_
        refine GL_st 1 1 [(2, By (63 : UInt8))] fun β => ?_
        refine G_ret ?_
        refine inb_ret (thn_ret (res1 (v := By (63 : UInt8)) rfl (by kernel_rfl) ?_))
        exact ⟨by simp [val, *], rfl⟩
       · --no
        replace h10 : ¬ (c = (47 : UInt8)) := eql_F h10
        refine G_sr ?_
        refine GL_srt 3 3 [(38, .bool (c == (61 : UInt8)))] (show ([.bool ((c.toNat : Int) == ((61 : UInt8).toNat : Int))] : List Value) = [.bool (c == (61 : UInt8))] by rw [Kw.u8_eql c (61 : UInt8)]) fun β => ?_
        refine G_cond (c == (61 : UInt8)) (by kernel_rfl) (fun h11 => ?_) (fun h11 => ?_)
        · --yes
         replace h11 : c = (61 : UInt8) := eql_T h11
         refine G_sr ?_
         refine GL_st 1 1 [(2, By (64 : UInt8))] fun β => ?_
         refine G_ret ?_
         refine inb_ret (thn_ret (res1 (v := By (64 : UInt8)) rfl (by kernel_rfl) ?_))
         exact ⟨by simp [val, *], rfl⟩
        · --no
         replace h11 : ¬ (c = (61 : UInt8)) := eql_F h11
         refine G_skip ?_
         refine inb_normal ?_
         refine thn_normal ?_
         refine G_sr ?_
         refine GL_st 1 1 [(2, By (65 : UInt8))] fun β => ?_
         refine G_ret ?_
         refine res1 (v := By (65 : UInt8)) rfl (by kernel_rfl) ?_
         exact ⟨by simp [val, *], rfl⟩
   · --no
    refine GL_re [(0, By c), (15, .bool false)] (show ([By c, .bool (decide (c ≥ (97 : UInt8)))] : List Value) = [By c, .bool false] by rw [h2]) (fun β => ?_)
    replace h2 : ¬ (c ≥ (97 : UInt8)) := of_decide_eq_false h2
    refine GL_st 4 7 [(0, By c), (12, .bool false)] fun β => ?_
    refine G_false (by kernel_rfl) ?_
    refine G_sr ?_
    refine GL_sr 3 3 [(0, By c), (25, .bool (decide (c ≥ (48 : UInt8))))] (show ([.int .u8 (c.toNat : Int), .bool (decide ((c.toNat : Int) ≥ ((48 : UInt8).toNat : Int)))] : List Value) = [By c, .bool (decide (c ≥ (48 : UInt8)))] by rw [Kw.u8_geq c (48 : UInt8)]) fun β => ?_
    rcases Bool.eq_false_or_eq_true (decide (c ≥ (48 : UInt8))) with h12 | h12
    · --yes
     refine GL_re [(0, By c), (25, .bool true)] (show ([By c, .bool (decide (c ≥ (48 : UInt8)))] : List Value) = [By c, .bool true] by rw [h12]) (fun β => ?_)
     replace h12 : c ≥ (48 : UInt8) := of_decide_eq_true h12
     refine GL_srt 4 7 [(0, By c), (22, .bool (decide (c ≤ (57 : UInt8))))] (show ([.int .u8 (c.toNat : Int), .bool (decide ((c.toNat : Int) ≤ ((57 : UInt8).toNat : Int)))] : List Value) = [By c, .bool (decide (c ≤ (57 : UInt8)))] by rw [Kw.u8_leq c (57 : UInt8)]) fun β => ?_
     refine G_cond (decide (c ≤ (57 : UInt8))) (by kernel_rfl) (fun h13 => ?_) (fun h13 => ?_)
     · --yes
      replace h13 : c ≤ (57 : UInt8) := of_decide_eq_true h13
      refine G_sr ?_
      refine GL_srt 4 4 [(2, By ((c - (48 : UInt8)) + (52 : UInt8)))] (show ([.int .u8 (IntKind.u8.wrap ((IntKind.u8.wrap ((c.toNat : Int) - ((48 : UInt8).toNat : Int))) + ((52 : UInt8).toNat : Int)))] : List Value) = [By ((c - (48 : UInt8)) + (52 : UInt8))] by rw [Kw.u8_sub c (48 : UInt8), Kw.u8_add (c - (48 : UInt8)) (52 : UInt8)]) fun β => ?_
      refine G_ret ?_
      refine inb_ret (thn_ret (res1 (v := By ((c - (48 : UInt8)) + (52 : UInt8))) rfl (by kernel_rfl) ?_))
      exact ⟨by simp [val, *], rfl⟩
     · --no
      replace h13 : ¬ (c ≤ (57 : UInt8)) := of_decide_eq_false h13
      refine G_sr ?_
      refine GL_srt 3 3 [(0, By c), (32, .bool (c == (43 : UInt8)))] (show ([.int .u8 (c.toNat : Int), .bool ((c.toNat : Int) == ((43 : UInt8).toNat : Int))] : List Value) = [By c, .bool (c == (43 : UInt8))] by rw [Kw.u8_eql c (43 : UInt8)]) fun β => ?_
      refine G_cond (c == (43 : UInt8)) (by kernel_rfl) (fun h14 => ?_) (fun h14 => ?_)
      · --yes
       replace h14 : c = (43 : UInt8) := eql_T h14
       refine G_sr ?_
       refine GL_st 1 1 [(2, By (62 : UInt8))] fun β => ?_
       refine G_ret ?_
       refine inb_ret (thn_ret (res1 (v := By (62 : UInt8)) rfl (by kernel_rfl) ?_))
       exact ⟨by simp [val, *], rfl⟩
      · --no
       replace h14 : ¬ (c = (43 : UInt8)) := eql_F h14
       refine G_sr ?_
       refine GL_srt 3 3 [(0, By c), (35, .bool (c == (47 : UInt8)))] (show ([.int .u8 (c.toNat : Int), .bool ((c.toNat : Int) == ((47 : UInt8).toNat : Int))] : List Value) = [By c, .bool (c == (47 : UInt8))] by rw [Kw.u8_eql c (47 : UInt8)]) fun β => ?_
       refine G_cond (c == (47 : UInt8)) (by kernel_rfl) (fun h15 => ?_) (fun h15 => ?_)
       · --yes
        replace h15 : c = (47 : UInt8) := eql_T h15
        refine G_sr ?_
        refine GL_st 1 1 [(2, By (63 : UInt8))] fun β => ?_
        refine G_ret ?_
        refine inb_ret (thn_ret (res1 (v := By (63 : UInt8)) rfl (by kernel_rfl) ?_))
        exact ⟨by simp [val, *], rfl⟩
       · --no
        replace h15 : ¬ (c = (47 : UInt8)) := eql_F h15
        refine G_sr ?_
        refine GL_srt 3 3 [(38, .bool (c == (61 : UInt8)))] (show ([.bool ((c.toNat : Int) == ((61 : UInt8).toNat : Int))] : List Value) = [.bool (c == (61 : UInt8))] by rw [Kw.u8_eql c (61 : UInt8)]) fun β => ?_
        refine G_cond (c == (61 : UInt8)) (by kernel_rfl) (fun h16 => ?_) (fun h16 => ?_)
        · --yes
         replace h16 : c = (61 : UInt8) := eql_T h16
         refine G_sr ?_
         refine GL_st 1 1 [(2, By (64 : UInt8))] fun β => ?_
         refine G_ret ?_
         refine inb_ret (thn_ret (res1 (v := By (64 : UInt8)) rfl (by kernel_rfl) ?_))
         exact ⟨by simp [val, *], rfl⟩
        · --no
         replace h16 : ¬ (c = (61 : UInt8)) := eql_F h16
         refine G_skip ?_
         refine inb_normal ?_
         refine thn_normal ?_
         refine G_sr ?_
         refine GL_st 1 1 [(2, By (65 : UInt8))] fun β => ?_
         refine G_ret ?_
         refine res1 (v := By (65 : UInt8)) rfl (by kernel_rfl) ?_
         exact ⟨by simp [val, *], rfl⟩
    · --no
     refine GL_re [(0, By c), (25, .bool false)] (show ([By c, .bool (decide (c ≥ (48 : UInt8)))] : List Value) = [By c, .bool false] by rw [h12]) (fun β => ?_)
     replace h12 : ¬ (c ≥ (48 : UInt8)) := of_decide_eq_false h12
     refine GL_st 4 7 [(0, By c), (22, .bool false)] fun β => ?_
     refine G_false (by kernel_rfl) ?_
     refine G_sr ?_
     refine GL_srt 3 3 [(0, By c), (32, .bool (c == (43 : UInt8)))] (show ([.int .u8 (c.toNat : Int), .bool ((c.toNat : Int) == ((43 : UInt8).toNat : Int))] : List Value) = [By c, .bool (c == (43 : UInt8))] by rw [Kw.u8_eql c (43 : UInt8)]) fun β => ?_
     refine G_cond (c == (43 : UInt8)) (by kernel_rfl) (fun h17 => ?_) (fun h17 => ?_)
     · --yes
      replace h17 : c = (43 : UInt8) := eql_T h17
      refine G_sr ?_
      refine GL_st 1 1 [(2, By (62 : UInt8))] fun β => ?_
      refine G_ret ?_
      refine inb_ret (thn_ret (res1 (v := By (62 : UInt8)) rfl (by kernel_rfl) ?_))
      exact ⟨by simp [val, *], rfl⟩
     · --no
      replace h17 : ¬ (c = (43 : UInt8)) := eql_F h17
      refine G_sr ?_
      refine GL_srt 3 3 [(0, By c), (35, .bool (c == (47 : UInt8)))] (show ([.int .u8 (c.toNat : Int), .bool ((c.toNat : Int) == ((47 : UInt8).toNat : Int))] : List Value) = [By c, .bool (c == (47 : UInt8))] by rw [Kw.u8_eql c (47 : UInt8)]) fun β => ?_
      refine G_cond (c == (47 : UInt8)) (by kernel_rfl) (fun h18 => ?_) (fun h18 => ?_)
      · --yes
       replace h18 : c = (47 : UInt8) := eql_T h18
       refine G_sr ?_
       refine GL_st 1 1 [(2, By (63 : UInt8))] fun β => ?_
       refine G_ret ?_
       refine inb_ret (thn_ret (res1 (v := By (63 : UInt8)) rfl (by kernel_rfl) ?_))
       exact ⟨by simp [val, *], rfl⟩
      · --no
       replace h18 : ¬ (c = (47 : UInt8)) := eql_F h18
       refine G_sr ?_
       refine GL_srt 3 3 [(38, .bool (c == (61 : UInt8)))] (show ([.bool ((c.toNat : Int) == ((61 : UInt8).toNat : Int))] : List Value) = [.bool (c == (61 : UInt8))] by rw [Kw.u8_eql c (61 : UInt8)]) fun β => ?_
       refine G_cond (c == (61 : UInt8)) (by kernel_rfl) (fun h19 => ?_) (fun h19 => ?_)
       · --yes
        replace h19 : c = (61 : UInt8) := eql_T h19
        refine G_sr ?_
        refine GL_st 1 1 [(2, By (64 : UInt8))] fun β => ?_
        refine G_ret ?_
        refine inb_ret (thn_ret (res1 (v := By (64 : UInt8)) rfl (by kernel_rfl) ?_))
        exact ⟨by simp [val, *], rfl⟩
       · --no
        replace h19 : ¬ (c = (61 : UInt8)) := eql_F h19
        refine G_skip ?_
        refine inb_normal ?_
        refine thn_normal ?_
        refine G_sr ?_
        refine GL_st 1 1 [(2, By (65 : UInt8))] fun β => ?_
        refine G_ret ?_
        refine res1 (v := By (65 : UInt8)) rfl (by kernel_rfl) ?_
        exact ⟨by simp [val, *], rfl⟩
 · --no
  refine GL_re [(0, By c), (6, .bool false)] (show ([By c, .bool (decide (c ≥ (65 : UInt8)))] : List Value) = [By c, .bool false] by rw [h0]) (fun β => ?_)
  replace h0 : ¬ (c ≥ (65 : UInt8)) := of_decide_eq_false h0
  refine GL_st 4 7 [(0, By c), (3, .bool false)] fun β => ?_
  refine G_false (by kernel_rfl) ?_
  refine G_sr ?_
  refine GL_sr 3 3 [(0, By c), (15, .bool (decide (c ≥ (97 : UInt8))))] (show ([.int .u8 (c.toNat : Int), .bool (decide ((c.toNat : Int) ≥ ((97 : UInt8).toNat : Int)))] : List Value) = [By c, .bool (decide (c ≥ (97 : UInt8)))] by rw [Kw.u8_geq c (97 : UInt8)]) fun β => ?_
  rcases Bool.eq_false_or_eq_true (decide (c ≥ (97 : UInt8))) with h20 | h20
  · --yes
   refine GL_re [(0, By c), (15, .bool true)] (show ([By c, .bool (decide (c ≥ (97 : UInt8)))] : List Value) = [By c, .bool true] by rw [h20]) (fun β => ?_)
   replace h20 : c ≥ (97 : UInt8) := of_decide_eq_true h20
   refine GL_srt 4 7 [(0, By c), (12, .bool (decide (c ≤ (122 : UInt8))))] (show ([.int .u8 (c.toNat : Int), .bool (decide ((c.toNat : Int) ≤ ((122 : UInt8).toNat : Int)))] : List Value) = [By c, .bool (decide (c ≤ (122 : UInt8)))] by rw [Kw.u8_leq c (122 : UInt8)]) fun β => ?_
   refine G_cond (decide (c ≤ (122 : UInt8))) (by kernel_rfl) (fun h21 => ?_) (fun h21 => ?_)
   · --yes
    replace h21 : c ≤ (122 : UInt8) := of_decide_eq_true h21
    refine G_sr ?_
    refine GL_srt 4 4 [(2, By ((c - (97 : UInt8)) + (26 : UInt8)))] (show ([.int .u8 (IntKind.u8.wrap ((IntKind.u8.wrap ((c.toNat : Int) - ((97 : UInt8).toNat : Int))) + ((26 : UInt8).toNat : Int)))] : List Value) = [By ((c - (97 : UInt8)) + (26 : UInt8))] by rw [Kw.u8_sub c (97 : UInt8), Kw.u8_add (c - (97 : UInt8)) (26 : UInt8)]) fun β => ?_
    refine G_ret ?_
    refine inb_ret (thn_ret (res1 (v := By ((c - (97 : UInt8)) + (26 : UInt8))) rfl (by kernel_rfl) ?_))
    exact ⟨by simp [val, *], rfl⟩
   · --no
    replace h21 : ¬ (c ≤ (122 : UInt8)) := of_decide_eq_false h21
    refine G_sr ?_
    refine GL_sr 3 3 [(0, By c), (25, .bool (decide (c ≥ (48 : UInt8))))] (show ([.int .u8 (c.toNat : Int), .bool (decide ((c.toNat : Int) ≥ ((48 : UInt8).toNat : Int)))] : List Value) = [By c, .bool (decide (c ≥ (48 : UInt8)))] by rw [Kw.u8_geq c (48 : UInt8)]) fun β => ?_
    rcases Bool.eq_false_or_eq_true (decide (c ≥ (48 : UInt8))) with h22 | h22
    · --yes
     refine GL_re [(0, By c), (25, .bool true)] (show ([By c, .bool (decide (c ≥ (48 : UInt8)))] : List Value) = [By c, .bool true] by rw [h22]) (fun β => ?_)
     replace h22 : c ≥ (48 : UInt8) := of_decide_eq_true h22
     refine GL_srt 4 7 [(0, By c), (22, .bool (decide (c ≤ (57 : UInt8))))] (show ([.int .u8 (c.toNat : Int), .bool (decide ((c.toNat : Int) ≤ ((57 : UInt8).toNat : Int)))] : List Value) = [By c, .bool (decide (c ≤ (57 : UInt8)))] by rw [Kw.u8_leq c (57 : UInt8)]) fun β => ?_
     refine G_cond (decide (c ≤ (57 : UInt8))) (by kernel_rfl) (fun h23 => ?_) (fun h23 => ?_)
     · --yes
      replace h23 : c ≤ (57 : UInt8) := of_decide_eq_true h23
      refine G_sr ?_
      refine GL_srt 4 4 [(2, By ((c - (48 : UInt8)) + (52 : UInt8)))] (show ([.int .u8 (IntKind.u8.wrap ((IntKind.u8.wrap ((c.toNat : Int) - ((48 : UInt8).toNat : Int))) + ((52 : UInt8).toNat : Int)))] : List Value) = [By ((c - (48 : UInt8)) + (52 : UInt8))] by rw [Kw.u8_sub c (48 : UInt8), Kw.u8_add (c - (48 : UInt8)) (52 : UInt8)]) fun β => ?_
      refine G_ret ?_
      refine inb_ret (thn_ret (res1 (v := By ((c - (48 : UInt8)) + (52 : UInt8))) rfl (by kernel_rfl) ?_))
      exact ⟨by simp [val, *], rfl⟩
     · --no
      replace h23 : ¬ (c ≤ (57 : UInt8)) := of_decide_eq_false h23
      refine G_sr ?_
      refine GL_srt 3 3 [(0, By c), (32, .bool (c == (43 : UInt8)))] (show ([.int .u8 (c.toNat : Int), .bool ((c.toNat : Int) == ((43 : UInt8).toNat : Int))] : List Value) = [By c, .bool (c == (43 : UInt8))] by rw [Kw.u8_eql c (43 : UInt8)]) fun β => ?_
      refine G_cond (c == (43 : UInt8)) (by kernel_rfl) (fun h24 => ?_) (fun h24 => ?_)
      · --yes
       replace h24 : c = (43 : UInt8) := eql_T h24
       refine G_sr ?_
       refine GL_st 1 1 [(2, By (62 : UInt8))] fun β => ?_
       refine G_ret ?_
       refine inb_ret (thn_ret (res1 (v := By (62 : UInt8)) rfl (by kernel_rfl) ?_))
       exact ⟨by simp [val, *], rfl⟩
      · --no
       replace h24 : ¬ (c = (43 : UInt8)) := eql_F h24
       refine G_sr ?_
       refine GL_srt 3 3 [(0, By c), (35, .bool (c == (47 : UInt8)))] (show ([.int .u8 (c.toNat : Int), .bool ((c.toNat : Int) == ((47 : UInt8).toNat : Int))] : List Value) = [By c, .bool (c == (47 : UInt8))] by rw [Kw.u8_eql c (47 : UInt8)]) fun β => ?_
       refine G_cond (c == (47 : UInt8)) (by kernel_rfl) (fun h25 => ?_) (fun h25 => ?_)
       · --yes
        replace h25 : c = (47 : UInt8) := eql_T h25
        refine G_sr ?_
        refine GL_st 1 1 [(2, By (63 : UInt8))] fun β => ?_
        refine G_ret ?_
        refine inb_ret (thn_ret (res1 (v := By (63 : UInt8)) rfl (by kernel_rfl) ?_))
        exact ⟨by simp [val, *], rfl⟩
       · --no
        replace h25 : ¬ (c = (47 : UInt8)) := eql_F h25
        refine G_sr ?_
        refine GL_srt 3 3 [(38, .bool (c == (61 : UInt8)))] (show ([.bool ((c.toNat : Int) == ((61 : UInt8).toNat : Int))] : List Value) = [.bool (c == (61 : UInt8))] by rw [Kw.u8_eql c (61 : UInt8)]) fun β => ?_
        refine G_cond (c == (61 : UInt8)) (by kernel_rfl) (fun h26 => ?_) (fun h26 => ?_)
        · --yes
         replace h26 : c = (61 : UInt8) := eql_T h26
         refine G_sr ?_
         refine GL_st 1 1 [(2, By (64 : UInt8))] fun β => ?_
         refine G_ret ?_
         refine inb_ret (thn_ret (res1 (v := By (64 : UInt8)) rfl (by kernel_rfl) ?_))
         exact ⟨by simp [val, *], rfl⟩
        · --no
         replace h26 : ¬ (c = (61 : UInt8)) := eql_F h26
         refine G_skip ?_
         refine inb_normal ?_
         refine thn_normal ?_
         refine G_sr ?_
         refine GL_st 1 1 [(2, By (65 : UInt8))] fun β => ?_
         refine G_ret ?_
         refine res1 (v := By (65 : UInt8)) rfl (by kernel_rfl) ?_
         exact ⟨by simp [val, *], rfl⟩
    · --no
     refine GL_re [(0, By c), (25, .bool false)] (show ([By c, .bool (decide (c ≥ (48 : UInt8)))] : List Value) = [By c, .bool false] by rw [h22]) (fun β => ?_)
     replace h22 : ¬ (c ≥ (48 : UInt8)) := of_decide_eq_false h22
     refine GL_st 4 7 [(0, By c), (22, .bool false)] fun β => ?_
     refine G_false (by kernel_rfl) ?_
     refine G_sr ?_
     refine GL_srt 3 3 [(0, By c), (32, .bool (c == (43 : UInt8)))] (show ([.int .u8 (c.toNat : Int), .bool ((c.toNat : Int) == ((43 : UInt8).toNat : Int))] : List Value) = [By c, .bool (c == (43 : UInt8))] by rw [Kw.u8_eql c (43 : UInt8)]) fun β => ?_
     refine G_cond (c == (43 : UInt8)) (by kernel_rfl) (fun h27 => ?_) (fun h27 => ?_)
     · --yes
      replace h27 : c = (43 : UInt8) := eql_T h27
      refine G_sr ?_
      refine GL_st 1 1 [(2, By (62 : UInt8))] fun β => ?_
      refine G_ret ?_
      refine inb_ret (thn_ret (res1 (v := By (62 : UInt8)) rfl (by kernel_rfl) ?_))
      exact ⟨by simp [val, *], rfl⟩
     · --no
      replace h27 : ¬ (c = (43 : UInt8)) := eql_F h27
      refine G_sr ?_
      refine GL_srt 3 3 [(0, By c), (35, .bool (c == (47 : UInt8)))] (show ([.int .u8 (c.toNat : Int), .bool ((c.toNat : Int) == ((47 : UInt8).toNat : Int))] : List Value) = [By c, .bool (c == (47 : UInt8))] by rw [Kw.u8_eql c (47 : UInt8)]) fun β => ?_
      refine G_cond (c == (47 : UInt8)) (by kernel_rfl) (fun h28 => ?_) (fun h28 => ?_)
      · --yes
       replace h28 : c = (47 : UInt8) := eql_T h28
       refine G_sr ?_
       refine GL_st 1 1 [(2, By (63 : UInt8))] fun β => ?_
       refine G_ret ?_
       refine inb_ret (thn_ret (res1 (v := By (63 : UInt8)) rfl (by kernel_rfl) ?_))
       exact ⟨by simp [val, *], rfl⟩
      · --no
       replace h28 : ¬ (c = (47 : UInt8)) := eql_F h28
       refine G_sr ?_
       refine GL_srt 3 3 [(38, .bool (c == (61 : UInt8)))] (show ([.bool ((c.toNat : Int) == ((61 : UInt8).toNat : Int))] : List Value) = [.bool (c == (61 : UInt8))] by rw [Kw.u8_eql c (61 : UInt8)]) fun β => ?_
       refine G_cond (c == (61 : UInt8)) (by kernel_rfl) (fun h29 => ?_) (fun h29 => ?_)
       · --yes
        replace h29 : c = (61 : UInt8) := eql_T h29
        refine G_sr ?_
        refine GL_st 1 1 [(2, By (64 : UInt8))] fun β => ?_
        refine G_ret ?_
        refine inb_ret (thn_ret (res1 (v := By (64 : UInt8)) rfl (by kernel_rfl) ?_))
        exact ⟨by simp [val, *], rfl⟩
       · --no
        replace h29 : ¬ (c = (61 : UInt8)) := eql_F h29
        refine G_skip ?_
        refine inb_normal ?_
        refine thn_normal ?_
        refine G_sr ?_
        refine GL_st 1 1 [(2, By (65 : UInt8))] fun β => ?_
        refine G_ret ?_
        refine res1 (v := By (65 : UInt8)) rfl (by kernel_rfl) ?_
        exact ⟨by simp [val, *], rfl⟩
  · --no
   refine GL_re [(0, By c), (15, .bool false)] (show ([By c, .bool (decide (c ≥ (97 : UInt8)))] : List Value) = [By c, .bool false] by rw [h20]) (fun β => ?_)
   replace h20 : ¬ (c ≥ (97 : UInt8)) := of_decide_eq_false h20
   refine GL_st 4 7 [(0, By c), (12, .bool false)] fun β => ?_
   refine G_false (by kernel_rfl) ?_
   refine G_sr ?_
   refine GL_sr 3 3 [(0, By c), (25, .bool (decide (c ≥ (48 : UInt8))))] (show ([.int .u8 (c.toNat : Int), .bool (decide ((c.toNat : Int) ≥ ((48 : UInt8).toNat : Int)))] : List Value) = [By c, .bool (decide (c ≥ (48 : UInt8)))] by rw [Kw.u8_geq c (48 : UInt8)]) fun β => ?_
   rcases Bool.eq_false_or_eq_true (decide (c ≥ (48 : UInt8))) with h30 | h30
   · --yes
    refine GL_re [(0, By c), (25, .bool true)] (show ([By c, .bool (decide (c ≥ (48 : UInt8)))] : List Value) = [By c, .bool true] by rw [h30]) (fun β => ?_)
    replace h30 : c ≥ (48 : UInt8) := of_decide_eq_true h30
    refine GL_srt 4 7 [(0, By c), (22, .bool (decide (c ≤ (57 : UInt8))))] (show ([.int .u8 (c.toNat : Int), .bool (decide ((c.toNat : Int) ≤ ((57 : UInt8).toNat : Int)))] : List Value) = [By c, .bool (decide (c ≤ (57 : UInt8)))] by rw [Kw.u8_leq c (57 : UInt8)]) fun β => ?_
    refine G_cond (decide (c ≤ (57 : UInt8))) (by kernel_rfl) (fun h31 => ?_) (fun h31 => ?_)
    · --yes
     replace h31 : c ≤ (57 : UInt8) := of_decide_eq_true h31
     refine G_sr ?_
     refine GL_srt 4 4 [(2, By ((c - (48 : UInt8)) + (52 : UInt8)))] (show ([.int .u8 (IntKind.u8.wrap ((IntKind.u8.wrap ((c.toNat : Int) - ((48 : UInt8).toNat : Int))) + ((52 : UInt8).toNat : Int)))] : List Value) = [By ((c - (48 : UInt8)) + (52 : UInt8))] by rw [Kw.u8_sub c (48 : UInt8), Kw.u8_add (c - (48 : UInt8)) (52 : UInt8)]) fun β => ?_
     refine G_ret ?_
     refine inb_ret (thn_ret (res1 (v := By ((c - (48 : UInt8)) + (52 : UInt8))) rfl (by kernel_rfl) ?_))
     exact ⟨by simp [val, *], rfl⟩
    · --no
     replace h31 : ¬ (c ≤ (57 : UInt8)) := of_decide_eq_false h31
     refine G_sr ?_
     refine GL_srt 3 3 [(0, By c), (32, .bool (c == (43 : UInt8)))] (show ([.int .u8 (c.toNat : Int), .bool ((c.toNat : Int) == ((43 : UInt8).toNat : Int))] : List Value) = [By c, .bool (c == (43 : UInt8))] by rw [Kw.u8_eql c (43 : UInt8)]) fun β => ?_
     refine G_cond (c == (43 : UInt8)) (by kernel_rfl) (fun h32 => ?_) (fun h32 => ?_)
     · --yes
      replace h32 : c = (43 : UInt8) := eql_T h32
      refine G_sr ?_
      refine GL_st 1 1 [(2, By (62 : UInt8))] fun β => ?_
      refine G_ret ?_
      refine inb_ret (thn_ret (res1 (v := By (62 : UInt8)) rfl (by kernel_rfl) ?_))
      exact ⟨by simp [val, *], rfl⟩
     · --no
      replace h32 : ¬ (c = (43 : UInt8)) := eql_F h32
      refine G_sr ?_
      refine GL_srt 3 3 [(0, By c), (35, .bool (c == (47 : UInt8)))] (show ([.int .u8 (c.toNat : Int), .bool ((c.toNat : Int) == ((47 : UInt8).toNat : Int))] : List Value) = [By c, .bool (c == (47 : UInt8))] by rw [Kw.u8_eql c (47 : UInt8)]) fun β => ?_
      refine G_cond (c == (47 : UInt8)) (by kernel_rfl) (fun h33 => ?_) (fun h33 => ?_)
      · --yes
       replace h33 : c = (47 : UInt8) := eql_T h33
       refine G_sr ?_
       refine GL_st 1 1 [(2, By (63 : UInt8))] fun β => ?_
       refine G_ret ?_
       refine inb_ret (thn_ret (res1 (v := By (63 : UInt8)) rfl (by kernel_rfl) ?_))
       exact ⟨by simp [val, *], rfl⟩
      · --no
       replace h33 : ¬ (c = (47 : UInt8)) := eql_F h33
       refine G_sr ?_
       refine GL_srt 3 3 [(38, .bool (c == (61 : UInt8)))] (show ([.bool ((c.toNat : Int) == ((61 : UInt8).toNat : Int))] : List Value) = [.bool (c == (61 : UInt8))] by rw [Kw.u8_eql c (61 : UInt8)]) fun β => ?_
       refine G_cond (c == (61 : UInt8)) (by kernel_rfl) (fun h34 => ?_) (fun h34 => ?_)
       · --yes
        replace h34 : c = (61 : UInt8) := eql_T h34
        refine G_sr ?_
        refine GL_st 1 1 [(2, By (64 : UInt8))] fun β => ?_
        refine G_ret ?_
        refine inb_ret (thn_ret (res1 (v := By (64 : UInt8)) rfl (by kernel_rfl) ?_))
        exact ⟨by simp [val, *], rfl⟩
       · --no
        replace h34 : ¬ (c = (61 : UInt8)) := eql_F h34
        refine G_skip ?_
        refine inb_normal ?_
        refine thn_normal ?_
        refine G_sr ?_
        refine GL_st 1 1 [(2, By (65 : UInt8))] fun β => ?_
        refine G_ret ?_
        refine res1 (v := By (65 : UInt8)) rfl (by kernel_rfl) ?_
        exact ⟨by simp [val, *], rfl⟩
   · --no
    refine GL_re [(0, By c), (25, .bool false)] (show ([By c, .bool (decide (c ≥ (48 : UInt8)))] : List Value) = [By c, .bool false] by rw [h30]) (fun β => ?_)
    replace h30 : ¬ (c ≥ (48 : UInt8)) := of_decide_eq_false h30
    refine GL_st 4 7 [(0, By c), (22, .bool false)] fun β => ?_
    refine G_false (by kernel_rfl) ?_
    refine G_sr ?_
    refine GL_srt 3 3 [(0, By c), (32, .bool (c == (43 : UInt8)))] (show ([.int .u8 (c.toNat : Int), .bool ((c.toNat : Int) == ((43 : UInt8).toNat : Int))] : List Value) = [By c, .bool (c == (43 : UInt8))] by rw [Kw.u8_eql c (43 : UInt8)]) fun β => ?_
    refine G_cond (c == (43 : UInt8)) (by kernel_rfl) (fun h35 => ?_) (fun h35 => ?_)
    · --yes
     replace h35 : c = (43 : UInt8) := eql_T h35
     refine G_sr ?_
     refine GL_st 1 1 [(2, By (62 : UInt8))] fun β => ?_
     refine G_ret ?_
     refine inb_ret (thn_ret (res1 (v := By (62 : UInt8)) rfl (by kernel_rfl) ?_))
     exact ⟨by simp [val, *], rfl⟩
    · --no
     replace h35 : ¬ (c = (43 : UInt8)) := eql_F h35
     refine G_sr ?_
     refine GL_srt 3 3 [(0, By c), (35, .bool (c == (47 : UInt8)))] (show ([.int .u8 (c.toNat : Int), .bool ((c.toNat : Int) == ((47 : UInt8).toNat : Int))] : List Value) = [By c, .bool (c == (47 : UInt8))] by rw [Kw.u8_eql c (47 : UInt8)]) fun β => ?_
     refine G_cond (c == (47 : UInt8)) (by kernel_rfl) (fun h36 => ?_) (fun h36 => ?_)
     · --yes
      replace h36 : c = (47 : UInt8) := eql_T h36
      refine G_sr ?_
      refine GL_st 1 1 [(2, By (63 : UInt8))] fun β => ?_
      refine G_ret ?_
      refine inb_ret (thn_ret (res1 (v := By (63 : UInt8)) rfl (by kernel_rfl) ?_))
      exact ⟨by simp [val, *], rfl⟩
     · --no
      replace h36 : ¬ (c = (47 : UInt8)) := eql_F h36
      refine G_sr ?_
      refine GL_srt 3 3 [(38, .bool (c == (61 : UInt8)))] (show ([.bool ((c.toNat : Int) == ((61 : UInt8).toNat : Int))] : List Value) = [.bool (c == (61 : UInt8))] by rw [Kw.u8_eql c (61 : UInt8)]) fun β => ?_
      refine G_cond (c == (61 : UInt8)) (by kernel_rfl) (fun h37 => ?_) (fun h37 => ?_)
      · --yes
       replace h37 : c = (61 : UInt8) := eql_T h37
       refine G_sr ?_
       refine GL_st 1 1 [(2, By (64 : UInt8))] fun β => ?_
       refine G_ret ?_
       refine inb_ret (thn_ret (res1 (v := By (64 : UInt8)) rfl (by kernel_rfl) ?_))
       exact ⟨by simp [val, *], rfl⟩
      · --no
       replace h37 : ¬ (c = (61 : UInt8)) := eql_F h37
       refine G_skip ?_
       refine inb_normal ?_
       refine thn_normal ?_
       refine G_sr ?_
       refine GL_st 1 1 [(2, By (65 : UInt8))] fun β => ?_
       refine G_ret ?_
       refine res1 (v := By (65 : UInt8)) rfl (by kernel_rfl) ?_
       exact ⟨by simp [val, *], rfl⟩
/-- posthorn/octet.Upper -/
theorem c_Upper (l : List UInt8) (hl : l.length ≤ 1099511627776) {w0 w : World} {F : List Chunk} (H : Sep w0 w F) : Ret Tryd.prog 31 #[.string ⟨l.toArray⟩] w (fun v w' => v = .string ⟨(l.map up).toArray⟩ ∧ Sep w0 w' F) := by
 refine Ret_enter (args := [S l]) Tryd.func31 rfl (by kernel_rfl) ?_
 refine G_forget [(0, S l)] (by kernel_rfl) (fun β => ?_)
 refine G_sr ?_
 refine GL_st 1 1 [(0, S l)] fun β => ?_
 refine G_sr ?_
 refine GL_s 2 2 [(0, S l), (6, In l.length)] fun β => ?_
 obtain ⟨A1, c2, w3, hr4, H, hcap5⟩ := R_make (P := Tryd.prog) (t := 68) (e := 5) (z := .int .u8 0) (sz := 1) (by_ := 1) (k1 := .i64) (k2 := .i64) l.length l.length H (by kernel_rfl) rfl (by decide) (by omega) (by omega) (by unfold maxLen; omega)
 rw [bs_zeros] at H
 replace H : Sep w0 w3 (.row (.slice A1 l.length c2) 5 1 l.length (bs (List.replicate l.length 0)) :: F) := H
 refine GL_V hr4 ?_
 refine GL_st 1 4 [(0, S l), (3, .slice A1 l.length c2)] fun β => ?_
 refine G_seq ?_
 refine G_sr ?_
 refine GL_st 3 3 [(0, S l), (3, .slice A1 l.length c2), (9, In l.length), (10, In 0)] fun β => ?_
 refine G_block ?_
 refine G_loop (X := Nat × (List UInt8)) (fun ⟨k, o⟩ => [(0, S l), (3, .slice A1 l.length c2), (9, In l.length), (10, In k)]) (fun ⟨k, o⟩ w_ => Sep w0 w_ (.row (.slice A1 l.length c2) 5 1 l.length (bs o) :: F) ∧ (k ≤ l.length ∧ o = (l.take k).map up ++ List.replicate (l.length - k) 0)) (fun ⟨k, o⟩ => l.length - k) (0, List.replicate l.length 0) (by kernel_rfl) ⟨H, ⟨by omega, by simp⟩⟩ ?_
 rintro ⟨k, o⟩ β w6 ⟨H, hI⟩
 refine G_forget [(0, S l), (3, .slice A1 l.length c2), (9, In l.length), (10, In k)] (by kernel_rfl) (fun β => ?_)
 replace H : Sep w0 w6 (.row (.slice A1 l.length c2) 5 1 l.length (bs o) :: F) := H
 replace hI : k ≤ l.length ∧ o = (l.take k).map up ++ List.replicate (l.length - k) 0 := hI
 obtain ⟨hI1, hI2⟩ := hI
 have hol : o.length = l.length := by rw [hI2]; simp; omega
 refine G_sr ?_
 refine GL_srt 1 1 [(0, S l), (3, .slice A1 l.length c2), (9, In l.length), (10, In k), (11, .bool (decide (k < l.length)))] (show ([S l, .slice A1 l.length c2, .int .i64 (l.length : Int), .int .i64 (k : Int), .bool (decide ((k : Int) < (l.length : Int)))] : List Value) = [S l, .slice A1 l.length c2, In l.length, In k, .bool (decide (k < l.length))] by rw [nlss k l.length]) fun β => ?_
 refine G_seq ?_
 refine G_cond (decide (k < l.length)) (by kernel_rfl) (fun h0 => ?_) (fun h0 => ?_)
 · --yes
  replace h0 : k < l.length := of_decide_eq_true h0
  refine G_skip ?_
  refine thn_normal ?_
  refine G_seq ?_
  refine G_block ?_
  refine G_sr ?_
  refine GL_st 2 2 [(0, S l), (3, .slice A1 l.length c2), (4, In k), (9, In l.length), (10, In k)] fun β => ?_
  refine G_region ?_
  refine GL_s 4 4 [(0, S l), (3, .slice A1 l.length c2), (9, In l.length), (10, In k), (13, .slice A1 l.length c2), (14, In k), (15, S l), (16, In k)] fun β => ?_
  refine GL_V (R_index (P := Tryd.prog) (w := _) (t := 9) (ki := .i64) (i := k) (l := l) (by kernel_rfl) (by omega)) ?_
  refine GL_C (c_upper (l.getD k 0) _) ?_
  rintro _ _ ⟨rfl, rfl⟩
  obtain ⟨g8, o9, hA10, hr7⟩ := R_rowplace1 (P := Tryd.prog) (t := 68) (j := k) (ki := .i64) H (i := 0) rfl (by omega) (by kernel_rfl) (by kernel_rfl)
  refine GL_V (hr7 _) ?_
  obtain ⟨w11, hr12, H⟩ := R_rowstore8 (P := Tryd.prog) (t := 5) (b := (up (l.getD k 0))) (j := k) (off := o9) H (i := 0) rfl hA10 (by kernel_rfl) (by omega)
  replace H : Sep w0 w11 (.row (.slice A1 l.length c2) 5 1 l.length (bs (o.set k (up (l.getD k 0)))) :: F) := H
  refine GL_U hr12 ?_
  refine GL_end (by kernel_rfl) ?_
  refine inb_normal ?_
  refine thn_normal ?_
  refine G_region ?_
  refine GL_sr 2 2 [(0, S l), (3, .slice A1 l.length c2), (9, In l.length), (10, In (k + 1))] (show ([S l, .slice A1 l.length c2, .int .i64 (l.length : Int), .int .i64 (IntKind.i64.wrap ((k : Int) + ((1 : Nat) : Int)))] : List Value) = [S l, .slice A1 l.length c2, In l.length, In (k + 1)] by rw [nadd64 k 1 (by omega)]) fun β => ?_
  refine GL_end (by kernel_rfl) ?_
  refine thn_normal ⟨(k + 1, o.set k (up (l.getD k 0))), Agr_of_keys (by kernel_rfl), ⟨H, ?_⟩, ?_⟩
  · exact ⟨by omega, upper_step l k (by omega) o hI2⟩
  · first | (dsimp only; omega) | omega
 · --no
  replace h0 : ¬ (k < l.length) := of_decide_eq_false h0
  refine G_exit (thn_exit (thn_exit (inb_hit ?_)))
  refine thn_normal ?_
  refine G_sr ?_
  refine GL_s 1 1 [(21, .slice A1 l.length c2)] fun β => ?_
  refine GL_V (R_conv_bs (s := 68) (t := 9) (e := 5) (l := o) (by kernel_rfl) (by kernel_rfl) (by kernel_rfl) (Src.row H (i := 0) rfl)) ?_
  refine GL_st 1 3 [(2, S o)] fun β => ?_
  refine G_ret ?_
  refine res1 (v := S o) rfl (by kernel_rfl) ?_
  have hk : k = l.length := by omega
  subst hk
  rw [List.take_length, Nat.sub_self] at hI2
  exact ⟨by rw [hI2]; simp, H.drop 0⟩
end Go.Proofs.YtadiljnfkbbmcaaDoor
