-- printed by gw.py (my own program), checked by Lean
import Derived.Test.YtadiljnfkbbmcaaD4
set_option linter.unusedVariables false
set_option linter.unusedSimpArgs false
set_option maxRecDepth 100000
set_option maxHeartbeats 400000
namespace Go.Proofs.Ytadiljnfkbbmcaa
open Go.Kw Go.RowKit

theorem enc_star (l : List UInt8) : ¬ enc l = [42] := by
  intro h
  have := congrArg List.length h
  rw [enc_len] at this
  simp only [List.length_cons, List.length_nil] at this
  omega
theorem lastK_of {s : List UInt8} {c : UInt8} {m : Nat} (hm : s.getD m 0 = c) : ∀ (k : Nat), m < k → (∀ j, m < j → j < k → s.getD j 0 ≠ c) → lastK s c k = (m : Int)
  | 0, h, _ => by omega
  | k + 1, h, hj => by
    unfold lastK
    by_cases hk : m = k
    · subst hk; rw [if_pos hm]
    · rw [if_neg (hj k (by omega) (by omega))]
      exact lastK_of hm k (by omega) (fun j h1 h2 => hj j h1 (by omega))
theorem lastK_app {a d : List UInt8} {c : UInt8} (h : c ∉ d) : lastK ((a ++ [c]) ++ d) c ((a ++ [c]) ++ d).length = (a.length : Int) := by
  refine lastK_of ?_ _ (by simp) (fun j h1 h2 => ?_)
  · simp [List.getD_eq_getElem?_getD]
  · simp only [List.length_append, List.length_cons, List.length_nil] at h2
    rw [List.getD_eq_getElem?_getD, List.getElem?_append_right (by simp; omega), List.getElem?_eq_getElem (by simp; omega), Option.getD_some]
    intro e
    exact h (e ▸ List.getElem_mem _)
theorem dgF_nosp (T : List UInt32) (R : List UInt8) (k b : List UInt8) : (32 : UInt8) ∉ dgF T R k b := tellF_nosp _
theorem crF_app (T : List UInt32) (R : List UInt8) (l : List Str2) (o nm d : List UInt8) (hd : (32 : UInt8) ∉ d) : crF T R l o ((nm ++ [32]) ++ d) = (nm, crP T R l o nm d, 0) := by
  unfold crF
  rw [lastK_app hd, if_neg (by omega), Int.toNat_natCast]
  have h1 : ((nm ++ [32]) ++ d).take nm.length = nm := by simp
  have h2 : ((nm ++ [32]) ++ d).drop (nm.length + 1) = d := by rw [List.drop_append_of_le_length (by simp)]; simp
  rw [h1, h2]
theorem ans_cram (T : List UInt32) (R : List UInt8) (l : List Str2) (o nm d : List UInt8) (hd : (32 : UInt8) ∉ d) :
    ansF T R l 1 (.cram o) [] (enc ((nm ++ [32]) ++ d)) = (0, if crP T R l o nm d = true then 2 else 3, .cram o, if crP T R l o nm d = true then nm else []) := by
  have hr : readF T R l 1 (.cram o) [] (enc ((nm ++ [32]) ++ d)) = (0, if crP T R l o nm d = true then 2 else 3, .cram o, if crP T R l o nm d = true then nm else []) := by
    unfold readF
    rw [dec_enc]
    simp only [takeF, crF_app T R l o nm d hd, ne_eq, not_true_eq_false, if_false]
    split <;> rfl
  rw [ansF, if_neg (by decide), if_neg (by decide), if_neg (enc_star _), hr]
  rfl
theorem crP_one (T : List UInt32) (R : List UInt8) (nm sec o d : List UInt8) : crP T R [(nm, sec)] o nm d = (dgF T R sec o == d) := by
  unfold crP; simp
theorem c_AnswerE {w0 w : World} {F : List Chunk} (T : List UInt32) (hT : T.length = 64) (gT : Gl w0 1 (u32s T)) (R : List UInt8) (hR : R.length = 16) (gR : Gl w0 2 (bs R)) (n : Nat) (s : Stp) (hs : s.fits) (nm y : List UInt8) (hy : y.length ≤ 68719476736) (l : List Str2) (hl : l.length ≤ 1099511627776) (hU : ∀ u ∈ l, u.1.length ≤ 549755813888 ∧ u.2.length ≤ 549755813888) {g c : Nat} {A : Option Addr} (H : Sep w0 w (.blk g 60 [.slice A l.length c, In n, s.v, S nm] :: .row (.slice A l.length c) 39 2 l.length (us l) :: F)) {e2 n2 : Nat} {s2 : Stp} {nm2 : List UInt8} (he : (ansF T R l n s nm y) = (e2, n2, s2, nm2)) : Ret Try.prog 15 #[.pointer (some ⟨g, 0, none⟩), S y] w (fun v w' => v = .int .i64 (e2 : Int) ∧ Sep w0 w' (.blk g 60 [.slice A l.length c, In n2, s2.v, S nm2] :: .row (.slice A l.length c) 39 2 l.length (us l) :: F)) := by
  have := c_Answer T hT gT R hR gR n s hs nm y hy l hl hU H
  rw [he] at this; exact this
theorem c_cAnswer_cramE {w0 w : World} {F : List Chunk} (T : List UInt32) (hT : T.length = 64) (gT : Gl w0 1 (u32s T)) (R : List UInt8) (hR : R.length = 16) (gR : Gl w0 2 (bs R)) (nm sec : List UInt8) (hn : nm.length ≤ 4294967296) (hs : sec.length ≤ 4294967296) (once : Bool) (z x : List UInt8) (hx : (enc x).length ≤ 4294967296) {g : Nat} (H : Sep w0 w (.blk g 78 [S nm, S sec, .iface 62 (.agg #[S z]), .bool once] :: F)) : Ret Try.prog 112 #[.pointer (some ⟨g, 0, none⟩), S (enc x)] w (fun v w' => ∃ q, q = enc ((nm ++ [32]) ++ dgF T R sec x) ∧ q.length ≤ 8589934592 ∧ v = .tuple #[S q, .int .i64 ((0 : Nat) : Int)] ∧ Sep w0 w' (.blk g 78 [S nm, S sec, .nilIface, .bool once] :: F)) := by
  refine (c_cAnswer_cram T hT gT R hR gR nm sec (enc x) hn hs hx once z H).mono fun v w' ⟨o, e, p, hd, h⟩ => ?_
  rw [dec_enc] at hd
  cases hd
  rcases h with ⟨h0, _⟩ | ⟨_, hv, H⟩
  · exact absurd rfl h0
  · exact ⟨_, rfl, by rw [enc_len]; simp only [List.length_append, List.length_cons, List.length_nil, dgF_len]; omega, hv, H⟩
end Go.Proofs.Ytadiljnfkbbmcaa
