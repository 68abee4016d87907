/-
  Posthorn's SaslBoth (who has the secret signs in by every mechanism) returns true and leaves its arguments as they were, for every input whose bulk is at most 1048576, whatever numbers the tables hash.table and hash.turns hold.
-/
import Derived.Test.YtadiljnfkbbmcaaRows
import Derived.Test.YtadiljnfkbbmcaaD9
import Derived.Test.YtadiljnfkbbmcaaKw13
import Derived.Test.YtadiljnfkbbmcaaKw14
import Derived.WalkKit
import Derived.ProofKit
import Derived.OpenShut
import Derived.ShutString
import Derived.Carry
import Derived.ChangeOld
import Derived.Below
import Derived.Deep.DeepHandedRow
import Derived.Lib.LaidTab
set_option linter.unusedVariables false
set_option linter.unusedSimpArgs false
set_option maxRecDepth 100000
namespace Go.Proofs.Ytadiljnfkbbmcaa.saslBoth
open Go.ChangeShapes Go.WideShapes Go.ChangeAt Go.RowKit Go.Kw
theorem own : ownKnob Try.prog.godebug = none := by kernel_rfl
theorem laidOut : laidOutB Try.prog = true := by kernel_rfl
theorem g0 : Try.prog.globalNamed "posthorn/hash.table" = some 1 := by kernel_rfl
theorem g1 : Try.prog.globalNamed "posthorn/hash.turns" = some 2 := by kernel_rfl
/-- WHAT THE WORLD's SHAPE TELLS: the tables hold some numbers. -/
theorem tabs {W : World} (h : W.ShapedOpen Try.prog) : ∃ (Tz : List UInt32) (Rz : List UInt8), Tz.length = 64 ∧ Rz.length = 16 ∧ Gl W 1 (u32s Tz) ∧ Gl W 2 (bs Rz) := by
  obtain ⟨zs, h1, h2, h3⟩ := shaped_row (P := Try.prog) h (g := 1) (t := 165) (e := 140) (n := 64) (k := .u32) (zero := (List.replicate 64 (Value.int .u32 0)).toArray) (by kernel_rfl) (by kernel_rfl) (by kernel_rfl) (by kernel_rfl) (by kernel_rfl) rfl (by decide)
  obtain ⟨ys, h4, h5, h6⟩ := shaped_row (P := Try.prog) h (g := 2) (t := 106) (e := 5) (n := 16) (k := .u8) (zero := (List.replicate 16 (Value.int .u8 0)).toArray) (by kernel_rfl) (by kernel_rfl) (by kernel_rfl) (by kernel_rfl) (by kernel_rfl) rfl (by decide)
  exact ⟨zs.map fun z => UInt32.ofNat z.toNat, ys.map fun z => UInt8.ofNat z.toNat, by rw [List.length_map, h1], by rw [List.length_map, h4], fun j u hu => h3 j u (by rw [row_u32 h2]; exact hu), fun j u hu => h6 j u (by rw [row_u8 h5]; exact hu)⟩
theorem contract (H : Type) (enc : TypeId × Value → H) (W : World) (base : Nat) (args : Array Value) (ds gs : List (DataW H)) (before : List MemPlace)
    (hval : ∀ (j : Nat) t v, Try.f4.params[j]? = some t → args[j]? = some v → Value.okWide Try.prog W .any base t v) (hk : Rows.uptoSmall H (ds ++ gs) = true)
    (hW : DataW.Whole enc Try.prog Try.f4.params.toList Rows.saslBothSpec.vars false W args.toList ds gs before) (hS : W.ShapedOpen Try.prog) :
    Calls Try.prog 4 args W fun e W' => ∃ v, e = .returned v ∧ Rows.saslBothSpec.post enc Try.prog Try.f4 false true false false W args v W' := by
  have hW' := hW
  obtain ⟨p, q, hA0, hV, rfl, hfz, hnd⟩ := hW
  have hA : DataW.TrodAll enc Try.prog W 0 (fun _ => true) true Try.f4.params.toList args.toList ds p := hA0
  rw [Try.params4] at hA hval
  obtain ⟨v0, vs0, d0, ds0, p0, q0, hargs, rfl, rfl, h0, r0⟩ := trodAll_cons hA
  obtain ⟨v1, vs1, d1, ds1, p1, q1, rfl, rfl, rfl, h1, r1⟩ := trodAll_cons r0
  obtain ⟨v2, vs2, d2, ds2, p2, q2, rfl, rfl, rfl, h2, r2⟩ := trodAll_cons r1
  obtain ⟨rfl, rfl, rfl⟩ := trodAll_nil r2
  obtain rfl : args = #[v0, v1, v2] := by cases args; simp_all
  obtain ⟨rfl, rfl⟩ := trodVars_none hV
  clear hA0
  have lt0 : ∀ x ∈ p0, x.block < W.heap.size := by obtain ⟨m, hm⟩ := h0; exact DataW.trod_lt m _ _ _ hm
  have lt1 : ∀ x ∈ p1, x.block < W.heap.size := by obtain ⟨m, hm⟩ := h1; exact DataW.trod_lt m _ _ _ hm
  have lt2 : ∀ x ∈ p2, x.block < W.heap.size := by obtain ⟨m, hm⟩ := h2; exact DataW.trod_lt m _ _ _ hm
  have k0 := h0
  have k1 := h1
  have k2 := h2
  obtain ⟨Tz, Rz, hTz, hRz, gT, gR⟩ := tabs hS
  have hb := bulks.bound hk
  have hv0 := hval 0 22 v0 rfl rfl
  have hv1 := hval 1 39 v1 rfl rfl
  have hv2 := hval 2 9 v2 rfl rfl
  obtain ⟨A0, n0, c0, rfl⟩ := okWide_slice Try.underlying22 hv0
  obtain ⟨m0, hm0⟩ := h0
  obtain ⟨l, A0', c0', hl, hlm, RU, hd0⟩ := tr_list (fun u : Str2 => [S u.1, S u.2]) (fun u => DataW.agg [.lit (.string u.1), .lit (.string u.2)]) Try.underlying22 (sz := 2) (by kernel_rfl) (fun _ _ _ h => (tr_pair (s := 9) Try.underlying39 (by kernel_rfl) Try.underlying9 (by kernel_rfl) (by kernel_rfl)) h) hm0
  cases hl
  obtain ⟨cs1, rfl⟩ := agg_of (by kernel_rfl) hv1
  obtain ⟨m1, hm1⟩ := h1
  obtain ⟨z, hz, dz⟩ := (tr_pair (s := 9) Try.underlying39 (by kernel_rfl) Try.underlying9 (by kernel_rfl) (by kernel_rfl)) hm1
  obtain rfl : cs1 = #[S z.1, S z.2] := Array.ext' hz
  simp only at dz hd0
  subst dz
  obtain ⟨s2, rfl, rfl, rfl, y2⟩ := Go.ChangeMaps.open_string Try.underlying9 hv2 h2
  simp only [List.append_nil, List.nil_append, List.cons_append, Rows.uptoBulkAll, Rows.uptoBulk] at hb
  have hU : (l.length ≤ 1048576) ∧ ∀ u ∈ l, u.1.length ≤ 549755813888 ∧ u.2.length ≤ 549755813888 := by
    rcases hd0 with ⟨_, rfl⟩ | ⟨rest, rfl⟩
    · exact ⟨Nat.zero_le _, fun u hu => (by cases hu)⟩
    · simp only [Rows.uptoBulk] at hb
      rw [bulks.pairs] at hb
      refine ⟨?_, fun u hu => ?_⟩
      · have := bulks.sum_len (fun u : Str2 => u.1.length + u.2.length + 3) (fun _ => by omega) l; omega
      · have := bulks.mem_le (fun u : Str2 => u.1.length + u.2.length + 3) hu; omega
  have hcall : Ret Try.prog 4 #[.slice A0 l.length c0, .agg #[S z.1, S z.2], S s2.data.toList] W (fun v w' => v = .bool true ∧ Sep W w' []) :=
    c_Both Tz hTz gT Rz hRz gR l (by omega) hU.2 _ _ _ (by omega) (by omega) (by omega) (RU []) (Sep.nil W)
  rw [← str_eta s2] at hcall
  refine Calls.mono hcall fun e W' ⟨v, he, hv, HS⟩ => ?_
  subst hv; subst he
  have bel := HS.below
  exact ⟨_, rfl, _, _, _, [], _, [], hW', trodAll_mk1 (shut_bool Try.underlying4 _), (trodAll_cons_mk (Below.trod laidOut (by kernel_rfl) (of_decide_eq_true (by kernel_rfl)) k0 bel lt0) (trodAll_cons_mk (Below.trod laidOut (by kernel_rfl) (of_decide_eq_true (by kernel_rfl)) k1 bel lt1) (trodAll_cons_mk (Below.trod laidOut (by kernel_rfl) (of_decide_eq_true (by kernel_rfl)) k2 bel lt2) trodAll_mk0))), rfl, bel.frame _, fun h => by cases h⟩
noncomputable def laidWorld (os : Os) : World := World.holding Try.prog os ⟨#[], #[], []⟩
theorem laid_met (os : Os) : laidMet Try.prog Rows.saslBothUptoRow.laid ((laidWorld os).forCall (fun _ _ => 0) ⟨#[], #[.slice none 0 0, .agg #[.string ByteArray.empty, .string ByteArray.empty], .string ByteArray.empty], []⟩).memory :=
  laidMet_of_run' 8 (by kernel_rfl) (by kernel_rfl)
theorem reads (os : Os) {H : Type} (enc : TypeId × Value → H) : ∃ places, DataW.whole enc Try.prog ((laidWorld os).forCall (fun _ _ => 0) ⟨#[], #[.slice none 0 0, .agg #[.string ByteArray.empty, .string ByteArray.empty], .string ByteArray.empty], []⟩).memory Try.f4.params.toList Rows.saslBothSpec.vars false #[.slice none 0 0, .agg #[.string ByteArray.empty, .string ByteArray.empty], .string ByteArray.empty].toList 8 = some ([.nil, .agg [.lit (.string []), .lit (.string [])], .lit (.string [])], [], places) :=
  ⟨[], by kernel_rfl⟩
set_option maxRecDepth 100000 in
theorem liftedUpto (os : Os) (started : os.Started) (H : Type) (enc : TypeId × Value → H) (F : Stop.Interp) :
    ReturnsInHanded {} Try.checked os 4 .any ((Rows.OpenSpec.upto Rows.saslBothSpec).preRow enc Try.prog Try.f4 Rows.saslBothUptoRow.domain false Rows.saslBothUptoRow.laid) (((Rows.OpenSpec.upto Rows.saslBothSpec).at F).post enc Try.prog Try.f4 false true false false) := by
  obtain ⟨places, hx⟩ := reads os enc
  refine returnsInHanded_of_row (C := Try.checked) (s := Rows.OpenSpec.upto Rows.saslBothSpec) own started (by kernel_rfl) Try.func4
    (witness_row_at (enc := enc) (C := Try.checked) false (laidWorld os) #[.slice none 0 0, .agg #[.string ByteArray.empty, .string ByteArray.empty], .string ByteArray.empty] rfl (by kernel_rfl) (by kernel_rfl) (by kernel_rfl)
      (OpenSpec.preRow_of_cond 8 hx (by kernel_rfl) (fun k hk => by cases hk; kernel_rfl) (by kernel_rfl) (laid_met os))) ?_
  intro W base args ds gs before hval hW _ hcond _ _ hS _
  exact contract H enc W base args ds gs before hval (hcond _ rfl) hW hS
theorem saidUpto : Rows.SaslBothUptoSaid :=
  OpenClaim.holds_of_cond 4 Try.f4 rfl rfl rfl rfl rfl rfl rfl ⟨rfl, rfl, rfl, rfl, rfl⟩ rfl rfl rfl rfl rfl (by kernel_rfl) Try.func4 (by kernel_rfl)
    (of_decide_eq_true (by kernel_rfl)) (by unfold Func.isWrapper; first | (rw [if_pos (by decide +kernel)]; kernel_rfl) | (rw [if_neg (by decide +kernel)]; exact ⟨rfl, rfl⟩))
    (fun os started H enc _ F => by rw [OpenClaim.pre_eq_preRow]; exact liftedUpto os started H enc F)
end Go.Proofs.Ytadiljnfkbbmcaa.saslBoth
namespace Go.Proofs.Ytadiljnfkbbmcaa
theorem saslBoth_holds : Rows.SaslBothUptoSaid := saslBoth.saidUpto
#print axioms saslBoth_holds
end Go.Proofs.Ytadiljnfkbbmcaa
