/-
  Posthorn's SaslOthers (who has another secret does not sign in) returns true and leaves its arguments as they were, for every input whose bulk is at most 1048576; the tables hash.table and hash.turns read as the program's text lays them (the card ties that).
-/
import Derived.Test.YtadiljnfkbbmcaaDoorCards
import Derived.Test.YtadiljnfkbbmcaaDoorTie
import Derived.Test.YtadiljnfkbbmcaaDoorD8
import Derived.Test.YtadiljnfkbbmcaaDoorKw13
import Derived.Test.YtadiljnfkbbmcaaDoorKw14
import Derived.WalkKit
import Derived.ProofKit
import Derived.OpenShut
import Derived.ShutString
import Derived.Carry
import Derived.ChangeOld
import Derived.Below
import Derived.Deep.DeepHandedRow
import Derived.Lib.LaidTab
set_option linter.unusedVariables false
set_option linter.unusedSimpArgs false
set_option maxRecDepth 100000
namespace Go.Proofs.YtadiljnfkbbmcaaDoor.saslOthers
open Go.ChangeShapes Go.WideShapes Go.ChangeAt Go.RowKit Go.Kw
theorem own : ownKnob Tryd.prog.godebug = none := by kernel_rfl
theorem laidOut : laidOutB Tryd.prog = true := by kernel_rfl
theorem g0 : Tryd.prog.globalNamed "posthorn/hash.table" = some 0 := by kernel_rfl
theorem g1 : Tryd.prog.globalNamed "posthorn/hash.turns" = some 1 := by kernel_rfl
def Tz : List UInt32 := [3614090360, 3905402710, 606105819, 3250441966, 4118548399, 1200080426, 2821735955, 4249261313, 1770035416, 2336552879, 4294925233, 2304563134, 1804603682, 4254626195, 2792965006, 1236535329, 4129170786, 3225465664, 643717713, 3921069994, 3593408605, 38016083, 3634488961, 3889429448, 568446438, 3275163606, 4107603335, 1163531501, 2850285829, 4243563512, 1735328473, 2368359562, 4294588738, 2272392833, 1839030562, 4259657740, 2763975236, 1272893353, 4139469664, 3200236656, 681279174, 3936430074, 3572445317, 76029189, 3654602809, 3873151461, 530742520, 3299628645, 4096336452, 1126891415, 2878612391, 4237533241, 1700485571, 2399980690, 4293915773, 2240044497, 1873313359, 4264355552, 2734768916, 1309151649, 4149444226, 3174756917, 718787259, 3951481745]
def Rz : List UInt8 := [7, 12, 17, 22, 5, 9, 14, 20, 4, 11, 16, 23, 6, 10, 15, 21]
/-- WHAT THE ROW's LIST GIVES: the tables' cells. -/
theorem tabs {W : World} (h : laidMetH Tryd.prog Rows.saslOthersUptoRow.laid W) : Gl W 0 (u32s Tz) ∧ Gl W 1 (bs Rz) := by
  have h' : laidMet Tryd.prog [("posthorn/hash.table", Lib.tabData .u32 (Tz.map fun z => (z.toNat : Int))), ("posthorn/hash.turns", Lib.tabData .u8 (Rz.map fun z => (z.toNat : Int)))] W := h
  have a0 := Lib.tabIs_of_head (rest := [("posthorn/hash.turns", Lib.tabData .u8 (Rz.map fun z => (z.toNat : Int)))]) (t := 130) (e := 111) (n := 64) (k := .u32) g0 (by kernel_rfl) (by kernel_rfl) (by kernel_rfl) (by kernel_rfl) (by kernel_rfl) h'
  have a1 := Lib.tabIs_of_head (rest := []) (t := 82) (e := 5) (n := 16) (k := .u8) g1 (by kernel_rfl) (by kernel_rfl) (by kernel_rfl) (by kernel_rfl) (by kernel_rfl) (bulks.laid_tail h')
  refine ⟨fun j u hu => ?_, fun j u hu => ?_⟩
  · have hj : j < 64 := by have := (List.getElem?_eq_some_iff.1 hu).1; rw [u32s_length] at this; exact this
    have := a0.cell g0 j (by rw [List.length_map]; exact hj)
    rw [this, ← hu]
    simp only [u32s, List.getElem?_map, List.getD_eq_getElem?_getD]
    rw [List.getElem?_eq_getElem (show j < Tz.length from hj)]
    rfl
  · have hj : j < 16 := by have := (List.getElem?_eq_some_iff.1 hu).1; rw [bs_length] at this; exact this
    have := a1.cell g1 j (by rw [List.length_map]; exact hj)
    rw [this, ← hu]
    simp only [bs, List.getElem?_map, List.getD_eq_getElem?_getD]
    rw [List.getElem?_eq_getElem (show j < Rz.length from hj)]
    rfl
theorem contract (H : Type) (enc : TypeId × Value → H) (W : World) (base : Nat) (args : Array Value) (ds gs : List (DataW H)) (before : List MemPlace)
    (hval : ∀ (j : Nat) t v, Tryd.f5.params[j]? = some t → args[j]? = some v → Value.okWide Tryd.prog W .any base t v) (hk : Rows.uptoSmall H (ds ++ gs) = true)
    (hW : DataW.Whole enc Tryd.prog Tryd.f5.params.toList Rows.saslOthersSpec.vars false W args.toList ds gs before) (hL : laidMetH Tryd.prog Rows.saslOthersUptoRow.laid W) :
    Calls Tryd.prog 5 args W fun e W' => ∃ v, e = .returned v ∧ Rows.saslOthersSpec.post enc Tryd.prog Tryd.f5 false true false false W args v W' := by
  have hW' := hW
  obtain ⟨p, q, hA0, hV, rfl, hfz, hnd⟩ := hW
  have hA : DataW.TrodAll enc Tryd.prog W 0 (fun _ => true) true Tryd.f5.params.toList args.toList ds p := hA0
  rw [Tryd.params5] at hA hval
  obtain ⟨v0, vs0, d0, ds0, p0, q0, hargs, rfl, rfl, h0, r0⟩ := trodAll_cons hA
  obtain ⟨v1, vs1, d1, ds1, p1, q1, rfl, rfl, rfl, h1, r1⟩ := trodAll_cons r0
  obtain ⟨v2, vs2, d2, ds2, p2, q2, rfl, rfl, rfl, h2, r2⟩ := trodAll_cons r1
  obtain ⟨rfl, rfl, rfl⟩ := trodAll_nil r2
  obtain rfl : args = #[v0, v1, v2] := by cases args; simp_all
  obtain ⟨rfl, rfl⟩ := trodVars_none hV
  clear hA0
  have lt0 : ∀ x ∈ p0, x.block < W.heap.size := by obtain ⟨m, hm⟩ := h0; exact DataW.trod_lt m _ _ _ hm
  have lt1 : ∀ x ∈ p1, x.block < W.heap.size := by obtain ⟨m, hm⟩ := h1; exact DataW.trod_lt m _ _ _ hm
  have lt2 : ∀ x ∈ p2, x.block < W.heap.size := by obtain ⟨m, hm⟩ := h2; exact DataW.trod_lt m _ _ _ hm
  have k0 := h0
  have k1 := h1
  have k2 := h2
  obtain ⟨gT, gR⟩ := tabs hL
  have hb := bulks.bound hk
  have hv0 := hval 0 22 v0 rfl rfl
  have hv1 := hval 1 40 v1 rfl rfl
  have hv2 := hval 2 9 v2 rfl rfl
  obtain ⟨A0, n0, c0, rfl⟩ := okWide_slice Tryd.underlying22 hv0
  obtain ⟨m0, hm0⟩ := h0
  obtain ⟨l, A0', c0', hl, hlm, RU, hd0⟩ := tr_list (fun u : Str2 => [S u.1, S u.2]) (fun u => DataW.agg [.lit (.string u.1), .lit (.string u.2)]) Tryd.underlying22 (sz := 2) (by kernel_rfl) (fun _ _ _ h => (tr_pair (s := 9) Tryd.underlying40 (by kernel_rfl) Tryd.underlying9 (by kernel_rfl) (by kernel_rfl)) h) hm0
  cases hl
  obtain ⟨cs1, rfl⟩ := agg_of (by kernel_rfl) hv1
  obtain ⟨m1, hm1⟩ := h1
  obtain ⟨z, hz, dz⟩ := (tr_pair (s := 9) Tryd.underlying40 (by kernel_rfl) Tryd.underlying9 (by kernel_rfl) (by kernel_rfl)) hm1
  obtain rfl : cs1 = #[S z.1, S z.2] := Array.ext' hz
  simp only at dz hd0
  subst dz
  obtain ⟨s2, rfl, rfl, rfl, y2⟩ := Go.ChangeMaps.open_string Tryd.underlying9 hv2 h2
  simp only [List.append_nil, List.nil_append, List.cons_append, Rows.uptoBulkAll, Rows.uptoBulk] at hb
  have hU : (l.length ≤ 1048576) ∧ ∀ u ∈ l, u.1.length ≤ 549755813888 ∧ u.2.length ≤ 549755813888 := by
    rcases hd0 with ⟨_, rfl⟩ | ⟨rest, rfl⟩
    · exact ⟨Nat.zero_le _, fun u hu => (by cases hu)⟩
    · simp only [Rows.uptoBulk] at hb
      rw [bulks.pairs] at hb
      refine ⟨?_, fun u hu => ?_⟩
      · have := bulks.sum_len (fun u : Str2 => u.1.length + u.2.length + 3) (fun _ => by omega) l; omega
      · have := bulks.mem_le (fun u : Str2 => u.1.length + u.2.length + 3) hu; omega
  have hcall : Ret Tryd.prog 5 #[.slice A0 l.length c0, .agg #[S z.1, S z.2], S s2.data.toList] W (fun v w' => v = .bool true ∧ Sep W w' []) :=
    c_Others Tz rfl gT Rz rfl gR l (by omega) hU.2 _ _ _ (by omega) (by omega) (by omega) (by cases may2 z.1 z.2 <;> simp) (RU []) (Sep.nil W)
  rw [← str_eta s2] at hcall
  refine Calls.mono hcall fun e W' ⟨v, he, hv, HS⟩ => ?_
  subst hv; subst he
  have bel := HS.below
  exact ⟨_, rfl, _, _, _, [], _, [], hW', trodAll_mk1 (shut_bool Tryd.underlying4 _), (trodAll_cons_mk (Below.trod laidOut (by kernel_rfl) (of_decide_eq_true (by kernel_rfl)) k0 bel lt0) (trodAll_cons_mk (Below.trod laidOut (by kernel_rfl) (of_decide_eq_true (by kernel_rfl)) k1 bel lt1) (trodAll_cons_mk (Below.trod laidOut (by kernel_rfl) (of_decide_eq_true (by kernel_rfl)) k2 bel lt2) trodAll_mk0))), rfl, bel.frame _, fun h => by cases h⟩
def setRow (c : Array Value) : Obj → Obj
  | .cells _ t frozen => .cells c t frozen
  | o => o
noncomputable def laidWorld (os : Os) : World :=
  { World.holding Tryd.prog os ⟨#[], #[], []⟩ with heap := ((World.holding Tryd.prog os ⟨#[], #[], []⟩).heap.modify 0 (setRow (u32s Tz).toArray)).modify 1 (setRow (bs Rz).toArray) }
theorem laid_met (os : Os) : laidMet Tryd.prog Rows.saslOthersUptoRow.laid ((laidWorld os).forCall (fun _ _ => 0) ⟨#[], #[.slice none 0 0, .agg #[.string ByteArray.empty, .string ByteArray.empty], .string ByteArray.empty], []⟩).memory :=
  laidMet_of_run' 8 (by kernel_rfl) (by kernel_rfl)
theorem reads (os : Os) {H : Type} (enc : TypeId × Value → H) : ∃ places, DataW.whole enc Tryd.prog ((laidWorld os).forCall (fun _ _ => 0) ⟨#[], #[.slice none 0 0, .agg #[.string ByteArray.empty, .string ByteArray.empty], .string ByteArray.empty], []⟩).memory Tryd.f5.params.toList Rows.saslOthersSpec.vars false #[.slice none 0 0, .agg #[.string ByteArray.empty, .string ByteArray.empty], .string ByteArray.empty].toList 8 = some ([.nil, .agg [.lit (.string []), .lit (.string [])], .lit (.string [])], [], places) :=
  ⟨[], by kernel_rfl⟩
set_option maxRecDepth 100000 in
theorem liftedUpto (os : Os) (started : os.Started) (H : Type) (enc : TypeId × Value → H) (F : Stop.Interp) :
    ReturnsInHanded {} Tryd.checked os 5 .any ((Rows.OpenSpec.upto Rows.saslOthersSpec).preRow enc Tryd.prog Tryd.f5 Rows.saslOthersUptoRow.domain false Rows.saslOthersUptoRow.laid) (((Rows.OpenSpec.upto Rows.saslOthersSpec).at F).post enc Tryd.prog Tryd.f5 false true false false) := by
  obtain ⟨places, hx⟩ := reads os enc
  refine returnsInHanded_of_row (C := Tryd.checked) (s := Rows.OpenSpec.upto Rows.saslOthersSpec) own started (by kernel_rfl) Tryd.func5
    (witness_row_at (enc := enc) (C := Tryd.checked) false (laidWorld os) #[.slice none 0 0, .agg #[.string ByteArray.empty, .string ByteArray.empty], .string ByteArray.empty] rfl (by kernel_rfl) (by kernel_rfl) (by kernel_rfl)
      (OpenSpec.preRow_of_cond 8 hx (by kernel_rfl) (fun k hk => by cases hk; kernel_rfl) (by kernel_rfl) (laid_met os))) ?_
  intro W base args ds gs before hval hW _ hcond _ hL _ _
  exact contract H enc W base args ds gs before hval (hcond _ rfl) hW hL
theorem saidUpto : Rows.SaslOthersUptoSaid :=
  OpenClaim.holds_of_cond 5 Tryd.f5 rfl rfl rfl rfl rfl rfl rfl ⟨rfl, rfl, rfl, rfl, rfl⟩ rfl rfl rfl rfl rfl (by kernel_rfl) Tryd.func5 (by kernel_rfl)
    (of_decide_eq_true (by kernel_rfl)) (by unfold Func.isWrapper; first | (rw [if_pos (by decide +kernel)]; kernel_rfl) | (rw [if_neg (by decide +kernel)]; exact ⟨rfl, rfl⟩))
    (fun os started H enc _ F => by rw [OpenClaim.pre_eq_preRow]; exact liftedUpto os started H enc F)
theorem plain (f : FuncId) (fn : Func) (hf : Tryd.pinned.checked.prog.funcNamed "posthorn/posthornlaw22.SaslOthers" = some f) (hfn : Tryd.pinned.checked.prog.funcs[f]? = some fn) :
    true = Tryd.pinned.checked.prog.looks [] ∧ ∀ (j : Nat) t, fn.params[j]? = some t → Tryd.pinned.checked.prog.wantsStandIn t = false := by
  obtain rfl : f = 5 := Option.some.inj ((show Tryd.prog.funcNamed "posthorn/posthornlaw22.SaslOthers" = some 5 by kernel_rfl).symm.trans hf) |>.symm
  obtain rfl : fn = Tryd.f5 := (Option.some.inj (Tryd.func5.symm.trans hfn)).symm
  refine ⟨by kernel_rfl, fun j t ht => ?_⟩
  rw [Tryd.params5] at ht
  have ht' := List.mem_of_getElem? (by simpa using ht : ([22, 40, 9] : List Nat)[j]? = some t)
  simp only [List.mem_cons, List.not_mem_nil, or_false] at ht'
  rcases ht' with rfl | rfl | rfl
  · exact (show Tryd.prog.wantsStandIn 22 = false by kernel_rfl)
  · exact (show Tryd.prog.wantsStandIn 40 = false by kernel_rfl)
  · exact (show Tryd.prog.wantsStandIn 9 = false by kernel_rfl)
theorem cardUpto : Rows.SaslOthersUptoCardSaid :=
  Claim7.holds_tied_plain_at .later [] _ _ _ _ saidUpto (fun _ h => by cases h) (by kernel_rfl) (fun _ h => by cases h) saslOthersUpto_row_tie rfl ⟨rfl, rfl⟩ (by kernel_rfl) rfl plain (by kernel_rfl)
end Go.Proofs.YtadiljnfkbbmcaaDoor.saslOthers
namespace Go.Proofs.YtadiljnfkbbmcaaDoor
theorem saslOthers_holds : Rows.SaslOthersUptoCardSaid := saslOthers.cardUpto
#print axioms saslOthers_holds
end Go.Proofs.YtadiljnfkbbmcaaDoor
