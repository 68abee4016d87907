/-
  Posthorn's SaslShown (whoever is let in has shown the secret, whatever lines are said) returns true and leaves its argument as it was, for every input whose bulk is at most 1048576; the tables hash.table and hash.turns read as the program's text lays them (the card ties that).
-/
import Derived.Test.YtadiljnfkbbmcaaDoorCards
import Derived.Test.YtadiljnfkbbmcaaDoorTie
import Derived.Test.YtadiljnfkbbmcaaDoorS3
import Derived.Test.YtadiljnfkbbmcaaDoorKw13
import Derived.Test.YtadiljnfkbbmcaaDoorKw14
import Derived.WalkKit
import Derived.ProofKit
import Derived.OpenShut
import Derived.ShutString
import Derived.Carry
import Derived.ChangeOld
import Derived.Below
import Derived.Deep.DeepHandedRow
import Derived.Lib.LaidTab
set_option linter.unusedVariables false
set_option linter.unusedSimpArgs false
set_option maxRecDepth 100000
namespace Go.Proofs.YtadiljnfkbbmcaaDoor.saslShown
open Go.ChangeShapes Go.WideShapes Go.ChangeAt Go.RowKit Go.Kw
theorem own : ownKnob Tryd.prog.godebug = none := by kernel_rfl
theorem laidOut : laidOutB Tryd.prog = true := by kernel_rfl
theorem g0 : Tryd.prog.globalNamed "posthorn/hash.table" = some 0 := by kernel_rfl
theorem g1 : Tryd.prog.globalNamed "posthorn/hash.turns" = some 1 := by kernel_rfl
def Tz : List UInt32 := [3614090360, 3905402710, 606105819, 3250441966, 4118548399, 1200080426, 2821735955, 4249261313, 1770035416, 2336552879, 4294925233, 2304563134, 1804603682, 4254626195, 2792965006, 1236535329, 4129170786, 3225465664, 643717713, 3921069994, 3593408605, 38016083, 3634488961, 3889429448, 568446438, 3275163606, 4107603335, 1163531501, 2850285829, 4243563512, 1735328473, 2368359562, 4294588738, 2272392833, 1839030562, 4259657740, 2763975236, 1272893353, 4139469664, 3200236656, 681279174, 3936430074, 3572445317, 76029189, 3654602809, 3873151461, 530742520, 3299628645, 4096336452, 1126891415, 2878612391, 4237533241, 1700485571, 2399980690, 4293915773, 2240044497, 1873313359, 4264355552, 2734768916, 1309151649, 4149444226, 3174756917, 718787259, 3951481745]
def Rz : List UInt8 := [7, 12, 17, 22, 5, 9, 14, 20, 4, 11, 16, 23, 6, 10, 15, 21]
/-- WHAT THE ROW's LIST GIVES: the tables' cells. -/
theorem tabs {W : World} (h : laidMetH Tryd.prog Rows.saslShownUptoRow.laid W) : Gl W 0 (u32s Tz) ∧ Gl W 1 (bs Rz) := by
  have h' : laidMet Tryd.prog [("posthorn/hash.table", Lib.tabData .u32 (Tz.map fun z => (z.toNat : Int))), ("posthorn/hash.turns", Lib.tabData .u8 (Rz.map fun z => (z.toNat : Int)))] W := h
  have a0 := Lib.tabIs_of_head (rest := [("posthorn/hash.turns", Lib.tabData .u8 (Rz.map fun z => (z.toNat : Int)))]) (t := 130) (e := 111) (n := 64) (k := .u32) g0 (by kernel_rfl) (by kernel_rfl) (by kernel_rfl) (by kernel_rfl) (by kernel_rfl) h'
  have a1 := Lib.tabIs_of_head (rest := []) (t := 82) (e := 5) (n := 16) (k := .u8) g1 (by kernel_rfl) (by kernel_rfl) (by kernel_rfl) (by kernel_rfl) (by kernel_rfl) (bulks.laid_tail h')
  refine ⟨fun j u hu => ?_, fun j u hu => ?_⟩
  · have hj : j < 64 := by have := (List.getElem?_eq_some_iff.1 hu).1; rw [u32s_length] at this; exact this
    have := a0.cell g0 j (by rw [List.length_map]; exact hj)
    rw [this, ← hu]
    simp only [u32s, List.getElem?_map, List.getD_eq_getElem?_getD]
    rw [List.getElem?_eq_getElem (show j < Tz.length from hj)]
    rfl
  · have hj : j < 16 := by have := (List.getElem?_eq_some_iff.1 hu).1; rw [bs_length] at this; exact this
    have := a1.cell g1 j (by rw [List.length_map]; exact hj)
    rw [this, ← hu]
    simp only [bs, List.getElem?_map, List.getD_eq_getElem?_getD]
    rw [List.getElem?_eq_getElem (show j < Rz.length from hj)]
    rfl
theorem contract (H : Type) (enc : TypeId × Value → H) (W : World) (base : Nat) (args : Array Value) (ds gs : List (DataW H)) (before : List MemPlace)
    (hval : ∀ (j : Nat) t v, Tryd.f3.params[j]? = some t → args[j]? = some v → Value.okWide Tryd.prog W .any base t v) (hk : Rows.uptoSmall H (ds ++ gs) = true)
    (hW : DataW.Whole enc Tryd.prog Tryd.f3.params.toList Rows.saslShownSpec.vars false W args.toList ds gs before) (hL : laidMetH Tryd.prog Rows.saslShownUptoRow.laid W) :
    Calls Tryd.prog 3 args W fun e W' => ∃ v, e = .returned v ∧ Rows.saslShownSpec.post enc Tryd.prog Tryd.f3 false true false false W args v W' := by
  have hW' := hW
  obtain ⟨p, q, hA0, hV, rfl, hfz, hnd⟩ := hW
  have hA : DataW.TrodAll enc Tryd.prog W 0 (fun _ => true) true Tryd.f3.params.toList args.toList ds p := hA0
  rw [Tryd.params3] at hA hval
  obtain ⟨v0, vs0, d0, ds0, p0, q0, hargs, rfl, rfl, h0, r0⟩ := trodAll_cons hA
  obtain ⟨rfl, rfl, rfl⟩ := trodAll_nil r0
  obtain rfl : args = #[v0] := by cases args; simp_all
  obtain ⟨rfl, rfl⟩ := trodVars_none hV
  clear hA0
  have lt0 : ∀ x ∈ p0, x.block < W.heap.size := by obtain ⟨m, hm⟩ := h0; exact DataW.trod_lt m _ _ _ hm
  have k0 := h0
  obtain ⟨gT, gR⟩ := tabs hL
  have hb := bulks.bound hk
  have hv0 := hval 0 25 v0 rfl rfl
  obtain ⟨cs0, rfl⟩ := agg_of (by kernel_rfl) hv0
  obtain ⟨m0, hm0⟩ := h0
  obtain ⟨fu, u0, u1, u2, u3, u4, u5, x0, x1, x2, x3, x4, x5, hcs, dx, t0, t1, t2, t3, t4, t5⟩ := tr_six Tryd.underlying25 (by kernel_rfl) (fun a ha => by simp only [List.mem_cons, List.not_mem_nil, or_false] at ha; rcases ha with rfl | rfl | rfl | rfl | rfl | rfl <;> kernel_rfl) (by kernel_rfl) hm0
  obtain ⟨l, A0, c0, rfl, hlm, RU, hd0⟩ := tr_list (fun u : Str2 => [S u.1, S u.2]) (fun u => DataW.agg [.lit (.string u.1), .lit (.string u.2)]) Tryd.underlying22 (sz := 2) (by kernel_rfl) (fun _ _ _ h => (tr_pair (s := 9) Tryd.underlying40 (by kernel_rfl) Tryd.underlying9 (by kernel_rfl) (by kernel_rfl)) h) t0
  obtain ⟨m, hvm, _, dm⟩ := tr_str Tryd.underlying9 t1
  obtain ⟨q, hvq, _, dq⟩ := tr_str Tryd.underlying9 t2
  obtain ⟨y, hvy, _, dy⟩ := tr_str Tryd.underlying9 t3
  obtain ⟨has, hvh, dh⟩ := tr_bool Tryd.underlying4 t4
  obtain ⟨ls, A1, c1, rfl, hllm, RL, hd1⟩ := tr_list (fun u : List UInt8 => [S u]) (fun u => DataW.lit (.string u)) Tryd.underlying23 (sz := 1) (by kernel_rfl) (fun _ _ _ h => by obtain ⟨z, h1, _, h2⟩ := tr_str Tryd.underlying9 h; exact ⟨z, h1, h2⟩) t5
  simp only [List.cons.injEq, and_true] at hvm hvq hvy hvh
  subst hvm hvq hvy hvh
  obtain rfl : cs0 = #[.slice A0 l.length c0, S m, S q, S y, .bool has, .slice A1 ls.length c1] := Array.ext' hcs
  simp only at dx
  rw [dm, dq, dy, dh] at dx
  subst dx
  simp only [List.append_nil, List.nil_append, List.cons_append, Rows.uptoBulkAll, Rows.uptoBulk] at hb
  have hU : (l.length ≤ 1048576) ∧ ∀ u ∈ l, u.1.length ≤ 549755813888 ∧ u.2.length ≤ 549755813888 := by
    clear hd1
    rcases hd0 with ⟨_, rfl⟩ | ⟨rest, e0⟩
    · exact ⟨Nat.zero_le _, fun u hu => (by cases hu)⟩
    · rw [e0] at hb
      simp only [Rows.uptoBulk] at hb
      rw [bulks.pairs] at hb
      refine ⟨?_, fun u hu => ?_⟩
      · have := bulks.sum_len (fun u : Str2 => u.1.length + u.2.length + 3) (fun _ => by omega) l; omega
      · have := bulks.mem_le (fun u : Str2 => u.1.length + u.2.length + 3) hu; omega
  have hL : (ls.length ≤ 1048576) ∧ ∀ u ∈ ls, u.length ≤ 16777216 := by
    rcases hd1 with ⟨_, rfl⟩ | ⟨rest, e0⟩
    · exact ⟨Nat.zero_le _, fun u hu => (by cases hu)⟩
    · rw [e0] at hb
      simp only [Rows.uptoBulk] at hb
      rw [bulks.texts] at hb
      refine ⟨?_, fun u hu => ?_⟩
      · have := bulks.sum_len (fun u : List UInt8 => u.length + 1) (fun _ => by omega) ls; omega
      · have := bulks.mem_le (fun u : List UInt8 => u.length + 1) hu; omega
  have RL2 : Rd W [] (.slice A1 ls.length c1) 1 ls.length (ss ls) := by rw [← ss_flat]; exact RL []
  have hcall : Ret Tryd.prog 3 #[.agg #[.slice A0 l.length c0, S m, S q, S y, .bool has, .slice A1 ls.length c1]] W (fun v w' => v = .bool true ∧ Sep W w' []) :=
    c_Shown Tz rfl gT Rz rfl gR l (by omega) hU.2 _ _ _ has (by omega) (by omega) (by omega) ls (by omega) hL.2 (RU []) RL2 (Sep.nil W)
  refine Calls.mono hcall fun e W' ⟨v, he, hv, HS⟩ => ?_
  subst hv; subst he
  have bel := HS.below
  exact ⟨_, rfl, _, _, _, [], _, [], hW', trodAll_mk1 (shut_bool Tryd.underlying4 _), (trodAll_cons_mk (Below.trod laidOut (by kernel_rfl) (of_decide_eq_true (by kernel_rfl)) k0 bel lt0) trodAll_mk0), rfl, bel.frame _, fun h => by cases h⟩
def setRow (c : Array Value) : Obj → Obj
  | .cells _ t frozen => .cells c t frozen
  | o => o
noncomputable def laidWorld (os : Os) : World :=
  { World.holding Tryd.prog os ⟨#[], #[], []⟩ with heap := ((World.holding Tryd.prog os ⟨#[], #[], []⟩).heap.modify 0 (setRow (u32s Tz).toArray)).modify 1 (setRow (bs Rz).toArray) }
theorem laid_met (os : Os) : laidMet Tryd.prog Rows.saslShownUptoRow.laid ((laidWorld os).forCall (fun _ _ => 0) ⟨#[], #[.agg #[.slice none 0 0, .string ByteArray.empty, .string ByteArray.empty, .string ByteArray.empty, .bool false, .slice none 0 0]], []⟩).memory :=
  laidMet_of_run' 8 (by kernel_rfl) (by kernel_rfl)
theorem reads (os : Os) {H : Type} (enc : TypeId × Value → H) : ∃ places, DataW.whole enc Tryd.prog ((laidWorld os).forCall (fun _ _ => 0) ⟨#[], #[.agg #[.slice none 0 0, .string ByteArray.empty, .string ByteArray.empty, .string ByteArray.empty, .bool false, .slice none 0 0]], []⟩).memory Tryd.f3.params.toList Rows.saslShownSpec.vars false #[.agg #[.slice none 0 0, .string ByteArray.empty, .string ByteArray.empty, .string ByteArray.empty, .bool false, .slice none 0 0]].toList 8 = some ([.agg [.nil, .lit (.string []), .lit (.string []), .lit (.string []), .lit (.bool false), .nil]], [], places) :=
  ⟨[], by kernel_rfl⟩
set_option maxRecDepth 100000 in
theorem liftedUpto (os : Os) (started : os.Started) (H : Type) (enc : TypeId × Value → H) (F : Stop.Interp) :
    ReturnsInHanded {} Tryd.checked os 3 .any ((Rows.OpenSpec.upto Rows.saslShownSpec).preRow enc Tryd.prog Tryd.f3 Rows.saslShownUptoRow.domain false Rows.saslShownUptoRow.laid) (((Rows.OpenSpec.upto Rows.saslShownSpec).at F).post enc Tryd.prog Tryd.f3 false true false false) := by
  obtain ⟨places, hx⟩ := reads os enc
  refine returnsInHanded_of_row (C := Tryd.checked) (s := Rows.OpenSpec.upto Rows.saslShownSpec) own started (by kernel_rfl) Tryd.func3
    (witness_row_at (enc := enc) (C := Tryd.checked) false (laidWorld os) #[.agg #[.slice none 0 0, .string ByteArray.empty, .string ByteArray.empty, .string ByteArray.empty, .bool false, .slice none 0 0]] rfl (by kernel_rfl) (by kernel_rfl) (by kernel_rfl)
      (OpenSpec.preRow_of_cond 8 hx (by kernel_rfl) (fun k hk => by cases hk; kernel_rfl) (by kernel_rfl) (laid_met os))) ?_
  intro W base args ds gs before hval hW _ hcond _ hL _ _
  exact contract H enc W base args ds gs before hval (hcond _ rfl) hW hL
theorem saidUpto : Rows.SaslShownUptoSaid :=
  OpenClaim.holds_of_cond 3 Tryd.f3 rfl rfl rfl rfl rfl rfl rfl ⟨rfl, rfl, rfl, rfl, rfl⟩ rfl rfl rfl rfl rfl (by kernel_rfl) Tryd.func3 (by kernel_rfl)
    (of_decide_eq_true (by kernel_rfl)) (by unfold Func.isWrapper; first | (rw [if_pos (by decide +kernel)]; kernel_rfl) | (rw [if_neg (by decide +kernel)]; exact ⟨rfl, rfl⟩))
    (fun os started H enc _ F => by rw [OpenClaim.pre_eq_preRow]; exact liftedUpto os started H enc F)
theorem plain (f : FuncId) (fn : Func) (hf : Tryd.pinned.checked.prog.funcNamed "posthorn/posthornlaw22.SaslShown" = some f) (hfn : Tryd.pinned.checked.prog.funcs[f]? = some fn) :
    true = Tryd.pinned.checked.prog.looks [] ∧ ∀ (j : Nat) t, fn.params[j]? = some t → Tryd.pinned.checked.prog.wantsStandIn t = false := by
  obtain rfl : f = 3 := Option.some.inj ((show Tryd.prog.funcNamed "posthorn/posthornlaw22.SaslShown" = some 3 by kernel_rfl).symm.trans hf) |>.symm
  obtain rfl : fn = Tryd.f3 := (Option.some.inj (Tryd.func3.symm.trans hfn)).symm
  refine ⟨by kernel_rfl, fun j t ht => ?_⟩
  rw [Tryd.params3] at ht
  have ht' := List.mem_of_getElem? (by simpa using ht : ([25] : List Nat)[j]? = some t)
  simp only [List.mem_cons, List.not_mem_nil, or_false] at ht'
  rcases ht' with rfl
  · exact (show Tryd.prog.wantsStandIn 25 = false by kernel_rfl)
theorem cardUpto : Rows.SaslShownUptoCardSaid :=
  Claim7.holds_tied_plain_at .later [] _ _ _ _ saidUpto (fun _ h => by cases h) (by kernel_rfl) (fun _ h => by cases h) saslShownUpto_row_tie rfl ⟨rfl, rfl⟩ (by kernel_rfl) rfl plain (by kernel_rfl)
end Go.Proofs.YtadiljnfkbbmcaaDoor.saslShown
namespace Go.Proofs.YtadiljnfkbbmcaaDoor
theorem saslShown_holds : Rows.SaslShownUptoCardSaid := saslShown.cardUpto
#print axioms saslShown_holds
end Go.Proofs.YtadiljnfkbbmcaaDoor
