/- The law EncodeJoinedIsBoth: for every input that can be read the call returns true, and each argument reads behind it as it read before. No conditions. -/
import Derived.Test.YthhdihnaicggiaaRows
import Derived.Test.YthhdihnaicggiaaJMJ
import Derived.Test.YthhdihnaicggiaaJ10
import Derived.Test.YthhdihnaicggiaaTyEncodeJoinedIsBoth
import Derived.WalkKit
import Derived.ProofKit
import Derived.OpenShut
import Derived.ShutString
import Derived.ChangeOld
import Derived.Below
import Derived.SizedLaws
import Derived.Test.YthhdihnaicggiaaV
namespace Go.Proofs.Ythhdihnaicggiaa.encodeJoinedIsBoth
open Go.ChangeShapes Go.WideShapes Go.ChangeAt Go.RowKit
open Go.ChangeMaps (open_string shut_string)
open Go.Proofs.YthhdihnaicggiaaR Go.Proofs.YthhdihnaicggiaaW.PrintWords Go.Proofs.Ythhdihnaicggiaa.J
set_option linter.unusedVariables false
theorem own : ownKnob Try.prog.godebug = none := by kernel_rfl
theorem laidOut : laidOutB Try.prog = true := by kernel_rfl
set_option maxRecDepth 100000 in
theorem lifted (os : Os) (started : os.Started) (H : Type) (enc : TypeId × Value → H) :
    ReturnsInHanded {} Try.checked os 8 .any (Rows.encodeJoinedIsBothSpec.pre6 enc Try.prog Try.f8 Rows.encodeJoinedIsBothRow.domain false) (Rows.encodeJoinedIsBothSpec.post enc Try.prog Try.f8 false true false false) := by
  refine returnsInHanded_of_change_sized (C := Try.checked) own started (by kernel_rfl) Try.func8
    (ChangeSpec.witness6 (enc := enc) (C := Try.checked) false ⟨#[], #[.int .i64 0, .int .i64 0, .slice none 0 0, .slice none 0 0], []⟩ 8 (by kernel_rfl) (by kernel_rfl) (by kernel_rfl) (by kernel_rfl)) ?_
  intro W base args ds gs before hval0 hW hcnd hsz0 _
  have hsz : (DataW.weightsEach Try.prog (Try.f8.params.toList ++ Rows.encodeJoinedIsBothSpec.plain.varTypes Try.prog) (ds ++ gs)).all (· ≤ reachBytes) = true := hsz0
  have hval : ∀ (j : Nat) t v, Try.f8.params[j]? = some t → args[j]? = some v → Value.okWide Try.prog W .any base t v := hval0
  have hW' := hW
  obtain ⟨p, q, hA0, hV, rfl, hfz, hnd⟩ := hW
  have hA : DataW.TrodAll enc Try.prog W 0 (fun _ => true) true Try.f8.params.toList args.toList ds p := hA0
  rw [Try.params8] at hA hval hsz
  obtain ⟨v0, vs0, d0, ds0, p0, q0, hargs, rfl, rfl, h0, r0⟩ := trodAll_cons hA
  obtain ⟨v1, vs1, d1, ds1, p1, q1, rfl, rfl, rfl, h1, r1⟩ := trodAll_cons r0
  obtain ⟨v2, vs2, d2, ds2, p2, q2, rfl, rfl, rfl, h2, r2⟩ := trodAll_cons r1
  obtain ⟨v3, vs3, d3, ds3, p3, q3, rfl, rfl, rfl, h3, r3⟩ := trodAll_cons r2
  obtain ⟨rfl, rfl, rfl⟩ := trodAll_nil r3
  obtain rfl : args = #[v0, v1, v2, v3] := by cases args; simp_all
  obtain ⟨rfl, rfl⟩ := trodVars_none hV
  obtain ⟨a0, rfl, rfl, rfl, w0⟩ := open_int Try.underlying3 (hval 0 3 v0 rfl rfl) h0
  obtain ⟨a1, rfl, rfl, rfl, w1⟩ := open_int Try.underlying3 (hval 1 3 v1 rfl rfl) h1
  have k2 := h2
  have lt2 : ∀ x ∈ p2, x.block < W.heap.size := by obtain ⟨m, hm⟩ := k2; exact DataW.trod_lt m _ _ _ hm
  obtain ⟨a2, len2, cap2, rfl⟩ := okWide_slice Try.underlying22 (hval 2 22 v2 rfl rfl)
  have y2 : len2 * 8 ≤ 140737488351232 := sized_ints hsz (j := 2) (t := 22) rfl rfl Try.underlying22 Try.underlying3 (by kernel_rfl) (by kernel_rfl) h2
  obtain ⟨x2, ⟨A2, c2, e2, hc2, hr2⟩, hG2⟩ : ∃ x, (Kd.slice 3 (Kd.int .i64)).K W x [.slice a2 len2 cap2] ∧ (fun l : List Int => l.length ≤ maxLen ∧ ∀ x ∈ l, (fun n : Int => (Lit.int .i64 n).wf = true) x) x := by obtain ⟨fuel, hf⟩ := h2; exact (Rd.slice Try.underlying22 (by kernel_rfl) (Rd.int Try.underlying3 (by kernel_rfl))).down hf
  obtain ⟨rfl, rfl, rfl⟩ : a2 = A2 ∧ len2 = x2.length ∧ cap2 = c2 := by simpa using e2
  have k3 := h3
  have lt3 : ∀ x ∈ p3, x.block < W.heap.size := by obtain ⟨m, hm⟩ := k3; exact DataW.trod_lt m _ _ _ hm
  obtain ⟨a3, len3, cap3, rfl⟩ := okWide_slice Try.underlying22 (hval 3 22 v3 rfl rfl)
  have y3 : len3 * 8 ≤ 140737488351232 := sized_ints hsz (j := 3) (t := 22) rfl rfl Try.underlying22 Try.underlying3 (by kernel_rfl) (by kernel_rfl) h3
  obtain ⟨x3, ⟨A3, c3, e3, hc3, hr3⟩, hG3⟩ : ∃ x, (Kd.slice 3 (Kd.int .i64)).K W x [.slice a3 len3 cap3] ∧ (fun l : List Int => l.length ≤ maxLen ∧ ∀ x ∈ l, (fun n : Int => (Lit.int .i64 n).wf = true) x) x := by obtain ⟨fuel, hf⟩ := h3; exact (Rd.slice Try.underlying22 (by kernel_rfl) (Rd.int Try.underlying3 (by kernel_rfl))).down hf
  obtain ⟨rfl, rfl, rfl⟩ : a3 = A3 ∧ len3 = x3.length ∧ cap3 = c3 := by simpa using e3
  clear hA0 hval0 hsz0 hsz
  obtain ⟨kk, hk⟩ := both_pure a0 a1 x2 x3 w0 w1 hG2 y2 hG3 y3
  refine (peristylelaw2_EncodeJoinedIsBoth.calls kk a0 a1 (fun _ => True) a2 cap2 x2 (fun _ => True) a3 cap3 x3 true W (V_of_C 3 hr2 hc2) (V_of_C 3 hr3 hc3) hk).mono fun e W' ⟨he, bel⟩ => ?_
  subst he
  exact ⟨_, rfl, _, _, _, [], _, [], hW', trodAll_mk1 (shut_bool Try.underlying4 _), (trodAll_cons_mk (shut_int Try.underlying3 w0) (trodAll_cons_mk (shut_int Try.underlying3 w1) (trodAll_cons_mk (Below.trod laidOut (by kernel_rfl) (of_decide_eq_true (by kernel_rfl)) k2 bel lt2) (trodAll_cons_mk (Below.trod laidOut (by kernel_rfl) (of_decide_eq_true (by kernel_rfl)) k3 bel lt3) trodAll_mk0)))), rfl, bel.frame _, fun h => by cases h⟩
theorem over : Rows.encodeJoinedIsBothRow.holds Try.pinned (OpenSpec.ofChange Rows.encodeJoinedIsBothSpec) :=
  OpenClaim.holds_of_wide 8 Try.f8 rfl rfl rfl rfl rfl rfl rfl ⟨rfl, rfl, rfl, rfl, rfl⟩ rfl rfl rfl rfl rfl (by kernel_rfl) Try.func8 (by kernel_rfl)
    (of_decide_eq_true (by kernel_rfl)) (by unfold Func.isWrapper; first | (rw [if_pos (by decide +kernel)]; kernel_rfl) | (rw [if_neg (by decide +kernel)]; exact ⟨rfl, rfl⟩))
    (fun os started H enc _ => lifted os started H enc)
theorem proved : Rows.EncodeJoinedIsBothSaid := over
#print axioms proved
end Go.Proofs.Ythhdihnaicggiaa.encodeJoinedIsBoth
namespace Go.Proofs.Ythhdihnaicggiaa
/-- The row, under a short name, for the claim. -/
theorem encodeJoinedIsBoth_holds : Rows.EncodeJoinedIsBothSaid := encodeJoinedIsBoth.proved
end Go.Proofs.Ythhdihnaicggiaa
