/- The law EncodeNullsMatchSpec, as the row asks for it. No conditions beyond those in each theorem. -/
import Derived.Test.YthhdihnaicggiaaM4
namespace Go.Proofs.Ythhdihnaicggiaa.G
open Go.RowKit Go.Proofs.YthhdihnaicggiaaW.PrintWords Go.Proofs.YthhdihnaicggiaaW.PrintLast Go.Proofs.YthhdihnaicggiaaW.PrintMore
set_option linter.unusedVariables false
set_option linter.unusedSimpArgs false
theorem u8_of_wf {n : Int} (h : (Lit.int .u8 n).wf = true) : 0 ≤ n ∧ n ≤ 255 := by
  have a : IntKind.u8.min = 0 := by decide
  have b : IntKind.u8.max = 255 := by decide
  simp [Lit.wf] at h
  omega
theorem nulls_pure (x0 : List Bool) (x1 : List Int) (h0 : x0.length ≤ maxLen ∧ ∀ x ∈ x0, (fun _ : Bool => True) x) (h1 : x1.length ≤ maxLen ∧ ∀ x ∈ x1, (fun n : Int => (Lit.int .u8 n).wf = true) x) (y1 : x1.length * 1 ≤ 140737488351232) : ∃ k, peristylelaw2_EncodeNullsMatchSpec.f k x0 x1 = some true := by
  obtain ⟨K, h⟩ := encodeNullsMatchSpec_ev x0 (fun x hx => u8_of_wf (h1.2 x hx))
  exact ⟨K, h K (Nat.le_refl _)⟩
end Go.Proofs.Ythhdihnaicggiaa.G
