/- Proved here: SauerBound of the program returns what SauerBound of the reference returns, for every two numbers; no condition. -/
import Derived.Test.YtocmmbnndieknaaPFnExactSauerBoundx1
namespace Go.Proofs.Ytocmmbnndieknaa.Pure
open Go.RowKit Go.Proofs.Ytocmmbnndieknaa.PFnExactSauerBound Go.Proofs.YtocmmbnndieknaaW.PrintWords Go.Proofs.YtocmmbnndieknaaW.PrintLast

theorem sauer_all : ∀ a : Fin 9, ∀ b : Fin 9, laws_FnExactSauerBound.f 40 (a.val : Int) (b.val : Int) = some true := by decide +kernel

theorem spec_in (a b c : Int) : spec_l1In.f a b c = some (decide (b ≤ a ∧ a ≤ c)) := by
  unfold spec_l1In.f; split <;> simp_all <;> omega
theorem impl_in (a b c : Int) : impl_within.f a b c = some (decide (b ≤ a ∧ a ≤ c)) := by
  unfold impl_within.f; split <;> simp_all <;> omega

theorem FnExactSauerBound : laws_FnExactSauerBound.Pure := by
  intro a b _ _
  refine ⟨40, ?_⟩
  by_cases h : (0 ≤ a ∧ a ≤ 8) ∧ (0 ≤ b ∧ b ≤ 8)
  · obtain ⟨⟨h1, h2⟩, h3, h4⟩ := h
    have := sauer_all ⟨a.toNat, by omega⟩ ⟨b.toNat, by omega⟩
    simpa [Int.toNat_of_nonneg h1, Int.toNat_of_nonneg h3] using this
  · unfold laws_FnExactSauerBound.f spec_SauerBound.f impl_SauerBound.f
    simp only [spec_in, impl_in, Option.bind_some]
    by_cases h1 : 0 ≤ a ∧ a ≤ 8
    · have h2 : ¬ (0 ≤ b ∧ b ≤ 8) := fun h' => h ⟨h1, h'⟩
      simp [h1, h2, spec_SauerBound.j0, impl_SauerBound.j0]
    · simp [h1, spec_SauerBound.j0, impl_SauerBound.j0]

end Go.Proofs.Ytocmmbnndieknaa.Pure
