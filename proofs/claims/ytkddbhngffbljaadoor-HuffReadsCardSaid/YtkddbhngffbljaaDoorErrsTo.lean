/- The package's errors: what smaller contracts ask. -/
import Derived.Test.YtkddbhngffbljaaDoorErrs
import Derived.Test.YtkddbhngffbljaaDoorApart
namespace Go.Proofs.YtkddbhngffbljaaDoor
theorem errs_sents {w : World} {E : Nat → Addr} (h : Errs w E) : Sents w := by
  have h1 := h.var 1 (by decide)
  have h2 := h.var 2 (by decide)
  simp only [gk, sentV] at h1 h2
  exact ⟨⟨_, h1⟩, ⟨_, h2⟩⟩
end Go.Proofs.YtkddbhngffbljaaDoor
