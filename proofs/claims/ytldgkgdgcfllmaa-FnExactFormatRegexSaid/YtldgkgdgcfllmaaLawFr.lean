/- The pure statement of the law on FormatRegex. No condition. -/
import Derived.Test.YtldgkgdgcfllmaaTx
import Derived.Test.YtldgkgdgcfllmaaStFnExactFormatRegex
import Derived.Test.YtldgkgdgcfllmaaP17
namespace Go.Proofs.Ytldgkgdgcfllmaa.Pl
open Go.RowKit Go.Proofs.Ytldgkgdgcfllmaa Go.Proofs.Ytldgkgdgcfllmaa.P Go.Proofs.YtldgkgdgcfllmaaW.PrintWords Go.Proofs.YtldgkgdgcfllmaaW.PrintLast Go.Proofs.YtldgkgdgcfllmaaW.PrintMore Rk
set_option linter.unusedVariables false
set_option linter.unusedSimpArgs false

theorem pureFnExactFormatRegex : St.FnExactFormatRegex := by
  intro a s l wa ws wl
  have hx : OkT ⟨a, s, l⟩ := OkT.mk _ wa ws wl.1 wl.2
  refine Ev.rounds ?_
  simp only [laws_FnExactFormatRegex.f]
  refine Ev.bind (sz_tree ⟨a, s, l⟩ hx 1048576 (by omega)) ?_
  unfold lft
  by_cases h : wt ⟨a, s, l⟩ ≤ 1048576
  · simp only [if_pos h, if_neg (show ¬ ((1048576 - wt ⟨a, s, l⟩ : Nat) : Int) < 0 by omega)]
    have ht := thin_cv _ h
    have hn := nd_cv ⟨a, s, l⟩
    have T := to_tree ⟨a, s, l⟩ h
    refine Ev.bind T (Ev.bind (spec_fmt _ ht (by omega)) (Ev.bind T (Ev.bind (impl_fmt _ ht (by omega)) ?_)))
    simp only [if_true]
    refine Ev.bind T (Ev.bind (eq_tree _ ht) ?_)
    simp only [if_true]
    exact Ev.now _
  · simp only [if_neg h, if_pos (show (-1 : Int) < 0 by omega)]
    exact Ev.now _
end Go.Proofs.Ytldgkgdgcfllmaa.Pl
