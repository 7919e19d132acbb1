/- For every text the program's SentenceOk returns what the reference's returns; no condition. -/
import Derived.Test.YtfjfdnododnepaaPFnExactSentenceOkx9
namespace Go.Proofs.Ytfjfdnododnepaa.Pure
open Go.RowKit Go.Proofs.Ytfjfdnododnepaa.PFnExactSentenceOk Go.Proofs.YtfjfdnododnepaaW.PrintWords Go.Proofs.YtfjfdnododnepaaW.PrintLast
set_option linter.unusedVariables false
set_option linter.unusedSimpArgs false

theorem FnExactSentenceOk : laws_FnExactSentenceOk.Pure := by
  intro a0 _
  unfold laws_FnExactSentenceOk.f
  by_cases h : (a0.size : Int) > 1048576
  · rw [if_pos h]
  · rw [if_neg h]
    unfold spec_SentenceOk.f impl_SentenceOk.f
    rw [if_pos (by omega)]
    simp

end Go.Proofs.Ytfjfdnododnepaa.Pure
