-- Written by a program of this session (wip/patch_print.py, over the kit's print) and not by hand; Lean checks every word.
import Derived.Test.YtnnaiaiddjkjnaaDoorPFnExactJournalTextx0
import Derived.Test.YtnnaiaiddjkjnaaDoorPFnExactJournalTextx1
import Derived.Test.YtnnaiaiddjkjnaaDoorPFnExactJournalTextx2
import Derived.Test.YtnnaiaiddjkjnaaDoorPFnExactJournalTextx3
import Derived.Test.YtnnaiaiddjkjnaaDoorPFnExactJournalTextx4
import Derived.Test.YtnnaiaiddjkjnaaDoorPFnExactJournalTextx5
namespace Go.Proofs.YtnnaiaiddjkjnaaDoor.PFnExactJournalText
open Go.RowKit Go.Proofs.YtnnaiaiddjkjnaaDoorW.PrintWords Go.Proofs.YtnnaiaiddjkjnaaDoorW.PrintLast Go.Proofs.YtnnaiaiddjkjnaaDoorW.PrintMore
attribute [local go_sem] max2_int min2_int max_two min_two max_three min_three max_four min_four   -- for this text's walks alone
set_option linter.unusedVariables false
set_option linter.unusedSimpArgs false

end Go.Proofs.YtnnaiaiddjkjnaaDoor.PFnExactJournalText
