-- Written by a program of this session (wip/auto.py): what the walks of this law's texts say over and over, once.
import Derived.Test.YtnnaiaiddjkjnaaPFnExactDeskRunx0
import Derived.Test.YtnnaiaiddjkjnaaWMore
namespace Go.Proofs.Ytnnaiaiddjkjnaa.PFnExactDeskRun
open Go.RowKit Go.Proofs.YtnnaiaiddjkjnaaW.PrintWords Go.Proofs.YtnnaiaiddjkjnaaW.PrintLast Go.Proofs.YtnnaiaiddjkjnaaW.PrintMore
set_option linter.unusedVariables false
theorem bA {w W : World} {g : Nat} {o : Obj} (_h : Aside0 (w.heap[g]? = some o)) (k : W.heap[g]? = some o := by (with_reducible repeat (first | refine blk_drewN ?_ _ | refine blk_drew ?_ | refine blk_alloc ?_ _)); first | (with_reducible exact Aside0.out (by assumption)) | exact Aside0.out (by assumption)) : W.heap[g]? = some o := k
theorem bB {a : Nat} {w w1 W : World} (_h : Aside0 (Below a w w1)) (k : Below a w W := by repeat (first | (with_reducible first | exact Aside0.out (by assumption) | apply below_alloc | apply pw_below_drewN | apply below_drew1 | refine below_set ?_ (Aside0.out (by assumption))) | exact Aside0.out (by assumption))) : Below a w W := k
end Go.Proofs.Ytnnaiaiddjkjnaa.PFnExactDeskRun
