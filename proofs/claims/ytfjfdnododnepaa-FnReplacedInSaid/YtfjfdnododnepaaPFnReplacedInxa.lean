-- Written by a program of this session (wip/auto.py): what the walks of this law's texts say over and over, once.
import Derived.Test.YtfjfdnododnepaaPFnReplacedInx13
import Derived.Test.YtfjfdnododnepaaWMore
namespace Go.Proofs.Ytfjfdnododnepaa.PFnReplacedIn
open Go.RowKit Go.Proofs.YtfjfdnododnepaaW.PrintWords Go.Proofs.YtfjfdnododnepaaW.PrintLast Go.Proofs.YtfjfdnododnepaaW.PrintMore
set_option linter.unusedVariables false
theorem bB {a : Nat} {w w1 W : World} (_h : Aside0 (Below a w w1)) (k : Below a w W := by repeat (first | (with_reducible first | exact Aside0.out (by assumption) | apply below_alloc | apply pw_below_drewN | apply below_drew1 | refine below_set ?_ (Aside0.out (by assumption)) | refine below_set ?_ (IsS78.ge (Aside0.out (by assumption)))) | exact Aside0.out (by assumption))) : Below a w W := k
theorem bK {w w1 W : World} {g : Nat} {r : Option Nat} (_h : Aside0 (KeepBut w w1 g r)) (k : KeepBut w W g r := by repeat (first | (with_reducible first | exact Aside0.out (by assumption) | apply KeepBut.set_ | apply keep_drewN | apply keep_drew | apply keep_alloc | refine keep_far ?_ (Aside0.out (by assumption)) _) | exact Aside0.out (by assumption))) : KeepBut w W g r := k
theorem bI78 {wA_ : World} {fA_ : Int} {w0 W : World} {g : Nat} {f0 : List Int} {f1 : Int} (_h : Aside0 (IsS78 w0 wA_ g f0 fA_)) (k : IsS78 w0 W g f0 f1 := by repeat (first | (with_reducible first | exact Aside0.out (by assumption) | apply IsS78.alloc | apply IsS78.drewN | apply IsS78.drew | apply IsS78.set_1 | refine IsS78.far ?_ (Aside0.out (by assumption)) _) | exact Aside0.out (by assumption))) : IsS78 w0 W g f0 f1 := k
end Go.Proofs.Ytfjfdnododnepaa.PFnReplacedIn
