-- Written by a program of this session (wip/auto.py): what the walks of this law's texts say over and over, once.
import Derived.Test.YtnnaiaiddjkjnaaDoorPFnJournalTextx6
import Derived.Test.YtnnaiaiddjkjnaaDoorWMore
namespace Go.Proofs.YtnnaiaiddjkjnaaDoor.PFnJournalText
open Go.RowKit Go.Proofs.YtnnaiaiddjkjnaaDoorW.PrintWords Go.Proofs.YtnnaiaiddjkjnaaDoorW.PrintLast Go.Proofs.YtnnaiaiddjkjnaaDoorW.PrintMore
set_option linter.unusedVariables false
theorem bA {w W : World} {g : Nat} {o : Obj} (_h : Aside0 (w.heap[g]? = some o)) (k : W.heap[g]? = some o := by (with_reducible repeat (first | refine blk_drewN ?_ _ | refine blk_drew ?_ | refine blk_alloc ?_ _)); first | (with_reducible exact Aside0.out (by assumption)) | exact Aside0.out (by assumption)) : W.heap[g]? = some o := k
theorem bB {a : Nat} {w w1 W : World} (_h : Aside0 (Below a w w1)) (k : Below a w W := by repeat (first | (with_reducible first | exact Aside0.out (by assumption) | apply below_alloc | apply pw_below_drewN | apply below_drew1 | refine below_set ?_ (Aside0.out (by assumption)) | refine below_set ?_ (IsS67.ge (Aside0.out (by assumption)))) | exact Aside0.out (by assumption))) : Below a w W := k
theorem bK {w w1 W : World} {g : Nat} {r : Option Nat} (_h : Aside0 (KeepBut w w1 g r)) (k : KeepBut w W g r := by repeat (first | (with_reducible first | exact Aside0.out (by assumption) | apply KeepBut.set_ | apply keep_drewN | apply keep_drew | apply keep_alloc | refine keep_far ?_ (Aside0.out (by assumption)) _) | exact Aside0.out (by assumption))) : KeepBut w W g r := k
theorem bI67 {wA_ : World} {fA_ : Int} {w0 W : World} {g : Nat} {f0 : List Int} {f1 : Int} (_h : Aside0 (IsS67 w0 wA_ g f0 fA_)) (k : IsS67 w0 W g f0 f1 := by repeat (first | (with_reducible first | exact Aside0.out (by assumption) | apply IsS67.alloc | apply IsS67.drewN | apply IsS67.drew | apply IsS67.set_1 | refine IsS67.far ?_ (Aside0.out (by assumption)) _) | exact Aside0.out (by assumption))) : IsS67 w0 W g f0 f1 := k
end Go.Proofs.YtnnaiaiddjkjnaaDoor.PFnJournalText
