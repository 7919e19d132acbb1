import Derived.Test.YtjlebmnlphjjoaaE
set_option linter.unusedVariables false
set_option linter.unusedSimpArgs false
/- No function stands outside the table; no condition. -/
open Go Go.Proofs.Ytjlebmnlphjjoaa.Abs
namespace Go.Proofs.Ytjlebmnlphjjoaa.Fx
theorem ext_ok (f : FuncId) (vs : List AV) (bs : List (List PV)) (out : Out) (_ : E.fn f = none) (h : extT f vs bs = some out) : CallOk Try.prog f vs bs out := by cases h
end Go.Proofs.Ytjlebmnlphjjoaa.Fx
