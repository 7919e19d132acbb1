import Derived.Test.YtjlebmnlphjjoaaDoAbsD
set_option linter.unusedVariables false
set_option linter.unusedSimpArgs false
/- What the functions of the library are told as that stand outside; no condition. -/
open Go Go.Proofs.Ytjlebmnlphjjoaa.Abs
namespace Go.Proofs.Ytjlebmnlphjjoaa.Fx
structure R4 where (a b c d : Int)
  deriving DecidableEq
def r4 (r : R4) : PV := .ls 1 [.int .i64 r.a, .int .i64 r.b, .int .i64 r.c, .int .i64 r.d]
def un4 : PV → Option R4
  | .ls 1 [.int .i64 a, .int .i64 b, .int .i64 c, .int .i64 d] => some ⟨a, b, c, d⟩
  | _ => none
def un4s : List PV → Option (List R4)
  | [] => some []
  | x :: l => match un4 x, un4s l with
    | some r, some rs => some (r :: rs)
    | _, _ => none
theorem un4s_map : ∀ l : List R4, un4s (l.map r4) = some l
  | [] => rfl
  | x :: l => by simp [un4s, un4, r4, un4s_map l]
def cmp4 (x y : R4) : Int :=
  if x.a < y.a then -1 else if x.a > y.a then 1 else if x.b < y.b then -1 else if x.b > y.b then 1 else if x.c < y.c then -1 else if x.c > y.c then 1 else if x.d < y.d then -1 else if x.d > y.d then 1 else 0
def ins4 (x : R4) : List R4 → List R4
  | [] => [x]
  | y :: l => if cmp4 y x < 0 then y :: ins4 x l else x :: y :: l
def srt : List R4 → List R4
  | [] => []
  | x :: l => ins4 x (srt l)
def extT : CFT := fun f vs bs =>
  if f = 67 then match vs, bs with
    | [.ms 900 0 0 n 1, .p (.fn 68 [] [])], [b] => if n = b.length ∧ n ≤ room then match un4s b with | some l => some ⟨.p (.tup []), [(srt l).map r4], []⟩ | none => none else none
    | _, _ => none
  else none
end Go.Proofs.Ytjlebmnlphjjoaa.Fx
