import Derived.Test.YtjlebmnlphjjoaaGreatDoorAbsD
import Derived.Lib.IndexLaws
import Derived.Lib.IndexBytes
set_option linter.unusedVariables false
set_option linter.unusedSimpArgs false
/- What the functions of the library are told as that stand outside (the seat of the journals and lines); no condition. -/
open Go Go.Proofs.YtjlebmnlphjjoaaGreatDoor.Abs
namespace Go.Proofs.YtjlebmnlphjjoaaGreatDoor.Fx
structure R4 where (a b c d : Int)
  deriving DecidableEq
def r4 (r : R4) : PV := .ls 1 [.int .i64 r.a, .int .i64 r.b, .int .i64 r.c, .int .i64 r.d]
def un4 : PV → Option R4
  | .ls 1 [.int .i64 a, .int .i64 b, .int .i64 c, .int .i64 d] => some ⟨a, b, c, d⟩
  | _ => none
def un4s : List PV → Option (List R4)
  | [] => some []
  | x :: l => match un4 x, un4s l with
    | some r, some rs => some (r :: rs)
    | _, _ => none
theorem un4s_map : ∀ l : List R4, un4s (l.map r4) = some l
  | [] => rfl
  | x :: l => by simp [un4s, un4, r4, un4s_map l]
def cmp4 (x y : R4) : Int :=
  if x.a < y.a then -1 else if x.a > y.a then 1 else if x.b < y.b then -1 else if x.b > y.b then 1 else if x.c < y.c then -1 else if x.c > y.c then 1 else if x.d < y.d then -1 else if x.d > y.d then 1 else 0
def ins4 (x : R4) : List R4 → List R4
  | [] => [x]
  | y :: l => if cmp4 y x < 0 then y :: ins4 x l else x :: y :: l
def srt : List R4 → List R4
  | [] => []
  | x :: l => ins4 x (srt l)
/-- Where a byte stands first in a text; -1: nowhere. -/
def idxX : List AV → List (List PV) → Option Out
  | [.p (.str s), .p (.str c)], [] => match c.data.toList with | [u] => some ⟨.p (.int .i64 (Lib.indexByte s.data.toList u)), [], []⟩ | _ => none
  | _, _ => none
def extT : CFT := fun f vs bs => if f = 104 then idxX vs bs else none
end Go.Proofs.YtjlebmnlphjjoaaGreatDoor.Fx
