/-
  No cell of these rows narrows 'for every input' (looked for: loops, veiled, ifaces, maps, wideKeys, modest, calm, conditions, laid).
  DERIVED. THE GIVEN ROWS OF THIS SEAT. 11 by the template 'for every input the law returns true; each argument reads behind the call as it read before'; 0 by the template 'total and deterministic' (their statements: YtnnaiaiddjkjnaaTotals.lean).
  GIVEN WITH THE SEED: the statements are not yours to turn. If you find one false, say at which input.
  Laid BY PROGRAM, IN A SANDBOX (cutbox-rows.mjs): the forced cells as the released guide's own fill.sh prints them over the translation 0ead07e716fac773… (all of the seat's roots in one cut). By AI agents, Wed Nov 11 2026. No macro, syntax, notation, axiom, sorry.
-/
import Derived.Test.YtnnaiaiddjkjnaaChecked
import GoSem.Claim
import GoSem.ClaimJoined
import GoSem.ClaimMapViews
import Derived.JoinedTies
import Derived.KernelRfl
namespace Go.Proofs.Ytnnaiaiddjkjnaa
/- THE CELL 'sum', in the pinned program and in every row, IS THE sha256 OF THE DUMP (.gsa) THAT YtnnaiaiddjkjnaaProg.lean LOADS. Nothing in Lean hashes anything: it is a label: what it is worth is what the hold of that sum in a sandbox is worth. -/
noncomputable def Try.pinned : Pinned := { name := "ytnnaiaiddjkjnaa", sum := "0ead07e716fac773194759b45ef65d04d82601eaa7f402b77bd4ef24dd57a7da", checked := Try.checked }
namespace Rows
def none {H : Type} : Left H := { results := [], args := [] }

/-- 'laws.FnExactWeighText': WHATEVER THE INPUT: true; the input reads as it did. -/
def fnExactWeighTextSpec : ChangeSpec := { name := "fnExactWeighText", fn := fun _ => fun
  | [d] => { results := [.lit (.bool true)], args := [d] }
  | _ => none }
def fnExactWeighTextRow : OpenClaim := { program := "ytnnaiaiddjkjnaa", sum := "0ead07e716fac773194759b45ef65d04d82601eaa7f402b77bd4ef24dd57a7da", func := "loop.example/quantifiers/laws.FnExactWeighText", spec := "fnExactWeighText", apart := false }
def FnExactWeighTextSaid : Prop := fnExactWeighTextRow.holds Try.pinned (OpenSpec.ofChange fnExactWeighTextSpec)

/-- ITS FALSE NEIGHBOUR: 'it returns false'. Refute it at one input. -/
def fnExactWeighTextWrong : ChangeSpec := { name := "fnExactWeighText", fn := fun _ => fun
  | [d] => { results := [.lit (.bool false)], args := [d] }
  | _ => none }
def FnExactWeighTextWrongFalsely : Prop := fnExactWeighTextRow.holds Try.pinned (OpenSpec.ofChange fnExactWeighTextWrong)

/-- 'laws.FnExactReadWeigh': WHATEVER THE INPUT: true; the input reads as it did. -/
def fnExactReadWeighSpec : ChangeSpec := { name := "fnExactReadWeigh", fn := fun _ => fun
  | [d] => { results := [.lit (.bool true)], args := [d] }
  | _ => none }
def fnExactReadWeighRow : OpenClaim := { program := "ytnnaiaiddjkjnaa", sum := "0ead07e716fac773194759b45ef65d04d82601eaa7f402b77bd4ef24dd57a7da", func := "loop.example/quantifiers/laws.FnExactReadWeigh", spec := "fnExactReadWeigh", apart := false }
def FnExactReadWeighSaid : Prop := fnExactReadWeighRow.holds Try.pinned (OpenSpec.ofChange fnExactReadWeighSpec)

/-- ITS FALSE NEIGHBOUR: 'it returns false'. Refute it at one input. -/
def fnExactReadWeighWrong : ChangeSpec := { name := "fnExactReadWeigh", fn := fun _ => fun
  | [d] => { results := [.lit (.bool false)], args := [d] }
  | _ => none }
def FnExactReadWeighWrongFalsely : Prop := fnExactReadWeighRow.holds Try.pinned (OpenSpec.ofChange fnExactReadWeighWrong)

/-- 'laws.FnWeighText': WHATEVER THE INPUT: true; the input reads as it did. -/
def fnWeighTextSpec : ChangeSpec := { name := "fnWeighText", fn := fun _ => fun
  | [d] => { results := [.lit (.bool true)], args := [d] }
  | _ => none }
def fnWeighTextRow : OpenClaim := { program := "ytnnaiaiddjkjnaa", sum := "0ead07e716fac773194759b45ef65d04d82601eaa7f402b77bd4ef24dd57a7da", func := "loop.example/quantifiers/laws.FnWeighText", spec := "fnWeighText", apart := false }
def FnWeighTextSaid : Prop := fnWeighTextRow.holds Try.pinned (OpenSpec.ofChange fnWeighTextSpec)

/-- ITS FALSE NEIGHBOUR: 'it returns false'. Refute it at one input. -/
def fnWeighTextWrong : ChangeSpec := { name := "fnWeighText", fn := fun _ => fun
  | [d] => { results := [.lit (.bool false)], args := [d] }
  | _ => none }
def FnWeighTextWrongFalsely : Prop := fnWeighTextRow.holds Try.pinned (OpenSpec.ofChange fnWeighTextWrong)

/-- 'laws.FnReadWeigh': WHATEVER THE INPUT: true; the input reads as it did. -/
def fnReadWeighSpec : ChangeSpec := { name := "fnReadWeigh", fn := fun _ => fun
  | [d] => { results := [.lit (.bool true)], args := [d] }
  | _ => none }
def fnReadWeighRow : OpenClaim := { program := "ytnnaiaiddjkjnaa", sum := "0ead07e716fac773194759b45ef65d04d82601eaa7f402b77bd4ef24dd57a7da", func := "loop.example/quantifiers/laws.FnReadWeigh", spec := "fnReadWeigh", apart := false }
def FnReadWeighSaid : Prop := fnReadWeighRow.holds Try.pinned (OpenSpec.ofChange fnReadWeighSpec)

/-- ITS FALSE NEIGHBOUR: 'it returns false'. Refute it at one input. -/
def fnReadWeighWrong : ChangeSpec := { name := "fnReadWeigh", fn := fun _ => fun
  | [d] => { results := [.lit (.bool false)], args := [d] }
  | _ => none }
def FnReadWeighWrongFalsely : Prop := fnReadWeighRow.holds Try.pinned (OpenSpec.ofChange fnReadWeighWrong)

/-- 'laws.FnDeskNew': WHATEVER THE INPUT: true; the input reads as it did. -/
def fnDeskNewSpec : ChangeSpec := { name := "fnDeskNew", fn := fun _ => fun
  | [d] => { results := [.lit (.bool true)], args := [d] }
  | _ => none }
def fnDeskNewRow : OpenClaim := { program := "ytnnaiaiddjkjnaa", sum := "0ead07e716fac773194759b45ef65d04d82601eaa7f402b77bd4ef24dd57a7da", func := "loop.example/quantifiers/laws.FnDeskNew", spec := "fnDeskNew", unfollowed := true, recurses := true, apart := false }
def FnDeskNewSaid : Prop := fnDeskNewRow.holds Try.pinned (OpenSpec.ofChange fnDeskNewSpec)

/-- ITS FALSE NEIGHBOUR: 'it returns false'. Refute it at one input. -/
def fnDeskNewWrong : ChangeSpec := { name := "fnDeskNew", fn := fun _ => fun
  | [d] => { results := [.lit (.bool false)], args := [d] }
  | _ => none }
def FnDeskNewWrongFalsely : Prop := fnDeskNewRow.holds Try.pinned (OpenSpec.ofChange fnDeskNewWrong)

/-- 'laws.FnExactDeskValid': WHATEVER THE INPUT: true; the input reads as it did. -/
def fnExactDeskValidSpec : ChangeSpec := { name := "fnExactDeskValid", fn := fun _ => fun
  | [d] => { results := [.lit (.bool true)], args := [d] }
  | _ => none }
def fnExactDeskValidRow : OpenClaim := { program := "ytnnaiaiddjkjnaa", sum := "0ead07e716fac773194759b45ef65d04d82601eaa7f402b77bd4ef24dd57a7da", func := "loop.example/quantifiers/laws.FnExactDeskValid", spec := "fnExactDeskValid", unfollowed := true, recurses := true, apart := false }
def FnExactDeskValidSaid : Prop := fnExactDeskValidRow.holds Try.pinned (OpenSpec.ofChange fnExactDeskValidSpec)

/-- ITS FALSE NEIGHBOUR: 'it returns false'. Refute it at one input. -/
def fnExactDeskValidWrong : ChangeSpec := { name := "fnExactDeskValid", fn := fun _ => fun
  | [d] => { results := [.lit (.bool false)], args := [d] }
  | _ => none }
def FnExactDeskValidWrongFalsely : Prop := fnExactDeskValidRow.holds Try.pinned (OpenSpec.ofChange fnExactDeskValidWrong)

/-- 'laws.FnExactDeskNew': WHATEVER THE INPUT: true; the input reads as it did. -/
def fnExactDeskNewSpec : ChangeSpec := { name := "fnExactDeskNew", fn := fun _ => fun
  | [d] => { results := [.lit (.bool true)], args := [d] }
  | _ => none }
def fnExactDeskNewRow : OpenClaim := { program := "ytnnaiaiddjkjnaa", sum := "0ead07e716fac773194759b45ef65d04d82601eaa7f402b77bd4ef24dd57a7da", func := "loop.example/quantifiers/laws.FnExactDeskNew", spec := "fnExactDeskNew", apart := false }
def FnExactDeskNewSaid : Prop := fnExactDeskNewRow.holds Try.pinned (OpenSpec.ofChange fnExactDeskNewSpec)

/-- ITS FALSE NEIGHBOUR: 'it returns false'. Refute it at one input. -/
def fnExactDeskNewWrong : ChangeSpec := { name := "fnExactDeskNew", fn := fun _ => fun
  | [d] => { results := [.lit (.bool false)], args := [d] }
  | _ => none }
def FnExactDeskNewWrongFalsely : Prop := fnExactDeskNewRow.holds Try.pinned (OpenSpec.ofChange fnExactDeskNewWrong)

/-- 'laws.FnDeskValid': WHATEVER THE INPUT: true; the input reads as it did. -/
def fnDeskValidSpec : ChangeSpec := { name := "fnDeskValid", fn := fun _ => fun
  | [d] => { results := [.lit (.bool true)], args := [d] }
  | _ => none }
def fnDeskValidRow : OpenClaim := { program := "ytnnaiaiddjkjnaa", sum := "0ead07e716fac773194759b45ef65d04d82601eaa7f402b77bd4ef24dd57a7da", func := "loop.example/quantifiers/laws.FnDeskValid", spec := "fnDeskValid", unfollowed := true, recurses := true, apart := false }
def FnDeskValidSaid : Prop := fnDeskValidRow.holds Try.pinned (OpenSpec.ofChange fnDeskValidSpec)

/-- ITS FALSE NEIGHBOUR: 'it returns false'. Refute it at one input. -/
def fnDeskValidWrong : ChangeSpec := { name := "fnDeskValid", fn := fun _ => fun
  | [d] => { results := [.lit (.bool false)], args := [d] }
  | _ => none }
def FnDeskValidWrongFalsely : Prop := fnDeskValidRow.holds Try.pinned (OpenSpec.ofChange fnDeskValidWrong)

/-- 'laws.FnDeskRun': WHATEVER THE INPUT: true; the input reads as it did. -/
def fnDeskRunSpec : ChangeSpec := { name := "fnDeskRun", fn := fun _ => fun
  | [d] => { results := [.lit (.bool true)], args := [d] }
  | _ => none }
def fnDeskRunRow : OpenClaim := { program := "ytnnaiaiddjkjnaa", sum := "0ead07e716fac773194759b45ef65d04d82601eaa7f402b77bd4ef24dd57a7da", func := "loop.example/quantifiers/laws.FnDeskRun", spec := "fnDeskRun", unfollowed := true, recurses := true, apart := false }
def FnDeskRunSaid : Prop := fnDeskRunRow.holds Try.pinned (OpenSpec.ofChange fnDeskRunSpec)

/-- ITS FALSE NEIGHBOUR: 'it returns false'. Refute it at one input. -/
def fnDeskRunWrong : ChangeSpec := { name := "fnDeskRun", fn := fun _ => fun
  | [d] => { results := [.lit (.bool false)], args := [d] }
  | _ => none }
def FnDeskRunWrongFalsely : Prop := fnDeskRunRow.holds Try.pinned (OpenSpec.ofChange fnDeskRunWrong)

/-- 'laws.FnExactDeskDo': WHATEVER THE INPUT: true; the input reads as it did. -/
def fnExactDeskDoSpec : ChangeSpec := { name := "fnExactDeskDo", fn := fun _ => fun
  | [d1, d2] => { results := [.lit (.bool true)], args := [d1, d2] }
  | _ => none }
def fnExactDeskDoRow : OpenClaim := { program := "ytnnaiaiddjkjnaa", sum := "0ead07e716fac773194759b45ef65d04d82601eaa7f402b77bd4ef24dd57a7da", func := "loop.example/quantifiers/laws.FnExactDeskDo", spec := "fnExactDeskDo", unfollowed := true, recurses := true, apart := false }
def FnExactDeskDoSaid : Prop := fnExactDeskDoRow.holds Try.pinned (OpenSpec.ofChange fnExactDeskDoSpec)

/-- ITS FALSE NEIGHBOUR: 'it returns false'. Refute it at one input. -/
def fnExactDeskDoWrong : ChangeSpec := { name := "fnExactDeskDo", fn := fun _ => fun
  | [d1, d2] => { results := [.lit (.bool false)], args := [d1, d2] }
  | _ => none }
def FnExactDeskDoWrongFalsely : Prop := fnExactDeskDoRow.holds Try.pinned (OpenSpec.ofChange fnExactDeskDoWrong)

/-- 'laws.FnExactDeskRun': WHATEVER THE INPUT: true; the input reads as it did. -/
def fnExactDeskRunSpec : ChangeSpec := { name := "fnExactDeskRun", fn := fun _ => fun
  | [d1, d2] => { results := [.lit (.bool true)], args := [d1, d2] }
  | _ => none }
def fnExactDeskRunRow : OpenClaim := { program := "ytnnaiaiddjkjnaa", sum := "0ead07e716fac773194759b45ef65d04d82601eaa7f402b77bd4ef24dd57a7da", func := "loop.example/quantifiers/laws.FnExactDeskRun", spec := "fnExactDeskRun", unfollowed := true, recurses := true, apart := false }
def FnExactDeskRunSaid : Prop := fnExactDeskRunRow.holds Try.pinned (OpenSpec.ofChange fnExactDeskRunSpec)

/-- ITS FALSE NEIGHBOUR: 'it returns false'. Refute it at one input. -/
def fnExactDeskRunWrong : ChangeSpec := { name := "fnExactDeskRun", fn := fun _ => fun
  | [d1, d2] => { results := [.lit (.bool false)], args := [d1, d2] }
  | _ => none }
def FnExactDeskRunWrongFalsely : Prop := fnExactDeskRunRow.holds Try.pinned (OpenSpec.ofChange fnExactDeskRunWrong)

/- THE SECOND FORM. 'bulk': how many values and letters a reading holds, each counted each time it is reached (what is shared counts as often as it is met; a slice's spare places count too). A statement '..UptoSaid' is the law's where the arguments, and the package variables that the reading takes, are together of bulk at most 1048576: NARROWER than '..Said'. Prove '..Said' where nothing that the law and all that it calls make is longer than what came in: it says more and counts as full. Else prove '..UptoSaid'. A law counts once. -/
mutual
def uptoBulk {H : Type} : DataW H → Nat
  | .lit (.string bytes) => bytes.length + 1
  | .lit _ => 1
  | .nil => 1
  | .ptr d => uptoBulk d + 1
  | .slice elems spare => uptoBulkAll elems + uptoBulkAll spare + 1
  | .agg parts => uptoBulkAll parts + 1
  | .iface _ d => uptoBulk d + 1
  | .map entries => uptoBulkEntries entries + 1
  | .held _ => 1
def uptoBulkAll {H : Type} : List (DataW H) → Nat
  | [] => 0
  | d :: r => uptoBulk d + uptoBulkAll r
def uptoBulkEntries {H : Type} : List (Lit × DataW H) → Nat
  | [] => 0
  | x :: r => uptoBulkEntry x + uptoBulkEntries r
def uptoBulkEntry {H : Type} : Lit × DataW H → Nat
  | (.string bytes, d) => bytes.length + uptoBulk d + 1
  | (_, d) => uptoBulk d + 1
 end
def uptoSmall : (H : Type) → List (DataW H) → Bool := fun _ ds => decide (uptoBulkAll ds ≤ 1048576)
def OpenSpec.upto (s : _root_.Go.ChangeSpec) : _root_.Go.OpenSpec := { _root_.Go.OpenSpec.ofChange s with cond := some uptoSmall }

/-- 'laws.FnExactWeighText', WHERE WHAT IT READS IS OF BULK AT MOST 1048576: true; the input reads as it did. -/
def fnExactWeighTextUptoRow : OpenClaim := { program := "ytnnaiaiddjkjnaa", sum := "0ead07e716fac773194759b45ef65d04d82601eaa7f402b77bd4ef24dd57a7da", func := "loop.example/quantifiers/laws.FnExactWeighText", spec := "fnExactWeighText", apart := false, narrowed := true }
def FnExactWeighTextUptoSaid : Prop := fnExactWeighTextUptoRow.holds Try.pinned (OpenSpec.upto fnExactWeighTextSpec)

/-- 'laws.FnExactReadWeigh', WHERE WHAT IT READS IS OF BULK AT MOST 1048576: true; the input reads as it did. -/
def fnExactReadWeighUptoRow : OpenClaim := { program := "ytnnaiaiddjkjnaa", sum := "0ead07e716fac773194759b45ef65d04d82601eaa7f402b77bd4ef24dd57a7da", func := "loop.example/quantifiers/laws.FnExactReadWeigh", spec := "fnExactReadWeigh", apart := false, narrowed := true }
def FnExactReadWeighUptoSaid : Prop := fnExactReadWeighUptoRow.holds Try.pinned (OpenSpec.upto fnExactReadWeighSpec)

/-- 'laws.FnWeighText', WHERE WHAT IT READS IS OF BULK AT MOST 1048576: true; the input reads as it did. -/
def fnWeighTextUptoRow : OpenClaim := { program := "ytnnaiaiddjkjnaa", sum := "0ead07e716fac773194759b45ef65d04d82601eaa7f402b77bd4ef24dd57a7da", func := "loop.example/quantifiers/laws.FnWeighText", spec := "fnWeighText", apart := false, narrowed := true }
def FnWeighTextUptoSaid : Prop := fnWeighTextUptoRow.holds Try.pinned (OpenSpec.upto fnWeighTextSpec)

/-- 'laws.FnReadWeigh', WHERE WHAT IT READS IS OF BULK AT MOST 1048576: true; the input reads as it did. -/
def fnReadWeighUptoRow : OpenClaim := { program := "ytnnaiaiddjkjnaa", sum := "0ead07e716fac773194759b45ef65d04d82601eaa7f402b77bd4ef24dd57a7da", func := "loop.example/quantifiers/laws.FnReadWeigh", spec := "fnReadWeigh", apart := false, narrowed := true }
def FnReadWeighUptoSaid : Prop := fnReadWeighUptoRow.holds Try.pinned (OpenSpec.upto fnReadWeighSpec)

/-- 'laws.FnDeskNew', WHERE WHAT IT READS IS OF BULK AT MOST 1048576: true; the input reads as it did. -/
def fnDeskNewUptoRow : OpenClaim := { program := "ytnnaiaiddjkjnaa", sum := "0ead07e716fac773194759b45ef65d04d82601eaa7f402b77bd4ef24dd57a7da", func := "loop.example/quantifiers/laws.FnDeskNew", spec := "fnDeskNew", unfollowed := true, recurses := true, apart := false, narrowed := true }
def FnDeskNewUptoSaid : Prop := fnDeskNewUptoRow.holds Try.pinned (OpenSpec.upto fnDeskNewSpec)

/-- 'laws.FnExactDeskValid', WHERE WHAT IT READS IS OF BULK AT MOST 1048576: true; the input reads as it did. -/
def fnExactDeskValidUptoRow : OpenClaim := { program := "ytnnaiaiddjkjnaa", sum := "0ead07e716fac773194759b45ef65d04d82601eaa7f402b77bd4ef24dd57a7da", func := "loop.example/quantifiers/laws.FnExactDeskValid", spec := "fnExactDeskValid", unfollowed := true, recurses := true, apart := false, narrowed := true }
def FnExactDeskValidUptoSaid : Prop := fnExactDeskValidUptoRow.holds Try.pinned (OpenSpec.upto fnExactDeskValidSpec)

/-- 'laws.FnExactDeskNew', WHERE WHAT IT READS IS OF BULK AT MOST 1048576: true; the input reads as it did. -/
def fnExactDeskNewUptoRow : OpenClaim := { program := "ytnnaiaiddjkjnaa", sum := "0ead07e716fac773194759b45ef65d04d82601eaa7f402b77bd4ef24dd57a7da", func := "loop.example/quantifiers/laws.FnExactDeskNew", spec := "fnExactDeskNew", apart := false, narrowed := true }
def FnExactDeskNewUptoSaid : Prop := fnExactDeskNewUptoRow.holds Try.pinned (OpenSpec.upto fnExactDeskNewSpec)

/-- 'laws.FnDeskValid', WHERE WHAT IT READS IS OF BULK AT MOST 1048576: true; the input reads as it did. -/
def fnDeskValidUptoRow : OpenClaim := { program := "ytnnaiaiddjkjnaa", sum := "0ead07e716fac773194759b45ef65d04d82601eaa7f402b77bd4ef24dd57a7da", func := "loop.example/quantifiers/laws.FnDeskValid", spec := "fnDeskValid", unfollowed := true, recurses := true, apart := false, narrowed := true }
def FnDeskValidUptoSaid : Prop := fnDeskValidUptoRow.holds Try.pinned (OpenSpec.upto fnDeskValidSpec)

/-- 'laws.FnDeskRun', WHERE WHAT IT READS IS OF BULK AT MOST 1048576: true; the input reads as it did. -/
def fnDeskRunUptoRow : OpenClaim := { program := "ytnnaiaiddjkjnaa", sum := "0ead07e716fac773194759b45ef65d04d82601eaa7f402b77bd4ef24dd57a7da", func := "loop.example/quantifiers/laws.FnDeskRun", spec := "fnDeskRun", unfollowed := true, recurses := true, apart := false, narrowed := true }
def FnDeskRunUptoSaid : Prop := fnDeskRunUptoRow.holds Try.pinned (OpenSpec.upto fnDeskRunSpec)

/-- 'laws.FnExactDeskDo', WHERE WHAT IT READS IS OF BULK AT MOST 1048576: true; the input reads as it did. -/
def fnExactDeskDoUptoRow : OpenClaim := { program := "ytnnaiaiddjkjnaa", sum := "0ead07e716fac773194759b45ef65d04d82601eaa7f402b77bd4ef24dd57a7da", func := "loop.example/quantifiers/laws.FnExactDeskDo", spec := "fnExactDeskDo", unfollowed := true, recurses := true, apart := false, narrowed := true }
def FnExactDeskDoUptoSaid : Prop := fnExactDeskDoUptoRow.holds Try.pinned (OpenSpec.upto fnExactDeskDoSpec)

/-- 'laws.FnExactDeskRun', WHERE WHAT IT READS IS OF BULK AT MOST 1048576: true; the input reads as it did. -/
def fnExactDeskRunUptoRow : OpenClaim := { program := "ytnnaiaiddjkjnaa", sum := "0ead07e716fac773194759b45ef65d04d82601eaa7f402b77bd4ef24dd57a7da", func := "loop.example/quantifiers/laws.FnExactDeskRun", spec := "fnExactDeskRun", unfollowed := true, recurses := true, apart := false, narrowed := true }
def FnExactDeskRunUptoSaid : Prop := fnExactDeskRunUptoRow.holds Try.pinned (OpenSpec.upto fnExactDeskRunSpec)

end Rows
end Go.Proofs.Ytnnaiaiddjkjnaa
