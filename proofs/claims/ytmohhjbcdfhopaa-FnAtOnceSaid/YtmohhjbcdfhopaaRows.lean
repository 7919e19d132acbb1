/-
  No cell of these rows narrows 'for every input' (looked for: loops, veiled, ifaces, maps, wideKeys, modest, calm, conditions, laid).
  DERIVED. THE GIVEN ROWS OF THIS SEAT. 14 by the template 'for every input the law returns true; each argument reads behind the call as it read before'; 0 by the template 'total and deterministic' (their statements: YtmohhjbcdfhopaaTotals.lean).
  GIVEN WITH THE SEED: the statements are not yours to turn. If you find one false, say at which input.
  Laid BY PROGRAM, IN A SANDBOX (cutbox-rows.mjs): the forced cells as the released guide's own fill.sh prints them over the translation 511ec33af28402ee… (all of the seat's roots in one cut). By AI agents, Wed Nov 11 2026. No macro, syntax, notation, axiom, sorry.
-/
import Derived.Test.YtmohhjbcdfhopaaChecked
import GoSem.Claim
import GoSem.ClaimJoined
import GoSem.ClaimMapViews
import Derived.JoinedTies
import Derived.KernelRfl
namespace Go.Proofs.Ytmohhjbcdfhopaa
/- THE CELL 'sum', in the pinned program and in every row, IS THE sha256 OF THE DUMP (.gsa) THAT YtmohhjbcdfhopaaProg.lean LOADS. Nothing in Lean hashes anything: it is a label: what it is worth is what the hold of that sum in a sandbox is worth. -/
noncomputable def Try.pinned : Pinned := { name := "ytmohhjbcdfhopaa", sum := "511ec33af28402ee94a2bd0c230495f3d657baff23ea6abd52ac2a4f6eba1e9d", checked := Try.checked }
namespace Rows
def none {H : Type} : Left H := { results := [], args := [] }

/-- 'laws.FnExactPairsOk': WHATEVER THE INPUT: true; the input reads as it did. -/
def fnExactPairsOkSpec : ChangeSpec := { name := "fnExactPairsOk", fn := fun _ => fun
  | [d1, d2, d3] => { results := [.lit (.bool true)], args := [d1, d2, d3] }
  | _ => none }
def fnExactPairsOkRow : OpenClaim := { program := "ytmohhjbcdfhopaa", sum := "511ec33af28402ee94a2bd0c230495f3d657baff23ea6abd52ac2a4f6eba1e9d", func := "loop.example/quantifiers/laws.FnExactPairsOk", spec := "fnExactPairsOk", apart := false }
def FnExactPairsOkSaid : Prop := fnExactPairsOkRow.holds Try.pinned (OpenSpec.ofChange fnExactPairsOkSpec)

/-- ITS FALSE NEIGHBOUR: 'it returns false'. Refute it at one input. -/
def fnExactPairsOkWrong : ChangeSpec := { name := "fnExactPairsOk", fn := fun _ => fun
  | [d1, d2, d3] => { results := [.lit (.bool false)], args := [d1, d2, d3] }
  | _ => none }
def FnExactPairsOkWrongFalsely : Prop := fnExactPairsOkRow.holds Try.pinned (OpenSpec.ofChange fnExactPairsOkWrong)

/-- 'laws.FnExactTurnedPairs': WHATEVER THE INPUT: true; the input reads as it did. -/
def fnExactTurnedPairsSpec : ChangeSpec := { name := "fnExactTurnedPairs", fn := fun _ => fun
  | [d] => { results := [.lit (.bool true)], args := [d] }
  | _ => none }
def fnExactTurnedPairsRow : OpenClaim := { program := "ytmohhjbcdfhopaa", sum := "511ec33af28402ee94a2bd0c230495f3d657baff23ea6abd52ac2a4f6eba1e9d", func := "loop.example/quantifiers/laws.FnExactTurnedPairs", spec := "fnExactTurnedPairs", apart := false }
def FnExactTurnedPairsSaid : Prop := fnExactTurnedPairsRow.holds Try.pinned (OpenSpec.ofChange fnExactTurnedPairsSpec)

/-- ITS FALSE NEIGHBOUR: 'it returns false'. Refute it at one input. -/
def fnExactTurnedPairsWrong : ChangeSpec := { name := "fnExactTurnedPairs", fn := fun _ => fun
  | [d] => { results := [.lit (.bool false)], args := [d] }
  | _ => none }
def FnExactTurnedPairsWrongFalsely : Prop := fnExactTurnedPairsRow.holds Try.pinned (OpenSpec.ofChange fnExactTurnedPairsWrong)

/-- 'laws.FnExactWithinBoth': WHATEVER THE INPUT: true; the input reads as it did. -/
def fnExactWithinBothSpec : ChangeSpec := { name := "fnExactWithinBoth", fn := fun _ => fun
  | [d1, d2, d3] => { results := [.lit (.bool true)], args := [d1, d2, d3] }
  | _ => none }
def fnExactWithinBothRow : OpenClaim := { program := "ytmohhjbcdfhopaa", sum := "511ec33af28402ee94a2bd0c230495f3d657baff23ea6abd52ac2a4f6eba1e9d", func := "loop.example/quantifiers/laws.FnExactWithinBoth", spec := "fnExactWithinBoth", apart := false }
def FnExactWithinBothSaid : Prop := fnExactWithinBothRow.holds Try.pinned (OpenSpec.ofChange fnExactWithinBothSpec)

/-- ITS FALSE NEIGHBOUR: 'it returns false'. Refute it at one input. -/
def fnExactWithinBothWrong : ChangeSpec := { name := "fnExactWithinBoth", fn := fun _ => fun
  | [d1, d2, d3] => { results := [.lit (.bool false)], args := [d1, d2, d3] }
  | _ => none }
def FnExactWithinBothWrongFalsely : Prop := fnExactWithinBothRow.holds Try.pinned (OpenSpec.ofChange fnExactWithinBothWrong)

/-- 'laws.FnPairsOk': WHATEVER THE INPUT: true; the input reads as it did. -/
def fnPairsOkSpec : ChangeSpec := { name := "fnPairsOk", fn := fun _ => fun
  | [d] => { results := [.lit (.bool true)], args := [d] }
  | _ => none }
def fnPairsOkRow : OpenClaim := { program := "ytmohhjbcdfhopaa", sum := "511ec33af28402ee94a2bd0c230495f3d657baff23ea6abd52ac2a4f6eba1e9d", func := "loop.example/quantifiers/laws.FnPairsOk", spec := "fnPairsOk", apart := false }
def FnPairsOkSaid : Prop := fnPairsOkRow.holds Try.pinned (OpenSpec.ofChange fnPairsOkSpec)

/-- ITS FALSE NEIGHBOUR: 'it returns false'. Refute it at one input. -/
def fnPairsOkWrong : ChangeSpec := { name := "fnPairsOk", fn := fun _ => fun
  | [d] => { results := [.lit (.bool false)], args := [d] }
  | _ => none }
def FnPairsOkWrongFalsely : Prop := fnPairsOkRow.holds Try.pinned (OpenSpec.ofChange fnPairsOkWrong)

/-- 'laws.FnTurnedPairs': WHATEVER THE INPUT: true; the input reads as it did. -/
def fnTurnedPairsSpec : ChangeSpec := { name := "fnTurnedPairs", fn := fun _ => fun
  | [d] => { results := [.lit (.bool true)], args := [d] }
  | _ => none }
def fnTurnedPairsRow : OpenClaim := { program := "ytmohhjbcdfhopaa", sum := "511ec33af28402ee94a2bd0c230495f3d657baff23ea6abd52ac2a4f6eba1e9d", func := "loop.example/quantifiers/laws.FnTurnedPairs", spec := "fnTurnedPairs", apart := false }
def FnTurnedPairsSaid : Prop := fnTurnedPairsRow.holds Try.pinned (OpenSpec.ofChange fnTurnedPairsSpec)

/-- ITS FALSE NEIGHBOUR: 'it returns false'. Refute it at one input. -/
def fnTurnedPairsWrong : ChangeSpec := { name := "fnTurnedPairs", fn := fun _ => fun
  | [d] => { results := [.lit (.bool false)], args := [d] }
  | _ => none }
def FnTurnedPairsWrongFalsely : Prop := fnTurnedPairsRow.holds Try.pinned (OpenSpec.ofChange fnTurnedPairsWrong)

/-- 'laws.FnWithinBoth': WHATEVER THE INPUT: true; the input reads as it did. -/
def fnWithinBothSpec : ChangeSpec := { name := "fnWithinBoth", fn := fun _ => fun
  | [d] => { results := [.lit (.bool true)], args := [d] }
  | _ => none }
def fnWithinBothRow : OpenClaim := { program := "ytmohhjbcdfhopaa", sum := "511ec33af28402ee94a2bd0c230495f3d657baff23ea6abd52ac2a4f6eba1e9d", func := "loop.example/quantifiers/laws.FnWithinBoth", spec := "fnWithinBoth", apart := false }
def FnWithinBothSaid : Prop := fnWithinBothRow.holds Try.pinned (OpenSpec.ofChange fnWithinBothSpec)

/-- ITS FALSE NEIGHBOUR: 'it returns false'. Refute it at one input. -/
def fnWithinBothWrong : ChangeSpec := { name := "fnWithinBoth", fn := fun _ => fun
  | [d] => { results := [.lit (.bool false)], args := [d] }
  | _ => none }
def FnWithinBothWrongFalsely : Prop := fnWithinBothRow.holds Try.pinned (OpenSpec.ofChange fnWithinBothWrong)

/-- 'laws.FnExactWhoDo': WHATEVER THE INPUT: true; the input reads as it did. -/
def fnExactWhoDoSpec : ChangeSpec := { name := "fnExactWhoDo", fn := fun _ => fun
  | [d1, d2, d3] => { results := [.lit (.bool true)], args := [d1, d2, d3] }
  | _ => none }
def fnExactWhoDoRow : OpenClaim := { program := "ytmohhjbcdfhopaa", sum := "511ec33af28402ee94a2bd0c230495f3d657baff23ea6abd52ac2a4f6eba1e9d", func := "loop.example/quantifiers/laws.FnExactWhoDo", spec := "fnExactWhoDo", apart := false }
def FnExactWhoDoSaid : Prop := fnExactWhoDoRow.holds Try.pinned (OpenSpec.ofChange fnExactWhoDoSpec)

/-- ITS FALSE NEIGHBOUR: 'it returns false'. Refute it at one input. -/
def fnExactWhoDoWrong : ChangeSpec := { name := "fnExactWhoDo", fn := fun _ => fun
  | [d1, d2, d3] => { results := [.lit (.bool false)], args := [d1, d2, d3] }
  | _ => none }
def FnExactWhoDoWrongFalsely : Prop := fnExactWhoDoRow.holds Try.pinned (OpenSpec.ofChange fnExactWhoDoWrong)

/-- 'laws.FnExactFirstThen': WHATEVER THE INPUT: true; the input reads as it did. -/
def fnExactFirstThenSpec : ChangeSpec := { name := "fnExactFirstThen", fn := fun _ => fun
  | [d1, d2, d3, d4, d5] => { results := [.lit (.bool true)], args := [d1, d2, d3, d4, d5] }
  | _ => none }
def fnExactFirstThenRow : OpenClaim := { program := "ytmohhjbcdfhopaa", sum := "511ec33af28402ee94a2bd0c230495f3d657baff23ea6abd52ac2a4f6eba1e9d", func := "loop.example/quantifiers/laws.FnExactFirstThen", spec := "fnExactFirstThen", apart := false }
def FnExactFirstThenSaid : Prop := fnExactFirstThenRow.holds Try.pinned (OpenSpec.ofChange fnExactFirstThenSpec)

/-- ITS FALSE NEIGHBOUR: 'it returns false'. Refute it at one input. -/
def fnExactFirstThenWrong : ChangeSpec := { name := "fnExactFirstThen", fn := fun _ => fun
  | [d1, d2, d3, d4, d5] => { results := [.lit (.bool false)], args := [d1, d2, d3, d4, d5] }
  | _ => none }
def FnExactFirstThenWrongFalsely : Prop := fnExactFirstThenRow.holds Try.pinned (OpenSpec.ofChange fnExactFirstThenWrong)

/-- 'laws.FnExactSecondThen': WHATEVER THE INPUT: true; the input reads as it did. -/
def fnExactSecondThenSpec : ChangeSpec := { name := "fnExactSecondThen", fn := fun _ => fun
  | [d1, d2, d3, d4, d5] => { results := [.lit (.bool true)], args := [d1, d2, d3, d4, d5] }
  | _ => none }
def fnExactSecondThenRow : OpenClaim := { program := "ytmohhjbcdfhopaa", sum := "511ec33af28402ee94a2bd0c230495f3d657baff23ea6abd52ac2a4f6eba1e9d", func := "loop.example/quantifiers/laws.FnExactSecondThen", spec := "fnExactSecondThen", apart := false }
def FnExactSecondThenSaid : Prop := fnExactSecondThenRow.holds Try.pinned (OpenSpec.ofChange fnExactSecondThenSpec)

/-- ITS FALSE NEIGHBOUR: 'it returns false'. Refute it at one input. -/
def fnExactSecondThenWrong : ChangeSpec := { name := "fnExactSecondThen", fn := fun _ => fun
  | [d1, d2, d3, d4, d5] => { results := [.lit (.bool false)], args := [d1, d2, d3, d4, d5] }
  | _ => none }
def FnExactSecondThenWrongFalsely : Prop := fnExactSecondThenRow.holds Try.pinned (OpenSpec.ofChange fnExactSecondThenWrong)

/-- 'laws.FnExactAtOnce': WHATEVER THE INPUT: true; the input reads as it did. -/
def fnExactAtOnceSpec : ChangeSpec := { name := "fnExactAtOnce", fn := fun _ => fun
  | [d1, d2, d3, d4, d5] => { results := [.lit (.bool true)], args := [d1, d2, d3, d4, d5] }
  | _ => none }
def fnExactAtOnceRow : OpenClaim := { program := "ytmohhjbcdfhopaa", sum := "511ec33af28402ee94a2bd0c230495f3d657baff23ea6abd52ac2a4f6eba1e9d", func := "loop.example/quantifiers/laws.FnExactAtOnce", spec := "fnExactAtOnce", apart := false }
def FnExactAtOnceSaid : Prop := fnExactAtOnceRow.holds Try.pinned (OpenSpec.ofChange fnExactAtOnceSpec)

/-- ITS FALSE NEIGHBOUR: 'it returns false'. Refute it at one input. -/
def fnExactAtOnceWrong : ChangeSpec := { name := "fnExactAtOnce", fn := fun _ => fun
  | [d1, d2, d3, d4, d5] => { results := [.lit (.bool false)], args := [d1, d2, d3, d4, d5] }
  | _ => none }
def FnExactAtOnceWrongFalsely : Prop := fnExactAtOnceRow.holds Try.pinned (OpenSpec.ofChange fnExactAtOnceWrong)

/-- 'laws.FnWhoDo': WHATEVER THE INPUT: true; the input reads as it did. -/
def fnWhoDoSpec : ChangeSpec := { name := "fnWhoDo", fn := fun _ => fun
  | [d] => { results := [.lit (.bool true)], args := [d] }
  | _ => none }
def fnWhoDoRow : OpenClaim := { program := "ytmohhjbcdfhopaa", sum := "511ec33af28402ee94a2bd0c230495f3d657baff23ea6abd52ac2a4f6eba1e9d", func := "loop.example/quantifiers/laws.FnWhoDo", spec := "fnWhoDo", unfollowed := true, recurses := true, apart := false }
def FnWhoDoSaid : Prop := fnWhoDoRow.holds Try.pinned (OpenSpec.ofChange fnWhoDoSpec)

/-- ITS FALSE NEIGHBOUR: 'it returns false'. Refute it at one input. -/
def fnWhoDoWrong : ChangeSpec := { name := "fnWhoDo", fn := fun _ => fun
  | [d] => { results := [.lit (.bool false)], args := [d] }
  | _ => none }
def FnWhoDoWrongFalsely : Prop := fnWhoDoRow.holds Try.pinned (OpenSpec.ofChange fnWhoDoWrong)

/-- 'laws.FnFirstThen': WHATEVER THE INPUT: true; the input reads as it did. -/
def fnFirstThenSpec : ChangeSpec := { name := "fnFirstThen", fn := fun _ => fun
  | [d] => { results := [.lit (.bool true)], args := [d] }
  | _ => none }
def fnFirstThenRow : OpenClaim := { program := "ytmohhjbcdfhopaa", sum := "511ec33af28402ee94a2bd0c230495f3d657baff23ea6abd52ac2a4f6eba1e9d", func := "loop.example/quantifiers/laws.FnFirstThen", spec := "fnFirstThen", unfollowed := true, recurses := true, apart := false }
def FnFirstThenSaid : Prop := fnFirstThenRow.holds Try.pinned (OpenSpec.ofChange fnFirstThenSpec)

/-- ITS FALSE NEIGHBOUR: 'it returns false'. Refute it at one input. -/
def fnFirstThenWrong : ChangeSpec := { name := "fnFirstThen", fn := fun _ => fun
  | [d] => { results := [.lit (.bool false)], args := [d] }
  | _ => none }
def FnFirstThenWrongFalsely : Prop := fnFirstThenRow.holds Try.pinned (OpenSpec.ofChange fnFirstThenWrong)

/-- 'laws.FnSecondThen': WHATEVER THE INPUT: true; the input reads as it did. -/
def fnSecondThenSpec : ChangeSpec := { name := "fnSecondThen", fn := fun _ => fun
  | [d] => { results := [.lit (.bool true)], args := [d] }
  | _ => none }
def fnSecondThenRow : OpenClaim := { program := "ytmohhjbcdfhopaa", sum := "511ec33af28402ee94a2bd0c230495f3d657baff23ea6abd52ac2a4f6eba1e9d", func := "loop.example/quantifiers/laws.FnSecondThen", spec := "fnSecondThen", unfollowed := true, recurses := true, apart := false }
def FnSecondThenSaid : Prop := fnSecondThenRow.holds Try.pinned (OpenSpec.ofChange fnSecondThenSpec)

/-- ITS FALSE NEIGHBOUR: 'it returns false'. Refute it at one input. -/
def fnSecondThenWrong : ChangeSpec := { name := "fnSecondThen", fn := fun _ => fun
  | [d] => { results := [.lit (.bool false)], args := [d] }
  | _ => none }
def FnSecondThenWrongFalsely : Prop := fnSecondThenRow.holds Try.pinned (OpenSpec.ofChange fnSecondThenWrong)

/-- 'laws.FnAtOnce': WHATEVER THE INPUT: true; the input reads as it did. -/
def fnAtOnceSpec : ChangeSpec := { name := "fnAtOnce", fn := fun _ => fun
  | [d] => { results := [.lit (.bool true)], args := [d] }
  | _ => none }
def fnAtOnceRow : OpenClaim := { program := "ytmohhjbcdfhopaa", sum := "511ec33af28402ee94a2bd0c230495f3d657baff23ea6abd52ac2a4f6eba1e9d", func := "loop.example/quantifiers/laws.FnAtOnce", spec := "fnAtOnce", unfollowed := true, recurses := true, apart := false }
def FnAtOnceSaid : Prop := fnAtOnceRow.holds Try.pinned (OpenSpec.ofChange fnAtOnceSpec)

/-- ITS FALSE NEIGHBOUR: 'it returns false'. Refute it at one input. -/
def fnAtOnceWrong : ChangeSpec := { name := "fnAtOnce", fn := fun _ => fun
  | [d] => { results := [.lit (.bool false)], args := [d] }
  | _ => none }
def FnAtOnceWrongFalsely : Prop := fnAtOnceRow.holds Try.pinned (OpenSpec.ofChange fnAtOnceWrong)

/- THE SECOND FORM. 'bulk': how many values and letters a reading holds, each counted each time it is reached (what is shared counts as often as it is met; a slice's spare places count too). A statement '..UptoSaid' is the law's where the arguments, and the package variables that the reading takes, are together of bulk at most 1048576: NARROWER than '..Said'. Prove '..Said' where nothing that the law and all that it calls make is longer than what came in: it says more and counts as full. Else prove '..UptoSaid'. A law counts once. -/
mutual
def uptoBulk {H : Type} : DataW H → Nat
  | .lit (.string bytes) => bytes.length + 1
  | .lit _ => 1
  | .nil => 1
  | .ptr d => uptoBulk d + 1
  | .slice elems spare => uptoBulkAll elems + uptoBulkAll spare + 1
  | .agg parts => uptoBulkAll parts + 1
  | .iface _ d => uptoBulk d + 1
  | .map entries => uptoBulkEntries entries + 1
  | .held _ => 1
def uptoBulkAll {H : Type} : List (DataW H) → Nat
  | [] => 0
  | d :: r => uptoBulk d + uptoBulkAll r
def uptoBulkEntries {H : Type} : List (Lit × DataW H) → Nat
  | [] => 0
  | x :: r => uptoBulkEntry x + uptoBulkEntries r
def uptoBulkEntry {H : Type} : Lit × DataW H → Nat
  | (.string bytes, d) => bytes.length + uptoBulk d + 1
  | (_, d) => uptoBulk d + 1
 end
def uptoSmall : (H : Type) → List (DataW H) → Bool := fun _ ds => decide (uptoBulkAll ds ≤ 1048576)
def OpenSpec.upto (s : _root_.Go.ChangeSpec) : _root_.Go.OpenSpec := { _root_.Go.OpenSpec.ofChange s with cond := some uptoSmall }

/-- 'laws.FnExactPairsOk', WHERE WHAT IT READS IS OF BULK AT MOST 1048576: true; the input reads as it did. -/
def fnExactPairsOkUptoRow : OpenClaim := { program := "ytmohhjbcdfhopaa", sum := "511ec33af28402ee94a2bd0c230495f3d657baff23ea6abd52ac2a4f6eba1e9d", func := "loop.example/quantifiers/laws.FnExactPairsOk", spec := "fnExactPairsOk", apart := false, narrowed := true }
def FnExactPairsOkUptoSaid : Prop := fnExactPairsOkUptoRow.holds Try.pinned (OpenSpec.upto fnExactPairsOkSpec)

/-- 'laws.FnExactTurnedPairs', WHERE WHAT IT READS IS OF BULK AT MOST 1048576: true; the input reads as it did. -/
def fnExactTurnedPairsUptoRow : OpenClaim := { program := "ytmohhjbcdfhopaa", sum := "511ec33af28402ee94a2bd0c230495f3d657baff23ea6abd52ac2a4f6eba1e9d", func := "loop.example/quantifiers/laws.FnExactTurnedPairs", spec := "fnExactTurnedPairs", apart := false, narrowed := true }
def FnExactTurnedPairsUptoSaid : Prop := fnExactTurnedPairsUptoRow.holds Try.pinned (OpenSpec.upto fnExactTurnedPairsSpec)

/-- 'laws.FnExactWithinBoth', WHERE WHAT IT READS IS OF BULK AT MOST 1048576: true; the input reads as it did. -/
def fnExactWithinBothUptoRow : OpenClaim := { program := "ytmohhjbcdfhopaa", sum := "511ec33af28402ee94a2bd0c230495f3d657baff23ea6abd52ac2a4f6eba1e9d", func := "loop.example/quantifiers/laws.FnExactWithinBoth", spec := "fnExactWithinBoth", apart := false, narrowed := true }
def FnExactWithinBothUptoSaid : Prop := fnExactWithinBothUptoRow.holds Try.pinned (OpenSpec.upto fnExactWithinBothSpec)

/-- 'laws.FnPairsOk', WHERE WHAT IT READS IS OF BULK AT MOST 1048576: true; the input reads as it did. -/
def fnPairsOkUptoRow : OpenClaim := { program := "ytmohhjbcdfhopaa", sum := "511ec33af28402ee94a2bd0c230495f3d657baff23ea6abd52ac2a4f6eba1e9d", func := "loop.example/quantifiers/laws.FnPairsOk", spec := "fnPairsOk", apart := false, narrowed := true }
def FnPairsOkUptoSaid : Prop := fnPairsOkUptoRow.holds Try.pinned (OpenSpec.upto fnPairsOkSpec)

/-- 'laws.FnTurnedPairs', WHERE WHAT IT READS IS OF BULK AT MOST 1048576: true; the input reads as it did. -/
def fnTurnedPairsUptoRow : OpenClaim := { program := "ytmohhjbcdfhopaa", sum := "511ec33af28402ee94a2bd0c230495f3d657baff23ea6abd52ac2a4f6eba1e9d", func := "loop.example/quantifiers/laws.FnTurnedPairs", spec := "fnTurnedPairs", apart := false, narrowed := true }
def FnTurnedPairsUptoSaid : Prop := fnTurnedPairsUptoRow.holds Try.pinned (OpenSpec.upto fnTurnedPairsSpec)

/-- 'laws.FnWithinBoth', WHERE WHAT IT READS IS OF BULK AT MOST 1048576: true; the input reads as it did. -/
def fnWithinBothUptoRow : OpenClaim := { program := "ytmohhjbcdfhopaa", sum := "511ec33af28402ee94a2bd0c230495f3d657baff23ea6abd52ac2a4f6eba1e9d", func := "loop.example/quantifiers/laws.FnWithinBoth", spec := "fnWithinBoth", apart := false, narrowed := true }
def FnWithinBothUptoSaid : Prop := fnWithinBothUptoRow.holds Try.pinned (OpenSpec.upto fnWithinBothSpec)

/-- 'laws.FnExactWhoDo', WHERE WHAT IT READS IS OF BULK AT MOST 1048576: true; the input reads as it did. -/
def fnExactWhoDoUptoRow : OpenClaim := { program := "ytmohhjbcdfhopaa", sum := "511ec33af28402ee94a2bd0c230495f3d657baff23ea6abd52ac2a4f6eba1e9d", func := "loop.example/quantifiers/laws.FnExactWhoDo", spec := "fnExactWhoDo", apart := false, narrowed := true }
def FnExactWhoDoUptoSaid : Prop := fnExactWhoDoUptoRow.holds Try.pinned (OpenSpec.upto fnExactWhoDoSpec)

/-- 'laws.FnExactFirstThen', WHERE WHAT IT READS IS OF BULK AT MOST 1048576: true; the input reads as it did. -/
def fnExactFirstThenUptoRow : OpenClaim := { program := "ytmohhjbcdfhopaa", sum := "511ec33af28402ee94a2bd0c230495f3d657baff23ea6abd52ac2a4f6eba1e9d", func := "loop.example/quantifiers/laws.FnExactFirstThen", spec := "fnExactFirstThen", apart := false, narrowed := true }
def FnExactFirstThenUptoSaid : Prop := fnExactFirstThenUptoRow.holds Try.pinned (OpenSpec.upto fnExactFirstThenSpec)

/-- 'laws.FnExactSecondThen', WHERE WHAT IT READS IS OF BULK AT MOST 1048576: true; the input reads as it did. -/
def fnExactSecondThenUptoRow : OpenClaim := { program := "ytmohhjbcdfhopaa", sum := "511ec33af28402ee94a2bd0c230495f3d657baff23ea6abd52ac2a4f6eba1e9d", func := "loop.example/quantifiers/laws.FnExactSecondThen", spec := "fnExactSecondThen", apart := false, narrowed := true }
def FnExactSecondThenUptoSaid : Prop := fnExactSecondThenUptoRow.holds Try.pinned (OpenSpec.upto fnExactSecondThenSpec)

/-- 'laws.FnExactAtOnce', WHERE WHAT IT READS IS OF BULK AT MOST 1048576: true; the input reads as it did. -/
def fnExactAtOnceUptoRow : OpenClaim := { program := "ytmohhjbcdfhopaa", sum := "511ec33af28402ee94a2bd0c230495f3d657baff23ea6abd52ac2a4f6eba1e9d", func := "loop.example/quantifiers/laws.FnExactAtOnce", spec := "fnExactAtOnce", apart := false, narrowed := true }
def FnExactAtOnceUptoSaid : Prop := fnExactAtOnceUptoRow.holds Try.pinned (OpenSpec.upto fnExactAtOnceSpec)

/-- 'laws.FnWhoDo', WHERE WHAT IT READS IS OF BULK AT MOST 1048576: true; the input reads as it did. -/
def fnWhoDoUptoRow : OpenClaim := { program := "ytmohhjbcdfhopaa", sum := "511ec33af28402ee94a2bd0c230495f3d657baff23ea6abd52ac2a4f6eba1e9d", func := "loop.example/quantifiers/laws.FnWhoDo", spec := "fnWhoDo", unfollowed := true, recurses := true, apart := false, narrowed := true }
def FnWhoDoUptoSaid : Prop := fnWhoDoUptoRow.holds Try.pinned (OpenSpec.upto fnWhoDoSpec)

/-- 'laws.FnFirstThen', WHERE WHAT IT READS IS OF BULK AT MOST 1048576: true; the input reads as it did. -/
def fnFirstThenUptoRow : OpenClaim := { program := "ytmohhjbcdfhopaa", sum := "511ec33af28402ee94a2bd0c230495f3d657baff23ea6abd52ac2a4f6eba1e9d", func := "loop.example/quantifiers/laws.FnFirstThen", spec := "fnFirstThen", unfollowed := true, recurses := true, apart := false, narrowed := true }
def FnFirstThenUptoSaid : Prop := fnFirstThenUptoRow.holds Try.pinned (OpenSpec.upto fnFirstThenSpec)

/-- 'laws.FnSecondThen', WHERE WHAT IT READS IS OF BULK AT MOST 1048576: true; the input reads as it did. -/
def fnSecondThenUptoRow : OpenClaim := { program := "ytmohhjbcdfhopaa", sum := "511ec33af28402ee94a2bd0c230495f3d657baff23ea6abd52ac2a4f6eba1e9d", func := "loop.example/quantifiers/laws.FnSecondThen", spec := "fnSecondThen", unfollowed := true, recurses := true, apart := false, narrowed := true }
def FnSecondThenUptoSaid : Prop := fnSecondThenUptoRow.holds Try.pinned (OpenSpec.upto fnSecondThenSpec)

/-- 'laws.FnAtOnce', WHERE WHAT IT READS IS OF BULK AT MOST 1048576: true; the input reads as it did. -/
def fnAtOnceUptoRow : OpenClaim := { program := "ytmohhjbcdfhopaa", sum := "511ec33af28402ee94a2bd0c230495f3d657baff23ea6abd52ac2a4f6eba1e9d", func := "loop.example/quantifiers/laws.FnAtOnce", spec := "fnAtOnce", unfollowed := true, recurses := true, apart := false, narrowed := true }
def FnAtOnceUptoSaid : Prop := fnAtOnceUptoRow.holds Try.pinned (OpenSpec.upto fnAtOnceSpec)

end Rows
end Go.Proofs.Ytmohhjbcdfhopaa
