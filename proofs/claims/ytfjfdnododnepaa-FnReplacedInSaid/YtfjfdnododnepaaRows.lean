/-
  No cell of these rows narrows 'for every input' (looked for: loops, veiled, ifaces, maps, wideKeys, modest, calm, conditions, laid).
  DERIVED. THE GIVEN ROWS OF THIS SEAT. 10 by the template 'for every input the law returns true; each argument reads behind the call as it read before'; 0 by the template 'total and deterministic' (their statements: YtfjfdnododnepaaTotals.lean).
  GIVEN WITH THE SEED: the statements are not yours to turn. If you find one false, say at which input.
  Laid BY PROGRAM, IN A SANDBOX (cutbox-rows.mjs): the forced cells as the released guide's own fill.sh prints them over the translation 02246fd97d0d2341… (all of the seat's roots in one cut). By AI agents, Wed Nov 11 2026. No macro, syntax, notation, axiom, sorry.
-/
import Derived.Test.YtfjfdnododnepaaChecked
import GoSem.Claim
import GoSem.ClaimJoined
import GoSem.ClaimMapViews
import Derived.JoinedTies
import Derived.KernelRfl
namespace Go.Proofs.Ytfjfdnododnepaa
/- THE CELL 'sum', in the pinned program and in every row, IS THE sha256 OF THE DUMP (.gsa) THAT YtfjfdnododnepaaProg.lean LOADS. Nothing in Lean hashes anything: it is a label: what it is worth is what the hold of that sum in a sandbox is worth. -/
noncomputable def Try.pinned : Pinned := { name := "ytfjfdnododnepaa", sum := "02246fd97d0d23416a79db4f34dbef067237fea728e3d3e7718c2dcdaf3d7aa1", checked := Try.checked }
namespace Rows
def none {H : Type} : Left H := { results := [], args := [] }

/-- 'laws.FnExactSentenceOk': WHATEVER THE INPUT: true; the input reads as it did. -/
def fnExactSentenceOkSpec : ChangeSpec := { name := "fnExactSentenceOk", fn := fun _ => fun
  | [d] => { results := [.lit (.bool true)], args := [d] }
  | _ => none }
def fnExactSentenceOkRow : OpenClaim := { program := "ytfjfdnododnepaa", sum := "02246fd97d0d23416a79db4f34dbef067237fea728e3d3e7718c2dcdaf3d7aa1", func := "loop.example/quantifiers/laws.FnExactSentenceOk", spec := "fnExactSentenceOk", inPlace := ["internal/bytealg.IndexByteString"], unfollowed := true, recurses := true, apart := false }
def FnExactSentenceOkSaid : Prop := fnExactSentenceOkRow.holds Try.pinned (OpenSpec.ofChange fnExactSentenceOkSpec)

/-- ITS FALSE NEIGHBOUR: 'it returns false'. Refute it at one input. -/
def fnExactSentenceOkWrong : ChangeSpec := { name := "fnExactSentenceOk", fn := fun _ => fun
  | [d] => { results := [.lit (.bool false)], args := [d] }
  | _ => none }
def FnExactSentenceOkWrongFalsely : Prop := fnExactSentenceOkRow.holds Try.pinned (OpenSpec.ofChange fnExactSentenceOkWrong)

/-- 'laws.FnExactLetterAt': WHATEVER THE INPUT: true; the input reads as it did. -/
def fnExactLetterAtSpec : ChangeSpec := { name := "fnExactLetterAt", fn := fun _ => fun
  | [d1, d2] => { results := [.lit (.bool true)], args := [d1, d2] }
  | _ => none }
def fnExactLetterAtRow : OpenClaim := { program := "ytfjfdnododnepaa", sum := "02246fd97d0d23416a79db4f34dbef067237fea728e3d3e7718c2dcdaf3d7aa1", func := "loop.example/quantifiers/laws.FnExactLetterAt", spec := "fnExactLetterAt", inPlace := ["internal/bytealg.IndexByteString"], unfollowed := true, recurses := true, apart := false }
def FnExactLetterAtSaid : Prop := fnExactLetterAtRow.holds Try.pinned (OpenSpec.ofChange fnExactLetterAtSpec)

/-- ITS FALSE NEIGHBOUR: 'it returns false'. Refute it at one input. -/
def fnExactLetterAtWrong : ChangeSpec := { name := "fnExactLetterAt", fn := fun _ => fun
  | [d1, d2] => { results := [.lit (.bool false)], args := [d1, d2] }
  | _ => none }
def FnExactLetterAtWrongFalsely : Prop := fnExactLetterAtRow.holds Try.pinned (OpenSpec.ofChange fnExactLetterAtWrong)

/-- 'laws.FnExactReplacedIn': WHATEVER THE INPUT: true; the input reads as it did. -/
def fnExactReplacedInSpec : ChangeSpec := { name := "fnExactReplacedIn", fn := fun _ => fun
  | [d1, d2, d3] => { results := [.lit (.bool true)], args := [d1, d2, d3] }
  | _ => none }
def fnExactReplacedInRow : OpenClaim := { program := "ytfjfdnododnepaa", sum := "02246fd97d0d23416a79db4f34dbef067237fea728e3d3e7718c2dcdaf3d7aa1", func := "loop.example/quantifiers/laws.FnExactReplacedIn", spec := "fnExactReplacedIn", inPlace := ["internal/bytealg.IndexByteString"], unfollowed := true, recurses := true, apart := false }
def FnExactReplacedInSaid : Prop := fnExactReplacedInRow.holds Try.pinned (OpenSpec.ofChange fnExactReplacedInSpec)

/-- ITS FALSE NEIGHBOUR: 'it returns false'. Refute it at one input. -/
def fnExactReplacedInWrong : ChangeSpec := { name := "fnExactReplacedIn", fn := fun _ => fun
  | [d1, d2, d3] => { results := [.lit (.bool false)], args := [d1, d2, d3] }
  | _ => none }
def FnExactReplacedInWrongFalsely : Prop := fnExactReplacedInRow.holds Try.pinned (OpenSpec.ofChange fnExactReplacedInWrong)

/-- 'laws.FnExactMarksOf': WHATEVER THE INPUT: true; the input reads as it did. -/
def fnExactMarksOfSpec : ChangeSpec := { name := "fnExactMarksOf", fn := fun _ => fun
  | [d] => { results := [.lit (.bool true)], args := [d] }
  | _ => none }
def fnExactMarksOfRow : OpenClaim := { program := "ytfjfdnododnepaa", sum := "02246fd97d0d23416a79db4f34dbef067237fea728e3d3e7718c2dcdaf3d7aa1", func := "loop.example/quantifiers/laws.FnExactMarksOf", spec := "fnExactMarksOf", inPlace := ["internal/bytealg.IndexByteString"], unfollowed := true, recurses := true, apart := false }
def FnExactMarksOfSaid : Prop := fnExactMarksOfRow.holds Try.pinned (OpenSpec.ofChange fnExactMarksOfSpec)

/-- ITS FALSE NEIGHBOUR: 'it returns false'. Refute it at one input. -/
def fnExactMarksOfWrong : ChangeSpec := { name := "fnExactMarksOf", fn := fun _ => fun
  | [d] => { results := [.lit (.bool false)], args := [d] }
  | _ => none }
def FnExactMarksOfWrongFalsely : Prop := fnExactMarksOfRow.holds Try.pinned (OpenSpec.ofChange fnExactMarksOfWrong)

/-- 'laws.FnExactTrueOf': WHATEVER THE INPUT: true; the input reads as it did. -/
def fnExactTrueOfSpec : ChangeSpec := { name := "fnExactTrueOf", fn := fun _ => fun
  | [d1, d2] => { results := [.lit (.bool true)], args := [d1, d2] }
  | _ => none }
def fnExactTrueOfRow : OpenClaim := { program := "ytfjfdnododnepaa", sum := "02246fd97d0d23416a79db4f34dbef067237fea728e3d3e7718c2dcdaf3d7aa1", func := "loop.example/quantifiers/laws.FnExactTrueOf", spec := "fnExactTrueOf", inPlace := ["internal/bytealg.IndexByteString"], unfollowed := true, recurses := true, apart := false }
def FnExactTrueOfSaid : Prop := fnExactTrueOfRow.holds Try.pinned (OpenSpec.ofChange fnExactTrueOfSpec)

/-- ITS FALSE NEIGHBOUR: 'it returns false'. Refute it at one input. -/
def fnExactTrueOfWrong : ChangeSpec := { name := "fnExactTrueOf", fn := fun _ => fun
  | [d1, d2] => { results := [.lit (.bool false)], args := [d1, d2] }
  | _ => none }
def FnExactTrueOfWrongFalsely : Prop := fnExactTrueOfRow.holds Try.pinned (OpenSpec.ofChange fnExactTrueOfWrong)

/-- 'laws.FnSentenceOk': WHATEVER THE INPUT: true; the input reads as it did. -/
def fnSentenceOkSpec : ChangeSpec := { name := "fnSentenceOk", fn := fun _ => fun
  | [d] => { results := [.lit (.bool true)], args := [d] }
  | _ => none }
def fnSentenceOkRow : OpenClaim := { program := "ytfjfdnododnepaa", sum := "02246fd97d0d23416a79db4f34dbef067237fea728e3d3e7718c2dcdaf3d7aa1", func := "loop.example/quantifiers/laws.FnSentenceOk", spec := "fnSentenceOk", inPlace := ["internal/bytealg.IndexByteString"], unfollowed := true, recurses := true, apart := false }
def FnSentenceOkSaid : Prop := fnSentenceOkRow.holds Try.pinned (OpenSpec.ofChange fnSentenceOkSpec)

/-- ITS FALSE NEIGHBOUR: 'it returns false'. Refute it at one input. -/
def fnSentenceOkWrong : ChangeSpec := { name := "fnSentenceOk", fn := fun _ => fun
  | [d] => { results := [.lit (.bool false)], args := [d] }
  | _ => none }
def FnSentenceOkWrongFalsely : Prop := fnSentenceOkRow.holds Try.pinned (OpenSpec.ofChange fnSentenceOkWrong)

/-- 'laws.FnLetterAt': WHATEVER THE INPUT: true; the input reads as it did. -/
def fnLetterAtSpec : ChangeSpec := { name := "fnLetterAt", fn := fun _ => fun
  | [d] => { results := [.lit (.bool true)], args := [d] }
  | _ => none }
def fnLetterAtRow : OpenClaim := { program := "ytfjfdnododnepaa", sum := "02246fd97d0d23416a79db4f34dbef067237fea728e3d3e7718c2dcdaf3d7aa1", func := "loop.example/quantifiers/laws.FnLetterAt", spec := "fnLetterAt", inPlace := ["internal/bytealg.IndexByteString"], unfollowed := true, recurses := true, apart := false }
def FnLetterAtSaid : Prop := fnLetterAtRow.holds Try.pinned (OpenSpec.ofChange fnLetterAtSpec)

/-- ITS FALSE NEIGHBOUR: 'it returns false'. Refute it at one input. -/
def fnLetterAtWrong : ChangeSpec := { name := "fnLetterAt", fn := fun _ => fun
  | [d] => { results := [.lit (.bool false)], args := [d] }
  | _ => none }
def FnLetterAtWrongFalsely : Prop := fnLetterAtRow.holds Try.pinned (OpenSpec.ofChange fnLetterAtWrong)

/-- 'laws.FnMarksOf': WHATEVER THE INPUT: true; the input reads as it did. -/
def fnMarksOfSpec : ChangeSpec := { name := "fnMarksOf", fn := fun _ => fun
  | [d] => { results := [.lit (.bool true)], args := [d] }
  | _ => none }
def fnMarksOfRow : OpenClaim := { program := "ytfjfdnododnepaa", sum := "02246fd97d0d23416a79db4f34dbef067237fea728e3d3e7718c2dcdaf3d7aa1", func := "loop.example/quantifiers/laws.FnMarksOf", spec := "fnMarksOf", inPlace := ["internal/bytealg.IndexByteString"], unfollowed := true, recurses := true, apart := false }
def FnMarksOfSaid : Prop := fnMarksOfRow.holds Try.pinned (OpenSpec.ofChange fnMarksOfSpec)

/-- ITS FALSE NEIGHBOUR: 'it returns false'. Refute it at one input. -/
def fnMarksOfWrong : ChangeSpec := { name := "fnMarksOf", fn := fun _ => fun
  | [d] => { results := [.lit (.bool false)], args := [d] }
  | _ => none }
def FnMarksOfWrongFalsely : Prop := fnMarksOfRow.holds Try.pinned (OpenSpec.ofChange fnMarksOfWrong)

/-- 'laws.FnTrueOf': WHATEVER THE INPUT: true; the input reads as it did. -/
def fnTrueOfSpec : ChangeSpec := { name := "fnTrueOf", fn := fun _ => fun
  | [d] => { results := [.lit (.bool true)], args := [d] }
  | _ => none }
def fnTrueOfRow : OpenClaim := { program := "ytfjfdnododnepaa", sum := "02246fd97d0d23416a79db4f34dbef067237fea728e3d3e7718c2dcdaf3d7aa1", func := "loop.example/quantifiers/laws.FnTrueOf", spec := "fnTrueOf", inPlace := ["internal/bytealg.IndexByteString"], unfollowed := true, recurses := true, apart := false }
def FnTrueOfSaid : Prop := fnTrueOfRow.holds Try.pinned (OpenSpec.ofChange fnTrueOfSpec)

/-- ITS FALSE NEIGHBOUR: 'it returns false'. Refute it at one input. -/
def fnTrueOfWrong : ChangeSpec := { name := "fnTrueOf", fn := fun _ => fun
  | [d] => { results := [.lit (.bool false)], args := [d] }
  | _ => none }
def FnTrueOfWrongFalsely : Prop := fnTrueOfRow.holds Try.pinned (OpenSpec.ofChange fnTrueOfWrong)

/-- 'laws.FnReplacedIn': WHATEVER THE INPUT: true; the input reads as it did. -/
def fnReplacedInSpec : ChangeSpec := { name := "fnReplacedIn", fn := fun _ => fun
  | [d1, d2] => { results := [.lit (.bool true)], args := [d1, d2] }
  | _ => none }
def fnReplacedInRow : OpenClaim := { program := "ytfjfdnododnepaa", sum := "02246fd97d0d23416a79db4f34dbef067237fea728e3d3e7718c2dcdaf3d7aa1", func := "loop.example/quantifiers/laws.FnReplacedIn", spec := "fnReplacedIn", inPlace := ["internal/bytealg.IndexByteString"], unfollowed := true, recurses := true, apart := false }
def FnReplacedInSaid : Prop := fnReplacedInRow.holds Try.pinned (OpenSpec.ofChange fnReplacedInSpec)

/-- ITS FALSE NEIGHBOUR: 'it returns false'. Refute it at one input. -/
def fnReplacedInWrong : ChangeSpec := { name := "fnReplacedIn", fn := fun _ => fun
  | [d1, d2] => { results := [.lit (.bool false)], args := [d1, d2] }
  | _ => none }
def FnReplacedInWrongFalsely : Prop := fnReplacedInRow.holds Try.pinned (OpenSpec.ofChange fnReplacedInWrong)

/- THE SECOND FORM. 'bulk': how many values and letters a reading holds, each counted each time it is reached (what is shared counts as often as it is met; a slice's spare places count too). A statement '..UptoSaid' is the law's where the arguments, and the package variables that the reading takes, are together of bulk at most 1048576: NARROWER than '..Said'. Prove '..Said' where nothing that the law and all that it calls make is longer than what came in: it says more and counts as full. Else prove '..UptoSaid'. A law counts once. -/
mutual
def uptoBulk {H : Type} : DataW H → Nat
  | .lit (.string bytes) => bytes.length + 1
  | .lit _ => 1
  | .nil => 1
  | .ptr d => uptoBulk d + 1
  | .slice elems spare => uptoBulkAll elems + uptoBulkAll spare + 1
  | .agg parts => uptoBulkAll parts + 1
  | .iface _ d => uptoBulk d + 1
  | .map entries => uptoBulkEntries entries + 1
  | .held _ => 1
def uptoBulkAll {H : Type} : List (DataW H) → Nat
  | [] => 0
  | d :: r => uptoBulk d + uptoBulkAll r
def uptoBulkEntries {H : Type} : List (Lit × DataW H) → Nat
  | [] => 0
  | x :: r => uptoBulkEntry x + uptoBulkEntries r
def uptoBulkEntry {H : Type} : Lit × DataW H → Nat
  | (.string bytes, d) => bytes.length + uptoBulk d + 1
  | (_, d) => uptoBulk d + 1
 end
def uptoSmall : (H : Type) → List (DataW H) → Bool := fun _ ds => decide (uptoBulkAll ds ≤ 1048576)
def OpenSpec.upto (s : _root_.Go.ChangeSpec) : _root_.Go.OpenSpec := { _root_.Go.OpenSpec.ofChange s with cond := some uptoSmall }

/-- 'laws.FnExactSentenceOk', WHERE WHAT IT READS IS OF BULK AT MOST 1048576: true; the input reads as it did. -/
def fnExactSentenceOkUptoRow : OpenClaim := { program := "ytfjfdnododnepaa", sum := "02246fd97d0d23416a79db4f34dbef067237fea728e3d3e7718c2dcdaf3d7aa1", func := "loop.example/quantifiers/laws.FnExactSentenceOk", spec := "fnExactSentenceOk", inPlace := ["internal/bytealg.IndexByteString"], unfollowed := true, recurses := true, apart := false, narrowed := true }
def FnExactSentenceOkUptoSaid : Prop := fnExactSentenceOkUptoRow.holds Try.pinned (OpenSpec.upto fnExactSentenceOkSpec)

/-- 'laws.FnExactLetterAt', WHERE WHAT IT READS IS OF BULK AT MOST 1048576: true; the input reads as it did. -/
def fnExactLetterAtUptoRow : OpenClaim := { program := "ytfjfdnododnepaa", sum := "02246fd97d0d23416a79db4f34dbef067237fea728e3d3e7718c2dcdaf3d7aa1", func := "loop.example/quantifiers/laws.FnExactLetterAt", spec := "fnExactLetterAt", inPlace := ["internal/bytealg.IndexByteString"], unfollowed := true, recurses := true, apart := false, narrowed := true }
def FnExactLetterAtUptoSaid : Prop := fnExactLetterAtUptoRow.holds Try.pinned (OpenSpec.upto fnExactLetterAtSpec)

/-- 'laws.FnExactReplacedIn', WHERE WHAT IT READS IS OF BULK AT MOST 1048576: true; the input reads as it did. -/
def fnExactReplacedInUptoRow : OpenClaim := { program := "ytfjfdnododnepaa", sum := "02246fd97d0d23416a79db4f34dbef067237fea728e3d3e7718c2dcdaf3d7aa1", func := "loop.example/quantifiers/laws.FnExactReplacedIn", spec := "fnExactReplacedIn", inPlace := ["internal/bytealg.IndexByteString"], unfollowed := true, recurses := true, apart := false, narrowed := true }
def FnExactReplacedInUptoSaid : Prop := fnExactReplacedInUptoRow.holds Try.pinned (OpenSpec.upto fnExactReplacedInSpec)

/-- 'laws.FnExactMarksOf', WHERE WHAT IT READS IS OF BULK AT MOST 1048576: true; the input reads as it did. -/
def fnExactMarksOfUptoRow : OpenClaim := { program := "ytfjfdnododnepaa", sum := "02246fd97d0d23416a79db4f34dbef067237fea728e3d3e7718c2dcdaf3d7aa1", func := "loop.example/quantifiers/laws.FnExactMarksOf", spec := "fnExactMarksOf", inPlace := ["internal/bytealg.IndexByteString"], unfollowed := true, recurses := true, apart := false, narrowed := true }
def FnExactMarksOfUptoSaid : Prop := fnExactMarksOfUptoRow.holds Try.pinned (OpenSpec.upto fnExactMarksOfSpec)

/-- 'laws.FnExactTrueOf', WHERE WHAT IT READS IS OF BULK AT MOST 1048576: true; the input reads as it did. -/
def fnExactTrueOfUptoRow : OpenClaim := { program := "ytfjfdnododnepaa", sum := "02246fd97d0d23416a79db4f34dbef067237fea728e3d3e7718c2dcdaf3d7aa1", func := "loop.example/quantifiers/laws.FnExactTrueOf", spec := "fnExactTrueOf", inPlace := ["internal/bytealg.IndexByteString"], unfollowed := true, recurses := true, apart := false, narrowed := true }
def FnExactTrueOfUptoSaid : Prop := fnExactTrueOfUptoRow.holds Try.pinned (OpenSpec.upto fnExactTrueOfSpec)

/-- 'laws.FnSentenceOk', WHERE WHAT IT READS IS OF BULK AT MOST 1048576: true; the input reads as it did. -/
def fnSentenceOkUptoRow : OpenClaim := { program := "ytfjfdnododnepaa", sum := "02246fd97d0d23416a79db4f34dbef067237fea728e3d3e7718c2dcdaf3d7aa1", func := "loop.example/quantifiers/laws.FnSentenceOk", spec := "fnSentenceOk", inPlace := ["internal/bytealg.IndexByteString"], unfollowed := true, recurses := true, apart := false, narrowed := true }
def FnSentenceOkUptoSaid : Prop := fnSentenceOkUptoRow.holds Try.pinned (OpenSpec.upto fnSentenceOkSpec)

/-- 'laws.FnLetterAt', WHERE WHAT IT READS IS OF BULK AT MOST 1048576: true; the input reads as it did. -/
def fnLetterAtUptoRow : OpenClaim := { program := "ytfjfdnododnepaa", sum := "02246fd97d0d23416a79db4f34dbef067237fea728e3d3e7718c2dcdaf3d7aa1", func := "loop.example/quantifiers/laws.FnLetterAt", spec := "fnLetterAt", inPlace := ["internal/bytealg.IndexByteString"], unfollowed := true, recurses := true, apart := false, narrowed := true }
def FnLetterAtUptoSaid : Prop := fnLetterAtUptoRow.holds Try.pinned (OpenSpec.upto fnLetterAtSpec)

/-- 'laws.FnMarksOf', WHERE WHAT IT READS IS OF BULK AT MOST 1048576: true; the input reads as it did. -/
def fnMarksOfUptoRow : OpenClaim := { program := "ytfjfdnododnepaa", sum := "02246fd97d0d23416a79db4f34dbef067237fea728e3d3e7718c2dcdaf3d7aa1", func := "loop.example/quantifiers/laws.FnMarksOf", spec := "fnMarksOf", inPlace := ["internal/bytealg.IndexByteString"], unfollowed := true, recurses := true, apart := false, narrowed := true }
def FnMarksOfUptoSaid : Prop := fnMarksOfUptoRow.holds Try.pinned (OpenSpec.upto fnMarksOfSpec)

/-- 'laws.FnTrueOf', WHERE WHAT IT READS IS OF BULK AT MOST 1048576: true; the input reads as it did. -/
def fnTrueOfUptoRow : OpenClaim := { program := "ytfjfdnododnepaa", sum := "02246fd97d0d23416a79db4f34dbef067237fea728e3d3e7718c2dcdaf3d7aa1", func := "loop.example/quantifiers/laws.FnTrueOf", spec := "fnTrueOf", inPlace := ["internal/bytealg.IndexByteString"], unfollowed := true, recurses := true, apart := false, narrowed := true }
def FnTrueOfUptoSaid : Prop := fnTrueOfUptoRow.holds Try.pinned (OpenSpec.upto fnTrueOfSpec)

/-- 'laws.FnReplacedIn', WHERE WHAT IT READS IS OF BULK AT MOST 1048576: true; the input reads as it did. -/
def fnReplacedInUptoRow : OpenClaim := { program := "ytfjfdnododnepaa", sum := "02246fd97d0d23416a79db4f34dbef067237fea728e3d3e7718c2dcdaf3d7aa1", func := "loop.example/quantifiers/laws.FnReplacedIn", spec := "fnReplacedIn", inPlace := ["internal/bytealg.IndexByteString"], unfollowed := true, recurses := true, apart := false, narrowed := true }
def FnReplacedInUptoSaid : Prop := fnReplacedInUptoRow.holds Try.pinned (OpenSpec.upto fnReplacedInSpec)

end Rows
end Go.Proofs.Ytfjfdnododnepaa
