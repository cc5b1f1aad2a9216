/-
  No cell of these rows narrows 'for every input' (looked for: loops, veiled, ifaces, maps, wideKeys, modest, calm, conditions, laid).
  DERIVED. THE GIVEN ROWS OF THIS SEAT. 3 by the template 'for every input the law returns true; each argument reads behind the call as it read before'; 0 by the template 'total and deterministic' (their statements: YtpbnimmbenagpaaGreatTotals.lean).
  GIVEN WITH THE SEED: the statements are not yours to turn. If you find one false, say at which input.
  Laid BY PROGRAM, IN A SANDBOX (cutbox-rows.mjs): the forced cells as the released guide's own fill.sh prints them over the translation 57e7b25d11dac603… (all of the seat's roots in one cut). By AI agents, Wed Nov 11 2026. No macro, syntax, notation, axiom, sorry.
-/
import Derived.Test.YtpbnimmbenagpaaGreatChecked
import GoSem.Claim
import GoSem.ClaimJoined
import GoSem.ClaimMapViews
import Derived.JoinedTies
import Derived.KernelRfl
namespace Go.Proofs.YtpbnimmbenagpaaGreat
/- THE CELL 'sum', in the pinned program and in every row, IS THE sha256 OF THE DUMP (.gsa) THAT YtpbnimmbenagpaaGreatProg.lean LOADS. Nothing in Lean hashes anything: it is a label: what it is worth is what the hold of that sum in a sandbox is worth. -/
noncomputable def Tryz.pinned : Pinned := { name := "ytpbnimmbenagpaagreat", sum := "57e7b25d11dac603c58913e074d9e18f73d3b4c36db5342e17f6742f4cfc28d3", checked := Tryz.checked }
namespace Rows
def none {H : Type} : Left H := { results := [], args := [] }

/-- 'laws.FnLets': WHATEVER THE INPUT: true; the input reads as it did. -/
def fnLetsSpec : ChangeSpec := { name := "fnLets", fn := fun _ => fun
  | [d] => { results := [.lit (.bool true)], args := [d] }
  | _ => none }
def fnLetsRow : OpenClaim := { program := "ytpbnimmbenagpaagreat", sum := "57e7b25d11dac603c58913e074d9e18f73d3b4c36db5342e17f6742f4cfc28d3", func := "loop.example/typedassembly/laws.FnLets", spec := "fnLets", inPlace := ["internal/abi.NoEscape"], recurses := true, apart := false }
def FnLetsSaid : Prop := fnLetsRow.holds Tryz.pinned (OpenSpec.ofChange fnLetsSpec)

/-- ITS FALSE NEIGHBOUR: 'it returns false'. Refute it at one input. -/
def fnLetsWrong : ChangeSpec := { name := "fnLets", fn := fun _ => fun
  | [d] => { results := [.lit (.bool false)], args := [d] }
  | _ => none }
def FnLetsWrongFalsely : Prop := fnLetsRow.holds Tryz.pinned (OpenSpec.ofChange fnLetsWrong)

/-- 'laws.FnPath': WHATEVER THE INPUT: true; the input reads as it did. -/
def fnPathSpec : ChangeSpec := { name := "fnPath", fn := fun _ => fun
  | [d] => { results := [.lit (.bool true)], args := [d] }
  | _ => none }
def fnPathRow : OpenClaim := { program := "ytpbnimmbenagpaagreat", sum := "57e7b25d11dac603c58913e074d9e18f73d3b4c36db5342e17f6742f4cfc28d3", func := "loop.example/typedassembly/laws.FnPath", spec := "fnPath", inPlace := ["internal/abi.NoEscape"], unfollowed := true, recurses := true, apart := false }
def FnPathSaid : Prop := fnPathRow.holds Tryz.pinned (OpenSpec.ofChange fnPathSpec)

/-- ITS FALSE NEIGHBOUR: 'it returns false'. Refute it at one input. -/
def fnPathWrong : ChangeSpec := { name := "fnPath", fn := fun _ => fun
  | [d] => { results := [.lit (.bool false)], args := [d] }
  | _ => none }
def FnPathWrongFalsely : Prop := fnPathRow.holds Tryz.pinned (OpenSpec.ofChange fnPathWrong)

/-- 'laws.FnJoin': WHATEVER THE INPUT: true; the input reads as it did. -/
def fnJoinSpec : ChangeSpec := { name := "fnJoin", fn := fun _ => fun
  | [d] => { results := [.lit (.bool true)], args := [d] }
  | _ => none }
def fnJoinRow : OpenClaim := { program := "ytpbnimmbenagpaagreat", sum := "57e7b25d11dac603c58913e074d9e18f73d3b4c36db5342e17f6742f4cfc28d3", func := "loop.example/typedassembly/laws.FnJoin", spec := "fnJoin", inPlace := ["internal/abi.NoEscape"], recurses := true, apart := false }
def FnJoinSaid : Prop := fnJoinRow.holds Tryz.pinned (OpenSpec.ofChange fnJoinSpec)

/-- ITS FALSE NEIGHBOUR: 'it returns false'. Refute it at one input. -/
def fnJoinWrong : ChangeSpec := { name := "fnJoin", fn := fun _ => fun
  | [d] => { results := [.lit (.bool false)], args := [d] }
  | _ => none }
def FnJoinWrongFalsely : Prop := fnJoinRow.holds Tryz.pinned (OpenSpec.ofChange fnJoinWrong)

/- THE SECOND FORM. 'bulk': how many values and letters a reading holds, each counted each time it is reached (what is shared counts as often as it is met; a slice's spare places count too). A statement '..UptoSaid' is the law's where the arguments, and the package variables that the reading takes, are together of bulk at most 1048576: NARROWER than '..Said'. Prove '..Said' where nothing that the law and all that it calls make is longer than what came in: it says more and counts as full. Else prove '..UptoSaid'. A law counts once. -/
mutual
def uptoBulk {H : Type} : DataW H → Nat
  | .lit (.string bytes) => bytes.length + 1
  | .lit _ => 1
  | .nil => 1
  | .ptr d => uptoBulk d + 1
  | .slice elems spare => uptoBulkAll elems + uptoBulkAll spare + 1
  | .agg parts => uptoBulkAll parts + 1
  | .iface _ d => uptoBulk d + 1
  | .map entries => uptoBulkEntries entries + 1
  | .held _ => 1
def uptoBulkAll {H : Type} : List (DataW H) → Nat
  | [] => 0
  | d :: r => uptoBulk d + uptoBulkAll r
def uptoBulkEntries {H : Type} : List (Lit × DataW H) → Nat
  | [] => 0
  | x :: r => uptoBulkEntry x + uptoBulkEntries r
def uptoBulkEntry {H : Type} : Lit × DataW H → Nat
  | (.string bytes, d) => bytes.length + uptoBulk d + 1
  | (_, d) => uptoBulk d + 1
 end
def uptoSmall : (H : Type) → List (DataW H) → Bool := fun _ ds => decide (uptoBulkAll ds ≤ 1048576)
def OpenSpec.upto (s : _root_.Go.ChangeSpec) : _root_.Go.OpenSpec := { _root_.Go.OpenSpec.ofChange s with cond := some uptoSmall }

/-- 'laws.FnLets', WHERE WHAT IT READS IS OF BULK AT MOST 1048576: true; the input reads as it did. -/
def fnLetsUptoRow : OpenClaim := { program := "ytpbnimmbenagpaagreat", sum := "57e7b25d11dac603c58913e074d9e18f73d3b4c36db5342e17f6742f4cfc28d3", func := "loop.example/typedassembly/laws.FnLets", spec := "fnLets", inPlace := ["internal/abi.NoEscape"], recurses := true, apart := false, narrowed := true }
def FnLetsUptoSaid : Prop := fnLetsUptoRow.holds Tryz.pinned (OpenSpec.upto fnLetsSpec)

/-- 'laws.FnPath', WHERE WHAT IT READS IS OF BULK AT MOST 1048576: true; the input reads as it did. -/
def fnPathUptoRow : OpenClaim := { program := "ytpbnimmbenagpaagreat", sum := "57e7b25d11dac603c58913e074d9e18f73d3b4c36db5342e17f6742f4cfc28d3", func := "loop.example/typedassembly/laws.FnPath", spec := "fnPath", inPlace := ["internal/abi.NoEscape"], unfollowed := true, recurses := true, apart := false, narrowed := true }
def FnPathUptoSaid : Prop := fnPathUptoRow.holds Tryz.pinned (OpenSpec.upto fnPathSpec)

/-- 'laws.FnJoin', WHERE WHAT IT READS IS OF BULK AT MOST 1048576: true; the input reads as it did. -/
def fnJoinUptoRow : OpenClaim := { program := "ytpbnimmbenagpaagreat", sum := "57e7b25d11dac603c58913e074d9e18f73d3b4c36db5342e17f6742f4cfc28d3", func := "loop.example/typedassembly/laws.FnJoin", spec := "fnJoin", inPlace := ["internal/abi.NoEscape"], recurses := true, apart := false, narrowed := true }
def FnJoinUptoSaid : Prop := fnJoinUptoRow.holds Tryz.pinned (OpenSpec.upto fnJoinSpec)

end Rows
end Go.Proofs.YtpbnimmbenagpaaGreat
