
/- What the statements' own helpers compute: sizes, copies and comparisons of lists of texts. No conditions. -/
import Derived.Test.YtekfjhopngcneaaW8
import Derived.Test.YtekfjhopngcneaaOps3
namespace Go.Proofs.Ytekfjhopngcneaa
set_option maxRecDepth 100000
set_option linter.unusedVariables false
set_option linter.unusedSimpArgs false

/-- A list of texts as it comes in: no bound but the machine's. -/
structure Raw (I : Heap) (oa : Option Addr) (l : List Txt) (c : Nat) : Prop where
  still : ∀ x, oa = some x → Still I x (l.map sv)
  nil : oa = none → l = []
  cap : l.length ≤ c
  len : l.length ≤ 9223372036854775807
  each : ∀ s ∈ l, s.length ≤ 9223372036854775807
theorem Raw.at {I : Heap} {oa : Option Addr} {l : List Txt} {c : Nat} (h : Raw I oa l c) (i : Nat) (hi : i < l.length) : ∃ x, oa = some x ∧ Still I (x.add (i * 1)) [.string (str l[i])] := by
  cases oa with
  | none => have := h.nil rfl; subst this; simp at hi
  | some x =>
    refine ⟨x, rfl, (h.still x rfl).part (i * 1) ?_⟩
    intro j hj
    obtain rfl : j = 0 := by simpa using hj
    simp [hi, sv]

def SZ (left : Nat) (l : List Txt) (I : Heap) (L : Own) : Post := fun v I' L' => ∃ r : Int, v = .int .i64 r ∧ I = I' ∧ L = L' ∧ r ≤ left ∧ (0 ≤ r → l.length ≤ left ∧ ∀ s ∈ l, s.length ≤ left)
def TS (l : List Txt) (L : Own) : Post := fun v I' L' => ∃ x, v = .slice (some x) l.length l.length ∧ Strs I' (some x) l l.length ∧ L = L'
end Go.Proofs.Ytekfjhopngcneaa
