
/- Environments: reading one, and looking up a name. No conditions. -/
import Derived.Test.YtekfjhopngcneaaW7
namespace Go.Proofs.Ytekfjhopngcneaa
set_option maxRecDepth 100000
set_option linter.unusedVariables false
set_option linter.unusedSimpArgs false

theorem typeOf_true {s : Txt} {t : Tree} {ok : Bool} (h : match parse s with | some t0 => ok = t0.typed ∧ t = t0 | none => ok = false) : typeOf s = bif ok then some t else none := by
  unfold typeOf
  cases hp : parse s with
  | none => rw [hp] at h; simp only at h; subst h; rfl
  | some t0 => rw [hp] at h; obtain ⟨rfl, rfl⟩ := h; rfl
theorem typeOf_text {s : Txt} {t : Tree} (h : typeOf s = some t) : t.text = s := by
  unfold typeOf at h
  cases hp : parse s with
  | none => rw [hp] at h; cases h
  | some t0 => rw [hp] at h; cases ht : t0.typed <;> simp [ht] at h; subst h; exact parse_text hp

structure ES where
  I : Heap
  i : Nat
  ts : List Tree
  B : Buf
  c : Nat
  xs : List Value
structure ESInv (I : Heap) (l m : List Txt) (x : ES) : Prop where
  hle : HLe I x.I
  hrl : RepL x.I x.ts x.xs
  hB : BufOk 2 x.i x.c x.xs x.B
  hlen : x.i = x.ts.length
  hi : x.i ≤ m.length
  hts : (m.take x.i).map typeOf = x.ts.map some
  hall : (l.take x.i).all isName = true

/-- What 'readEnv' returns. -/
def RE (oa : Option Addr) (l m : List Txt) (c : Nat) (L : Own) : Post := fun v I' L' => ∃ oa' n c2 ob' ts c3, v = .tuple #[.agg [.slice oa' n c2, .slice ob' (List.length ts) c3].toArray, .bool (isEnv l m)] ∧ L = L' ∧
  Rep I' (.node [] ts) [.string (str []), .slice ob' ts.length c3] ∧ (isEnv l m = true → oa' = oa ∧ n = l.length ∧ c2 = c ∧ m.map typeOf = ts.map some)
theorem RE_no {oa : Option Addr} {l m : List Txt} {c : Nat} {L : Own} {I : Heap} (h : isEnv l m = false) : RE oa l m c L (retOne [.agg #[.slice none 0 0, .slice none 0 0], .bool false]) I L :=
  ⟨none, 0, 0, none, [], 0, by rw [h]; rfl, rfl, Rep.empty I, by rw [h]; intro e; cases e⟩
theorem isEnv_len {l m : List Txt} (h : isEnv l m = true) : l.length ≤ 8 ∧ l.length = m.length ∧ l.all isName = true ∧ ∀ s ∈ m, (typeOf s).isSome = true := by
  simpa [isEnv, and_assoc] using h

/-- What 'env.look' returns. -/
def LK (o : Option Nat) (ts : List Tree) (I : Heap) (L : Own) : Post := fun v I' L' => ∃ t cs ok, v = .tuple #[.agg cs.toArray, .bool ok] ∧ I = I' ∧ L = L' ∧ Rep I t cs ∧ ok = o.isSome ∧ ∀ i, o = some i → ts[i]? = some t
/-- The type of a name in an environment. -/
def envLook (l m : List Txt) (s : Txt) : Option Txt := bif isEnv l m then (lastIdx l s).map fun i => m.getD i [] else none
def EL (o : Option Txt) (L : Own) : Post := fun v I' L' => v = .tuple #[.string (str (o.getD [])), .bool o.isSome] ∧ L = L'
theorem typeOf_nil : typeOf [] = none := by rfl
end Go.Proofs.Ytekfjhopngcneaa
