
/- Simple and normal expressions, by the program and by the reference. No conditions. -/
import Derived.Test.YtekfjhopngcneaaE5
import Derived.Test.YtekfjhopngcneaaM5
namespace Go.Proofs.Ytekfjhopngcneaa
set_option maxRecDepth 100000
set_option linter.unusedVariables false
set_option linter.unusedSimpArgs false

/-- A part of an expression's form, taken for what it is. -/
theorem FormAt.as {I : Heap} {t : Tree} {oa : Option Addr} {c : Nat} {oaf : Nat → Option Addr} {cf : Nat → Nat} (h : FormAt I t oa c oaf cf) (i : Nat) (u : Tree) (hi : i < t.parts.length) (hu : t.pt i = u) : Rep I u [.string (str u.atom), .slice (oaf i) u.parts.length (cf i)] := by
  subst hu; exact h.rp i hi
theorem f_bare {I : Heap} {e : Ex} {cs : List Value} (h : Rep I e.tree cs) (hok : e.ok = true) (L : Own) : Fun Try.prog 51 [.agg cs.toArray] I L (Only (.bool e.bare) I L) := by
  rw [← Ex.bare_eq hok]; exact f_form_isBare h L
theorem cond_eq {b : Bool} {p : Prop} [Decidable p] (h : b = true ↔ p) : b = decide p := by rw [Bool.eq_iff_iff]; simpa using h

/-- An expression that a loop goes on with, and where it lies. -/
structure XS where
  e : Ex
  oa : Option Addr
  c : Nat
theorem Ex.atom_iff {e : Ex} (h : e.ok = true) : e.tree.atom = [] ↔ e.bare = false := by
  have := Ex.bare_atom h
  cases hb : e.bare <;> simp_all
end Go.Proofs.Ytekfjhopngcneaa
