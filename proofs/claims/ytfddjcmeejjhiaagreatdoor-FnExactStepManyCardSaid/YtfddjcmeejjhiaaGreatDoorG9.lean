/- What has a type leans on no other names. No conditions. -/
import Derived.Test.YtfddjcmeejjhiaaGreatDoorG8
namespace Go.Proofs.YtfddjcmeejjhiaaGreatDoor
set_option maxRecDepth 100000
set_option linter.unusedVariables false
set_option linter.unusedSimpArgs false

theorem lastAt_mem {l : List Txt} {s : Txt} {i : Nat} (h : lastIdx l s = some i) : s ∈ l := by
 obtain ⟨h1, h2⟩ := lastAt_lt (show lastAt l s l.length = some i from h)
 rw [← h2]; simp [h1]
/-- The type without any names. -/
def tyC (s : Txt) : Option Ty := (exOf s).bind fun e => e.ty [] []
/-- The text of the first expression without a type, the empty one if there is none. -/
def Ex.flt (e : Ex) (l : List Txt) (m : List Ty) : Txt := match e.chk l m with
 | .ok _ => []
 | .error x => x.tree.text
theorem closedOf_facts {s : Txt} {e : Ex} (h : closedOf s = some e) : exOf s = some e ∧ e.ok = true ∧ e.size ≤ 120 ∧ e.tree.len ≤ 12000 ∧ e.closed = true := by
 obtain ⟨h1, h2⟩ := closedOf_some h
 have h3 := (exOf_some h1).2.1
 simp only [Ex.fine, Bool.and_eq_true, Tree.fits, decide_eq_true_eq] at h3
 exact ⟨h1, h3.1.1, h3.1.2, h3.2.2, h2⟩
theorem fine_eq {e : Ex} (h : e.ok = true) : (decide (e.tree.size ≤ 120) && e.tree.fits && e.tree.ex.isSome) = e.fine := by
 simp [Ex.tree_size, Ex.tree_ex h, Ex.fine, h]
theorem f_fine {I : Heap} {e : Ex} {cs : List Value} (h : Rep I e.tree cs) (hok : e.ok = true) (hz : e.tree.len ≤ 12000000) (L : Own) : Fun Tryz.prog 63 [.agg cs.toArray] I L (Only (.bool e.fine) I L) := by
 rw [← fine_eq hok]; exact f_form_isExpression h (Ex.tree_good hok).1 hz L
end Go.Proofs.YtfddjcmeejjhiaaGreatDoor
