
/- Normal expressions; heads of expressions. No conditions. -/
import Derived.Test.YtekfjhopngcneaaM4
namespace Go.Proofs.Ytekfjhopngcneaa
set_option maxRecDepth 100000
set_option linter.unusedVariables false
set_option linter.unusedSimpArgs false

def Ex.bare : Ex → Bool
  | .num _ => true
  | .name _ => true
  | _ => false
/-- Normal ('true') or simple ('false'). -/
def Ex.norm : Ex → Bool → Bool
  | .num _, _ => true
  | .name _, _ => true
  | .bin _ a b, _ => a.bare && b.bare
  | .ite a b c, _ => a.bare && b.norm true && c.norm true
  | .lt _ a b, n => n && a.norm false && b.norm true
  | .fn _ _ _ _ b, _ => b.norm true
  | .un _ a, _ => a.bare
theorem Ex.of_nil {e : Ex} (h : e.tree.head = []) : e.bare = true := by
  cases e with
  | num s => rfl
  | name s => rfl
  | bin o a b => cases o <;> cases h
  | un o a => cases o <;> cases h
  | ite a b c => cases h
  | lt x a b => cases h
  | fn f x s t b => cases h
theorem Ex.of_let {e : Ex} (h : e.tree.head = tLet) : ∃ x a b, e = .lt x a b := by
  cases e with
  | num s => cases h
  | name s => cases h
  | bin o a b => exact absurd h o.txt_ne.2.1
  | un o a => exact absurd h o.txt_ne.2.1
  | ite a b c => exact absurd (show tIf = tLet from h) (by decide)
  | lt x a b => exact ⟨x, a, b, rfl⟩
  | fn f x s t b => exact absurd (show tFun = tLet from h) (by decide)
theorem Ex.of_if {e : Ex} (h : e.tree.head = tIf) : ∃ a b c, e = .ite a b c := by
  cases e with
  | num s => cases h
  | name s => cases h
  | bin o a b => exact absurd h o.txt_ne.1
  | un o a => exact absurd h o.txt_ne.1
  | ite a b c => exact ⟨a, b, c, rfl⟩
  | lt x a b => exact absurd (show tLet = tIf from h) (by decide)
  | fn f x s t b => exact absurd (show tFun = tIf from h) (by decide)
theorem Ex.of_fun {e : Ex} (h : e.tree.head = tFun) : ∃ f x s t b, e = .fn f x s t b := by
  cases e with
  | num s => cases h
  | name s => cases h
  | bin o a b => exact absurd h o.txt_ne.2.2.1
  | un o a => exact absurd h o.txt_ne.2.2.1
  | ite a b c => exact absurd (show tIf = tFun from h) (by decide)
  | lt x a b => exact absurd (show tLet = tFun from h) (by decide)
  | fn f x s t b => exact ⟨f, x, s, t, b, rfl⟩
theorem B5.txt_inj {o o' : B5} (h : o.txt = o'.txt) : o = o' := by have := congrArg B5.of h; rw [B5.of_txt, B5.of_txt] at this; exact Option.some.inj this
theorem U2.txt_inj {o o' : U2} (h : o.txt = o'.txt) : o = o' := by have := congrArg U2.of h; rw [U2.of_txt, U2.of_txt] at this; exact Option.some.inj this
theorem BU_ne (o : B5) (u : U2) : o.txt ≠ u.txt := by cases o <;> cases u <;> decide
theorem Ex.of_bin {e : Ex} {o : B5} (h : e.tree.head = o.txt) : ∃ a b, e = .bin o a b := by
  cases e with
  | num s => exact absurd h.symm o.txt_ne.2.2.2.2
  | name s => exact absurd h.symm o.txt_ne.2.2.2.2
  | bin o' a b => have := B5.txt_inj (o := o') (o' := o) h; subst this; exact ⟨a, b, rfl⟩
  | un u a => exact absurd h.symm (BU_ne o u)
  | ite a b c => exact absurd h.symm o.txt_ne.1
  | lt x a b => exact absurd h.symm o.txt_ne.2.1
  | fn f x s t b => exact absurd h.symm o.txt_ne.2.2.1
theorem Ex.of_un {e : Ex} {u : U2} (h : e.tree.head = u.txt) : ∃ a, e = .un u a := by
  cases e with
  | num s => exact absurd h.symm u.txt_ne.2.2.2
  | name s => exact absurd h.symm u.txt_ne.2.2.2
  | bin o' a b => exact absurd h (BU_ne o' u)
  | un u' a => have := U2.txt_inj (o := u') (o' := u) h; subst this; exact ⟨a, rfl⟩
  | ite a b c => exact absurd h.symm u.txt_ne.1
  | lt x a b => exact absurd h.symm u.txt_ne.2.1
  | fn f x s t b => exact absurd h.symm u.txt_ne.2.2.1
theorem Ex.of_other {e : Ex} (h0 : ¬ e.tree.head = []) (h1 : ¬ e.tree.head = tLet) (h2 : ¬ e.tree.head = tIf) (h3 : ¬ e.tree.head = tFun) : (∃ o a b, e = .bin o a b) ∨ (∃ o a, e = .un o a) := by
  cases e with
  | num s => exact absurd rfl h0
  | name s => exact absurd rfl h0
  | bin o a b => exact .inl ⟨o, a, b, rfl⟩
  | un o a => exact .inr ⟨o, a, rfl⟩
  | ite a b c => exact absurd rfl h2
  | lt x a b => exact absurd rfl h1
  | fn f x s t b => exact absurd rfl h3
theorem kids_bin (o : B5) (a b : Ex) : kids (Ex.bin o a b).tree = [1, 2] := by cases o <;> rfl
theorem kids_un (o : U2) (a : Ex) : kids (Ex.un o a).tree = [1] := by cases o <;> rfl
theorem kids_ite (a b c : Ex) : kids (Ex.ite a b c).tree = [1, 2, 3] := rfl
theorem kids_lt' (x : Txt) (a b : Ex) : kids (Ex.lt x a b).tree = [2, 3] := rfl
theorem kids_fn (f x : Txt) (s t : Ty) (b : Ex) : kids (Ex.fn f x s t b).tree = [5] := rfl
theorem Ex.bare_eq {e : Ex} (h : e.ok = true) : (e.tree.parts.isEmpty && (isName e.tree.atom || isNum e.tree.atom)) = e.bare := by
  cases e with
  | num s => have h : isNum s = true := h; simp [Ex.tree, Tree.parts, Tree.atom, h, Ex.bare]
  | name s => have h : isName s = true := h; simp [Ex.tree, Tree.parts, Tree.atom, h, Ex.bare]
  | _ => rfl
theorem Ex.bare_atom {e : Ex} (h : e.ok = true) : decide (e.tree.atom = []) = !e.bare := by
  cases e with
  | num s => have h := isNum_ne h; simp [Ex.tree, Tree.atom, h, Ex.bare]
  | name s => have h := isName_ne h; simp [Ex.tree, Tree.atom, h, Ex.bare]
  | _ => rfl
theorem Ex.bare_parts {e : Ex} : e.bare = e.tree.parts.isEmpty := by cases e <;> rfl
end Go.Proofs.Ytekfjhopngcneaa
