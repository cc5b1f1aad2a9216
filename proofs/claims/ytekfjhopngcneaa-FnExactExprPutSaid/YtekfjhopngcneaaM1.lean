
/- Types and expressions as plain data, and which forms are types and expressions. No conditions. -/
import Derived.Test.YtekfjhopngcneaaE2
import Derived.Test.YtekfjhopngcneaaForm
namespace Go.Proofs.Ytekfjhopngcneaa
set_option maxRecDepth 100000
set_option linter.unusedVariables false
set_option linter.unusedSimpArgs false

inductive Ty where
  | i
  | fn (a b : Ty)
  | pr (a b : Ty)
def Ty.tree : Ty → Tree
  | .i => .node [105] []
  | .fn a b => .node [] [.node [62] [], a.tree, b.tree]
  | .pr a b => .node [] [.node [42] [], a.tree, b.tree]
/-- How many atoms. -/
def Ty.size : Ty → Nat
  | .i => 1
  | .fn a b => 1 + a.size + b.size
  | .pr a b => 1 + a.size + b.size
def Ty.dec : (a b : Ty) → Decidable (a = b)
  | .i, .i => isTrue rfl
  | .fn a b, .fn c d => match Ty.dec a c, Ty.dec b d with
    | isTrue h, isTrue h' => isTrue (by rw [h, h'])
    | isFalse h, _ => isFalse (fun e => h (Ty.fn.inj e).1)
    | _, isFalse h => isFalse (fun e => h (Ty.fn.inj e).2)
  | .pr a b, .pr c d => match Ty.dec a c, Ty.dec b d with
    | isTrue h, isTrue h' => isTrue (by rw [h, h'])
    | isFalse h, _ => isFalse (fun e => h (Ty.pr.inj e).1)
    | _, isFalse h => isFalse (fun e => h (Ty.pr.inj e).2)
  | .i, .fn _ _ => isFalse (by simp)
  | .i, .pr _ _ => isFalse (by simp)
  | .fn _ _, .i => isFalse (by simp)
  | .fn _ _, .pr _ _ => isFalse (by simp)
  | .pr _ _, .i => isFalse (by simp)
  | .pr _ _, .fn _ _ => isFalse (by simp)
instance : DecidableEq Ty := Ty.dec

inductive B5 where
  | add | sub | mul | call | pair
inductive U2 where
  | fst | snd
def B5.txt : B5 → Txt
  | .add => [43] | .sub => [45] | .mul => [42] | .call => tCall | .pair => tPair
def U2.txt : U2 → Txt
  | .fst => tFst | .snd => tSnd
inductive Ex where
  | num (s : Txt)
  | name (s : Txt)
  | bin (o : B5) (a b : Ex)
  | ite (a b c : Ex)
  | lt (x : Txt) (a b : Ex)
  | fn (f x : Txt) (s t : Ty) (b : Ex)
  | un (o : U2) (a : Ex)
def Ex.tree : Ex → Tree
  | .num s => .node s []
  | .name s => .node s []
  | .bin o a b => .node [] [.node o.txt [], a.tree, b.tree]
  | .ite a b c => .node [] [.node tIf [], a.tree, b.tree, c.tree]
  | .lt x a b => .node [] [.node tLet [], .node x [], a.tree, b.tree]
  | .fn f x s t b => .node [] [.node tFun [], .node f [], .node x [], s.tree, t.tree, b.tree]
  | .un o a => .node [] [.node o.txt [], a.tree]
def Ex.ok : Ex → Bool
  | .num s => isNum s
  | .name s => isName s
  | .bin _ a b => a.ok && b.ok
  | .ite a b c => a.ok && b.ok && c.ok
  | .lt x a b => isName x && a.ok && b.ok
  | .fn f x s t b => isName f && isName x && decide (f ≠ x) && decide (s.size ≤ 16) && decide (t.size ≤ 16) && b.ok
  | .un _ a => a.ok
/-- How many atoms. -/
def Ex.size : Ex → Nat
  | .num _ => 1
  | .name _ => 1
  | .bin _ a b => 1 + a.size + b.size
  | .ite a b c => 1 + a.size + b.size + c.size
  | .lt _ a b => 2 + a.size + b.size
  | .fn _ _ s t b => 3 + s.size + t.size + b.size
  | .un _ a => 1 + a.size

/- From forms. -/
def B5.of (h : Txt) : Option B5 :=
  if h = [43] then some .add else if h = [45] then some .sub else if h = [42] then some .mul else if h = tCall then some .call else if h = tPair then some .pair else none
def U2.of (h : Txt) : Option U2 := if h = tFst then some .fst else if h = tSnd then some .snd else none
theorem B5.of_txt (o : B5) : B5.of o.txt = some o := by cases o <;> rfl
theorem U2.of_txt (o : U2) : U2.of o.txt = some o := by cases o <;> rfl
theorem B5.of_eq {h : Txt} {o : B5} (e : B5.of h = some o) : h = o.txt := by
  unfold B5.of at e
  repeat' split at e
  all_goals first | cases e; assumption | cases e
theorem U2.of_eq {h : Txt} {o : U2} (e : U2.of h = some o) : h = o.txt := by
  unfold U2.of at e
  repeat' split at e
  all_goals first | cases e; assumption | cases e
def Tree.ty : Tree → Option Ty
  | .node a [] => if a = [105] then some .i else none
  | .node _ [h, x, y] => match x.ty, y.ty with
    | some a, some b => if h.atom = [62] then some (.fn a b) else if h.atom = [42] then some (.pr a b) else none
    | _, _ => none
  | .node _ _ => none
def Tree.ex : Tree → Option Ex
  | .node a [] => if isName a then some (.name a) else if isNum a then some (.num a) else none
  | .node _ [h, x] => match U2.of h.atom, x.ex with
    | some o, some a => some (.un o a)
    | _, _ => none
  | .node _ [h, x, y] => match B5.of h.atom, x.ex, y.ex with
    | some o, some a, some b => some (.bin o a b)
    | _, _, _ => none
  | .node _ [h, x, y, z] => if h.atom = tIf then (match x.ex, y.ex, z.ex with
      | some a, some b, some c => some (.ite a b c)
      | _, _, _ => none)
    else if h.atom = tLet ∧ isName x.atom = true then (match y.ex, z.ex with
      | some a, some b => some (.lt x.atom a b)
      | _, _ => none)
    else none
  | .node _ [h, f, x, s, t, b] => if h.atom = tFun ∧ isName f.atom = true ∧ isName x.atom = true ∧ f.atom ≠ x.atom ∧ s.size ≤ 16 ∧ t.size ≤ 16 then (match s.ty, t.ty, b.ex with
      | some s, some t, some b => some (.fn f.atom x.atom s t b)
      | _, _, _ => none)
    else none
  | .node _ _ => none

theorem Ty.tree_size : ∀ t : Ty, t.tree.size = t.size
  | .i => rfl
  | .fn a b => by simp [Ty.tree, Tree.size, sizeL, Ty.size, a.tree_size, b.tree_size]; omega
  | .pr a b => by simp [Ty.tree, Tree.size, sizeL, Ty.size, a.tree_size, b.tree_size]; omega
theorem Ex.tree_size : ∀ e : Ex, e.tree.size = e.size
  | .num s => rfl
  | .name s => rfl
  | .bin o a b => by simp [Ex.tree, Tree.size, sizeL, Ex.size, a.tree_size, b.tree_size]; omega
  | .ite a b c => by simp [Ex.tree, Tree.size, sizeL, Ex.size, a.tree_size, b.tree_size, c.tree_size]; omega
  | .lt x a b => by simp [Ex.tree, Tree.size, sizeL, Ex.size, a.tree_size, b.tree_size]; omega
  | .fn f x s t b => by simp [Ex.tree, Tree.size, sizeL, Ex.size, s.tree_size, t.tree_size, b.tree_size]; omega
  | .un o a => by simp [Ex.tree, Tree.size, sizeL, Ex.size, a.tree_size]

theorem Tree.ty_isType : ∀ t : Tree, t.isType = t.ty.isSome
  | .node a [] => by simp [Tree.isType, Tree.ty]; split <;> simp_all
  | .node _ [h, x, y] => by
    simp only [Tree.isType, Tree.ty, x.ty_isType, y.ty_isType]
    cases x.ty <;> cases y.ty <;> simp
    by_cases h1 : h.atom = [62]
    · simp [h1]
    · by_cases h2 : h.atom = [42] <;> simp [h1, h2]
  | .node _ [h] => rfl
  | .node _ [h, x] => rfl
  | .node _ (h :: x :: y :: z :: r) => rfl
theorem good_atom {t : Tree} (h : t.good = true) (ha : t.atom ≠ []) : t = .node t.atom [] := by
  cases t with
  | node a ps => cases ps with
    | nil => rfl
    | cons p ps => simp [Tree.good] at h; exact absurd h.1 ha
theorem good_list {a : Txt} {p : Tree} {ps : List Tree} (h : (Tree.node a (p :: ps)).good = true) : a = [] ∧ p.good = true ∧ goodL ps = true := by
  simp [Tree.good, goodL] at h; exact ⟨h.1, h.2.1, h.2.2⟩
theorem Tree.ty_tree : ∀ {t : Tree} {a : Ty}, t.good = true → t.ty = some a → t = a.tree
  | .node a [], b, hg, h => by
    simp only [Tree.ty] at h
    split at h <;> cases h
    subst_vars; rfl
  | .node n [h, x, y], b, hg, e => by
    obtain ⟨rfl, hh, hr⟩ := good_list hg
    simp [goodL] at hr
    simp only [Tree.ty] at e
    split at e
    · rename_i a b' h1 h2
      have e1 := Tree.ty_tree hr.1 h1
      have e2 := Tree.ty_tree hr.2 h2
      split at e
      · rename_i h3
        cases e
        have e3 := good_atom hh (by simp [h3])
        rw [e3, h3, e1, e2]; rfl
      · split at e
        · rename_i h3
          cases e
          have e3 := good_atom hh (by simp [h3])
          rw [e3, h3, e1, e2]; rfl
        · cases e
    · cases e
  | .node _ [h], _, _, e => by simp [Tree.ty] at e
  | .node _ [h, x], _, _, e => by simp [Tree.ty] at e
  | .node _ (h :: x :: y :: z :: r), _, _, e => by simp [Tree.ty] at e
theorem Ty.tree_ty : ∀ a : Ty, a.tree.ty = some a
  | .i => rfl
  | .fn a b => by simp [Ty.tree, Tree.ty, a.tree_ty, b.tree_ty, Tree.atom]
  | .pr a b => by simp [Ty.tree, Tree.ty, a.tree_ty, b.tree_ty, Tree.atom]
theorem Ty.tree_inj {a b : Ty} (h : a.tree = b.tree) : a = b := by
  have := congrArg Tree.ty h
  rw [a.tree_ty, b.tree_ty] at this
  exact Option.some.inj this
theorem isName_ne {s : Txt} (h : isName s = true) : s ≠ [] := by intro e; subst e; cases h
theorem isNum_ne {s : Txt} (h : isNum s = true) : s ≠ [] := by intro e; subst e; revert h; decide
theorem name_not_num {s : Txt} (h : isName s = true) : isNum s = false := by
  cases s with
  | nil => cases h
  | cons c r =>
    simp [isName, lower] at h
    obtain ⟨⟨h1, h2, h3⟩, h4⟩ := h
    have e : unsign (c :: r) = c :: r := by simp [unsign]; intro h; omega
    have hc : c ≠ 48 := by intro e; subst e; revert h2; decide
    simp only [isNum, e]
    simp [hc, digit]
    intros; omega
theorem Tree.ex_tree : ∀ {t : Tree} {a : Ex}, t.good = true → t.ex = some a → t = a.tree ∧ a.ok = true
  | .node a [], b, hg, h => by
    simp only [Tree.ex] at h
    split at h
    · cases h; exact ⟨rfl, by assumption⟩
    · split at h
      · cases h; exact ⟨rfl, by assumption⟩
      · cases h
  | .node n [h, x], b, hg, e => by
    obtain ⟨rfl, hh, hr⟩ := good_list hg
    simp [goodL] at hr
    simp only [Tree.ex] at e
    split at e
    · rename_i o a h1 h2
      cases e
      obtain ⟨e1, k1⟩ := Tree.ex_tree hr h2
      have h3 := U2.of_eq h1
      have e3 := good_atom hh (by rw [h3]; cases o <;> decide)
      exact ⟨by rw [e3, h3, e1]; rfl, by simpa [Ex.ok] using k1⟩
    · cases e
  | .node n [h, x, y], b, hg, e => by
    obtain ⟨rfl, hh, hr⟩ := good_list hg
    simp [goodL] at hr
    simp only [Tree.ex] at e
    split at e
    · rename_i o a b h1 h2 h2'
      cases e
      obtain ⟨e1, k1⟩ := Tree.ex_tree hr.1 h2
      obtain ⟨e2, k2⟩ := Tree.ex_tree hr.2 h2'
      have h3 := B5.of_eq h1
      have e3 := good_atom hh (by rw [h3]; cases o <;> decide)
      exact ⟨by rw [e3, h3, e1, e2]; rfl, by simp [Ex.ok, k1, k2]⟩
    · cases e
  | .node n [h, x, y, z], b, hg, e => by
    obtain ⟨rfl, hh, hr⟩ := good_list hg
    simp [goodL] at hr
    simp only [Tree.ex] at e
    split at e
    · rename_i h3
      split at e
      · rename_i a b c h1 h2 h2'
        cases e
        obtain ⟨e0, k0⟩ := Tree.ex_tree hr.1 h1
        obtain ⟨e1, k1⟩ := Tree.ex_tree hr.2.1 h2
        obtain ⟨e2, k2⟩ := Tree.ex_tree hr.2.2 h2'
        have e3 := good_atom hh (by rw [h3]; decide)
        exact ⟨by rw [e3, h3, e0, e1, e2]; rfl, by simp [Ex.ok, k0, k1, k2]⟩
      · cases e
    · split at e
      · rename_i h3
        obtain ⟨h3, h4⟩ := h3
        split at e
        · rename_i b c h2 h2'
          cases e
          obtain ⟨e1, k1⟩ := Tree.ex_tree hr.2.1 h2
          obtain ⟨e2, k2⟩ := Tree.ex_tree hr.2.2 h2'
          have e3 := good_atom hh (by rw [h3]; decide)
          have e4 := good_atom hr.1 (isName_ne h4)
          refine ⟨?_, by simp [Ex.ok, k1, k2, h4]⟩
          conv => lhs; rw [e3, h3, e4, e1, e2]
          rfl
        · cases e
      · cases e
  | .node n [h, f, x, s, t, b], _, hg, e => by
    obtain ⟨rfl, hh, hr⟩ := good_list hg
    simp [goodL] at hr
    simp only [Tree.ex] at e
    split at e
    · rename_i h3
      obtain ⟨h3, h4, h5, h6, h7, h8⟩ := h3
      split at e
      · rename_i s' t' b' h1 h2 h2'
        cases e
        have e0 := Tree.ty_tree hr.2.2.1 h1
        have e1 := Tree.ty_tree hr.2.2.2.1 h2
        obtain ⟨e2, k2⟩ := Tree.ex_tree hr.2.2.2.2 h2'
        have e3 := good_atom hh (by rw [h3]; decide)
        have e4 := good_atom hr.1 (isName_ne h4)
        have e5 := good_atom hr.2.1 (isName_ne h5)
        rw [e0, Ty.tree_size] at h7
        rw [e1, Ty.tree_size] at h8
        refine ⟨?_, by simp [Ex.ok, k2, h4, h5, h6, h7, h8]⟩
        conv => lhs; rw [e3, h3, e4, e5, e0, e1, e2]
        rfl
      · cases e
    · cases e
  | .node _ [h], _, _, e => by simp [Tree.ex] at e
  | .node _ [h, x, y, z, w], _, _, e => by simp [Tree.ex] at e
  | .node _ (h :: x :: y :: z :: w :: u :: v :: r), _, _, e => by simp [Tree.ex] at e
theorem Ex.tree_ex : ∀ {a : Ex}, a.ok = true → a.tree.ex = some a
  | .num s, h => by
    have h : isNum s = true := h
    have : isName s = false := by
      cases hn : isName s with
      | false => rfl
      | true => rw [name_not_num hn] at h; cases h
    simp [Ex.tree, Tree.ex, this, h]
  | .name s, h => by
    have h : isName s = true := h
    simp [Ex.tree, Tree.ex, h]
  | .bin o a b, h => by simp [Ex.ok] at h; simp [Ex.tree, Tree.ex, Tree.atom, B5.of_txt, Ex.tree_ex h.1, Ex.tree_ex h.2]
  | .ite a b c, h => by simp [Ex.ok] at h; simp [Ex.tree, Tree.ex, Tree.atom, Ex.tree_ex h.1.1, Ex.tree_ex h.1.2, Ex.tree_ex h.2]
  | .lt x a b, h => by
    simp [Ex.ok] at h
    have : tLet ≠ tIf := by decide
    simp [Ex.tree, Tree.ex, Tree.atom, Ex.tree_ex h.1.2, Ex.tree_ex h.2, h.1.1, this]
  | .fn f x s t b, h => by
    simp [Ex.ok] at h
    obtain ⟨⟨⟨⟨⟨h1, h2⟩, h3⟩, h4⟩, h5⟩, h6⟩ := h
    simp [Ex.tree, Tree.ex, Tree.atom, Ex.tree_ex h6, Ty.tree_ty, Ty.tree_size, *]
  | .un o a, h => by simp [Ex.ok] at h; simp [Ex.tree, Tree.ex, Tree.atom, U2.of_txt, Ex.tree_ex h]
end Go.Proofs.Ytekfjhopngcneaa
