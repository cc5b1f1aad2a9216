
/- Bindings ahead of an expression. No conditions. -/
import Derived.Test.YtekfjhopngcneaaM5
import Derived.Test.YtekfjhopngcneaaE3
namespace Go.Proofs.Ytekfjhopngcneaa
set_option maxRecDepth 100000
set_option linter.unusedVariables false
set_option linter.unusedSimpArgs false

abbrev Bds := List (Txt × Ex)
def lets : Bds → Ex → Ex
  | [], f => f
  | (x, e) :: bs, f => .lt x e (lets bs f)
def normOf (b : Bool) (s : Txt) : Option Ex := match exOf s with
  | some e => if e.norm b = true then some e else none
  | none => none
/-- Is it an expression, simple or normal? -/
def exNorm (b : Bool) (s : Txt) : Bool := (normOf b s).isSome
theorem normOf_some {b : Bool} {s : Txt} {e : Ex} (h : normOf b s = some e) : exOf s = some e ∧ e.norm b = true ∧ e.ok = true ∧ s = e.tree.text ∧ e.tree.len ≤ 12000 := by
  unfold normOf at h
  cases hx : exOf s with
  | none => rw [hx] at h; cases h
  | some e' =>
    rw [hx] at h
    simp only at h
    split at h
    · rename_i hn
      cases h
      obtain ⟨h1, h2, h3⟩ := exOf_some hx
      simp only [Ex.fine, Bool.and_eq_true, Tree.fits, decide_eq_true_eq] at h2
      exact ⟨rfl, hn, h2.1.1, h3, h2.2.2⟩
    · cases h
def pairOf (x s : Txt) : Txt × Ex := (x, (normOf false s).getD (.num []))
def pairsOf (l m : List Txt) : Bds := l.zipWith pairOf m
/-- What 'NormalJoin' returns. -/
def joinOf (l m : List Txt) (s : Txt) : Option Txt := match normOf true s with
  | none => none
  | some f => if l.length = m.length ∧ l.all isName = true ∧ m.all (exNorm false) = true ∧ (lets (pairsOf l m) f).fine = true then some (lets (pairsOf l m) f).tree.text else none

def BdsOk (bs : Bds) : Prop := ∀ p ∈ bs, isName p.1 = true ∧ p.2.ok = true ∧ p.2.norm false = true ∧ p.2.tree.len ≤ 12000
theorem lets_ok {bs : Bds} {f : Ex} (hb : BdsOk bs) (hf : f.ok = true) : (lets bs f).ok = true := by
  induction bs with
  | nil => exact hf
  | cons p bs ih =>
    obtain ⟨x, e⟩ := p
    obtain ⟨h1, h2, _⟩ := hb _ (.head _)
    simp only [lets, Ex.ok, Bool.and_eq_true]
    exact ⟨⟨h1, h2⟩, ih fun p hp => hb p (.tail _ hp)⟩
theorem lets_norm {bs : Bds} {f : Ex} (hb : BdsOk bs) (hf : f.norm true = true) : (lets bs f).norm true = true := by
  induction bs with
  | nil => exact hf
  | cons p bs ih =>
    obtain ⟨x, e⟩ := p
    obtain ⟨h1, h2, h3, _⟩ := hb _ (.head _)
    have := ih fun p hp => hb p (.tail _ hp)
    simp at h3
    simp [lets, Ex.norm, h3, this]
theorem lt_len (x : Txt) (a b : Ex) : (Ex.lt x a b).tree.len = 8 + x.length + a.tree.len + b.tree.len := by
  simp [Ex.tree, Tree.len, lenL, tLet]; omega
theorem lets_len {bs : Bds} {f : Ex} (hb : BdsOk bs) : (lets bs f).tree.len ≤ f.tree.len + 12020 * bs.length := by
  induction bs with
  | nil => simp [lets]
  | cons p bs ih =>
    obtain ⟨x, e⟩ := p
    obtain ⟨h1, h2, h3, h4⟩ := hb _ (.head _)
    have := ih fun p hp => hb p (.tail _ hp)
    have := isName_len h1
    simp only [lets, lt_len, List.length_cons] at *; omega
theorem lets_size (bs : Bds) (f : Ex) : bs.length ≤ (lets bs f).size := by
  induction bs with
  | nil => simp
  | cons p bs ih => simp only [lets, Ex.size, List.length_cons]; omega
theorem lets_drop {bs : Bds} {f : Ex} {i : Nat} (hi : i < bs.length) : lets (bs.drop i) f = .lt bs[i].1 bs[i].2 (lets (bs.drop (i + 1)) f) := by
  rw [List.drop_eq_getElem_cons hi]; rfl
theorem lt_text (x : Txt) (a b : Ex) : (Ex.lt x a b).tree.text = [40, 108, 101, 116, 32] ++ x ++ [32] ++ a.tree.text ++ [32] ++ b.tree.text ++ [41] := by
  simp [Ex.tree, Tree.text, textL, tLet]
theorem pairsOf_length {l m : List Txt} (h : l.length = m.length) : (pairsOf l m).length = l.length := by simp [pairsOf, h]
theorem pairsOf_at {l m : List Txt} {i : Nat} (hl : i < l.length) (hm : i < m.length) (h : i < (pairsOf l m).length) : (pairsOf l m)[i] = pairOf (l.getD i []) (m.getD i []) := by
  simp [pairsOf, hl, hm]
theorem pairs_ok {l m : List Txt} (hl : l.all isName = true) (hm : m.all (exNorm false) = true) : BdsOk (pairsOf l m) := by
  intro p hp
  obtain ⟨i, hi, rfl⟩ := List.mem_iff_getElem.1 hp
  have hi' : i < l.length ∧ i < m.length := by simp [pairsOf] at hi; omega
  rw [pairsOf_at hi'.1 hi'.2]
  have h1 := List.all_eq_true.1 hl _ (List.getElem_mem hi'.1)
  have h2 := List.all_eq_true.1 hm _ (List.getElem_mem hi'.2)
  simp only [pairOf, List.getD_eq_getElem?_getD, List.getElem?_eq_getElem hi'.1, List.getElem?_eq_getElem hi'.2, Option.getD_some]
  unfold exNorm at h2
  cases hx : normOf false m[i] with
  | none => rw [hx] at h2; cases h2
  | some e =>
    obtain ⟨h3, h4, h5, h6, h7⟩ := normOf_some hx
    exact ⟨h1, h5, h4, h7⟩
end Go.Proofs.Ytekfjhopngcneaa
