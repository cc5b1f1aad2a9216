
/- Which parts of an expression are expressions, and what else is asked of it. No conditions. -/
import Derived.Test.YtekfjhopngcneaaM3
namespace Go.Proofs.Ytekfjhopngcneaa
set_option maxRecDepth 100000
set_option linter.unusedVariables false
set_option linter.unusedSimpArgs false

theorem kidRange_cases (h : Txt) : (∃ o : B5, h = o.txt ∧ kidRange h = (1, 3)) ∨ (h = tIf ∧ kidRange h = (1, 4)) ∨ (h = tLet ∧ kidRange h = (2, 4)) ∨ (h = tFun ∧ kidRange h = (5, 6)) ∨ (∃ o : U2, h = o.txt ∧ kidRange h = (1, 2)) ∨
    (kidRange h = (0, 0) ∧ B5.of h = none ∧ U2.of h = none ∧ h ≠ tIf ∧ h ≠ tLet ∧ h ≠ tFun) := by
  unfold kidRange
  by_cases h1 : h = [43]
  · exact .inl ⟨.add, h1, by simp [h1]⟩
  by_cases h2 : h = [45]
  · exact .inl ⟨.sub, h2, by simp [h2]⟩
  by_cases h3 : h = [42]
  · exact .inl ⟨.mul, h3, by simp [h3]⟩
  by_cases h4 : h = tCall
  · exact .inl ⟨.call, h4, by simp [h4]⟩
  by_cases h5 : h = tPair
  · exact .inl ⟨.pair, h5, by simp [h5]⟩
  have hb : ¬ (h = [43] ∨ h = [45] ∨ h = [42] ∨ h = tCall ∨ h = tPair) := by simp [*]
  rw [if_neg hb]
  by_cases h6 : h = tIf
  · exact .inr (.inl ⟨h6, by rw [if_pos h6]⟩)
  rw [if_neg h6]
  by_cases h7 : h = tLet
  · exact .inr (.inr (.inl ⟨h7, by rw [if_pos h7]⟩))
  rw [if_neg h7]
  by_cases h8 : h = tFun
  · exact .inr (.inr (.inr (.inl ⟨h8, by rw [if_pos h8]⟩)))
  rw [if_neg h8]
  by_cases h9 : h = tFst
  · exact .inr (.inr (.inr (.inr (.inl ⟨.fst, h9, by simp [h9]⟩))))
  by_cases h10 : h = tSnd
  · exact .inr (.inr (.inr (.inr (.inl ⟨.snd, h10, by simp [h10]⟩))))
  refine .inr (.inr (.inr (.inr (.inr ⟨by simp [*], ?_, ?_, h6, h7, h8⟩))))
  · simp [B5.of, *]
  · simp [U2.of, *]

def nil0 : Tree := .node [] []
/-- A form's part. -/
def Tree.pt (t : Tree) (i : Nat) : Tree := t.parts.getD i nil0
theorem Tree.pt_at {t : Tree} {i : Nat} (h : i < t.parts.length) : t.pt i = t.parts[i] := by simp [Tree.pt, h]
theorem Tree.pt_lt (t : Tree) (i : Nat) (h : i < t.parts.length) : SizeOf.sizeOf (t.pt i) < SizeOf.sizeOf t := by rw [Tree.pt_at h]; exact t.part_lt i h
theorem Tree.pt_good {t : Tree} (hg : t.good = true) (i : Nat) (h : i < t.parts.length) : (t.pt i).good = true := by rw [Tree.pt_at h]; exact t.good_part hg i h
def exTail (t : Tree) : Bool :=
  if t.head = tLet then isName (t.pt 1).atom
  else if t.head = tFun then isName (t.pt 1).atom && isName (t.pt 2).atom && decide ((t.pt 1).atom ≠ (t.pt 2).atom) && (t.pt 3).typed && (t.pt 4).typed
  else true
theorem B5.txt_ne (o : B5) : o.txt ≠ tIf ∧ o.txt ≠ tLet ∧ o.txt ≠ tFun ∧ U2.of o.txt = none ∧ o.txt ≠ [] := by cases o <;> decide
theorem U2.txt_ne (o : U2) : o.txt ≠ tIf ∧ o.txt ≠ tLet ∧ o.txt ≠ tFun ∧ o.txt ≠ [] := by cases o <;> decide
theorem U2.txt_b5 (o : U2) : B5.of o.txt = none := by cases o <;> rfl
theorem kids_none : ∀ {t : Tree}, t.parts ≠ [] → kids t = [] → t.ex = none
  | .node a [], h, _ => absurd rfl h
  | .node a (h :: ps), _, hk => by
    have hd : (Tree.node a (h :: ps)).head = h.atom := rfl
    unfold kids at hk
    rw [hd] at hk
    simp only [Tree.parts] at hk
    rcases kidRange_cases h.atom with ⟨o, e, hr⟩ | ⟨e, hr⟩ | ⟨e, hr⟩ | ⟨e, hr⟩ | ⟨o, e, hr⟩ | ⟨hr, e1, e2, e3, e4, e5⟩
    all_goals rw [hr] at hk
    · rcases ps with _ | ⟨x, _ | ⟨y, _ | ⟨z, _ | ⟨w, _ | ⟨u, _ | ⟨v, ps⟩⟩⟩⟩⟩⟩ <;> first | (simp at hk; done) | simp [Tree.ex, e, o.txt_ne]
    · rcases ps with _ | ⟨x, _ | ⟨y, _ | ⟨z, _ | ⟨w, _ | ⟨u, _ | ⟨v, ps⟩⟩⟩⟩⟩⟩ <;> first | (simp at hk; done) | simp [Tree.ex, e, U2.of, B5.of, tIf, tFst, tSnd, tCall, tPair, tLet, tFun]
    · rcases ps with _ | ⟨x, _ | ⟨y, _ | ⟨z, _ | ⟨w, _ | ⟨u, _ | ⟨v, ps⟩⟩⟩⟩⟩⟩ <;> first | (simp at hk; done) | simp [Tree.ex, e, U2.of, B5.of, tIf, tFst, tSnd, tCall, tPair, tLet, tFun]
    · rcases ps with _ | ⟨x, _ | ⟨y, _ | ⟨z, _ | ⟨w, _ | ⟨u, _ | ⟨v, ps⟩⟩⟩⟩⟩⟩ <;> first | (simp at hk; done) | simp [Tree.ex, e, U2.of, B5.of, tIf, tFst, tSnd, tCall, tPair, tLet, tFun]
    · have := o.txt_b5
      rcases ps with _ | ⟨x, _ | ⟨y, _ | ⟨z, _ | ⟨w, _ | ⟨u, _ | ⟨v, ps⟩⟩⟩⟩⟩⟩ <;> first | (simp at hk; done) | simp [Tree.ex, e, o.txt_ne, this]
    · rcases ps with _ | ⟨x, _ | ⟨y, _ | ⟨z, _ | ⟨w, _ | ⟨u, _ | ⟨v, ps⟩⟩⟩⟩⟩⟩ <;> simp [Tree.ex, *]
theorem typed_ty (t : Tree) : t.typed = (t.ty.isSome && decide (t.size ≤ 16)) := by simp [Tree.typed, Tree.ty_isType]
theorem kids_some : ∀ {t : Tree}, kids t ≠ [] → t.ex.isSome = ((kids t).all (fun i => (t.pt i).ex.isSome) && exTail t)
  | .node a [], hk => by exact absurd rfl hk
  | .node a (h :: ps), hk => by
    have hd : (Tree.node a (h :: ps)).head = h.atom := rfl
    unfold kids exTail at *
    rw [hd] at hk ⊢
    simp only [Tree.parts, Tree.pt] at hk ⊢
    rcases kidRange_cases h.atom with ⟨o, e, hr⟩ | ⟨e, hr⟩ | ⟨e, hr⟩ | ⟨e, hr⟩ | ⟨o, e, hr⟩ | ⟨hr, e1, e2, e3, e4, e5⟩
    all_goals rw [hr] at hk ⊢
    · rcases ps with _ | ⟨x, _ | ⟨y, _ | ⟨z, ps⟩⟩⟩ <;> simp at hk
      have := o.txt_ne
      simp [List.range', Tree.ex, e, B5.of_txt, this]
      cases x.ex <;> cases y.ex <;> rfl
    · rcases ps with _ | ⟨x, _ | ⟨y, _ | ⟨z, _ | ⟨w, ps⟩⟩⟩⟩ <;> simp at hk
      simp [List.range', Tree.ex, e, show tIf ≠ tLet from by decide, show tIf ≠ tFun from by decide]
      cases x.ex <;> cases y.ex <;> cases z.ex <;> rfl
    · rcases ps with _ | ⟨x, _ | ⟨y, _ | ⟨z, _ | ⟨w, ps⟩⟩⟩⟩ <;> simp at hk
      simp [List.range', Tree.ex, e, show tLet ≠ tIf from by decide]
      cases isName x.atom <;> cases y.ex <;> cases z.ex <;> simp
    · rcases ps with _ | ⟨x, _ | ⟨y, _ | ⟨z, _ | ⟨w, _ | ⟨u, _ | ⟨v, ps⟩⟩⟩⟩⟩⟩ <;> simp at hk
      simp [List.range', Tree.ex, e, show tFun ≠ tLet from by decide, typed_ty]
      cases isName x.atom <;> cases isName y.atom <;> by_cases hxy : x.atom = y.atom <;> by_cases hz : z.size ≤ 16 <;> by_cases hw : w.size ≤ 16 <;> cases z.ty <;> cases w.ty <;> cases u.ex <;> simp [*]
    · rcases ps with _ | ⟨x, _ | ⟨y, ps⟩⟩ <;> simp at hk
      have := o.txt_ne
      simp [List.range', Tree.ex, e, U2.of_txt, this]
      cases x.ex <;> rfl
    · simp at hk
theorem kids_lt {t : Tree} {i : Nat} (h : i ∈ kids t) : i < t.parts.length ∧ 1 ≤ i := by
  unfold kids at h
  split at h
  · rename_i hl
    rw [List.mem_range'] at h
    obtain ⟨j, hj, rfl⟩ := h
    have : 1 ≤ (kidRange t.head).1 ∨ (kidRange t.head).2 = 0 := by
      rcases kidRange_cases t.head with ⟨o, e, hr⟩ | ⟨e, hr⟩ | ⟨e, hr⟩ | ⟨e, hr⟩ | ⟨o, e, hr⟩ | ⟨hr, _⟩ <;> rw [hr] <;> simp
    omega
  · cases h
theorem kids_le (t : Tree) : (kids t).length ≤ 5 := by
  unfold kids
  split
  · rw [List.length_range']
    rcases kidRange_cases t.head with ⟨o, _, hr⟩ | ⟨_, hr⟩ | ⟨_, hr⟩ | ⟨_, hr⟩ | ⟨o, _, hr⟩ | ⟨hr, _⟩ <;> rw [hr] <;> decide
  · exact Nat.zero_le _
end Go.Proofs.Ytekfjhopngcneaa
