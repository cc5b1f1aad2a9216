
/- What is written is read back. No conditions. -/
import Derived.Test.YtekfjhopngcneaaM1
namespace Go.Proofs.Ytekfjhopngcneaa
set_option maxRecDepth 100000
set_option linter.unusedVariables false
set_option linter.unusedSimpArgs false

theorem textL_ge : ∀ ts : List Tree, ts.length ≤ (textL ts).length
  | [] => Nat.le_refl _
  | t :: ts => by have := textL_ge ts; simp [textL]; omega
theorem takeWhile_app {p : UInt8 → Bool} {a r : Txt} (ha : a.all p = true) (hr : ∀ c, r.head? = some c → p c = false) : (a ++ r).takeWhile p = a ∧ (a ++ r).dropWhile p = r := by
  have hp : ∀ x ∈ a, p x = true := by simpa using ha
  rw [List.takeWhile_append_of_pos hp, List.dropWhile_append_of_pos hp]
  cases r with
  | nil => simp
  | cons c r => have := hr c rfl; simp [List.takeWhile, List.dropWhile, this]
theorem abyte_ne {c : UInt8} (h : abyte c = true) : c.toNat ≠ 40 ∧ c.toNat ≠ 41 ∧ c.toNat ≠ 32 := by
  simp [abyte] at h; omega
mutual
theorem pform_text : ∀ (t : Tree) (k : Nat) (r : Txt), t.good = true → t.bytes = true → (∀ c, r.head? = some c → abyte c = false) →
    pform k (t.text ++ r) = if t.depth ≤ k then some (t, r) else none
  | .node a [], k, r, hg, hb, hr => by
    simp [Tree.good, goodL] at hg
    simp only [Tree.bytes, bytesL, Bool.and_true] at hb
    obtain ⟨h1, h2⟩ := takeWhile_app hb hr
    have h40 : ((a ++ r).getD 0 0).toNat ≠ 40 := by
      cases a with
      | nil => exact absurd rfl hg
      | cons c a => simp at hb; exact (abyte_ne hb.1).1
    simp only [Tree.text, Tree.depth, List.isEmpty_nil, cond_true, Nat.zero_le, if_true]
    rw [pform_open h40, h1, h2, if_neg hg]
  | .node a (t :: ts), k, r, hg, hb, hr => by
    obtain ⟨rfl, g1, g2⟩ := good_list hg
    simp only [Tree.bytes, bytesL, Bool.and_eq_true] at hb
    have e : (Tree.node [] (t :: ts)).text ++ r = 40 :: (t.text ++ textL ts ++ 41 :: r) := by simp [Tree.text]
    rw [e]
    cases k with
    | zero => rw [pform_zero (by rfl), if_neg (by simp [Tree.depth])]
    | succ k =>
      rw [pform_paren (by rfl)]
      have hl := textL_ge ts
      rw [show (40 :: (t.text ++ textL ts ++ 41 :: r)).drop 1 = t.text ++ textL ts ++ 41 :: r from rfl]
      rw [partsBy_text t ts k _ r g1 g2 hb.2.1 hb.2.2 (by simp; omega)]
      have hdep : (Tree.node [] (t :: ts)).depth = depthL (t :: ts) + 1 := rfl
      by_cases hd : depthL (t :: ts) ≤ k
      · rw [if_pos hd, if_pos (show (Tree.node [] (t :: ts)).depth ≤ k + 1 by omega)]
      · rw [if_neg hd, if_neg (show ¬ (Tree.node [] (t :: ts)).depth ≤ k + 1 by omega)]
theorem partsBy_text : ∀ (t : Tree) (ts : List Tree) (k n : Nat) (r : Txt), t.good = true → goodL ts = true → t.bytes = true → bytesL ts = true → ts.length + 1 ≤ n →
    partsBy (pform k) n (t.text ++ textL ts ++ 41 :: r) = if depthL (t :: ts) ≤ k then some (t :: ts, r) else none
  | t, [], k, n, r, hg, hg2, hb, hb2, hn => by
    obtain ⟨m, rfl⟩ : ∃ m, n = m + 1 := ⟨n - 1, by simp at hn; omega⟩
    have := pform_text t k (41 :: r) hg hb (by intro c hc; simp at hc; subst hc; decide)
    simp only [textL, List.append_nil, partsBy, this]
    by_cases hd : t.depth ≤ k
    · rw [if_pos hd, if_pos (by simp [depthL]; omega)]; rfl
    · rw [if_neg hd, if_neg (by simp [depthL]; omega)]
  | t, u :: us, k, n, r, hg, hg2, hb, hb2, hn => by
    obtain ⟨m, rfl⟩ : ∃ m, n = m + 1 := ⟨n - 1, by simp at hn; omega⟩
    simp only [goodL, Bool.and_eq_true] at hg2
    simp only [bytesL, Bool.and_eq_true] at hb2
    have h1 := pform_text t k (32 :: (u.text ++ textL us ++ 41 :: r)) hg hb (by intro c hc; simp at hc; subst hc; decide)
    have h2 := partsBy_text u us k m r hg2.1 hg2.2 hb2.1 hb2.2 (by simp at hn; omega)
    have e : t.text ++ textL (u :: us) ++ 41 :: r = t.text ++ 32 :: (u.text ++ textL us ++ 41 :: r) := by simp [textL]
    rw [e]
    simp only [partsBy, h1]
    by_cases hd : t.depth ≤ k
    · rw [if_pos hd]
      have c1 : ((32 : UInt8).toNat == 41) = false := by decide
      have c2 : ((32 : UInt8).toNat == 32) = true := by decide
      simp only [c1, c2, cond_false, cond_true, h2]
      by_cases hd2 : depthL (u :: us) ≤ k
      · rw [if_pos hd2, if_pos (by simp only [depthL] at *; omega)]
      · rw [if_neg hd2, if_neg (by simp only [depthL] at *; omega)]
    · rw [if_neg hd, if_neg (by simp [depthL]; omega)]
end
def Tree.fits (t : Tree) : Bool := decide (t.depth ≤ 60) && decide (t.len ≤ 12000)
/-- What is written is read back, if it fits. -/
theorem parse_of {t : Tree} (hg : t.good = true) (hb : t.bytes = true) : parse t.text = if t.fits then some t else none := by
  have h := pform_text t 60 [] hg hb (by simp)
  rw [List.append_nil] at h
  unfold parse
  rw [h, t.text_len]
  simp only [Tree.fits, Bool.and_eq_true, decide_eq_true_eq]
  by_cases h1 : 12000 < t.len
  · rw [if_pos h1, if_neg (by omega)]
  · rw [if_neg h1]
    by_cases h2 : t.depth ≤ 60
    · rw [if_pos h2, if_pos (by omega)]
    · rw [if_neg h2, if_neg (by omega)]
theorem parse_fits {s : Txt} {t : Tree} (h : parse s = some t) : t.fits = true ∧ t.good = true ∧ t.bytes = true := by
  obtain ⟨h1, h2⟩ := parse_fine h
  have h3 := h1.text
  rw [List.append_nil] at h3
  refine ⟨?_, h1.good, h1.bytes⟩
  have := h1.depth
  rw [h3, t.text_len] at h2
  simp [Tree.fits, this, h2]

theorem digit_abyte {b : UInt8} (h : digit b = true) : abyte b = true := by simp [digit] at h; simp [abyte]; omega
theorem isName_bytes {s : Txt} (h : isName s = true) : s.all abyte = true := by
  cases s with
  | nil => rfl
  | cons c r =>
    simp only [isName, Bool.and_eq_true] at h
    simp only [List.all_cons, Bool.and_eq_true]
    refine ⟨by have := h.1.2; simp [lower] at this; simp [abyte]; omega, ?_⟩
    have h2 := h.2
    rw [List.all_eq_true] at h2 ⊢
    exact fun x hx => digit_abyte (h2 x hx)
theorem isName_len {s : Txt} (h : isName s = true) : s.length ≤ 4 := by
  cases s with
  | nil => simp
  | cons c r => simp [isName] at h; simp; omega
theorem isNum_bytes {s : Txt} (h : isNum s = true) : s.all abyte = true := by
  simp only [isNum, Bool.or_eq_true, decide_eq_true_eq] at h
  rcases h with rfl | h
  · decide
  · simp only [Bool.and_eq_true] at h
    have h2 := h.1.2
    unfold unsign at h2
    have key : ∀ l : Txt, l.all digit = true → l.all abyte = true := fun l hl => by
      rw [List.all_eq_true] at hl ⊢
      exact fun x hx => digit_abyte (hl x hx)
    split at h2
    · cases s with
      | nil => rfl
      | cons c r =>
        rename_i h45
        simp only [List.drop_succ_cons, List.drop_zero] at h2
        simp only [List.all_cons, Bool.and_eq_true]
        refine ⟨?_, key r h2⟩
        simp at h45
        simp [abyte, h45]
    · exact key s h2
theorem isNum_len {s : Txt} (h : isNum s = true) : s.length ≤ 4 := by
  simp only [isNum, Bool.or_eq_true, decide_eq_true_eq] at h
  rcases h with rfl | h
  · decide
  · simp only [Bool.and_eq_true, decide_eq_true_eq] at h
    have := h.1.1
    unfold unsign at this
    split at this
    · rw [List.length_drop] at this; omega
    · omega
theorem Ty.tree_good : ∀ t : Ty, t.tree.good = true ∧ t.tree.bytes = true
  | .i => ⟨rfl, by decide⟩
  | .fn a b => by
    have := a.tree_good; have := b.tree_good
    simp [Ty.tree, Tree.good, goodL, Tree.bytes, bytesL, *]; decide
  | .pr a b => by
    have := a.tree_good; have := b.tree_good
    simp [Ty.tree, Tree.good, goodL, Tree.bytes, bytesL, *]; decide
theorem Ex.tree_good : ∀ {e : Ex}, e.ok = true → e.tree.good = true ∧ e.tree.bytes = true
  | .num s, h => by
    have h : isNum s = true := h
    have := isNum_ne h; have := isNum_bytes h
    simp [Ex.tree, Tree.good, goodL, Tree.bytes, bytesL]; exact ⟨by assumption, by simpa using this⟩
  | .name s, h => by
    have h : isName s = true := h
    have := isName_ne h; have := isName_bytes h
    simp [Ex.tree, Tree.good, goodL, Tree.bytes, bytesL]; exact ⟨by assumption, by simpa using this⟩
  | .bin o a b, h => by
    simp [Ex.ok] at h
    have := Ex.tree_good h.1; have := Ex.tree_good h.2
    simp [Ex.tree, Tree.good, goodL, Tree.bytes, bytesL, *]
    cases o <;> decide
  | .ite a b c, h => by
    simp [Ex.ok] at h
    have := Ex.tree_good h.1.1; have := Ex.tree_good h.1.2; have := Ex.tree_good h.2
    simp [Ex.tree, Tree.good, goodL, Tree.bytes, bytesL, *]; decide
  | .lt x a b, h => by
    simp [Ex.ok] at h
    have := Ex.tree_good h.1.2; have := Ex.tree_good h.2; have := isName_ne h.1.1; have h3 := isName_bytes h.1.1
    simp at h3
    simp [Ex.tree, Tree.good, goodL, Tree.bytes, bytesL, *]
    exact ⟨by decide, by decide, h3⟩
  | .fn f x s t b, h => by
    simp [Ex.ok] at h
    obtain ⟨⟨⟨⟨⟨h1, h2⟩, h3⟩, h4⟩, h5⟩, h6⟩ := h
    have := Ex.tree_good h6; have := s.tree_good; have := t.tree_good; have := isName_ne h1; have := isName_ne h2; have k1 := isName_bytes h1; have k2 := isName_bytes h2
    simp at k1 k2
    simp [Ex.tree, Tree.good, goodL, Tree.bytes, bytesL, *]
    exact ⟨by decide, by decide, k1, k2⟩
  | .un o a, h => by
    have h : a.ok = true := h
    have := Ex.tree_good h
    simp [Ex.tree, Tree.good, goodL, Tree.bytes, bytesL, *]
    cases o <;> decide

/-- What a text is read as. -/
def Ex.fine (e : Ex) : Bool := e.ok && decide (e.size ≤ 120) && e.tree.fits
def exOf (s : Txt) : Option Ex := match parse s with
  | some t => match t.ex with
    | some e => if e.size ≤ 120 then some e else none
    | none => none
  | none => none
theorem exOf_some {s : Txt} {e : Ex} (h : exOf s = some e) : parse s = some e.tree ∧ e.fine = true ∧ s = e.tree.text := by
  unfold exOf at h
  split at h
  · rename_i t hp
    split at h
    · rename_i e' he
      split at h
      · rename_i hz
        cases h
        obtain ⟨h1, h2, h3⟩ := parse_fits hp
        obtain ⟨rfl, h4⟩ := Tree.ex_tree h2 he
        exact ⟨hp, by simp [Ex.fine, h4, hz, h1], (parse_text hp).symm⟩
      · cases h
    · cases h
  · cases h
theorem exOf_text {e : Ex} (h : e.ok = true) : exOf e.tree.text = if e.fine then some e else none := by
  obtain ⟨h1, h2⟩ := Ex.tree_good h
  unfold exOf
  rw [parse_of h1 h2]
  simp only [Ex.fine, h, Bool.true_and, Bool.and_eq_true, decide_eq_true_eq]
  by_cases h3 : e.tree.fits = true
  · simp only [h3, if_true, Ex.tree_ex h, and_true]
  · simp [h3]
theorem typeOf_some {s : Txt} {t : Tree} (h : typeOf s = some t) : ∃ a : Ty, t = a.tree ∧ a.size ≤ 16 ∧ s = a.tree.text := by
  unfold typeOf at h
  cases hp : parse s with
  | none => rw [hp] at h; cases h
  | some t0 =>
    rw [hp] at h
    simp only [Tree.typed, Tree.ty_isType] at h
    cases ha : t0.ty with
    | none => simp [ha] at h
    | some a =>
      by_cases hz : t0.size ≤ 16
      · simp [ha, hz] at h
        subst h
        obtain rfl := Tree.ty_tree (parse_fits hp).2.1 ha
        rw [Ty.tree_size] at hz
        exact ⟨a, rfl, hz, (parse_text hp).symm⟩
      · simp [ha, hz] at h
theorem Ty.tree_typed (a : Ty) : a.tree.typed = decide (a.size ≤ 16) := by
  simp [Tree.typed, Tree.ty_isType, a.tree_ty, a.tree_size]
theorem Ty.size_pos : ∀ a : Ty, 1 ≤ a.size
  | .i => Nat.le_refl _
  | .fn a b => by simp [Ty.size]; omega
  | .pr a b => by simp [Ty.size]; omega
theorem Ty.tree_small : ∀ a : Ty, a.tree.depth + 1 ≤ a.size ∧ a.tree.len + 3 ≤ 5 * a.size
  | .i => ⟨Nat.le_refl _, by simp [Ty.tree, Tree.len, Ty.size]⟩
  | .fn a b => by
    have := a.tree_small; have := b.tree_small; have := a.size_pos; have := b.size_pos
    simp [Ty.tree, Tree.depth, depthL, Tree.len, lenL, Ty.size]; omega
  | .pr a b => by
    have := a.tree_small; have := b.tree_small; have := a.size_pos; have := b.size_pos
    simp [Ty.tree, Tree.depth, depthL, Tree.len, lenL, Ty.size]; omega
theorem typeOf_text' (a : Ty) : typeOf a.tree.text = if a.size ≤ 16 then some a.tree else none := by
  obtain ⟨h1, h2⟩ := a.tree_good
  obtain ⟨h3, h4⟩ := a.tree_small
  unfold typeOf
  rw [parse_of h1 h2]
  by_cases h : a.size ≤ 16
  · have : a.tree.fits = true := by simp [Tree.fits]; omega
    simp [this, a.tree_typed, h]
  · by_cases hf : a.tree.fits = true
    · simp [hf, a.tree_typed, h]
    · simp [hf, h]
theorem Ty.text_inj {a b : Ty} (h : a.tree.text = b.tree.text) : a = b := by
  have ha := pform_text a.tree (a.size + b.size) [] a.tree_good.1 a.tree_good.2 (by simp)
  have hb := pform_text b.tree (a.size + b.size) [] b.tree_good.1 b.tree_good.2 (by simp)
  have h3 := a.tree_small; have h4 := b.tree_small
  rw [if_pos (by omega)] at ha hb
  rw [h, hb] at ha
  simp at ha
  exact Ty.tree_inj ha.symm
end Go.Proofs.Ytekfjhopngcneaa
