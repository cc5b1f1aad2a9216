
/- What is read is the text's form, and what is written is read back. No conditions. -/
import Derived.Test.YtekfjhopngcneaaTree
namespace Go.Proofs.Ytekfjhopngcneaa
set_option maxRecDepth 100000
set_option linter.unusedVariables false
set_option linter.unusedSimpArgs false

mutual
def Tree.bytes : Tree → Bool
  | .node a ps => a.all abyte && bytesL ps
def bytesL : List Tree → Bool
  | [] => true
  | t :: ts => t.bytes && bytesL ts
end

/-- What a reader of one part says of what it has read. -/
structure Fine (k : Nat) (s : Txt) (t : Tree) (r : Txt) : Prop where
  good : t.good = true
  bytes : t.bytes = true
  depth : t.depth ≤ k
  text : s = t.text ++ r
  size : t.size + r.length ≤ s.length
  ends : t.parts = [] → ∀ c, r.head? = some c → abyte c = false
structure FineL (k : Nat) (s : Txt) (ts : List Tree) (r : Txt) : Prop where
  good : goodL ts = true
  bytes : bytesL ts = true
  depth : depthL ts ≤ k
  text : 32 :: s = textL ts ++ 41 :: r
  size : sizeL ts + r.length + 1 ≤ s.length
  ne : ts ≠ []

theorem byte_eq {c : UInt8} {n : Nat} (h : (c.toNat == n) = true) (hn : n < 256) : c = UInt8.ofNat n := by
  apply UInt8.toNat_inj.1
  have : c.toNat = n := by simpa using h
  rw [this]; simp [Nat.mod_eq_of_lt hn]

theorem partsBy_fine {k : Nat} {p : Txt → Option (Tree × Txt)} (hp : ∀ s t r, p s = some (t, r) → Fine k s t r) : ∀ {n : Nat} {s : Txt} {ts : List Tree} {r : Txt}, partsBy p n s = some (ts, r) → FineL k s ts r := by
  intro n
  induction n with
  | zero => intro s ts r h; simp [partsBy] at h
  | succ n ih =>
    intro s ts r h
    simp only [partsBy] at h
    split at h
    · simp at h
    · rename_i t r1 hpp
      have hf := hp _ _ _ hpp
      have htx := hf.text
      have hsz := hf.size
      split at h
      · simp at h
      · rename_i c r'
        simp only [List.length_cons] at hsz
        cases h41 : (c.toNat == 41) with
        | true =>
          simp [h41] at h
          obtain ⟨rfl, rfl⟩ := h
          have hc := byte_eq h41 (by omega)
          subst hc
          exact ⟨by simp [goodL, hf.good], by simp [bytesL, hf.bytes], by simp [depthL, hf.depth], by rw [htx]; simp [textL], by simp [sizeL]; omega, by simp⟩
        | false =>
          cases h32 : (c.toNat == 32) with
          | false => simp [h41, h32] at h
          | true =>
            simp [h41, h32] at h
            split at h
            · rename_i ts' r'' hrec
              simp at h
              obtain ⟨rfl, rfl⟩ := h
              have hc := byte_eq h32 (by omega)
              have hr := ih hrec
              have hr1 := hr.text
              have hr2 := hr.size
              have hr3 := hr.depth
              have hf3 := hf.depth
              refine ⟨by simp [goodL, hf.good, hr.good], by simp [bytesL, hf.bytes, hr.bytes], by simp [depthL]; omega, ?_, by simp [sizeL]; omega, by simp⟩
              rw [htx]
              subst hc
              simp only [textL, List.cons_append, List.append_assoc]
              rw [← hr1]; rfl
            · simp at h

theorem pform_fine : ∀ {k : Nat} {s : Txt} {t : Tree} {r : Txt}, pform k s = some (t, r) → Fine k s t r := by
  have atom : ∀ {k : Nat} {s : Txt} {t : Tree} {r : Txt}, (s.getD 0 0).toNat ≠ 40 → pform k s = some (t, r) → Fine k s t r := by
    intro k s t r h40 h
    rw [pform_open h40] at h
    split at h
    · cases h
    · rename_i hne
      simp at h
      obtain ⟨rfl, rfl⟩ := h
      have hl := takeWhile_le abyte s
      have h0 : 0 < (s.takeWhile abyte).length := List.length_pos_iff.2 hne
      refine ⟨?_, ?_, by simp [Tree.depth], by simp [Tree.text], ?_, ?_⟩
      · simp [Tree.good, goodL, hne]
      · simp [Tree.bytes, bytesL]
      · simp [Tree.size]; omega
      · intro _ c hc
        have := List.head?_dropWhile_not abyte s
        rw [hc] at this
        simpa using this
  intro k
  induction k with
  | zero =>
    intro s t r h
    by_cases h40 : (s.getD 0 0).toNat = 40
    · rw [pform_zero h40] at h; cases h
    · exact atom h40 h
  | succ k ih =>
    intro s t r h
    by_cases h40 : (s.getD 0 0).toNat = 40
    · rw [pform_paren h40] at h
      split at h
      · rename_i ts r' hpp
        simp at h
        obtain ⟨rfl, rfl⟩ := h
        have hf := partsBy_fine (fun _ _ _ hh => ih hh) hpp
        cases s with
        | nil => simp at h40
        | cons c s =>
          have hc : c = 40 := UInt8.toNat_inj.1 (by simpa using h40)
          subst hc
          have h1 := hf.text
          have h2 := hf.size
          have h3 := hf.depth
          cases ts with
          | nil => exact absurd rfl hf.ne
          | cons t ts =>
            simp only [textL, List.cons_append, List.cons.injEq, true_and, List.drop_succ_cons, List.drop_zero] at h1 h2
            refine ⟨by simpa [Tree.good] using hf.good, by simpa [Tree.bytes] using hf.bytes, by simp [Tree.depth]; omega, ?_, by simp [Tree.size]; omega, by simp [Tree.parts]⟩
            simp only [Tree.text, h1]; simp
      · cases h
    · exact atom h40 h

theorem parse_fine {s : Txt} {t : Tree} (h : parse s = some t) : Fine 60 s t [] ∧ s.length ≤ 12000 := by
  unfold parse at h
  split at h
  · cases h
  · rename_i hlen
    split at h
    · rename_i t' hp
      simp at h; subst h
      exact ⟨pform_fine hp, by omega⟩
    · cases h
theorem parse_text {s : Txt} {t : Tree} (h : parse s = some t) : t.text = s := by simpa using (parse_fine h).1.text.symm
theorem parse_size {s : Txt} {t : Tree} (h : parse s = some t) : t.size ≤ 12000 := by have := (parse_fine h).1.size; have := (parse_fine h).2; simp at *; omega
end Go.Proofs.Ytekfjhopngcneaa
