
/- Lists of texts; environments. No conditions. -/
import Derived.Test.YtekfjhopngcneaaW6
namespace Go.Proofs.Ytekfjhopngcneaa
set_option maxRecDepth 100000
set_option linter.unusedVariables false
set_option linter.unusedSimpArgs false

def sv (s : Txt) : Value := .string (str s)
structure Strs (I : Heap) (oa : Option Addr) (l : List Txt) (c : Nat) : Prop where
  still : ∀ x, oa = some x → Still I x (l.map sv)
  nil : oa = none → l = []
  cap : l.length ≤ c
  len : l.length ≤ maxN
  each : ∀ s ∈ l, s.length ≤ maxN
theorem Strs.mono {I I' : Heap} {oa : Option Addr} {l : List Txt} {c : Nat} (hle : HLe I I') (h : Strs I oa l c) : Strs I' oa l c :=
  ⟨fun x hx => (h.still x hx).mono hle, h.nil, h.cap, h.len, h.each⟩
theorem Strs.at {I : Heap} {oa : Option Addr} {l : List Txt} {c : Nat} (h : Strs I oa l c) (i : Nat) (hi : i < l.length) : ∃ x, oa = some x ∧ Still I (x.add (i * 1)) [.string (str l[i])] := by
  cases oa with
  | none => have := h.nil rfl; subst this; simp at hi
  | some x =>
    refine ⟨x, rfl, (h.still x rfl).part (i * 1) ?_⟩
    intro j hj
    obtain rfl : j = 0 := by simpa using hj
    simp [hi, sv]

/-- Where a text stands last among the first ones. -/
def lastAt (l : List Txt) (s : Txt) : Nat → Option Nat
  | 0 => none
  | n + 1 => if l.getD n [] = s then some n else lastAt l s n
def lastIdx (l : List Txt) (s : Txt) : Option Nat := lastAt l s l.length
theorem lastAt_lt {l : List Txt} {s : Txt} : ∀ {n i : Nat}, lastAt l s n = some i → i < n ∧ l.getD i [] = s := by
  intro n
  induction n with
  | zero => intro i h; simp [lastAt] at h
  | succ n ih =>
    intro i h
    simp only [lastAt] at h
    split at h
    · simp at h; subst h; exact ⟨by omega, by assumption⟩
    · have := ih h; exact ⟨by omega, this.2⟩
def idxVal : Option Nat → Int
  | some i => i
  | none => -1

/-- The type that stands last for a name, or "". -/
def lookTxt (names types : List Txt) (s : Txt) : Txt := match lastIdx names s with
  | some i => types.getD i []
  | none => []
def isEnv (names types : List Txt) : Bool := decide (names.length ≤ 8) && decide (names.length = types.length) && names.all isName && types.all fun s => (typeOf s).isSome
theorem all_take {α : Type} {p : α → Bool} {l : List α} {i : Nat} (h : (l.take i).all p = true) (hi : i < l.length) (hp : p l[i] = true) : (l.take (i + 1)).all p = true := by
  rw [List.take_succ_eq_append_getElem hi, List.all_append, h]; simp [hp]
theorem all_not {α : Type} {p : α → Bool} {l : List α} {i : Nat} (hi : i < l.length) (hp : p l[i] = false) : l.all p = false := by
  rw [List.all_eq_false]; exact ⟨l[i], List.getElem_mem hi, by simp [hp]⟩
end Go.Proofs.Ytekfjhopngcneaa
