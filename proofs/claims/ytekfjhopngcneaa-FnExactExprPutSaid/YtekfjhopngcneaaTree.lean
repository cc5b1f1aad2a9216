
/- Forms as trees, how they lie in memory, and how they are read from texts. No conditions. -/
import Derived.Test.YtekfjhopngcneaaOps
namespace Go.Proofs.Ytekfjhopngcneaa
set_option maxRecDepth 100000
set_option linter.unusedVariables false
set_option linter.unusedSimpArgs false

abbrev Txt := List UInt8
def maxN : Nat := 4294967296

inductive Tree where
  | node (a : Txt) (ps : List Tree)

def Tree.atom : Tree → Txt | .node a _ => a
def Tree.parts : Tree → List Tree | .node _ ps => ps

mutual
inductive Rep : Heap → Tree → List Value → Prop
  | mk {I : Heap} {a : Txt} {ps : List Tree} {oa : Option Addr} {c : Nat} {vs : List Value} (hl : RepL I ps vs) (hs : ∀ x, oa = some x → Still I x vs) (hn : oa = none → ps = [])
      (hc : ps.length ≤ c) (ha : a.length ≤ maxN) (hp : ps.length ≤ maxN) : Rep I (.node a ps) [.string (str a), .slice oa ps.length c]
inductive RepL : Heap → List Tree → List Value → Prop
  | nil {I : Heap} : RepL I [] []
  | cons {I : Heap} {t : Tree} {ts : List Tree} {c1 c2 : Value} {vs : List Value} (h : Rep I t [c1, c2]) (hs : RepL I ts vs) : RepL I (t :: ts) (c1 :: c2 :: vs)
end

mutual
theorem Rep.mono {I I' : Heap} (hle : HLe I I') : ∀ {t : Tree} {cs : List Value}, Rep I t cs → Rep I' t cs
  | _, _, .mk hl hs hn hc ha hp => .mk (hl.mono hle) (fun x hx => (hs x hx).mono hle) hn hc ha hp
theorem RepL.mono {I I' : Heap} (hle : HLe I I') : ∀ {ts : List Tree} {vs : List Value}, RepL I ts vs → RepL I' ts vs
  | _, _, .nil => .nil
  | _, _, .cons h hs => .cons (h.mono hle) (hs.mono hle)
end

theorem RepL.length {I : Heap} : ∀ {ts : List Tree} {vs : List Value}, RepL I ts vs → vs.length = 2 * ts.length
  | _, _, .nil => rfl
  | _, _, .cons h hs => by have := hs.length; simp [this]; omega
theorem RepL.append {I : Heap} : ∀ {ts us : List Tree} {vs ws : List Value}, RepL I ts vs → RepL I us ws → RepL I (ts ++ us) (vs ++ ws)
  | _, _, _, _, .nil, h => h
  | _, _, _, _, .cons h hs, h' => .cons h (hs.append h')
theorem RepL.get {I : Heap} : ∀ {ts : List Tree} {vs : List Value}, RepL I ts vs → ∀ i (hi : i < ts.length), ∃ c1 c2, Rep I ts[i] [c1, c2] ∧ vs[i * 2]? = some c1 ∧ vs[i * 2 + 1]? = some c2
  | _, _, .nil, i, hi => by simp at hi
  | _, _, .cons (c1 := c1) (c2 := c2) h hs, 0, hi => ⟨c1, c2, h, rfl, rfl⟩
  | _, _, .cons h hs, i + 1, hi => by
    obtain ⟨c1, c2, h1, h2, h3⟩ := hs.get i (by simpa using hi)
    refine ⟨c1, c2, by simpa using h1, ?_, ?_⟩
    · rw [show (i + 1) * 2 = i * 2 + 1 + 1 by omega]; simpa using h2
    · rw [show (i + 1) * 2 + 1 = (i * 2 + 1) + 1 + 1 by omega]; simpa using h3
theorem RepL.plain {I : Heap} : ∀ {ts : List Tree} {vs : List Value}, RepL I ts vs → vs.all plainCell = true
  | _, _, .nil => rfl
  | _, _, .cons (.mk ..) hs => by simp [plainCell, hs.plain]

/-- The parts of a form, opened. -/
theorem Rep.open {I : Heap} {t : Tree} {cs : List Value} (h : Rep I t cs) : ∃ oa c vs, cs = [.string (str t.atom), .slice oa t.parts.length c] ∧ RepL I t.parts vs ∧ (∀ x, oa = some x → Still I x vs) ∧
    (oa = none → t.parts = []) ∧ t.parts.length ≤ c ∧ t.atom.length ≤ maxN ∧ t.parts.length ≤ maxN := by
  cases h with
  | mk hl hs hn hc ha hp => exact ⟨_, _, _, rfl, hl, hs, hn, hc, ha, hp⟩
theorem Rep.shut {I : Heap} {t : Tree} {oa : Option Addr} {c : Nat} {vs : List Value} (hl : RepL I t.parts vs) (hs : ∀ x, oa = some x → Still I x vs) (hn : oa = none → t.parts = [])
    (hc : t.parts.length ≤ c) (ha : t.atom.length ≤ maxN) (hp : t.parts.length ≤ maxN) : Rep I t [.string (str t.atom), .slice oa t.parts.length c] := by
  cases t with
  | node a ps => exact .mk hl hs hn hc ha hp
theorem Rep.empty (I : Heap) : Rep I (.node [] []) [.string (str []), .slice none 0 0] := .mk .nil (by simp) (by simp) (by simp) (by simp [maxN]) (by simp [maxN])
theorem Rep.ofAtom {I : Heap} {a : Txt} (h : a.length ≤ maxN) : Rep I (.node a []) [.string (str a), .slice none 0 0] := .mk .nil (by simp) (by simp) (by simp) h (by simp [maxN])

theorem Rep.mk' {I : Heap} {a : Txt} {ps : List Tree} {oa : Option Addr} {m c : Nat} {vs : List Value} (hm : m = ps.length) (hl : RepL I ps vs) (hs : ∀ x, oa = some x → Still I x vs) (hn : oa = none → ps = [])
    (hc : m ≤ c) (ha : a.length ≤ maxN) (hp : m ≤ maxN) : Rep I (.node a ps) [.string (str a), .slice oa m c] := by
  subst hm; exact .mk hl hs hn hc ha hp
theorem still_set {I : Heap} {b : Nat} {xs ys : List Value} {T : TypeId} {fr : Nat × Nat} : Still (I.set b (.cells (xs ++ ys).toArray T fr)) ⟨b, 0, none⟩ xs :=
  .inr ⟨(xs ++ ys).toArray, T, fr, by simp [Heap.set], rfl, fun i hi => by simp [List.getElem?_append_left hi, hi]⟩

/-- The parts that a loop has gathered become a form's. -/
theorem s_freezeBuf {P : Program} {f : FuncId} {n : Nat} {I₀ : Heap} {Q : Post} {todo : List Item} {E : Env} {I : Heap} {L : Own} {e : TypeId} {a : Txt} {ts : List Tree} {xs : List Value} {B : Buf} {m c : Nat}
    (hrl : RepL I ts xs) (hB : BufOk 2 m c xs B) (hm : m = ts.length) (ha : a.length ≤ maxN) (hp : m ≤ maxN)
    (h : ∀ I', HLe I I' → Rep I' (.node a ts) [.string (str a), bufVal m c B] → RunS P f n I₀ Q todo E I' L) : RunS P f n I₀ Q todo E I (bufOwn e xs B ++ L) := by
  cases B with
  | none =>
    obtain ⟨rfl, rfl, rfl⟩ := hB
    obtain rfl : ts = [] := by cases ts with
      | nil => rfl
      | cons => simp at hm
    exact h I (.refl _) (.mk .nil (by simp) (by simp) (by simp) ha (by simp [maxN]))
  | some p =>
    obtain ⟨b, sp⟩ := p
    refine s_freeze fun hle => h _ hle (.mk' hm (hrl.mono hle) (fun y hy => ?_) (by simp) hB.2.1 ha hp)
    cases hy; exact still_set

/-- One part: where it lies, and what lies there. -/
theorem Rep.part {I : Heap} {ps : List Tree} {vs : List Value} (hl : RepL I ps vs) {x : Addr} (hs : Still I x vs) (i : Nat) (hi : i < ps.length) :
    ∃ oa' c', Rep I ps[i] [.string (str ps[i].atom), .slice oa' ps[i].parts.length c'] ∧ Still I (x.add (i * 2)) [.string (str ps[i].atom), .slice oa' ps[i].parts.length c'] := by
  obtain ⟨c1, c2, h1, h2, h3⟩ := hl.get i hi
  obtain ⟨oa', c', vs', he, _⟩ := h1.open
  simp only [List.cons.injEq, and_true] at he
  obtain ⟨rfl, rfl⟩ := he
  refine ⟨oa', c', h1, hs.part (i * 2) ?_⟩
  intro j hj
  match j, hj with
  | 0, _ => simpa using h2
  | 1, _ => simpa using h3

theorem Rep.at {I : Heap} {t : Tree} {oa : Option Addr} {vs : List Value} (hl : RepL I t.parts vs) (hs : ∀ x, oa = some x → Still I x vs) (hn : oa = none → t.parts = []) (i : Nat) (hi : i < t.parts.length) :
    ∃ x, oa = some x ∧ ∃ oa' c', Rep I t.parts[i] [.string (str t.parts[i].atom), .slice oa' t.parts[i].parts.length c'] ∧ Still I (x.add (i * 2)) [.string (str t.parts[i].atom), .slice oa' t.parts[i].parts.length c'] := by
  cases oa with
  | none => simp [hn rfl] at hi
  | some x => exact ⟨x, rfl, Rep.part hl (hs x rfl) i hi⟩
theorem Tree.part_lt (t : Tree) (i : Nat) (hi : i < t.parts.length) : SizeOf.sizeOf t.parts[i] < SizeOf.sizeOf t := by
  cases t with
  | node a ps =>
    have : ps[i] ∈ ps := List.getElem_mem hi
    have := List.sizeOf_lt_of_mem this
    simp only [Tree.parts, Tree.node.sizeOf_spec]
    omega

/-- The first part's atom. -/
def Tree.head (t : Tree) : Txt := match t.parts with
  | [] => []
  | u :: _ => u.atom

mutual
def Tree.size : Tree → Nat
  | .node _ ps => bif ps.isEmpty then 1 else sizeL ps
def sizeL : List Tree → Nat
  | [] => 0
  | t :: ts => t.size + sizeL ts
end
theorem sizeL_append : ∀ (a b : List Tree), sizeL (a ++ b) = sizeL a + sizeL b
  | [], b => by simp [sizeL]
  | t :: a, b => by simp [sizeL, sizeL_append a b]; omega

mutual
def Tree.depth : Tree → Nat
  | .node _ ps => bif ps.isEmpty then 0 else depthL ps + 1
def depthL : List Tree → Nat
  | [] => 0
  | t :: ts => max t.depth (depthL ts)
end

mutual
/-- How many bytes the text has. -/
def Tree.len : Tree → Nat
  | .node a ps => bif ps.isEmpty then a.length else 1 + lenL ps
def lenL : List Tree → Nat
  | [] => 0
  | t :: ts => t.len + 1 + lenL ts
end
mutual
def Tree.text : Tree → Txt
  | .node a ps => match ps with
    | [] => a
    | t :: ts => 40 :: (t.text ++ textL ts ++ [41])
def textL : List Tree → Txt
  | [] => []
  | t :: ts => 32 :: (t.text ++ textL ts)
end
mutual
theorem Tree.text_len : ∀ t : Tree, t.text.length = t.len
  | .node a [] => by simp [Tree.text, Tree.len]
  | .node a (t :: ts) => by
    have := t.text_len; have := textL_len ts
    simp [Tree.text, Tree.len, lenL, *]; omega
theorem textL_len : ∀ ts : List Tree, (textL ts).length = lenL ts
  | [] => rfl
  | t :: ts => by have := t.text_len; have := textL_len ts; simp [textL, lenL, *]; omega
end

theorem sizeL_take (ps : List Tree) (i : Nat) (hi : i < ps.length) : sizeL (ps.take (i + 1)) = sizeL (ps.take i) + ps[i].size := by
  rw [List.take_succ_eq_append_getElem hi, sizeL_append]; simp [sizeL]
theorem sizeL_le (ps : List Tree) (i : Nat) : sizeL (ps.take i) ≤ sizeL ps := by
  have h := sizeL_append (ps.take i) (ps.drop i)
  rw [List.take_append_drop] at h
  omega
theorem Tree.size_eq (t : Tree) (h : t.parts ≠ []) : t.size = sizeL t.parts := by
  cases t with
  | node a ps => cases ps with
    | nil => exact absurd rfl h
    | cons p ps => simp [Tree.size, Tree.parts]
theorem Tree.size_atom (t : Tree) (h : t.parts = []) : t.size = 1 := by
  cases t with
  | node a ps => simp [Tree.parts] at h; subst h; simp [Tree.size]

def Tree.is (t : Tree) (h : Txt) (n : Nat) : Bool := decide (t.parts.length = n) && decide (t.head = h)
/-- Is it a type, however many atoms it has? -/
def Tree.isType : Tree → Bool
  | .node a [] => decide (a = [105])
  | .node _ [h, x, y] => (decide (h.atom = [62]) || decide (h.atom = [42])) && x.isType && y.isType
  | .node _ _ => false
def Tree.typed (t : Tree) : Bool := t.isType && decide (t.size ≤ 16)

/-- The text of the first parts, with what stands ahead of each. -/
def openT : List Tree → Txt
  | [] => []
  | t :: ts => 40 :: (t.text ++ textL ts)
theorem textL_append : ∀ (a b : List Tree), textL (a ++ b) = textL a ++ textL b
  | [], b => rfl
  | t :: a, b => by simp [textL, textL_append a b]
theorem openT_take (ps : List Tree) (i : Nat) (hi : i < ps.length) : openT (ps.take (i + 1)) = openT (ps.take i) ++ (if i = 0 then 40 else 32) :: ps[i].text := by
  cases ps with
  | nil => simp at hi
  | cons t ts =>
    cases i with
    | zero => simp [openT, textL]
    | succ i =>
      have hi' : i < ts.length := by simpa using hi
      simp only [List.take_succ_cons, openT]
      rw [List.take_succ_eq_append_getElem hi', textL_append]
      simp [textL]
theorem Tree.text_eq (t : Tree) (h : t.parts ≠ []) : t.text = openT t.parts ++ [41] := by
  cases t with
  | node a ps => cases ps with
    | nil => exact absurd rfl h
    | cons p ps => simp [Tree.text, Tree.parts, openT]
theorem Tree.text_atom (t : Tree) (h : t.parts = []) : t.text = t.atom := by
  cases t with
  | node a ps => simp [Tree.parts] at h; subst h; simp [Tree.text, Tree.atom]

/- An atom has no parts, and nothing else has an atom. -/
mutual
def Tree.good : Tree → Bool
  | .node a ps => (bif ps.isEmpty then !a.isEmpty else a.isEmpty) && goodL ps
def goodL : List Tree → Bool
  | [] => true
  | t :: ts => t.good && goodL ts
end
theorem goodL_get : ∀ {ts : List Tree}, goodL ts = true → ∀ i (hi : i < ts.length), ts[i].good = true
  | [], _, i, hi => by simp at hi
  | t :: ts, h, 0, _ => by simp [goodL] at h; exact h.1
  | t :: ts, h, i + 1, hi => by simp [goodL] at h; simpa using goodL_get h.2 i (by simpa using hi)

/- Reading. -/
def abyte (b : UInt8) : Bool := (decide (97 ≤ b.toNat) && decide (b.toNat ≤ 122)) || (decide (48 ≤ b.toNat) && decide (b.toNat ≤ 57)) || decide (b.toNat = 43) || decide (b.toNat = 45) || decide (b.toNat = 42) || decide (b.toNat = 62)

/-- The parts behind an opening parenthesis (or behind a space), by a reader of one part. -/
def partsBy (p : Txt → Option (Tree × Txt)) : Nat → Txt → Option (List Tree × Txt)
  | 0, _ => none
  | n + 1, s => match p s with
    | none => none
    | some (t, r) => match r with
      | [] => none
      | c :: r' => bif c.toNat == 41 then some ([t], r') else bif c.toNat == 32 then (match partsBy p n r' with
        | some (ts, r'') => some (t :: ts, r'')
        | none => none) else none
def pform : Nat → Txt → Option (Tree × Txt)
  | k, [] => none
  | k, c :: r => bif c.toNat == 40 then (match k with
      | 0 => none
      | k + 1 => match partsBy (pform k) (r.length + 1) r with
        | some (ts, r') => some (.node [] ts, r')
        | none => none)
    else bif abyte c then some (.node ((c :: r).takeWhile abyte) [], (c :: r).dropWhile abyte) else none
/-- What a whole text is read as. -/
def parse (s : Txt) : Option Tree := if 12000 < s.length then none else match pform 60 s with
  | some (t, []) => some t
  | _ => none

theorem takeWhile_le (p : UInt8 → Bool) (s : Txt) : (s.takeWhile p).length + (s.dropWhile p).length = s.length := by
  rw [← List.length_append, List.takeWhile_append_dropWhile]

theorem partsBy_len {p : Txt → Option (Tree × Txt)} (hp : ∀ s t r, p s = some (t, r) → r.length ≤ s.length) : ∀ {n : Nat} {s : Txt} {ts : List Tree} {r : Txt}, partsBy p n s = some (ts, r) → r.length < s.length ∧ ts ≠ [] := by
  intro n
  induction n with
  | zero => intro s ts r h; simp [partsBy] at h
  | succ n ih =>
    intro s ts r h
    simp only [partsBy] at h
    split at h
    · simp at h
    · rename_i t r1 hpp
      have h1 := hp _ _ _ hpp
      split at h
      · simp at h
      · rename_i c r'
        simp at h1
        cases h41 : (c.toNat == 41) with
        | true => simp [h41] at h; obtain ⟨rfl, rfl⟩ := h; exact ⟨by omega, by simp⟩
        | false =>
          cases h32 : (c.toNat == 32) with
          | false => simp [h41, h32] at h
          | true =>
            simp [h41, h32] at h
            split at h
            · rename_i ts' r'' hrec
              simp at h
              obtain ⟨rfl, rfl⟩ := h
              have := (ih hrec).1
              exact ⟨by omega, by simp⟩
            · simp at h
theorem pform_len : ∀ {k : Nat} {s : Txt} {t : Tree} {r : Txt}, pform k s = some (t, r) → r.length < s.length := by
  intro k
  induction k with
  | zero =>
    intro s t r h
    cases s with
    | nil => simp [pform] at h
    | cons c s =>
      simp only [pform] at h
      cases h40 : (c.toNat == 40) with
      | true => simp [h40] at h
      | false =>
        cases hb : abyte c with
        | false => simp [h40, hb] at h
        | true =>
          simp [h40, hb] at h
          obtain ⟨_, rfl⟩ := h
          have := takeWhile_le abyte s
          simp; omega
  | succ k ih =>
    intro s t r h
    cases s with
    | nil => simp [pform] at h
    | cons c s =>
      simp only [pform] at h
      cases h40 : (c.toNat == 40) with
      | true =>
        simp [h40] at h
        split at h
        · rename_i ts r' hpp
          simp at h
          obtain ⟨_, rfl⟩ := h
          have := (partsBy_len (fun s t r hh => Nat.le_of_lt (ih hh)) hpp).1
          simp; omega
        · simp at h
      | false =>
        cases hb : abyte c with
        | false => simp [h40, hb] at h
        | true =>
          simp [h40, hb] at h
          obtain ⟨_, rfl⟩ := h
          have := takeWhile_le abyte s
          simp; omega


theorem takeWhile_at {p : UInt8 → Bool} {s : Txt} {n : Nat} (h : (s.take n).all p = true) (he : n = s.length ∨ (n < s.length ∧ p (s.getD n 0) = false)) : s.takeWhile p = s.take n ∧ s.dropWhile p = s.drop n := by
  have hp : ∀ x ∈ s.take n, p x = true := by simpa using h
  have hd : (s.drop n).takeWhile p = [] ∧ (s.drop n).dropWhile p = s.drop n := by
    rcases he with rfl | ⟨hlt, hf⟩
    · simp
    · rw [List.drop_eq_getElem_cons hlt]
      have : p s[n] = false := by simpa [hlt] using hf
      simp [List.takeWhile, List.dropWhile, this]
  constructor
  · conv => lhs; rw [← List.take_append_drop n s]
    rw [List.takeWhile_append_of_pos hp, hd.1]; simp
  · conv => lhs; rw [← List.take_append_drop n s]
    rw [List.dropWhile_append_of_pos hp, hd.2]

theorem pform_open {k : Nat} {s : Txt} (h : (s.getD 0 0).toNat ≠ 40) : pform k s = (if s.takeWhile abyte = [] then none else some (.node (s.takeWhile abyte) [], s.dropWhile abyte)) := by
  cases s with
  | nil => cases k <;> simp [pform]
  | cons c r =>
    have hc : (c.toNat == 40) = false := by simpa using h
    cases hb : abyte c <;> cases k <;> simp [pform, hc, hb, List.takeWhile_cons]
theorem pform_paren {k : Nat} {s : Txt} (h : (s.getD 0 0).toNat = 40) : pform (k + 1) s = (match partsBy (pform k) s.length (s.drop 1) with
    | some (ts, r) => some (.node [] ts, r)
    | none => none) := by
  cases s with
  | nil => simp at h
  | cons c r =>
    have hc : (c.toNat == 40) = true := by simpa using h
    simp [pform, hc]
theorem pform_zero {s : Txt} (h : (s.getD 0 0).toNat = 40) : pform 0 s = none := by
  cases s with
  | nil => simp at h
  | cons c r =>
    have hc : (c.toNat == 40) = true := by simpa using h
    simp [pform, hc]

theorem partsBy_suffix {p : Txt → Option (Tree × Txt)} (hp : ∀ s t r, p s = some (t, r) → r <:+ s) : ∀ {n : Nat} {s : Txt} {ts : List Tree} {r : Txt}, partsBy p n s = some (ts, r) → r <:+ s := by
  intro n
  induction n with
  | zero => intro s ts r h; simp [partsBy] at h
  | succ n ih =>
    intro s ts r h
    simp only [partsBy] at h
    split at h
    · simp at h
    · rename_i t r1 hpp
      have h1 := hp _ _ _ hpp
      split at h
      · simp at h
      · rename_i c r'
        have h2 : r' <:+ s := (List.suffix_cons c r').trans h1
        cases h41 : (c.toNat == 41) with
        | true => simp [h41] at h; obtain ⟨_, rfl⟩ := h; exact h2
        | false =>
          cases h32 : (c.toNat == 32) with
          | false => simp [h41, h32] at h
          | true =>
            simp [h41, h32] at h
            split at h
            · rename_i ts' r'' hrec
              simp at h
              obtain ⟨_, rfl⟩ := h
              exact (ih hrec).trans h2
            · simp at h
theorem pform_suffix : ∀ {k : Nat} {s : Txt} {t : Tree} {r : Txt}, pform k s = some (t, r) → r <:+ s := by
  intro k
  induction k with
  | zero =>
    intro s t r h
    by_cases h40 : (s.getD 0 0).toNat = 40
    · rw [pform_zero h40] at h; cases h
    · rw [pform_open h40] at h
      split at h
      · cases h
      · simp at h; rw [← h.2]; exact List.dropWhile_suffix _
  | succ k ih =>
    intro s t r h
    by_cases h40 : (s.getD 0 0).toNat = 40
    · rw [pform_paren h40] at h
      split at h
      · rename_i ts r' hpp
        simp at h
        obtain ⟨_, rfl⟩ := h
        exact (partsBy_suffix (fun _ _ _ hh => ih hh) hpp).trans (List.drop_suffix _ _)
      · cases h
    · rw [pform_open h40] at h
      split at h
      · cases h
      · simp at h; rw [← h.2]; exact List.dropWhile_suffix _
theorem suffix_drop {s r : Txt} (h : r <:+ s) : r = s.drop (s.length - r.length) := by
  obtain ⟨a, rfl⟩ := h
  simp

structure PS where
  I : Heap
  s : Txt
  m : Nat
  ts : List Tree
  B : Buf
  c : Nat
  xs : List Value
  n : Nat
end Go.Proofs.Ytekfjhopngcneaa
