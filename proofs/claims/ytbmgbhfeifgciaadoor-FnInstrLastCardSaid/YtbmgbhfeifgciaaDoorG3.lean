/- Forms as trees, how they lie in memory, and how they are read from texts. No conditions. -/
import Derived.Test.YtbmgbhfeifgciaaDoorG2

namespace Go.Proofs.YtbmgbhfeifgciaaDoor
set_option maxRecDepth 100000
set_option linter.unusedVariables false
set_option linter.unusedSimpArgs false

abbrev Af := List UInt8
def As : Nat := 4294967296

inductive Tree where
 | node (a : Af) (ps : List Tree)

def Tree.atom : Tree → Af | .node a _ => a
def Tree.parts : Tree → List Tree | .node _ ps => ps

mutual
inductive Rep : Heap → Tree → List Value → Prop
 | mk {I : Heap} {a : Af} {ps : List Tree} {oa : Option Addr} {c : Nat} {vs : List Value} (hl : RepL I ps vs) (hs : ∀ x, oa = some x → Still I x vs) (hn : oa = none → ps = [])
   (hc : ps.length ≤ c) (ha : a.length ≤ As) (hp : ps.length ≤ As) : Rep I (.node a ps) [.string (str a), .slice oa ps.length c]
inductive RepL : Heap → List Tree → List Value → Prop
 | nil {I : Heap} : RepL I [] []
 | cons {I : Heap} {t : Tree} {ts : List Tree} {c1 c2 : Value} {vs : List Value} (h : Rep I t [c1, c2]) (hs : RepL I ts vs) : RepL I (t :: ts) (c1 :: c2 :: vs)
end

mutual
theorem Rep.mono {I I' : Heap} (hle : HLe I I') : ∀ {t : Tree} {cs : List Value}, Rep I t cs → Rep I' t cs
 | _, _, .mk hl hs hn hc ha hp => .mk (hl.mono hle) (fun x hx => (hs x hx).mono hle) hn hc ha hp
theorem RepL.mono {I I' : Heap} (hle : HLe I I') : ∀ {ts : List Tree} {vs : List Value}, RepL I ts vs → RepL I' ts vs
 | _, _, .nil => .nil
 | _, _, .cons h hs => .cons (h.mono hle) (hs.mono hle)
end

theorem RepL.length {I : Heap} : ∀ {ts : List Tree} {vs : List Value}, RepL I ts vs → vs.length = 2 * ts.length
 | _, _, .nil => rfl
 | _, _, .cons h hs => by have := hs.length; simp [this]; omega
theorem RepL.append {I : Heap} : ∀ {ts us : List Tree} {vs ws : List Value}, RepL I ts vs → RepL I us ws → RepL I (ts ++ us) (vs ++ ws)
 | _, _, _, _, .nil, h => h
 | _, _, _, _, .cons h hs, h' => .cons h (hs.append h')
theorem RepL.get {I : Heap} : ∀ {ts : List Tree} {vs : List Value}, RepL I ts vs → ∀ i (hi : i < ts.length), ∃ c1 c2, Rep I ts[i] [c1, c2] ∧ vs[i * 2]? = some c1 ∧ vs[i * 2 + 1]? = some c2
 | _, _, .nil, i, hi => by simp at hi
 | _, _, .cons (c1 := c1) (c2 := c2) h hs, 0, hi => ⟨c1, c2, h, rfl, rfl⟩
 | _, _, .cons h hs, i + 1, hi => by
  obtain ⟨c1, c2, h1, h2, h3⟩ := hs.get i (by simpa using hi); refine ⟨c1, c2, by simpa using h1, ?_, ?_⟩
  ·rw [show (i + 1) * 2 = i * 2 + 1 + 1 by omega]; simpa using h2
  ·rw [show (i + 1) * 2 + 1 = (i * 2 + 1) + 1 + 1 by omega]; simpa using h3
theorem RepL.plain {I : Heap} : ∀ {ts : List Tree} {vs : List Value}, RepL I ts vs → vs.all Bc = true
 | _, _, .nil => rfl
 | _, _, .cons (.mk ..) hs => by simp [Bc, hs.plain]

theorem Rep.open {I : Heap} {t : Tree} {cs : List Value} (h : Rep I t cs) : ∃ oa c vs, cs = [.string (str t.atom), .slice oa t.parts.length c] ∧ RepL I t.parts vs ∧ (∀ x, oa = some x → Still I x vs) ∧
  (oa = none → t.parts = []) ∧ t.parts.length ≤ c ∧ t.atom.length ≤ As ∧ t.parts.length ≤ As := by
 cases h with
 | mk hl hs hn hc ha hp => exact ⟨_, _, _, rfl, hl, hs, hn, hc, ha, hp⟩
theorem Rep.empty (I : Heap) : Rep I (.node [] []) [.string (str []), .slice none 0 0] := .mk .nil (by simp) (by simp) (by simp) (by simp [As]) (by simp [As])
theorem Rep.ofAtom {I : Heap} {a : Af} (h : a.length ≤ As) : Rep I (.node a []) [.string (str a), .slice none 0 0] := .mk .nil (by simp) (by simp) (by simp) h (by simp [As])

theorem Rep.mk' {I : Heap} {a : Af} {ps : List Tree} {oa : Option Addr} {m c : Nat} {vs : List Value} (hm : m = ps.length) (hl : RepL I ps vs) (hs : ∀ x, oa = some x → Still I x vs) (hn : oa = none → ps = [])
  (hc : m ≤ c) (ha : a.length ≤ As) (hp : m ≤ As) : Rep I (.node a ps) [.string (str a), .slice oa m c] := by
 subst hm; exact .mk hl hs hn hc ha hp
theorem D7 {I : Heap} {b : Nat} {xs ys : List Value} {T : TypeId} {fr : Nat × Nat} : Still (I.set b (.cells (xs ++ ys).toArray T fr)) ⟨b, 0, none⟩ xs :=
 .inr ⟨(xs ++ ys).toArray, T, fr, by simp [Heap.set], rfl, fun i hi => by simp [List.getElem?_append_left hi, hi]⟩

theorem Ib {P : Program} {f : FuncId} {n : Nat} {I₀ : Heap} {Q : A5} {todo : List Item} {E : D3} {I : Heap} {L : At} {e : TypeId} {a : Af} {ts : List Tree} {xs : List Value} {B : Hl} {m c : Nat}
  (hrl : RepL I ts xs) (hB : Eh 2 m c xs B) (hm : m = ts.length) (ha : a.length ≤ As) (hp : m ≤ As)
  (h : ∀ I', HLe I I' → Rep I' (.node a ts) [.string (str a), Bw m c B] → RunS P f n I₀ Q todo E I' L) : RunS P f n I₀ Q todo E I (C3 e xs B ++ L) := by
 cases B with
 | none =>
  obtain ⟨rfl, rfl, rfl⟩ := hB; obtain rfl : ts = [] := by cases ts with
   | nil => rfl
   | cons => simp at hm
  exact h I (.refl _) (.mk .nil (by simp) (by simp) (by simp) ha (by simp [As]))
 | some p =>
  obtain ⟨b, sp⟩ := p; refine Fk fun hle => h _ hle (.mk' hm (hrl.mono hle) (fun y hy => ?_) (by simp) hB.2.1 ha hp)
  cases hy; exact D7

theorem Rep.part {I : Heap} {ps : List Tree} {vs : List Value} (hl : RepL I ps vs) {x : Addr} (hs : Still I x vs) (i : Nat) (hi : i < ps.length) :
  ∃ oa' c', Rep I ps[i] [.string (str ps[i].atom), .slice oa' ps[i].parts.length c'] ∧ Still I (x.add (i * 2)) [.string (str ps[i].atom), .slice oa' ps[i].parts.length c'] := by
 obtain ⟨c1, c2, h1, h2, h3⟩ := hl.get i hi; obtain ⟨oa', c', vs', he, _⟩ := h1.open
 simp only [List.cons.injEq, and_true] at he
 obtain ⟨rfl, rfl⟩ := he; refine ⟨oa', c', h1, hs.part (i * 2) ?_⟩; intro j hj
 match j, hj with
 | 0, _ => simpa using h2
 | 1, _ => simpa using h3

theorem Rep.at {I : Heap} {t : Tree} {oa : Option Addr} {vs : List Value} (hl : RepL I t.parts vs) (hs : ∀ x, oa = some x → Still I x vs) (hn : oa = none → t.parts = []) (i : Nat) (hi : i < t.parts.length) :
  ∃ x, oa = some x ∧ ∃ oa' c', Rep I t.parts[i] [.string (str t.parts[i].atom), .slice oa' t.parts[i].parts.length c'] ∧ Still I (x.add (i * 2)) [.string (str t.parts[i].atom), .slice oa' t.parts[i].parts.length c'] := by
 cases oa with
 | none => simp [hn rfl] at hi
 | some x => exact ⟨x, rfl, Rep.part hl (hs x rfl) i hi⟩
theorem Tree.part_lt (t : Tree) (i : Nat) (hi : i < t.parts.length) : SizeOf.sizeOf t.parts[i] < SizeOf.sizeOf t := by
 cases t with
 | node a ps =>
  have : ps[i] ∈ ps := List.getElem_mem hi
  have := List.sizeOf_lt_of_mem this
  simp only [Tree.parts, Tree.node.sizeOf_spec]
  omega

def Tree.head (t : Tree) : Af := match t.parts with
 | [] => []
 | u :: _ => u.atom

mutual
def Tree.size : Tree → Nat
 | .node _ ps => bif ps.isEmpty then 1 else E4 ps
def E4 : List Tree → Nat
 | [] => 0
 | t :: ts => t.size + E4 ts
end
mutual
def Tree.depth : Tree → Nat
 | .node _ ps => bif ps.isEmpty then 0 else Bz ps + 1
def Bz : List Tree → Nat
 | [] => 0
 | t :: ts => max t.depth (Bz ts)
end

mutual
def Tree.len : Tree → Nat
 | .node a ps => bif ps.isEmpty then a.length else 1 + Df ps
def Df : List Tree → Nat
 | [] => 0
 | t :: ts => t.len + 1 + Df ts
end
mutual
def Tree.text : Tree → Af
 | .node a ps => match ps with
  | [] => a
  | t :: ts => 40 :: (t.text ++ Cp ts ++ [41])
def Cp : List Tree → Af
 | [] => []
 | t :: ts => 32 :: (t.text ++ Cp ts)
end
mutual
theorem Tree.text_len : ∀ t : Tree, t.text.length = t.len
 | .node a [] => by simp [Tree.text, Tree.len]
 | .node a (t :: ts) => by
  have := t.text_len; have := Ki ts
  simp [Tree.text, Tree.len, Df, *]; omega
theorem Ki : ∀ ts : List Tree, (Cp ts).length = Df ts
 | [] => rfl
 | t :: ts => by have := t.text_len; have := Ki ts; simp [Cp, Df, *]; omega
end

def Tree.is (t : Tree) (h : Af) (n : Nat) : Bool := decide (t.parts.length = n) && decide (t.head = h)
def Tree.isType : Tree → Bool
 | .node a [] => decide (a = [105])
 | .node _ [h, x, y] => (decide (h.atom = [62]) || decide (h.atom = [42])) && x.isType && y.isType
 | .node _ _ => false
def Tree.typed (t : Tree) : Bool := t.isType && decide (t.size ≤ 16)

def Du : List Tree → Af
 | [] => []
 | t :: ts => 40 :: (t.text ++ Cp ts)
theorem Fs : ∀ (a b : List Tree), Cp (a ++ b) = Cp a ++ Cp b
 | [], b => rfl
 | t :: a, b => by simp [Cp, Fs a b]
theorem M5 (ps : List Tree) (i : Nat) (hi : i < ps.length) : Du (ps.take (i + 1)) = Du (ps.take i) ++ (if i = 0 then 40 else 32) :: ps[i].text := by
 cases ps with
 | nil => simp at hi
 | cons t ts =>
  cases i with
  | zero => simp [Du, Cp]
  | succ i =>
   have hi' : i < ts.length := by simpa using hi
   simp only [List.take_succ_cons, Du]
   rw [List.take_succ_eq_append_getElem hi', Fs]
   simp [Cp]
theorem Tree.text_eq (t : Tree) (h : t.parts ≠ []) : t.text = Du t.parts ++ [41] := by
 cases t with
 | node a ps => cases ps with
  | nil => exact absurd rfl h
  | cons p ps => simp [Tree.text, Tree.parts, Du]
theorem Tree.text_atom (t : Tree) (h : t.parts = []) : t.text = t.atom := by
 cases t with
 | node a ps => simp [Tree.parts] at h; subst h; simp [Tree.text, Tree.atom]

/- An atom has no parts, and nothing else has an atom. -/
mutual
def Tree.good : Tree → Bool
 | .node a ps => (bif ps.isEmpty then !a.isEmpty else a.isEmpty) && Dr ps
def Dr : List Tree → Bool
 | [] => true
 | t :: ts => t.good && Dr ts
end
theorem J7 : ∀ {ts : List Tree}, Dr ts = true → ∀ i (hi : i < ts.length), ts[i].good = true
 | [], _, i, hi => by simp at hi
 | t :: ts, h, 0, _ => by simp [Dr] at h; exact h.1
 | t :: ts, h, i + 1, hi => by simp [Dr] at h; simpa using J7 h.2 i (by simpa using hi)

/- Reading. -/
def Ce (b : UInt8) : Bool := (decide (97 ≤ b.toNat) && decide (b.toNat ≤ 122)) || (decide (48 ≤ b.toNat) && decide (b.toNat ≤ 57)) || decide (b.toNat = 43) || decide (b.toNat = 45) || decide (b.toNat = 42) || decide (b.toNat = 62)

def Bn (p : Af → Option (Tree × Af)) : Nat → Af → Option (List Tree × Af)
 | 0, _ => none
 | n + 1, s => match p s with
  | none => none
  | some (t, r) => match r with
   | [] => none
   | c :: r' => bif c.toNat == 41 then some ([t], r') else bif c.toNat == 32 then (match Bn p n r' with
    | some (ts, r'') => some (t :: ts, r'')
    | none => none) else none
def Bg : Nat → Af → Option (Tree × Af)
 | k, [] => none
 | k, c :: r => bif c.toNat == 40 then (match k with
   | 0 => none
   | k + 1 => match Bn (Bg k) (r.length + 1) r with
    | some (ts, r') => some (.node [] ts, r')
    | none => none)
  else bif Ce c then some (.node ((c :: r).takeWhile Ce) [], (c :: r).dropWhile Ce) else none
def Bv (s : Af) : Option Tree := if 12000 < s.length then none else match Bg 60 s with
 | some (t, []) => some t
 | _ => none

theorem Fr (p : UInt8 → Bool) (s : Af) : (s.takeWhile p).length + (s.dropWhile p).length = s.length := by
 rw [← List.length_append, List.takeWhile_append_dropWhile]

theorem Mc {p : Af → Option (Tree × Af)} (hp : ∀ s t r, p s = some (t, r) → r.length ≤ s.length) : ∀ {n : Nat} {s : Af} {ts : List Tree} {r : Af}, Bn p n s = some (ts, r) → r.length < s.length ∧ ts ≠ [] := by
 intro n
 induction n with
 | zero => intro s ts r h; simp [Bn] at h
 | succ n ih =>
  intro s ts r h
  simp only [Bn] at h
  split at h
  ·simp at h
  ·rename_i t r1 hpp
   have h1 := hp _ _ _ hpp
   split at h
   ·simp at h
   ·rename_i c r'
    simp at h1
    cases h41 : (c.toNat == 41) with
    | true => simp [h41] at h; obtain ⟨rfl, rfl⟩ := h; exact ⟨by omega, by simp⟩
    | false =>
     cases h32 : (c.toNat == 32) with
     | false => simp [h41, h32] at h
     | true =>
      simp [h41, h32] at h
      split at h
      ·rename_i ts' r'' hrec
       simp at h
       obtain ⟨rfl, rfl⟩ := h
       have := (ih hrec).1
       exact ⟨by omega, by simp⟩
      ·simp at h
theorem Ke : ∀ {k : Nat} {s : Af} {t : Tree} {r : Af}, Bg k s = some (t, r) → r.length < s.length := by
 intro k
 induction k with
 | zero =>
  intro s t r h
  cases s with
  | nil => simp [Bg] at h
  | cons c s =>
   simp only [Bg] at h
   cases h40 : (c.toNat == 40) with
   | true => simp [h40] at h
   | false =>
    cases hb : Ce c with
    | false => simp [h40, hb] at h
    | true =>
     simp [h40, hb] at h
     obtain ⟨_, rfl⟩ := h
     have := Fr Ce s
     simp; omega
 | succ k ih =>
  intro s t r h
  cases s with
  | nil => simp [Bg] at h
  | cons c s =>
   simp only [Bg] at h
   cases h40 : (c.toNat == 40) with
   | true =>
    simp [h40] at h
    split at h
    ·rename_i ts r' hpp
     simp at h
     obtain ⟨_, rfl⟩ := h
     have := (Mc (fun s t r hh => Nat.le_of_lt (ih hh)) hpp).1
     simp; omega
    ·simp at h
   | false =>
    cases hb : Ce c with
    | false => simp [h40, hb] at h
    | true =>
     simp [h40, hb] at h
     obtain ⟨_, rfl⟩ := h
     have := Fr Ce s
     simp; omega


theorem Fq {p : UInt8 → Bool} {s : Af} {n : Nat} (h : (s.take n).all p = true) (he : n = s.length ∨ (n < s.length ∧ p (s.getD n 0) = false)) : s.takeWhile p = s.take n ∧ s.dropWhile p = s.drop n := by
 have hp : ∀ x ∈ s.take n, p x = true := by simpa using h
 have hd : (s.drop n).takeWhile p = [] ∧ (s.drop n).dropWhile p = s.drop n := by
  rcases he with rfl | ⟨hlt, hf⟩
  ·simp
  ·rw [List.drop_eq_getElem_cons hlt]
   have : p s[n] = false := by simpa [hlt] using hf
   simp [List.takeWhile, List.dropWhile, this]
 constructor
 ·conv => lhs; rw [← List.take_append_drop n s]
  rw [List.takeWhile_append_of_pos hp, hd.1]; simp
 ·conv => lhs; rw [← List.take_append_drop n s]
  rw [List.dropWhile_append_of_pos hp, hd.2]

theorem Dn {k : Nat} {s : Af} (h : (s.getD 0 0).toNat ≠ 40) : Bg k s = (if s.takeWhile Ce = [] then none else some (.node (s.takeWhile Ce) [], s.dropWhile Ce)) := by
 cases s with
 | nil => cases k <;> simp [Bg]
 | cons c r =>
  have hc : (c.toNat == 40) = false := by simpa using h
  cases hb : Ce c <;> cases k <;> simp [Bg, hc, hb, List.takeWhile_cons]
theorem Ec {k : Nat} {s : Af} (h : (s.getD 0 0).toNat = 40) : Bg (k + 1) s = (match Bn (Bg k) s.length (s.drop 1) with
  | some (ts, r) => some (.node [] ts, r)
  | none => none) := by
 cases s with
 | nil => simp at h
 | cons c r =>
  have hc : (c.toNat == 40) = true := by simpa using h
  simp [Bg, hc]
theorem Eu {s : Af} (h : (s.getD 0 0).toNat = 40) : Bg 0 s = none := by
 cases s with
 | nil => simp at h
 | cons c r =>
  have hc : (c.toNat == 40) = true := by simpa using h
  simp [Bg, hc]

theorem Ja {p : Af → Option (Tree × Af)} (hp : ∀ s t r, p s = some (t, r) → r <:+ s) : ∀ {n : Nat} {s : Af} {ts : List Tree} {r : Af}, Bn p n s = some (ts, r) → r <:+ s := by
 intro n
 induction n with
 | zero => intro s ts r h; simp [Bn] at h
 | succ n ih =>
  intro s ts r h
  simp only [Bn] at h
  split at h
  ·simp at h
  ·rename_i t r1 hpp
   have h1 := hp _ _ _ hpp
   split at h
   ·simp at h
   ·rename_i c r'
    have h2 : r' <:+ s := (List.suffix_cons c r').trans h1
    cases h41 : (c.toNat == 41) with
    | true => simp [h41] at h; obtain ⟨_, rfl⟩ := h; exact h2
    | false =>
     cases h32 : (c.toNat == 32) with
     | false => simp [h41, h32] at h
     | true =>
      simp [h41, h32] at h
      split at h
      ·rename_i ts' r'' hrec
       simp at h
       obtain ⟨_, rfl⟩ := h
       exact (ih hrec).trans h2
      ·simp at h
theorem Hd : ∀ {k : Nat} {s : Af} {t : Tree} {r : Af}, Bg k s = some (t, r) → r <:+ s := by
 intro k
 induction k with
 | zero =>
  intro s t r h
  by_cases h40 : (s.getD 0 0).toNat = 40
  ·rw [Eu h40] at h; cases h
  ·rw [Dn h40] at h
   split at h
   ·cases h
   ·simp at h; rw [← h.2]; exact List.dropWhile_suffix _
 | succ k ih =>
  intro s t r h
  by_cases h40 : (s.getD 0 0).toNat = 40
  ·rw [Ec h40] at h
   split at h
   ·rename_i ts r' hpp
    simp at h
    obtain ⟨_, rfl⟩ := h
    exact (Ja (fun _ _ _ hh => ih hh) hpp).trans (List.drop_suffix _ _)
   ·cases h
  ·rw [Dn h40] at h
   split at h
   ·cases h
   ·simp at h; rw [← h.2]; exact List.dropWhile_suffix _
theorem Mi {s r : Af} (h : r <:+ s) : r = s.drop (s.length - r.length) := by
 obtain ⟨a, rfl⟩ := h
 simp

structure PS where
 I : Heap
 s : Af
 m : Nat
 ts : List Tree
 B : Hl
 c : Nat
 xs : List Value
 n : Nat
theorem Lt (lo n hi : Int) (I : Heap) (L : At) : Fun Tryd.prog 41 [.int .i64 n, .int .i64 lo, .int .i64 hi] I L (Cr (.bool (decide (lo ≤ n ∧ n ≤ hi))) I L) := by
 refine Ag (by simp) ?_; refine Se rfl (Oa rfl (Aa (Se rfl (Om rfl (Om rfl (Oc rfl rfl rfl (Om rfl ?_)))))))
 apply Br 10 14 rfl
 ·intro g1_4 hk
  try simp only [nb] at g1_4
  refine Ow rfl (Ow rfl ?_); refine A6 rfl rfl rfl (.met rfl rfl) rfl ?_; refine Ot rfl rfl ?_
  exact Al 3 rfl rfl hk
 ·intro _ hk; refine Aq 3 rfl ?_; refine Of rfl rfl ?_
  exact Al 3 rfl rfl hk
 refine Oa rfl (Aa (Ac (.tmp rfl .nil) ?_)); refine only rfl ?_
 simp [Bj, *]
theorem Kz (lo n hi : Int) (I : Heap) (L : At) : Fun Tryd.prog 55 [.int .i64 n, .int .i64 lo, .int .i64 hi] I L (Cr (.bool (decide (lo ≤ n ∧ n ≤ hi))) I L) := by
 refine Ag (by simp) ?_; refine Se rfl (Oa rfl (Aa (Se rfl (Om rfl (Om rfl (Oc rfl rfl rfl (Om rfl ?_)))))))
 apply Br 10 14 rfl
 ·intro g1_4 hk
  try simp only [nb] at g1_4
  refine Ow rfl (Ow rfl ?_); refine A6 rfl rfl rfl (.met rfl rfl) rfl ?_; refine Ot rfl rfl ?_
  exact Al 3 rfl rfl hk
 ·intro _ hk; refine Aq 3 rfl ?_; refine Of rfl rfl ?_
  exact Al 3 rfl rfl hk
 refine Oa rfl (Aa (Ac (.tmp rfl .nil) ?_)); refine only rfl ?_
 simp [Bj, *]

theorem G9 (b : UInt8) (I : Heap) (L : At) : Fun Tryd.prog 46 [.int .u8 (b.toNat : Nat)] I L (Cr (.bool (Ce b)) I L) := by
 refine Ag (by simp) ?_; refine Se rfl (Oa rfl (Aa (Se rfl (Om rfl (Oc rfl rfl rfl (Om rfl ?_))))))
 apply Br 5 8 rfl
 ·intro g1_3 hk
  try simp only [nb] at g1_3
  refine Ow rfl ?_; refine A6 rfl rfl rfl (.met rfl rfl) rfl ?_; refine Ot rfl rfl ?_
  exact Al 2 rfl rfl hk
 ·intro _ hk; refine Aq 2 rfl ?_; refine Of rfl rfl ?_
  exact Al 2 rfl rfl hk
 refine Om rfl ?_
 apply D6 9 16 rfl
 ·intro g1_7 hk
  try simp only [nb] at g1_7
  refine Ow rfl ?_; refine A6 rfl rfl rfl (.met rfl rfl) rfl ?_; refine Ow rfl ?_
  apply Br 12 15 rfl
  ·intro g1_10 hk
   try simp only [nb] at g1_10
   refine Ow rfl ?_; refine A6 rfl rfl rfl (.met rfl rfl) rfl ?_; refine A7 rfl rfl (.met rfl rfl) rfl ?_
   exact Al 2 rfl rfl hk
  ·intro _ hk; refine Aq 2 rfl ?_; refine A0 rfl rfl (.met rfl rfl) rfl ?_
   exact Al 2 rfl rfl hk
  refine Of rfl rfl ?_
  exact Al 4 rfl rfl hk
 ·intro _ hk; refine Aq 6 rfl ?_; refine Ot rfl rfl ?_
  exact Al 6 rfl rfl hk
 refine Om rfl ?_
 apply D6 17 20 rfl
 ·intro g1_15 hk
  try simp only [nb] at g1_15
  refine Ow rfl ?_; refine A6 rfl rfl rfl (.met rfl rfl) rfl ?_; refine Of rfl rfl ?_
  exact Al 2 rfl rfl hk
 ·intro _ hk; refine Aq 2 rfl ?_; refine Ot rfl rfl ?_
  exact Al 2 rfl rfl hk
 refine Om rfl ?_
 apply D6 21 24 rfl
 ·intro g1_19 hk
  try simp only [nb] at g1_19
  refine Ow rfl ?_; refine A6 rfl rfl rfl (.met rfl rfl) rfl ?_; refine Of rfl rfl ?_
  exact Al 2 rfl rfl hk
 ·intro _ hk; refine Aq 2 rfl ?_; refine Ot rfl rfl ?_
  exact Al 2 rfl rfl hk
 refine Om rfl ?_
 apply D6 25 28 rfl
 ·intro g1_23 hk
  try simp only [nb] at g1_23
  refine Ow rfl ?_; refine A6 rfl rfl rfl (.met rfl rfl) rfl ?_; refine Of rfl rfl ?_
  exact Al 2 rfl rfl hk
 ·intro _ hk; refine Aq 2 rfl ?_; refine Ot rfl rfl ?_
  exact Al 2 rfl rfl hk
 refine Om rfl ?_
 apply D6 29 32 rfl
 ·intro g1_27 hk
  try simp only [nb] at g1_27
  refine Ow rfl ?_; refine A6 rfl rfl rfl (.met rfl rfl) rfl ?_; refine Of rfl rfl ?_
  exact Al 2 rfl rfl hk
 ·intro _ hk; refine Aq 2 rfl ?_; refine Ot rfl rfl ?_
  exact Al 2 rfl rfl hk
 refine Oa rfl (Aa (Ac (.tmp rfl .nil) ?_)); refine only rfl ?_; refine congrArg Value.bool ?_; rw [Bool.eq_iff_iff]; simp [Ce]; omega
theorem Pe (b : UInt8) (I : Heap) (L : At) : Fun Tryd.prog 51 [.int .u8 (b.toNat : Nat)] I L (Cr (.bool (Ce b)) I L) := by
 refine Ag (by simp) ?_; refine Se rfl (Oa rfl (Aa (Se rfl (Om rfl (Oc rfl rfl rfl (Om rfl ?_))))))
 apply Br 5 8 rfl
 ·intro g1_3 hk
  try simp only [nb] at g1_3
  refine Ow rfl ?_; refine A6 rfl rfl rfl (.met rfl rfl) rfl ?_; refine Ot rfl rfl ?_
  exact Al 2 rfl rfl hk
 ·intro _ hk; refine Aq 2 rfl ?_; refine Of rfl rfl ?_
  exact Al 2 rfl rfl hk
 refine Om rfl ?_
 apply D6 9 16 rfl
 ·intro g1_7 hk
  try simp only [nb] at g1_7
  refine Ow rfl ?_; refine A6 rfl rfl rfl (.met rfl rfl) rfl ?_; refine Ow rfl ?_
  apply Br 12 15 rfl
  ·intro g1_10 hk
   try simp only [nb] at g1_10
   refine Ow rfl ?_; refine A6 rfl rfl rfl (.met rfl rfl) rfl ?_; refine A7 rfl rfl (.met rfl rfl) rfl ?_
   exact Al 2 rfl rfl hk
  ·intro _ hk; refine Aq 2 rfl ?_; refine A0 rfl rfl (.met rfl rfl) rfl ?_
   exact Al 2 rfl rfl hk
  refine Of rfl rfl ?_
  exact Al 4 rfl rfl hk
 ·intro _ hk; refine Aq 6 rfl ?_; refine Ot rfl rfl ?_
  exact Al 6 rfl rfl hk
 refine Om rfl ?_
 apply D6 17 20 rfl
 ·intro g1_15 hk
  try simp only [nb] at g1_15
  refine Ow rfl ?_; refine A6 rfl rfl rfl (.met rfl rfl) rfl ?_; refine Of rfl rfl ?_
  exact Al 2 rfl rfl hk
 ·intro _ hk; refine Aq 2 rfl ?_; refine Ot rfl rfl ?_
  exact Al 2 rfl rfl hk
 refine Om rfl ?_
 apply D6 21 24 rfl
 ·intro g1_19 hk
  try simp only [nb] at g1_19
  refine Ow rfl ?_; refine A6 rfl rfl rfl (.met rfl rfl) rfl ?_; refine Of rfl rfl ?_
  exact Al 2 rfl rfl hk
 ·intro _ hk; refine Aq 2 rfl ?_; refine Ot rfl rfl ?_
  exact Al 2 rfl rfl hk
 refine Om rfl ?_
 apply D6 25 28 rfl
 ·intro g1_23 hk
  try simp only [nb] at g1_23
  refine Ow rfl ?_; refine A6 rfl rfl rfl (.met rfl rfl) rfl ?_; refine Of rfl rfl ?_
  exact Al 2 rfl rfl hk
 ·intro _ hk; refine Aq 2 rfl ?_; refine Ot rfl rfl ?_
  exact Al 2 rfl rfl hk
 refine Om rfl ?_
 apply D6 29 32 rfl
 ·intro g1_27 hk
  try simp only [nb] at g1_27
  refine Ow rfl ?_; refine A6 rfl rfl rfl (.met rfl rfl) rfl ?_; refine Of rfl rfl ?_
  exact Al 2 rfl rfl hk
 ·intro _ hk; refine Aq 2 rfl ?_; refine Ot rfl rfl ?_
  exact Al 2 rfl rfl hk
 refine Oa rfl (Aa (Ac (.tmp rfl .nil) ?_)); refine only rfl ?_; refine congrArg Value.bool ?_; rw [Bool.eq_iff_iff]; simp [Ce]; omega

theorem D8 {I : Heap} {t : Tree} {cs : List Value} (h : Rep I t cs) (L : At) : Fun Tryd.prog 19 [.agg cs.toArray] I L (Cr (.bool t.parts.isEmpty) I L) := by
 obtain ⟨oa, c, vs, rfl, hl, hs, hn, hc, ha, hp⟩ := h.open; refine Ag (by simp) ?_; refine Se rfl ?_; refine D2 rfl rfl .free rfl ?_; intro b1; refine Oa rfl (Aa (Se rfl ?_))
 first | refine Oh rfl ?_ | refine Oj rfl ?_
 refine B7 rfl .free rfl ?_; refine On rfl (Oc rfl rfl rfl (Oa rfl (Aa (Ac (.tmp rfl .nil) ?_)))); refine only rfl ?_
 cases t.parts <;> simp [Bj]; omega

theorem Ea {I : Heap} {t : Tree} {cs : List Value} (h : Rep I t cs) (L : At) : Fun Tryd.prog 29 [.agg cs.toArray] I L (Cr (.string (str t.head)) I L) := by
 obtain ⟨oa, c, vs, rfl, hl, hs, hn, hc, ha, hp⟩ := h.open; refine Ag (by simp) ?_; refine Se rfl ?_; refine D2 rfl rfl .free rfl ?_; intro b1; refine Oa rfl (Aa (Ai (Se rfl ?_))); refine B7 rfl .free rfl ?_; refine Ca rfl (D8 h _) ?_; rintro _ _ _ _ ⟨rfl, rfl, rfl⟩; refine Aa ?_; refine Si rfl ?_ ?_
 ·intro c0; refine Se rfl (Oa rfl (Aa (Ac (.tmp rfl .nil) ?_))); refine only rfl ?_
  simp [Bj, Tree.head]
  cases hh : t.parts with
  | nil => rfl
  | cons u us => simp [hh] at c0
 intro c0; obtain ⟨u, us, hu⟩ : ∃ u us, t.parts = u :: us := by
  cases hh : t.parts with
  | nil => simp [hh] at c0
  | cons u us => exact ⟨u, us, rfl⟩
 obtain ⟨x, rfl⟩ : ∃ x, oa = some x := by
  cases oa with
  | none => simp [hn rfl] at hu
  | some x => exact ⟨x, rfl⟩
 obtain ⟨oa', c', hr, hst⟩ := Rep.part hl (hs x rfl) 0 (by simp [hu])
 have hpos : 0 < t.parts.length := by simp [hu]
 refine Aj (Se rfl ?_)
 first | refine Oh rfl ?_ | refine Oj rfl ?_
 refine B7 rfl .free rfl ?_; refine Em rfl rfl 0 rfl (by first | omega | exact Ax (by assumption) (by decide) | (simp; done) | (simp; omega) | decide | (simp at *; omega)) (by first | rfl | assumption) .free rfl ?_
 first | refine Oh rfl ?_ | refine Oj rfl ?_
 refine B7 rfl .free rfl ?_; refine Oa rfl (Aa (Ac (.tmp rfl .nil) ?_)); refine only rfl ?_
 simp [Bj, Tree.head, hu]
theorem Nz {I : Heap} {t : Tree} {cs : List Value} (h : Rep I t cs) (hd : Af) (k : Nat) (L : At) : Fun Tryd.prog 32 [.agg cs.toArray, .string (str hd), .int .i64 (k : Nat)] I L (Cr (.bool (t.is hd k)) I L) := by
 obtain ⟨oa, c, vs, rfl, hl, hs, hn, hc, ha, hp⟩ := h.open; refine Ag (by simp) ?_; refine Se rfl ?_; refine D2 rfl rfl .free rfl ?_; intro b3; refine Oa rfl (Aa (Se rfl ?_))
 first | refine Oh rfl ?_ | refine Oj rfl ?_
 refine B7 rfl .free rfl ?_; refine On rfl (Om rfl (Oc rfl rfl rfl (Om rfl ?_)))
 first | refine Fa rfl rfl ?_ ?_ | refine De rfl rfl ?_ ?_ | refine Jq rfl rfl ?_ ?_
 ·intro g1_6; refine B7 rfl (.met rfl rfl) rfl ?_; refine Bs rfl (.met rfl rfl) rfl (Ea h _) ?_; rintro _ _ _ _ ⟨rfl, rfl, rfl⟩; refine Ow rfl ?_; refine Ef rfl rfl rfl (.met rfl rfl) rfl ?_; refine Ot rfl rfl (Oa rfl (Aa (Ac (.tmp rfl .nil) ?_))); refine only rfl ?_; refine congrArg Value.bool ?_; rw [Bool.eq_iff_iff]; simp [Tree.is, *]; try omega
 intro g1_6
 iterate 4 refine A9 rfl rfl rfl ?_
 refine Of rfl rfl (Oa rfl (Aa (Ac (.tmp rfl .nil) ?_))); refine only rfl ?_; refine congrArg Value.bool ?_; rw [Bool.eq_iff_iff]; simp [Tree.is, *]; try omega

def C8 (b : UInt8) : Bool := decide (48 ≤ b.toNat) && decide (b.toNat ≤ 57)
theorem Ew {p : UInt8 → Bool} {s : Af} {i : Nat} (h : (s.take i).all p = true) (hi : i < s.length) (hp : p (s.getD i 0) = true) : (s.take (i + 1)).all p = true := by
 rw [List.take_succ_eq_append_getElem hi]
 simp [List.getD_eq_getElem?_getD, hi] at hp
 rw [List.all_append, h]; simp [hp]
theorem Dp {p : UInt8 → Bool} {s : Af} {i : Nat} (hi : i < s.length) (hp : p (s.getD i 0) = false) : s.all p = false := by
 simp [List.getD_eq_getElem?_getD, hi] at hp
 rw [List.all_eq_false]
 exact ⟨s[i], List.getElem_mem hi, by simp [hp]⟩

theorem Lr (s : Af) (hs : s.length ≤ As) (I : Heap) (L : At) : Fun Tryd.prog 42 [.string (str s)] I L (Cr (.bool (s.all C8)) I L) := by
 unfold As at hs
 refine Ag (by simp) ?_; refine Se rfl (Oa rfl (Aa (Ai (Se rfl (Om rfl ?_))))); refine Aw rfl .free rfl ?_; refine Om rfl (Aa (Av ?_)); refine Cc (X := Nat) (fun i => s.length - i) (fun i => [(0, .string (str s)), (5, .int .i64 (s.length : Nat)), (6, .int .i64 (i : Nat))]) (fun _ => I) (fun _ => L) (fun i => i ≤ s.length ∧ (s.take i).all C8 = true) 0 ⟨by simp, by simp⟩ ⟨rfl, rfl, rfl, trivial⟩ Cy ?_; rintro i ⟨hi, hall⟩ ih; refine Se rfl (Oc rfl rfl rfl (Aa (Ai ?_))); refine Si rfl ?_ ?_
 ·intro c0; refine Aj (Ai (Av (Se rfl (Om rfl (Oa rfl (Aa (Se rfl (Om rfl (Om rfl ?_))))))))); refine A2 rfl rfl rfl (by first | omega | exact Ax (by assumption) (by decide) | (simp; done) | (simp; omega) | decide | (simp at *; omega)) .free rfl ?_; refine Oc rfl rfl rfl (Om rfl ?_)
  first | refine Fa rfl rfl ?_ ?_ | refine De rfl rfl ?_ ?_ | refine Jq rfl rfl ?_ ?_
  ·intro g4_5
   iterate 4 refine A9 rfl rfl rfl ?_
   refine Ot rfl rfl (Aa ?_); refine Bk rfl ?_; refine Se rfl (Oa rfl (Aa (Ac (.tmp rfl .nil) ?_))); refine only rfl ?_; refine congrArg Value.bool (Dp (i := i) (by omega) (by simp only [C8, Bool.and_eq_false_iff, decide_eq_false_iff_not]; omega)).symm
  intro g4_5; refine Ow rfl (Ow rfl ?_); refine A2 rfl rfl rfl (by first | omega | exact Ax (by assumption) (by decide) | (simp; done) | (simp; omega) | decide | (simp at *; omega)) (.met rfl rfl) rfl ?_; refine A6 rfl rfl rfl (.met rfl rfl) rfl ?_; refine Of rfl rfl (Aa ?_); refine Si rfl ?_ ?_
  ·intro c1; refine Se rfl (Oa rfl (Aa (Ac (.tmp rfl .nil) ?_))); refine only rfl ?_; refine congrArg Value.bool (Dp (i := i) (by omega) (by simp only [C8, Bool.and_eq_false_iff, decide_eq_false_iff_not]; omega)).symm
  intro c1; refine Aj (Ar (Ap rfl ?_)); refine Or rfl rfl rfl ?_; refine Om rfl (Aa ?_); refine B4 (E' := [(0, .string (str s)), (5, .int .i64 (s.length : Nat)), (6, .int .i64 ((i + 1 : Nat)))]) ⟨rfl, rfl, rfl, trivial⟩ (ih (i + 1) ⟨by omega, Ew hall (by omega) (by simp only [C8, Bool.and_eq_true, decide_eq_true_eq]; omega)⟩ (by omega))
 intro c0; refine C0 rfl ?_; refine Se rfl (Oa rfl (Aa (Ac (.tmp rfl .nil) ?_))); refine only rfl ?_
 have : i = s.length := by omega
 subst this
 simpa [Bj] using hall
def Rf (b : UInt8) : Bool := decide (97 ≤ b.toNat) && decide (b.toNat ≤ 122)
def Bq : Af → Bool
 | [] => false
 | c :: r => decide (r.length ≤ 3) && Rf c && r.all C8

theorem C6 (b : UInt8) : C8 b = decide (48 ≤ (b.toNat : Int) ∧ (b.toNat : Int) ≤ 57) := by
 rw [Bool.eq_iff_iff]; simp [C8]; omega
theorem Dq (s p : Af) (hs : s.length ≤ As) (hp : p.length ≤ As) (I : Heap) (L : At) : Fun Tryd.prog 61 [.string (str s), .string (str p)] I L (Cr (.bool (p.isPrefixOf s)) I L) := by
 unfold As at hs hp
 refine Ag (by simp) ?_; refine Se rfl (Oa rfl (Aa (Se rfl (Om rfl ?_)))); refine Aw rfl .free rfl ?_; refine Om rfl ?_; refine Aw rfl .free rfl ?_; refine Oc rfl rfl rfl (Om rfl ?_)
 apply Br 10 17 rfl
 ·intro g1_6 hk
  try simp only [nb] at g1_6
  refine Ow rfl (Ow rfl ?_); refine Aw rfl (.met rfl rfl) rfl ?_; refine M2 rfl rfl _ rfl (by first | omega | exact Ax (by assumption) (by decide) | (simp; done) | (simp; omega) | decide | (simp at *; omega)) (.met rfl rfl) rfl ?_; refine Ow rfl ?_; refine Ef rfl rfl rfl (.met rfl rfl) rfl ?_; refine Ot rfl rfl ?_
  exact Al 6 rfl rfl hk
 ·intro _ hk; refine Aq 6 rfl ?_; refine Of rfl rfl ?_
  exact Al 6 rfl rfl hk
 refine Oa rfl (Aa (Ac (.tmp rfl .nil) ?_)); refine only rfl ?_; refine congrArg Value.bool ?_; rw [Bool.eq_iff_iff]; simp
 constructor
 ·rintro ⟨_, h⟩; rw [← h]; exact List.take_prefix ..
 ·intro h; exact ⟨h.length_le, (List.prefix_iff_eq_take.1 h).symm⟩
theorem Ei (s p : Af) (hs : s.length ≤ As) (hp : p.length ≤ As) (I : Heap) (L : At) : Fun Tryd.prog 45 [.string (str s), .string (str p)] I L (Cr (.bool (p.isPrefixOf s)) I L) := by
 refine Ag (by simp) ?_; refine Se rfl (Oa rfl (Aa (Se rfl (Om rfl (Om rfl ?_))))); refine Ca rfl (Dq s p hs hp _ _) ?_; rintro _ _ _ _ ⟨rfl, rfl, rfl⟩; refine Oa rfl (Aa (Ac (.tmp rfl .nil) ?_)); refine only rfl ?_
 simp [Bj, *]

theorem Tree.good_cases {t : Tree} (h : t.good = true) : (t.parts = [] ∧ t.atom ≠ []) ∨ (t.parts ≠ [] ∧ t.atom = []) := by
 cases t with
 | node a ps => cases ps <;> cases a <;> simp_all [Tree.good, Tree.parts, Tree.atom]
theorem Tree.good_part {t : Tree} (h : t.good = true) (i : Nat) (hi : i < t.parts.length) : t.parts[i].good = true := by
 cases t with
 | node a ps => simp [Tree.good] at h; exact J7 h.2 i hi

theorem Rr {t : Tree} {h : Af} {k : Nat} (hi : t.is h k = true) : t.parts.length = k := by simp [Tree.is] at hi; exact hi.1

def RF (k : Nat) (s : Af ) (L : At ) : A5   := fun v I' L' => ∃ t cs r ok, v = .tuple #[.agg cs.toArray, .string (str r), .bool ok] ∧ Rep I' t cs ∧ L = L' ∧ r.length ≤ s.length ∧
  (match Bg    k s with
   | some (t0, r0) => ok = true ∧ t = t0 ∧ r = r0
   | none => ok = false)
def Ip (p : Af → Option (Tree × Af)) (tgt : Option (Tree × Af)) (x : PS) : Prop := match Bn p x.n (x.s.drop 1) with
 | some (us, r) => tgt = some (.node [] (x.ts ++ us), r)
 | none => tgt = none
abbrev O1 (k : Nat) (s : Af) (x : PS) : Prop := Ip (Bg k) (Bg (k + 1) s) x
def Sj (k : Nat) (s : Af) (I₀ : Heap) (x : PS) : Prop := HLe I₀ x.I ∧ RepL x.I x.ts x.xs ∧ Eh 2 x.m x.c x.xs x.B ∧ x.m = x.ts.length ∧ x.s ≠ [] ∧ x.s.length ≤ x.n ∧ x.s.length ≤ s.length ∧ x.ts.length + x.s.length ≤ s.length ∧ O1 k s x
theorem Kd (s : Af) : [40].isPrefixOf s = decide ((s.getD 0 0).toNat = 40) := by
 cases s with
 | nil => rfl
 | cons c r =>
  rw [Bool.eq_iff_iff]; simp [List.isPrefixOf]
  constructor
  ·intro h; subst h; rfl
  ·intro h; exact UInt8.toNat_inj.1 (by simpa using h.symm)

theorem Il {k : Nat} {s : Af} {I : Heap} {L : At} (hf : Bg k s = none) : RF k s L (.tuple #[.agg #[.string (str []), .slice none 0 0], .string (str []), .bool false]) I L :=
 ⟨.node [] [], _, [], false, rfl, Rep.empty I, rfl, by simp, by rw [hf]⟩
theorem Ik {k : Nat} {s : Af} {I : Heap} {L : At} {i : Nat} (hs : s.length ≤ 12000) (h40 : (s.getD 0 0).toNat ≠ 40) (hall : (s.take i).all Ce = true) (hi : i ≤ s.length)
  (he : i = s.length ∨ (i < s.length ∧ Ce (s.getD i 0) = false)) :
  RF k s L (.tuple #[.agg #[.string (str (s.take i)), .slice none 0 0], .string (str (s.drop i)), .bool (decide (0 < (i : Int)))]) I L := by
 obtain ⟨h1, h2⟩ := Fq hall he; refine ⟨.node (s.take i) [], _, s.drop i, _, rfl, Rep.ofAtom (by unfold As; simp; omega), rfl, by simp, ?_⟩; rw [Dn h40, h1, h2]
 by_cases h0 : i = 0
 ·subst h0; simp
 ·have : s.take i ≠ [] := by
   intro e
   have := congrArg List.length e
   rw [List.length_take, List.length_nil] at this; omega
  rw [if_neg this]
  exact ⟨decide_eq_true (by omega), rfl, rfl⟩

theorem Ep {p : Af → Option (Tree × Af)} {tgt : Option (Tree × Af)} {x : PS} (hl : Ip p tgt x) (hn : 0 < x.n)
  (h : p (x.s.drop 1) = none ∨ ∃ t r, p (x.s.drop 1) = some (t, r) ∧ (r = [] ∨ ((r.getD 0 0).toNat ≠ 41 ∧ (r.getD 0 0).toNat ≠ 32))) : tgt = none := by
 obtain ⟨m, hm⟩ : ∃ m, x.n = m + 1 := ⟨x.n - 1, by omega⟩
 unfold Ip at hl
 rw [hm] at hl
 simp only [Bn] at hl
 rcases h with h | ⟨t, r, h, h'⟩
 ·rw [h] at hl; exact hl
 ·rw [h] at hl
  cases r with
  | nil => exact hl
  | cons c r =>
   simp at h'
   have h1 : (c.toNat == 41) = false := by simpa using h'.1
   have h2 : (c.toNat == 32) = false := by simpa using h'.2
   simpa only [h1, h2, cond_true, cond_false] using hl
theorem Hr {p : Af → Option (Tree × Af)} {tgt : Option (Tree × Af)} {x : PS} (hl : Ip p tgt x) (hn : 0 < x.n) {t : Tree} {r : Af} (h : p (x.s.drop 1) = some (t, r)) (hr : r ≠ []) (h41 : (r.getD 0 0).toNat = 41) :
  tgt = some (.node [] (x.ts ++ [t]), r.drop 1) := by
 obtain ⟨m, hm⟩ : ∃ m, x.n = m + 1 := ⟨x.n - 1, by omega⟩
 unfold Ip at hl
 rw [hm] at hl
 simp only [Bn] at hl
 cases r with
 | nil => exact absurd rfl hr
 | cons c r =>
  have h1 : (c.toNat == 41) = true := by simpa using h41
  rw [h] at hl
  simpa only [h1, cond_true, List.drop_succ_cons, List.drop_zero] using hl
theorem Hs {p : Af → Option (Tree × Af)} {tgt : Option (Tree × Af)} {x : PS} (hl : Ip p tgt x) (hn : 0 < x.n) {t : Tree} {r : Af} (h : p (x.s.drop 1) = some (t, r)) (hr : r ≠ []) (h41 : (r.getD 0 0).toNat ≠ 41) (h32 : (r.getD 0 0).toNat = 32)
  {I : Heap} {B : Hl} {c m' : Nat} {xs : List Value} : Ip p tgt ⟨I, r, m', x.ts ++ [t], B, c, xs, x.n - 1⟩ := by
 obtain ⟨m, hm⟩ : ∃ m, x.n = m + 1 := ⟨x.n - 1, by omega⟩
 unfold Ip at hl ⊢
 rw [hm] at hl
 simp only [Bn] at hl
 cases r with
 | nil => exact absurd rfl hr
 | cons c r =>
  have h1 : (c.toNat == 41) = false := by simpa using h41
  have h2 : (c.toNat == 32) = true := by simpa using h32
  simp only [h, h1, h2, cond_true, cond_false] at hl
  simp only [hm, Nat.add_sub_cancel, List.drop_succ_cons, List.drop_zero]
  cases hp : Bn p m r with
  | none => rw [hp] at hl; exact hl
  | some q => rw [hp] at hl; simpa using hl

theorem Mw : ∀ (k : Nat) (s : Af) (_ : s.length ≤ 12000) (deep : Nat) (_ : deep + k = 60) (I : Heap) (L : At),
  Fun Tryd.prog 27 [.string (str s), .int .i64 (deep : Nat)] I L (RF k s L) := by
 intro k
 induction k with
 | zero =>
  intro s hsl deep hdeep I L; refine Ag (by simp) ?_; refine Se rfl ?_; refine Bm .free rfl ?_; intro b4; refine Oa rfl (Oa rfl (Aa (Ai (Se rfl (Om rfl ?_))))); refine Ca rfl (Ei s [40] (by unfold As; omega) (by simp [As]) _ _) ?_; rintro _ _ _ _ ⟨rfl, rfl, rfl⟩; rw [Kd]; refine Ck rfl .free rfl ?_; refine Aa ?_; refine Si rfl ?_ ?_
  ·intro c0; refine Se rfl (Oa rfl (Aa (Ai (Av ?_)))); refine Cc (X := Nat) (fun i => s.length - i) (fun i => [(0, .string (str s)), (4, .pointer (some ⟨b4, 0, none⟩)), (7, .int .i64 (i : Nat))]) (fun _ => I) (fun _ => (b4, .cells [.string (str []), .slice none 0 0].toArray _ (0, 0)) :: L) (fun i => i ≤ s.length ∧ (s.take i).all Ce = true) 0 ⟨by omega, by simp⟩ ⟨rfl, rfl, rfl, trivial⟩ Cy ?_; rintro i ⟨hi, hall⟩ ih; refine Ai (Se rfl (Om rfl (Om rfl ?_))); refine Aw rfl .free rfl ?_; refine Oc rfl rfl rfl (Om rfl ?_)
   first | refine Fa rfl rfl ?_ ?_ | refine De rfl rfl ?_ ?_ | refine Jq rfl rfl ?_ ?_
   ·intro g3_5; refine Ow rfl (Ow rfl ?_); refine A2 rfl rfl rfl (by first | omega | exact Ax (by assumption) (by decide) | (simp; done) | (simp; omega) | decide | (simp at *; omega)) (.met rfl rfl) rfl ?_; refine Bs rfl (.met rfl rfl) rfl (G9 _ _ _) ?_; rintro _ _ _ _ ⟨rfl, rfl, rfl⟩; refine Ot rfl rfl (Aa ?_); refine Si rfl ?_ ?_
    ·intro c1; refine Aj (Av (Ap rfl (Om rfl ?_))); refine Or rfl rfl rfl ?_; refine Oa rfl (Aa (Ar ?_)); refine B4 (E' := [(0, .string (str s)), (4, .pointer (some ⟨b4, 0, none⟩)), (7, .int .i64 ((i + 1 : Nat)))]) ⟨rfl, rfl, rfl, trivial⟩ (ih (i + 1) ⟨by omega, Ew hall (by omega) (by assumption)⟩ (by omega))
    intro c1; refine C0 rfl ?_; refine Ai ?_; refine Fu 12 rfl rfl ?_; refine Da 0 rfl (Ay rfl) ?_; refine Da 1 rfl (Ay rfl) ?_; refine Cs 2 rfl (by kernel_rfl) rfl (.inr Cm) (Ey rfl rfl _ rfl (by first | omega | exact Ax (by assumption) (by decide) | (simp; done) | (simp; omega) | decide | (simp at *; omega))) .free rfl ?_; refine Da 3 rfl (Hk rfl rfl rfl) ?_; refine Da 4 rfl (Ay rfl) ?_; refine Da 5 rfl (Ay rfl) ?_
    refine Cs 6 rfl (by kernel_rfl) rfl (.inr Cm) (Cx rfl rfl _ rfl (by first | omega | exact Ax (by assumption) (by decide) | (simp; done) | (simp; omega) | decide | (simp at *; omega))) .free rfl ?_; refine Da 7 rfl (Ay rfl) ?_; refine Da 8 rfl (Kk rfl rfl rfl) ?_; refine Dx 9 rfl rfl rfl rfl ?_; refine Db 10 rfl (Bd rfl) ?_; refine Db 11 rfl (Bd rfl) ?_; refine Dk (by kernel_rfl) ?_; refine Ac (.c rfl (.tmp rfl (.tmp rfl .nil))) ?_
    exact ⟨I, L, .refl _, fun _ h => h.drop, Ik hsl c0 hall hi (by first | exact .inl (by omega) | exact .inr ⟨by omega, by assumption⟩)⟩
   intro g3_5
   iterate 4 refine A9 rfl rfl rfl ?_
   refine Of rfl rfl (Aa ?_); refine Cw rfl ?_; refine C0 rfl ?_; refine Ai ?_; refine Fu 12 rfl rfl ?_; refine Da 0 rfl (Ay rfl) ?_; refine Da 1 rfl (Ay rfl) ?_; refine Cs 2 rfl (by kernel_rfl) rfl (.inr Cm) (Ey rfl rfl _ rfl (by first | omega | exact Ax (by assumption) (by decide) | (simp; done) | (simp; omega) | decide | (simp at *; omega))) .free rfl ?_; refine Da 3 rfl (Hk rfl rfl rfl) ?_; refine Da 4 rfl (Ay rfl) ?_; refine Da 5 rfl (Ay rfl) ?_
   refine Cs 6 rfl (by kernel_rfl) rfl (.inr Cm) (Cx rfl rfl _ rfl (by first | omega | exact Ax (by assumption) (by decide) | (simp; done) | (simp; omega) | decide | (simp at *; omega))) .free rfl ?_; refine Da 7 rfl (Ay rfl) ?_; refine Da 8 rfl (Kk rfl rfl rfl) ?_; refine Dx 9 rfl rfl rfl rfl ?_; refine Db 10 rfl (Bd rfl) ?_; refine Db 11 rfl (Bd rfl) ?_; refine Dk (by kernel_rfl) ?_; refine Ac (.c rfl (.tmp rfl (.tmp rfl .nil))) ?_
   exact ⟨I, L, .refl _, fun _ h => h.drop, Ik hsl c0 hall hi (by first | exact .inl (by omega) | exact .inr ⟨by omega, by assumption⟩)⟩
  intro c0; refine Aj (Ai (Se rfl (Om rfl (Oc rfl rfl rfl (Aa ?_)))))
  first | refine St rfl (by omega) ?_ | refine Bk (by simp [A8, Au, *]) ?_
  refine Se rfl ?_; refine Dh rfl rfl rfl .free rfl ?_; refine Cl rfl rfl rfl rfl .free ?_; refine Oa rfl (Oa rfl (Aa ?_)); refine Ac (.c rfl (.tmp rfl (.tmp rfl .nil))) ?_
  exact ⟨I, L, .refl _, fun _ h => h.drop, Il (Eu c0)⟩
 | succ k ihk =>
  intro s hsl deep hdeep I L; refine Ag (by simp) ?_; refine Se rfl ?_; refine Bm .free rfl ?_; intro b4; refine Oa rfl (Oa rfl (Aa (Ai (Se rfl (Om rfl ?_))))); refine Ca rfl (Ei s [40] (by unfold As; omega) (by simp [As]) _ _) ?_; rintro _ _ _ _ ⟨rfl, rfl, rfl⟩; rw [Kd]; refine Ck rfl .free rfl ?_; refine Aa ?_; refine Si rfl ?_ ?_
  ·intro c0; refine Se rfl (Oa rfl (Aa (Ai (Av ?_)))); refine Cc (X := Nat) (fun i => s.length - i) (fun i => [(0, .string (str s)), (4, .pointer (some ⟨b4, 0, none⟩)), (7, .int .i64 (i : Nat))]) (fun _ => I) (fun _ => (b4, .cells [.string (str []), .slice none 0 0].toArray _ (0, 0)) :: L) (fun i => i ≤ s.length ∧ (s.take i).all Ce = true) 0 ⟨by omega, by simp⟩ ⟨rfl, rfl, rfl, trivial⟩ Cy ?_; rintro i ⟨hi, hall⟩ ih; refine Ai (Se rfl (Om rfl (Om rfl ?_))); refine Aw rfl .free rfl ?_; refine Oc rfl rfl rfl (Om rfl ?_)
   first | refine Fa rfl rfl ?_ ?_ | refine De rfl rfl ?_ ?_ | refine Jq rfl rfl ?_ ?_
   ·intro g3_5; refine Ow rfl (Ow rfl ?_); refine A2 rfl rfl rfl (by first | omega | exact Ax (by assumption) (by decide) | (simp; done) | (simp; omega) | decide | (simp at *; omega)) (.met rfl rfl) rfl ?_; refine Bs rfl (.met rfl rfl) rfl (G9 _ _ _) ?_; rintro _ _ _ _ ⟨rfl, rfl, rfl⟩; refine Ot rfl rfl (Aa ?_); refine Si rfl ?_ ?_
    ·intro c1; refine Aj (Av (Ap rfl (Om rfl ?_))); refine Or rfl rfl rfl ?_; refine Oa rfl (Aa (Ar ?_)); refine B4 (E' := [(0, .string (str s)), (4, .pointer (some ⟨b4, 0, none⟩)), (7, .int .i64 ((i + 1 : Nat)))]) ⟨rfl, rfl, rfl, trivial⟩ (ih (i + 1) ⟨by omega, Ew hall (by omega) (by assumption)⟩ (by omega))
    intro c1; refine C0 rfl ?_; refine Ai ?_; refine Fu 12 rfl rfl ?_; refine Da 0 rfl (Ay rfl) ?_; refine Da 1 rfl (Ay rfl) ?_; refine Cs 2 rfl (by kernel_rfl) rfl (.inr Cm) (Ey rfl rfl _ rfl (by first | omega | exact Ax (by assumption) (by decide) | (simp; done) | (simp; omega) | decide | (simp at *; omega))) .free rfl ?_; refine Da 3 rfl (Hk rfl rfl rfl) ?_; refine Da 4 rfl (Ay rfl) ?_; refine Da 5 rfl (Ay rfl) ?_
    refine Cs 6 rfl (by kernel_rfl) rfl (.inr Cm) (Cx rfl rfl _ rfl (by first | omega | exact Ax (by assumption) (by decide) | (simp; done) | (simp; omega) | decide | (simp at *; omega))) .free rfl ?_; refine Da 7 rfl (Ay rfl) ?_; refine Da 8 rfl (Kk rfl rfl rfl) ?_; refine Dx 9 rfl rfl rfl rfl ?_; refine Db 10 rfl (Bd rfl) ?_; refine Db 11 rfl (Bd rfl) ?_; refine Dk (by kernel_rfl) ?_; refine Ac (.c rfl (.tmp rfl (.tmp rfl .nil))) ?_
    exact ⟨I, L, .refl _, fun _ h => h.drop, Ik hsl c0 hall hi (by first | exact .inl (by omega) | exact .inr ⟨by omega, by assumption⟩)⟩
   intro g3_5
   iterate 4 refine A9 rfl rfl rfl ?_
   refine Of rfl rfl (Aa ?_); refine Cw rfl ?_; refine C0 rfl ?_; refine Ai ?_; refine Fu 12 rfl rfl ?_; refine Da 0 rfl (Ay rfl) ?_; refine Da 1 rfl (Ay rfl) ?_; refine Cs 2 rfl (by kernel_rfl) rfl (.inr Cm) (Ey rfl rfl _ rfl (by first | omega | exact Ax (by assumption) (by decide) | (simp; done) | (simp; omega) | decide | (simp at *; omega))) .free rfl ?_; refine Da 3 rfl (Hk rfl rfl rfl) ?_; refine Da 4 rfl (Ay rfl) ?_; refine Da 5 rfl (Ay rfl) ?_
   refine Cs 6 rfl (by kernel_rfl) rfl (.inr Cm) (Cx rfl rfl _ rfl (by first | omega | exact Ax (by assumption) (by decide) | (simp; done) | (simp; omega) | decide | (simp at *; omega))) .free rfl ?_; refine Da 7 rfl (Ay rfl) ?_; refine Da 8 rfl (Kk rfl rfl rfl) ?_; refine Dx 9 rfl rfl rfl rfl ?_; refine Db 10 rfl (Bd rfl) ?_; refine Db 11 rfl (Bd rfl) ?_; refine Dk (by kernel_rfl) ?_; refine Ac (.c rfl (.tmp rfl (.tmp rfl .nil))) ?_
   exact ⟨I, L, .refl _, fun _ h => h.drop, Ik hsl c0 hall hi (by first | exact .inl (by omega) | exact .inr ⟨by omega, by assumption⟩)⟩
  intro c0; refine Aj (Ai (Se rfl (Om rfl (Oc rfl rfl rfl (Aa ?_)))))
  first | refine Sf rfl (by omega) ?_ | refine Cw (by simp [A8, Au, *]) ?_
  refine Aj (Se rfl ?_); refine Bm .free rfl ?_; intro b8; refine Aa (Av ?_)
  have hne : s ≠ [] := by
   intro e; subst e; simp at c0
  have hpos : 0 < s.length := List.length_pos_iff.2 hne
  refine Cc (X := PS) (fun x => x.s.length) (fun x => [(0, .string (str x.s)), (1, .int .i64 (deep : Nat)), (4, .pointer (some ⟨b4, 0, none⟩)), (8, .pointer (some ⟨b8, 0, none⟩))]) (fun x => x.I)
   (fun x => (b8, .cells [.string (str []), Bw x.m x.c x.B].toArray 36 (0, 0)) :: (b4, .cells [.string (str []), .slice none 0 0].toArray 36 (0, 0)) :: (C3 36 x.xs x.B ++ L)) (Sj k s I) ⟨I, s, 0, [], none, 0, [], s.length⟩
   ⟨.refl _, .nil, ⟨rfl, rfl, rfl⟩, rfl, hne, Nat.le_refl _, Nat.le_refl _, by simp, by
    have := Ec (k := k) c0
    unfold O1 Ip
    split <;> simp_all⟩ ⟨rfl, rfl, rfl, rfl, trivial⟩ (fun _ h => h) ?_
  rintro x ⟨hle, hrl, hB, hxm, hxne, hxn, hxs, hxt, hlink⟩ ih
  have hxpos : 0 < x.s.length := List.length_pos_iff.2 hxne
  refine Av (Se rfl (Om rfl ?_)); refine Fp rfl rfl 1 rfl (by first | omega | exact Ax (by assumption) (by decide) | (simp; done) | (simp; omega) | decide | (simp at *; omega)) .free rfl ?_; refine Om rfl ?_; refine Or rfl rfl rfl ?_; refine Ca rfl (ihk (x.s.drop 1) (by simp; omega) (deep + 1) (by omega) _ _) ?_; rintro _ J _ hleJ ⟨t, cs, r, ok, rfl, hrep, rfl, hrlen, hpf⟩; obtain ⟨oa, cc, vs, rfl, -⟩ := hrep.open
  simp only [List.length_drop] at hrlen
  refine Om rfl ?_
  iterate 3 refine Oe rfl rfl ?_
  refine Bm .free rfl ?_; intro b9; refine Cl rfl rfl rfl rfl .free ?_; refine Oa rfl (Oa rfl (Aa (Ai (Se rfl (Om rfl ?_))))); refine Ck rfl .free rfl ?_; refine Om rfl ?_
  first | refine Fa rfl rfl ?_ ?_ | refine De rfl rfl ?_ ?_ | refine Jq rfl rfl ?_ ?_
  ·intro g10_3; refine A9 rfl rfl rfl ?_; refine A9 rfl rfl rfl ?_; refine Ot rfl rfl (Om rfl ?_)
   iterate 4 refine A9 rfl rfl rfl ?_
   iterate 3 refine Gm rfl rfl rfl ?_
   refine A9 rfl rfl rfl ?_; refine Ot rfl rfl (Aa ?_); refine Bk rfl ?_; refine Se rfl ?_; refine Dh rfl rfl rfl .free rfl ?_; refine Cl rfl rfl rfl rfl .free ?_; refine Oa rfl (Oa rfl (Aa ?_)); refine Ac (.c rfl (.tmp rfl (.tmp rfl .nil))) ?_; refine ⟨J, L, hle.trans hleJ, fun w h => (h.drop.drop.drop).sub (List.sublist_append_right _ _), Il (Ep hlink (by omega) ?_)⟩
   ·cases hp : Bg k (x.s.drop 1) with
    | none => exact .inl rfl
    | some p =>
     rw [hp] at hpf; obtain ⟨rfl, rfl, rfl⟩ := hpf; refine .inr ⟨_, _, rfl, ?_⟩
     first
      | exact .inl (by assumption)
      | exact .inr ⟨by omega, by omega⟩
      | (exfalso; simp_all; done)
  intro g10_3; refine Ow rfl ?_; refine Ef rfl rfl rfl (.met rfl rfl) rfl ?_; refine Of rfl rfl (Om rfl ?_)
  first | refine Fa rfl rfl ?_ ?_ | refine De rfl rfl ?_ ?_ | refine Jq rfl rfl ?_ ?_
  ·intro g10_7
   iterate 4 refine A9 rfl rfl rfl ?_
   iterate 3 refine Gm rfl rfl rfl ?_
   refine A9 rfl rfl rfl ?_; refine Ot rfl rfl (Aa ?_); refine Bk rfl ?_; refine Se rfl ?_; refine Dh rfl rfl rfl .free rfl ?_; refine Cl rfl rfl rfl rfl .free ?_; refine Oa rfl (Oa rfl (Aa ?_)); refine Ac (.c rfl (.tmp rfl (.tmp rfl .nil))) ?_; refine ⟨J, L, hle.trans hleJ, fun w h => (h.drop.drop.drop).sub (List.sublist_append_right _ _), Il (Ep hlink (by omega) ?_)⟩
   ·cases hp : Bg k (x.s.drop 1) with
    | none => exact .inl rfl
    | some p =>
     rw [hp] at hpf; obtain ⟨rfl, rfl, rfl⟩ := hpf; refine .inr ⟨_, _, rfl, ?_⟩
     first
      | exact .inl (by assumption)
      | exact .inr ⟨by omega, by omega⟩
      | (exfalso; simp_all; done)
  intro g10_7; refine Ow rfl ?_; refine A2 (i := 0) rfl rfl rfl (List.length_pos_iff.2 (by assumption)) (.met rfl rfl) rfl ?_; refine A6 rfl rfl rfl (.met rfl rfl) rfl ?_; refine Ow rfl ?_
  first | refine Fa rfl rfl ?_ ?_ | refine De rfl rfl ?_ ?_ | refine Jq rfl rfl ?_ ?_
  ·intro g10_11; refine Ow rfl ?_; refine A2 (i := 0) rfl rfl rfl (List.length_pos_iff.2 (by assumption)) (.met rfl rfl) rfl ?_; refine A6 rfl rfl rfl (.met rfl rfl) rfl ?_; refine A7 rfl rfl (.met rfl rfl) rfl ?_; refine Of rfl rfl (Aa ?_); refine Si rfl ?_ ?_
   ·intro c3; refine Se rfl ?_; refine Dh rfl rfl rfl .free rfl ?_; refine Cl rfl rfl rfl rfl .free ?_; refine Oa rfl (Oa rfl (Aa ?_)); refine Ac (.c rfl (.tmp rfl (.tmp rfl .nil))) ?_; refine ⟨J, L, hle.trans hleJ, fun w h => (h.drop.drop.drop).sub (List.sublist_append_right _ _), Il (Ep hlink (by omega) ?_)⟩
    ·cases hp : Bg k (x.s.drop 1) with
     | none => exact .inl rfl
     | some p =>
      rw [hp] at hpf; obtain ⟨rfl, rfl, rfl⟩ := hpf; refine .inr ⟨_, _, rfl, ?_⟩
      first
       | exact .inl (by assumption)
       | exact .inr ⟨by omega, by omega⟩
       | (exfalso; simp_all; done)
   intro c3; refine Aj (Se rfl ?_)
   first | refine Oh rfl ?_ | refine Oj rfl ?_
   refine B7 rfl .free rfl ?_; refine B7 rfl .free rfl ?_; refine Ol rfl rfl ?_; intro b68; refine Ge (B := x.B) (xs := x.xs) (ys := [.string (str t.atom), .slice oa t.parts.length cc]) (m := x.m) (c := x.c) (by intro kk; simp) (by rfl) rfl rfl hB (fun _ h => h.u4) (by rfl) (fun a ha => by cases ha; exact Cv (.head _) (by rfl)) (by simp) (by rfl) (by decide) (by decide) (by omega) (by decide) .free rfl ?_; intro bb sp c' hB'
   first | refine Oh rfl ?_ | refine Oj rfl ?_
   refine Cl rfl rfl rfl rfl .free ?_
   have hpf' : Bg k (x.s.drop 1) = some (t, r) := by
    cases hp : Bg k (x.s.drop 1) with
    | none => rw [hp] at hpf; simp [hpf] at *
    | some p =>
     rw [hp] at hpf; obtain ⟨rfl, rfl, rfl⟩ := hpf
     rfl
   have hrl' : RepL J (x.ts ++ [t]) (x.xs ++ [Value.string (str t.atom), Value.slice oa t.parts.length cc]) := (hrl.mono hleJ).append (.cons hrep .nil)
   have hlen' : x.m + 1 = (x.ts ++ [t]).length := by simp [hxm]
   refine Aa (Se rfl (Om rfl (Oa rfl (Aa (Se rfl (Om rfl ?_)))))); refine A2 (i := 0) rfl rfl rfl (List.length_pos_iff.2 (by assumption)) .free rfl ?_; refine Oc rfl rfl rfl (Aa ?_); refine Si rfl ?_ ?_
   ·intro c4; refine Ai ?_; refine Fk ?_; intro hfz; refine Fu 6 rfl rfl ?_; refine Dt 0 [3] rfl (H1 rfl) ?_; refine Da 1 rfl (Ay rfl) ?_; refine Da 2 rfl (Cx rfl rfl 1 rfl (List.length_pos_iff.2 (by assumption))) ?_; refine Dx 3 rfl rfl rfl rfl ?_; refine Db 4 rfl (Bd rfl) ?_; refine Db 5 rfl (Bd rfl) ?_; refine Dk (by kernel_rfl) ?_; refine Ac (.c rfl (.tmp rfl (.tmp rfl .nil))) ?_
    refine ⟨_, L, (hle.trans hleJ).trans hfz, fun _ h => h.drop.drop.drop.drop, .node [] (x.ts ++ [t]), _, r.drop 1, true, rfl, .mk' hlen' (hrl'.mono hfz) (fun y hy => by cases hy; exact D7) (by simp) hB'.2.1 (by simp [As]) (by unfold As; omega), rfl, by simp; omega, ?_⟩; rw [Hr hlink (by omega) hpf' (by assumption) (by omega)]; exact ⟨rfl, rfl, rfl⟩
   intro c4; refine Aj (Ar ?_); refine Ed (fun w h => Mem.sub (L' := (b8, _) :: (b4, _) :: (bb, _) :: L) (by repeat (first | exact List.Sublist.refl _ | apply List.Sublist.cons_cons | apply List.Sublist.cons)) h.f4.f4) (B4 ?_ (ih ⟨J, r, x.m + 1, x.ts ++ [t], some (bb, sp), c', _, x.n - 1⟩ ⟨hle.trans hleJ, hrl', hB', hlen', by assumption, by simp; omega, by simp; omega, by simp; omega, Hs hlink (by omega) hpf' (by assumption) (by omega) (by omega)⟩ (by simp; omega)))
   exact ⟨rfl, rfl, rfl, rfl, trivial⟩
  intro g10_11
  iterate 3 refine A9 rfl rfl rfl ?_
  refine A0 rfl rfl (.met rfl rfl) rfl ?_; refine Of rfl rfl (Aa ?_); refine Cw rfl ?_; refine Aj (Se rfl ?_)
  first | refine Oh rfl ?_ | refine Oj rfl ?_
  refine B7 rfl .free rfl ?_; refine B7 rfl .free rfl ?_; refine Ol rfl rfl ?_; intro b68; refine Ge (B := x.B) (xs := x.xs) (ys := [.string (str t.atom), .slice oa t.parts.length cc]) (m := x.m) (c := x.c) (by intro kk; simp) (by rfl) rfl rfl hB (fun _ h => h.u4) (by rfl) (fun a ha => by cases ha; exact Cv (.head _) (by rfl)) (by simp) (by rfl) (by decide) (by decide) (by omega) (by decide) .free rfl ?_; intro bb sp c' hB'
  first | refine Oh rfl ?_ | refine Oj rfl ?_
  refine Cl rfl rfl rfl rfl .free ?_
  have hpf' : Bg k (x.s.drop 1) = some (t, r) := by
   cases hp : Bg k (x.s.drop 1) with
   | none => rw [hp] at hpf; simp [hpf] at *
   | some p =>
    rw [hp] at hpf; obtain ⟨rfl, rfl, rfl⟩ := hpf
    rfl
  have hrl' : RepL J (x.ts ++ [t]) (x.xs ++ [Value.string (str t.atom), Value.slice oa t.parts.length cc]) := (hrl.mono hleJ).append (.cons hrep .nil)
  have hlen' : x.m + 1 = (x.ts ++ [t]).length := by simp [hxm]
  refine Aa (Se rfl (Om rfl (Oa rfl (Aa (Se rfl (Om rfl ?_)))))); refine A2 (i := 0) rfl rfl rfl (List.length_pos_iff.2 (by assumption)) .free rfl ?_; refine Oc rfl rfl rfl (Aa ?_); refine Si rfl ?_ ?_
  ·intro c4; refine Ai ?_; refine Fk ?_; intro hfz; refine Fu 6 rfl rfl ?_; refine Dt 0 [3] rfl (H1 rfl) ?_; refine Da 1 rfl (Ay rfl) ?_; refine Da 2 rfl (Cx rfl rfl 1 rfl (List.length_pos_iff.2 (by assumption))) ?_; refine Dx 3 rfl rfl rfl rfl ?_; refine Db 4 rfl (Bd rfl) ?_; refine Db 5 rfl (Bd rfl) ?_; refine Dk (by kernel_rfl) ?_; refine Ac (.c rfl (.tmp rfl (.tmp rfl .nil))) ?_
   refine ⟨_, L, (hle.trans hleJ).trans hfz, fun _ h => h.drop.drop.drop.drop, .node [] (x.ts ++ [t]), _, r.drop 1, true, rfl, .mk' hlen' (hrl'.mono hfz) (fun y hy => by cases hy; exact D7) (by simp) hB'.2.1 (by simp [As]) (by unfold As; omega), rfl, by simp; omega, ?_⟩; rw [Hr hlink (by omega) hpf' (by assumption) (by omega)]; exact ⟨rfl, rfl, rfl⟩
  intro c4; refine Aj (Ar ?_); refine Ed (fun w h => Mem.sub (L' := (b8, _) :: (b4, _) :: (bb, _) :: L) (by repeat (first | exact List.Sublist.refl _ | apply List.Sublist.cons_cons | apply List.Sublist.cons)) h.f4.f4) (B4 ?_ (ih ⟨J, r, x.m + 1, x.ts ++ [t], some (bb, sp), c', _, x.n - 1⟩ ⟨hle.trans hleJ, hrl', hB', hlen', by assumption, by simp; omega, by simp; omega, by simp; omega, Hs hlink (by omega) hpf' (by assumption) (by omega) (by omega)⟩ (by simp; omega)))
  exact ⟨rfl, rfl, rfl, rfl, trivial⟩
mutual
def Tree.bytes : Tree → Bool
 | .node a ps => a.all Ce && E6 ps
def E6 : List Tree → Bool
 | [] => true
 | t :: ts => t.bytes && E6 ts
end

structure Qe (k : Nat) (s : Af) (t : Tree) (r : Af) : Prop where
 good : t.good = true
 bytes : t.bytes = true
 depth : t.depth ≤ k
 text : s = t.text ++ r
 size : t.size + r.length ≤ s.length
 ends : t.parts = [] → ∀ c, r.head? = some c → Ce c = false
structure Sg (k : Nat) (s : Af) (ts : List Tree) (r : Af) : Prop where
 good : Dr ts = true
 bytes : E6 ts = true
 depth : Bz ts ≤ k
 text : 32 :: s = Cp ts ++ 41 :: r
 size : E4 ts + r.length + 1 ≤ s.length
 ne : ts ≠ []

theorem Nj {c : UInt8} {n : Nat} (h : (c.toNat == n) = true) (hn : n < 256) : c = UInt8.ofNat n := by
 apply UInt8.toNat_inj.1
 have : c.toNat = n := by simpa using h
 rw [this]; simp [Nat.mod_eq_of_lt hn]

theorem La {k : Nat} {p : Af → Option (Tree × Af)} (hp : ∀ s t r, p s = some (t, r) → Qe k s t r) : ∀ {n : Nat} {s : Af} {ts : List Tree} {r : Af}, Bn p n s = some (ts, r) → Sg k s ts r := by
 intro n
 induction n with
 | zero => intro s ts r h; simp [Bn] at h
 | succ n ih =>
  intro s ts r h
  simp only [Bn] at h
  split at h
  ·simp at h
  ·rename_i t r1 hpp
   have hf := hp _ _ _ hpp
   have htx := hf.text
   have hsz := hf.size
   split at h
   ·simp at h
   ·rename_i c r'
    simp only [List.length_cons] at hsz
    cases h41 : (c.toNat == 41) with
    | true =>
     simp [h41] at h
     obtain ⟨rfl, rfl⟩ := h
     have hc := Nj h41 (by omega)
     subst hc
     exact ⟨by simp [Dr, hf.good], by simp [E6, hf.bytes], by simp [Bz, hf.depth], by rw [htx]; simp [Cp], by simp [E4]; omega, by simp⟩
    | false =>
     cases h32 : (c.toNat == 32) with
     | false => simp [h41, h32] at h
     | true =>
      simp [h41, h32] at h
      split at h
      ·rename_i ts' r'' hrec
       simp at h
       obtain ⟨rfl, rfl⟩ := h
       have hc := Nj h32 (by omega)
       have hr := ih hrec
       have hr1 := hr.text
       have hr2 := hr.size
       have hr3 := hr.depth
       have hf3 := hf.depth
       refine ⟨by simp [Dr, hf.good, hr.good], by simp [E6, hf.bytes, hr.bytes], by simp [Bz]; omega, ?_, by simp [E4]; omega, by simp⟩; rw [htx]; subst hc
       simp only [Cp, List.cons_append, List.append_assoc]
       rw [← hr1]; rfl
      ·simp at h

theorem M8 : ∀ {k : Nat} {s : Af} {t : Tree} {r : Af}, Bg k s = some (t, r) → Qe k s t r := by
 have atom : ∀ {k : Nat} {s : Af} {t : Tree} {r : Af}, (s.getD 0 0).toNat ≠ 40 → Bg k s = some (t, r) → Qe k s t r := by
  intro k s t r h40 h; rw [Dn h40] at h
  split at h
  ·cases h
  ·rename_i hne
   simp at h
   obtain ⟨rfl, rfl⟩ := h
   have hl := Fr Ce s
   have h0 : 0 < (s.takeWhile Ce).length := List.length_pos_iff.2 hne
   refine ⟨?_, ?_, by simp [Tree.depth], by simp [Tree.text], ?_, ?_⟩
   ·simp [Tree.good, Dr, hne]
   ·simp [Tree.bytes, E6]
   ·simp [Tree.size]; omega
   ·intro _ c hc
    have := List.head?_dropWhile_not Ce s
    rw [hc] at this
    simpa using this
 intro k
 induction k with
 | zero =>
  intro s t r h
  by_cases h40 : (s.getD 0 0).toNat = 40
  ·rw [Eu h40] at h; cases h
  ·exact atom h40 h
 | succ k ih =>
  intro s t r h
  by_cases h40 : (s.getD 0 0).toNat = 40
  ·rw [Ec h40] at h
   split at h
   ·rename_i ts r' hpp
    simp at h
    obtain ⟨rfl, rfl⟩ := h
    have hf := La (fun _ _ _ hh => ih hh) hpp
    cases s with
    | nil => simp at h40
    | cons c s =>
     have hc : c = 40 := UInt8.toNat_inj.1 (by simpa using h40)
     subst hc
     have h1 := hf.text
     have h2 := hf.size
     have h3 := hf.depth
     cases ts with
     | nil => exact absurd rfl hf.ne
     | cons t ts =>
      simp only [Cp, List.cons_append, List.cons.injEq, true_and, List.drop_succ_cons, List.drop_zero] at h1 h2
      refine ⟨by simpa [Tree.good] using hf.good, by simpa [Tree.bytes] using hf.bytes, by simp [Tree.depth]; omega, ?_, by simp [Tree.size]; omega, by simp [Tree.parts]⟩
      simp only [Tree.text, h1]; simp
   ·cases h
  ·exact atom h40 h

theorem M6 {s : Af} {t : Tree} (h : Bv s = some t) : Qe 60 s t [] ∧ s.length ≤ 12000 := by
 unfold Bv at h
 split at h
 ·cases h
 ·rename_i hlen
  split at h
  ·rename_i t' hp
   simp at h; subst h
   exact ⟨M8 hp, by omega⟩
  ·cases h
end Go.Proofs.YtbmgbhfeifgciaaDoor
