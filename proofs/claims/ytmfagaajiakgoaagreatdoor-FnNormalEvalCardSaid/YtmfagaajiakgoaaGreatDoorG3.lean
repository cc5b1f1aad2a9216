/- Forms as trees, how they lie in memory, and how they are read from texts. No conditions. -/
import Derived.Test.YtmfagaajiakgoaaGreatDoorG2

namespace Go.Proofs.YtmfagaajiakgoaaGreatDoor
set_option maxRecDepth 100000
set_option linter.unusedVariables false
set_option linter.unusedSimpArgs false

abbrev As := List UInt8
def Bg : Nat := 4294967296

inductive Tree where
 | node (a : As) (ps : List Tree)

def Tree.atom : Tree → As | .node a _ => a
def Tree.parts : Tree → List Tree | .node _ ps => ps

mutual
inductive Rep : Heap → Tree → List Value → Prop
 | mk {I : Heap} {a : As} {ps : List Tree} {oa : Option Addr} {c : Nat} {vs : List Value} (hl : RepL I ps vs) (hs : ∀ x, oa = some x → Still I x vs) (hn : oa = none → ps = [])
   (hc : ps.length ≤ c) (ha : a.length ≤ Bg) (hp : ps.length ≤ Bg) : Rep I (.node a ps) [.string (str a), .slice oa ps.length c]
inductive RepL : Heap → List Tree → List Value → Prop
 | nil {I : Heap} : RepL I [] []
 | cons {I : Heap} {t : Tree} {ts : List Tree} {c1 c2 : Value} {vs : List Value} (h : Rep I t [c1, c2]) (hs : RepL I ts vs) : RepL I (t :: ts) (c1 :: c2 :: vs)
end

mutual
theorem Rep.mono {I I' : Heap} (hle : HLe I I') : ∀ {t : Tree} {cs : List Value}, Rep I t cs → Rep I' t cs
 | _, _, .mk hl hs hn hc ha hp => .mk (hl.mono hle) (fun x hx => (hs x hx).mono hle) hn hc ha hp
theorem RepL.mono {I I' : Heap} (hle : HLe I I') : ∀ {ts : List Tree} {vs : List Value}, RepL I ts vs → RepL I' ts vs
 | _, _, .nil => .nil
 | _, _, .cons h hs => .cons (h.mono hle) (hs.mono hle)
end

theorem RepL.length {I : Heap} : ∀ {ts : List Tree} {vs : List Value}, RepL I ts vs → vs.length = 2 * ts.length
 | _, _, .nil => rfl
 | _, _, .cons h hs => by have := hs.length; simp [this]; omega
theorem RepL.append {I : Heap} : ∀ {ts us : List Tree} {vs ws : List Value}, RepL I ts vs → RepL I us ws → RepL I (ts ++ us) (vs ++ ws)
 | _, _, _, _, .nil, h => h
 | _, _, _, _, .cons h hs, h' => .cons h (hs.append h')
theorem RepL.get {I : Heap} : ∀ {ts : List Tree} {vs : List Value}, RepL I ts vs → ∀ i (hi : i < ts.length), ∃ c1 c2, Rep I ts[i] [c1, c2] ∧ vs[i * 2]? = some c1 ∧ vs[i * 2 + 1]? = some c2
 | _, _, .nil, i, hi => by simp at hi
 | _, _, .cons (c1 := c1) (c2 := c2) h hs, 0, hi => ⟨c1, c2, h, rfl, rfl⟩
 | _, _, .cons h hs, i + 1, hi => by
  obtain ⟨c1, c2, h1, h2, h3⟩ := hs.get i (by simpa using hi); refine ⟨c1, c2, by simpa using h1, ?_, ?_⟩
  ·rw [show (i + 1) * 2 = i * 2 + 1 + 1 by omega]; simpa using h2
  ·rw [show (i + 1) * 2 + 1 = (i * 2 + 1) + 1 + 1 by omega]; simpa using h3
theorem RepL.plain {I : Heap} : ∀ {ts : List Tree} {vs : List Value}, RepL I ts vs → vs.all C6 = true
 | _, _, .nil => rfl
 | _, _, .cons (.mk ..) hs => by simp [C6, hs.plain]

theorem Rep.open {I : Heap} {t : Tree} {cs : List Value} (h : Rep I t cs) : ∃ oa c vs, cs = [.string (str t.atom), .slice oa t.parts.length c] ∧ RepL I t.parts vs ∧ (∀ x, oa = some x → Still I x vs) ∧
  (oa = none → t.parts = []) ∧ t.parts.length ≤ c ∧ t.atom.length ≤ Bg ∧ t.parts.length ≤ Bg := by
 cases h with
 | mk hl hs hn hc ha hp => exact ⟨_, _, _, rfl, hl, hs, hn, hc, ha, hp⟩
theorem Rep.empty (I : Heap) : Rep I (.node [] []) [.string (str []), .slice none 0 0] := .mk .nil (by simp) (by simp) (by simp) (by simp [Bg]) (by simp [Bg])
theorem Rep.ofAtom {I : Heap} {a : As} (h : a.length ≤ Bg) : Rep I (.node a []) [.string (str a), .slice none 0 0] := .mk .nil (by simp) (by simp) (by simp) h (by simp [Bg])

theorem Rep.mk' {I : Heap} {a : As} {ps : List Tree} {oa : Option Addr} {m c : Nat} {vs : List Value} (hm : m = ps.length) (hl : RepL I ps vs) (hs : ∀ x, oa = some x → Still I x vs) (hn : oa = none → ps = [])
  (hc : m ≤ c) (ha : a.length ≤ Bg) (hp : m ≤ Bg) : Rep I (.node a ps) [.string (str a), .slice oa m c] := by
 subst hm; exact .mk hl hs hn hc ha hp
theorem A9 {I : Heap} {b : Nat} {xs ys : List Value} {T : TypeId} {fr : Nat × Nat} : Still (I.set b (.cells (xs ++ ys).toArray T fr)) ⟨b, 0, none⟩ xs :=
 .inr ⟨(xs ++ ys).toArray, T, fr, by simp [Heap.set], rfl, fun i hi => by simp [List.getElem?_append_left hi, hi]⟩

theorem Rp {P : Program} {f : FuncId} {n : Nat} {I₀ : Heap} {Q : Cv} {todo : List Item} {E : Hg} {I : Heap} {L : Bj} {e : TypeId} {a : As} {ts : List Tree} {xs : List Value} {B : Kg} {m c : Nat}
  (hrl : RepL I ts xs) (hB : Dd 2 m c xs B) (hm : m = ts.length) (ha : a.length ≤ Bg) (hp : m ≤ Bg)
  (h : ∀ I', HLe I I' → Rep I' (.node a ts) [.string (str a), Bm m c B] → RunS P f n I₀ Q todo E I' L) : RunS P f n I₀ Q todo E I (A2 e xs B ++ L) := by
 cases B with
 | none =>
  obtain ⟨rfl, rfl, rfl⟩ := hB; obtain rfl : ts = [] := by cases ts with
   | nil => rfl
   | cons => simp at hm
  exact h I (.refl _) (.mk .nil Ae Ae Ae ha Bf)
 | some p =>
  obtain ⟨b, sp⟩ := p; refine Bu fun hle => h _ hle (.mk' hm (hrl.mono hle) (fun y hy => ?_) Ae hB.2.1 ha hp)
  cases hy; exact A9

theorem Rep.part {I : Heap} {ps : List Tree} {vs : List Value} (hl : RepL I ps vs) {x : Addr} (hs : Still I x vs) (i : Nat) (hi : i < ps.length) :
  ∃ oa' c', Rep I ps[i] [.string (str ps[i].atom), .slice oa' ps[i].parts.length c'] ∧ Still I (x.add (i * 2)) [.string (str ps[i].atom), .slice oa' ps[i].parts.length c'] := by
 obtain ⟨c1, c2, h1, h2, h3⟩ := hl.get i hi; obtain ⟨oa', c', vs', he, _⟩ := h1.open
 simp only [List.cons.injEq, and_true] at he
 obtain ⟨rfl, rfl⟩ := he; refine ⟨oa', c', h1, hs.part (i * 2) ?_⟩; intro j hj
 match j, hj with
 | 0, _ => simpa using h2
 | 1, _ => simpa using h3

theorem Rep.at {I : Heap} {t : Tree} {oa : Option Addr} {vs : List Value} (hl : RepL I t.parts vs) (hs : ∀ x, oa = some x → Still I x vs) (hn : oa = none → t.parts = []) (i : Nat) (hi : i < t.parts.length) :
  ∃ x, oa = some x ∧ ∃ oa' c', Rep I t.parts[i] [.string (str t.parts[i].atom), .slice oa' t.parts[i].parts.length c'] ∧ Still I (x.add (i * 2)) [.string (str t.parts[i].atom), .slice oa' t.parts[i].parts.length c'] := by
 cases oa with
 | none => simp [hn rfl] at hi
 | some x => exact ⟨x, rfl, Rep.part hl (hs x rfl) i hi⟩
theorem Tree.part_lt (t : Tree) (i : Nat) (hi : i < t.parts.length) : SizeOf.sizeOf t.parts[i] < SizeOf.sizeOf t := by
 cases t with
 | node a ps =>
  have : ps[i] ∈ ps := List.getElem_mem hi
  have := List.sizeOf_lt_of_mem this
  simp only [Tree.parts, Tree.node.sizeOf_spec]
  omega

def Tree.head (t : Tree) : As := match t.parts with
 | [] => []
 | u :: _ => u.atom

mutual
def Tree.size : Tree → Nat
 | .node _ ps => bif ps.isEmpty then 1 else Eu ps
def Eu : List Tree → Nat
 | [] => 0
 | t :: ts => t.size + Eu ts
end
theorem H1 : ∀ (a b : List Tree), Eu (a ++ b) = Eu a + Eu b
 | [], b => by simp [Eu]
 | t :: a, b => by simp [Eu, H1 a b]; omega

mutual
def Tree.depth : Tree → Nat
 | .node _ ps => bif ps.isEmpty then 0 else Ec ps + 1
def Ec : List Tree → Nat
 | [] => 0
 | t :: ts => max t.depth (Ec ts)
end

mutual
def Tree.len : Tree → Nat
 | .node a ps => bif ps.isEmpty then a.length else 1 + Gs ps
def Gs : List Tree → Nat
 | [] => 0
 | t :: ts => t.len + 1 + Gs ts
end
mutual
def Tree.text : Tree → As
 | .node a ps => match ps with
  | [] => a
  | t :: ts => 40 :: (t.text ++ Gm ts ++ [41])
def Gm : List Tree → As
 | [] => []
 | t :: ts => 32 :: (t.text ++ Gm ts)
end
mutual
theorem Tree.text_len : ∀ t : Tree, t.text.length = t.len
 | .node a [] => by simp [Tree.text, Tree.len]
 | .node a (t :: ts) => by
  have := t.text_len; have := Vi ts
  simp [Tree.text, Tree.len, Gs, *]; omega
theorem Vi : ∀ ts : List Tree, (Gm ts).length = Gs ts
 | [] => rfl
 | t :: ts => by have := t.text_len; have := Vi ts; simp [Gm, Gs, *]; omega
end

theorem Mw (ps : List Tree) (i : Nat) (hi : i < ps.length) : Eu (ps.take (i + 1)) = Eu (ps.take i) + ps[i].size := by
 rw [List.take_succ_eq_append_getElem hi, H1]; simp [Eu]
theorem Yz (ps : List Tree) (i : Nat) : Eu (ps.take i) ≤ Eu ps := by
 have h := H1 (ps.take i) (ps.drop i)
 rw [List.take_append_drop] at h
 omega
theorem Tree.size_eq (t : Tree) (h : t.parts ≠ []) : t.size = Eu t.parts := by
 cases t with
 | node a ps => cases ps with
  | nil => exact absurd rfl h
  | cons p ps => simp [Tree.size, Tree.parts]
theorem Tree.size_atom (t : Tree) (h : t.parts = []) : t.size = 1 := by
 cases t with
 | node a ps => simp [Tree.parts] at h; subst h; simp [Tree.size]

def Tree.is (t : Tree) (h : As) (n : Nat) : Bool := decide (t.parts.length = n) && decide (t.head = h)
def Tree.isType : Tree → Bool
 | .node a [] => decide (a = [105])
 | .node _ [h, x, y] => (decide (h.atom = [62]) || decide (h.atom = [42])) && x.isType && y.isType
 | .node _ _ => false
def Tree.typed (t : Tree) : Bool := t.isType && decide (t.size ≤ 16)

def H3 : List Tree → As
 | [] => []
 | t :: ts => 40 :: (t.text ++ Gm ts)
theorem Mz : ∀ (a b : List Tree), Gm (a ++ b) = Gm a ++ Gm b
 | [], b => rfl
 | t :: a, b => by simp [Gm, Mz a b]
theorem Tg (ps : List Tree) (i : Nat) (hi : i < ps.length) : H3 (ps.take (i + 1)) = H3 (ps.take i) ++ (if i = 0 then 40 else 32) :: ps[i].text := by
 cases ps with
 | nil => simp at hi
 | cons t ts =>
  cases i with
  | zero => simp [H3, Gm]
  | succ i =>
   have hi' : i < ts.length := by simpa using hi
   simp only [List.take_succ_cons, H3]
   rw [List.take_succ_eq_append_getElem hi', Mz]
   simp [Gm]
theorem Tree.text_eq (t : Tree) (h : t.parts ≠ []) : t.text = H3 t.parts ++ [41] := by
 cases t with
 | node a ps => cases ps with
  | nil => exact absurd rfl h
  | cons p ps => simp [Tree.text, Tree.parts, H3]
theorem Tree.text_atom (t : Tree) (h : t.parts = []) : t.text = t.atom := by
 cases t with
 | node a ps => simp [Tree.parts] at h; subst h; simp [Tree.text, Tree.atom]

/- An atom has no parts, and nothing else has an atom. -/
mutual
def Tree.good : Tree → Bool
 | .node a ps => (bif ps.isEmpty then !a.isEmpty else a.isEmpty) && F2 ps
def F2 : List Tree → Bool
 | [] => true
 | t :: ts => t.good && F2 ts
end
theorem Uz : ∀ {ts : List Tree}, F2 ts = true → ∀ i (hi : i < ts.length), ts[i].good = true
 | [], _, i, hi => by simp at hi
 | t :: ts, h, 0, _ => by simp [F2] at h; exact h.1
 | t :: ts, h, i + 1, hi => by simp [F2] at h; simpa using Uz h.2 i (by simpa using hi)

/- Reading. -/
def Fn (b : UInt8) : Bool := (decide (97 ≤ b.toNat) && decide (b.toNat ≤ 122)) || (decide (48 ≤ b.toNat) && decide (b.toNat ≤ 57)) || decide (b.toNat = 43) || decide (b.toNat = 45) || decide (b.toNat = 42) || decide (b.toNat = 62)

def Fe (p : As → Option (Tree × As)) : Nat → As → Option (List Tree × As)
 | 0, _ => none
 | n + 1, s => match p s with
  | none => none
  | some (t, r) => match r with
   | [] => none
   | c :: r' => bif c.toNat == 41 then some ([t], r') else bif c.toNat == 32 then (match Fe p n r' with
    | some (ts, r'') => some (t :: ts, r'')
    | none => none) else none
def E4 : Nat → As → Option (Tree × As)
 | k, [] => none
 | k, c :: r => bif c.toNat == 40 then (match k with
   | 0 => none
   | k + 1 => match Fe (E4 k) (r.length + 1) r with
    | some (ts, r') => some (.node [] ts, r')
    | none => none)
  else bif Fn c then some (.node ((c :: r).takeWhile Fn) [], (c :: r).dropWhile Fn) else none
def D4 (s : As) : Option Tree := if 12000 < s.length then none else match E4 60 s with
 | some (t, []) => some t
 | _ => none

theorem My (p : UInt8 → Bool) (s : As) : (s.takeWhile p).length + (s.dropWhile p).length = s.length := by
 rw [← List.length_append, List.takeWhile_append_dropWhile]

theorem Yn {p : As → Option (Tree × As)} (hp : ∀ s t r, p s = some (t, r) → r.length ≤ s.length) : ∀ {n : Nat} {s : As} {ts : List Tree} {r : As}, Fe p n s = some (ts, r) → r.length < s.length ∧ ts ≠ [] := by
 intro n
 induction n with
 | zero => intro s ts r h; simp [Fe] at h
 | succ n ih =>
  intro s ts r h
  simp only [Fe] at h
  split at h
  ·simp at h
  ·rename_i t r1 hpp
   have h1 := hp _ _ _ hpp
   split at h
   ·simp at h
   ·rename_i c r'
    simp at h1
    cases h41 : (c.toNat == 41) with
    | true => simp [h41] at h; obtain ⟨rfl, rfl⟩ := h; exact ⟨by omega, by simp⟩
    | false =>
     cases h32 : (c.toNat == 32) with
     | false => simp [h41, h32] at h
     | true =>
      simp [h41, h32] at h
      split at h
      ·rename_i ts' r'' hrec
       simp at h
       obtain ⟨rfl, rfl⟩ := h
       have := (ih hrec).1
       exact ⟨by omega, by simp⟩
      ·simp at h
theorem Va : ∀ {k : Nat} {s : As} {t : Tree} {r : As}, E4 k s = some (t, r) → r.length < s.length := by
 intro k
 induction k with
 | zero =>
  intro s t r h
  cases s with
  | nil => simp [E4] at h
  | cons c s =>
   simp only [E4] at h
   cases h40 : (c.toNat == 40) with
   | true => simp [h40] at h
   | false =>
    cases hb : Fn c with
    | false => simp [h40, hb] at h
    | true =>
     simp [h40, hb] at h
     obtain ⟨_, rfl⟩ := h
     have := My Fn s
     simp; omega
 | succ k ih =>
  intro s t r h
  cases s with
  | nil => simp [E4] at h
  | cons c s =>
   simp only [E4] at h
   cases h40 : (c.toNat == 40) with
   | true =>
    simp [h40] at h
    split at h
    ·rename_i ts r' hpp
     simp at h
     obtain ⟨_, rfl⟩ := h
     have := (Yn (fun s t r hh => Nat.le_of_lt (ih hh)) hpp).1
     simp; omega
    ·simp at h
   | false =>
    cases hb : Fn c with
    | false => simp [h40, hb] at h
    | true =>
     simp [h40, hb] at h
     obtain ⟨_, rfl⟩ := h
     have := My Fn s
     simp; omega


theorem Mx {p : UInt8 → Bool} {s : As} {n : Nat} (h : (s.take n).all p = true) (he : n = s.length ∨ (n < s.length ∧ p (s.getD n 0) = false)) : s.takeWhile p = s.take n ∧ s.dropWhile p = s.drop n := by
 have hp : ∀ x ∈ s.take n, p x = true := by simpa using h
 have hd : (s.drop n).takeWhile p = [] ∧ (s.drop n).dropWhile p = s.drop n := by
  rcases he with rfl | ⟨hlt, hf⟩
  ·simp
  ·rw [List.drop_eq_getElem_cons hlt]
   have : p s[n] = false := by simpa [hlt] using hf
   simp [List.takeWhile, List.dropWhile, this]
 constructor
 ·conv => lhs; rw [← List.take_append_drop n s]
  rw [List.takeWhile_append_of_pos hp, hd.1]; simp
 ·conv => lhs; rw [← List.take_append_drop n s]
  rw [List.dropWhile_append_of_pos hp, hd.2]

theorem Ij {k : Nat} {s : As} (h : (s.getD 0 0).toNat ≠ 40) : E4 k s = (if s.takeWhile Fn = [] then none else some (.node (s.takeWhile Fn) [], s.dropWhile Fn)) := by
 cases s with
 | nil => cases k <;> simp [E4]
 | cons c r =>
  have hc : (c.toNat == 40) = false := by simpa using h
  cases hb : Fn c <;> cases k <;> simp [E4, hc, hb, List.takeWhile_cons]
theorem Js {k : Nat} {s : As} (h : (s.getD 0 0).toNat = 40) : E4 (k + 1) s = (match Fe (E4 k) s.length (s.drop 1) with
  | some (ts, r) => some (.node [] ts, r)
  | none => none) := by
 cases s with
 | nil => simp at h
 | cons c r =>
  have hc : (c.toNat == 40) = true := by simpa using h
  simp [E4, hc]
theorem Kv {s : As} (h : (s.getD 0 0).toNat = 40) : E4 0 s = none := by
 cases s with
 | nil => simp at h
 | cons c r =>
  have hc : (c.toNat == 40) = true := by simpa using h
  simp [E4, hc]

theorem Tj {p : As → Option (Tree × As)} (hp : ∀ s t r, p s = some (t, r) → r <:+ s) : ∀ {n : Nat} {s : As} {ts : List Tree} {r : As}, Fe p n s = some (ts, r) → r <:+ s := by
 intro n
 induction n with
 | zero => intro s ts r h; simp [Fe] at h
 | succ n ih =>
  intro s ts r h
  simp only [Fe] at h
  split at h
  ·simp at h
  ·rename_i t r1 hpp
   have h1 := hp _ _ _ hpp
   split at h
   ·simp at h
   ·rename_i c r'
    have h2 : r' <:+ s := (List.suffix_cons c r').trans h1
    cases h41 : (c.toNat == 41) with
    | true => simp [h41] at h; obtain ⟨_, rfl⟩ := h; exact h2
    | false =>
     cases h32 : (c.toNat == 32) with
     | false => simp [h41, h32] at h
     | true =>
      simp [h41, h32] at h
      split at h
      ·rename_i ts' r'' hrec
       simp at h
       obtain ⟨_, rfl⟩ := h
       exact (ih hrec).trans h2
      ·simp at h
theorem Px : ∀ {k : Nat} {s : As} {t : Tree} {r : As}, E4 k s = some (t, r) → r <:+ s := by
 intro k
 induction k with
 | zero =>
  intro s t r h
  by_cases h40 : (s.getD 0 0).toNat = 40
  ·rw [Kv h40] at h; cases h
  ·rw [Ij h40] at h
   split at h
   ·cases h
   ·simp at h; rw [← h.2]; exact List.dropWhile_suffix _
 | succ k ih =>
  intro s t r h
  by_cases h40 : (s.getD 0 0).toNat = 40
  ·rw [Js h40] at h
   split at h
   ·rename_i ts r' hpp
    simp at h
    obtain ⟨_, rfl⟩ := h
    exact (Tj (fun _ _ _ hh => ih hh) hpp).trans (List.drop_suffix _ _)
   ·cases h
  ·rw [Ij h40] at h
   split at h
   ·cases h
   ·simp at h; rw [← h.2]; exact List.dropWhile_suffix _
theorem Y0 {s r : As} (h : r <:+ s) : r = s.drop (s.length - r.length) := by
 obtain ⟨a, rfl⟩ := h
 simp

structure PS where
 I : Heap
 s : As
 m : Nat
 ts : List Tree
 B : Kg
 c : Nat
 xs : List Value
 n : Nat
theorem Po (lo n hi : Int) (I : Heap) (L : Bj) : Fun Tryz.prog 42 [.int .i64 n, .int .i64 lo, .int .i64 hi] I L (E2 (.bool (decide (lo ≤ n ∧ n ≤ hi))) I L) := by
 refine Ao Ae ?_; refine Se rfl (Oa rfl (Ab (Se rfl (Om rfl (Om rfl (Oc rfl rfl rfl (Om rfl ?_)))))))
 apply Fr 10 14 rfl
 ·intro g1_4 hk
  try simp only [nb] at g1_4
  refine Ow rfl (Ow rfl ?_); refine D8 rfl rfl rfl (.met rfl rfl) rfl ?_; refine Ot rfl rfl ?_
  exact Bb 3 rfl rfl hk
 ·intro _ hk; refine Br 3 rfl ?_; refine Of rfl rfl ?_
  exact Bb 3 rfl rfl hk
 refine Oa rfl (Ab (Am (.tmp rfl .nil) ?_)); refine only rfl ?_
 simp [C2, *]
theorem Wb (lo n hi : Int) (I : Heap) (L : Bj) : Fun Tryz.prog 53 [.int .i64 n, .int .i64 lo, .int .i64 hi] I L (E2 (.bool (decide (lo ≤ n ∧ n ≤ hi))) I L) := by
 refine Ao Ae ?_; refine Se rfl (Oa rfl (Ab (Se rfl (Om rfl (Om rfl (Oc rfl rfl rfl (Om rfl ?_)))))))
 apply Fr 10 14 rfl
 ·intro g1_4 hk
  try simp only [nb] at g1_4
  refine Ow rfl (Ow rfl ?_); refine D8 rfl rfl rfl (.met rfl rfl) rfl ?_; refine Ot rfl rfl ?_
  exact Bb 3 rfl rfl hk
 ·intro _ hk; refine Br 3 rfl ?_; refine Of rfl rfl ?_
  exact Bb 3 rfl rfl hk
 refine Oa rfl (Ab (Am (.tmp rfl .nil) ?_)); refine only rfl ?_
 simp [C2, *]

theorem Pn (b : UInt8) (I : Heap) (L : Bj) : Fun Tryz.prog 179 [.int .u8 (b.toNat : Nat)] I L (E2 (.bool (Fn b)) I L) := by
 refine Ao Ae ?_; refine Se rfl (Oa rfl (Ab (Se rfl (Om rfl (Oc rfl rfl rfl (Om rfl ?_))))))
 apply Fr 5 8 rfl
 ·intro g1_3 hk
  try simp only [nb] at g1_3
  refine Ow rfl ?_; refine D8 rfl rfl rfl (.met rfl rfl) rfl ?_; refine Ot rfl rfl ?_
  exact Bb 2 rfl rfl hk
 ·intro _ hk; refine Br 2 rfl ?_; refine Of rfl rfl ?_
  exact Bb 2 rfl rfl hk
 refine Om rfl ?_
 apply G4 9 16 rfl
 ·intro g1_7 hk
  try simp only [nb] at g1_7
  refine Ow rfl ?_; refine D8 rfl rfl rfl (.met rfl rfl) rfl ?_; refine Ow rfl ?_
  apply Fr 12 15 rfl
  ·intro g1_10 hk
   try simp only [nb] at g1_10
   refine Ow rfl ?_; refine D8 rfl rfl rfl (.met rfl rfl) rfl ?_; refine Em rfl rfl (.met rfl rfl) rfl ?_
   exact Bb 2 rfl rfl hk
  ·intro _ hk; refine Br 2 rfl ?_; refine D5 rfl rfl (.met rfl rfl) rfl ?_
   exact Bb 2 rfl rfl hk
  refine Of rfl rfl ?_
  exact Bb 4 rfl rfl hk
 ·intro _ hk; refine Br 6 rfl ?_; refine Ot rfl rfl ?_
  exact Bb 6 rfl rfl hk
 refine Om rfl ?_
 apply G4 17 20 rfl
 ·intro g1_15 hk
  try simp only [nb] at g1_15
  refine Ow rfl ?_; refine D8 rfl rfl rfl (.met rfl rfl) rfl ?_; refine Of rfl rfl ?_
  exact Bb 2 rfl rfl hk
 ·intro _ hk; refine Br 2 rfl ?_; refine Ot rfl rfl ?_
  exact Bb 2 rfl rfl hk
 refine Om rfl ?_
 apply G4 21 24 rfl
 ·intro g1_19 hk
  try simp only [nb] at g1_19
  refine Ow rfl ?_; refine D8 rfl rfl rfl (.met rfl rfl) rfl ?_; refine Of rfl rfl ?_
  exact Bb 2 rfl rfl hk
 ·intro _ hk; refine Br 2 rfl ?_; refine Ot rfl rfl ?_
  exact Bb 2 rfl rfl hk
 refine Om rfl ?_
 apply G4 25 28 rfl
 ·intro g1_23 hk
  try simp only [nb] at g1_23
  refine Ow rfl ?_; refine D8 rfl rfl rfl (.met rfl rfl) rfl ?_; refine Of rfl rfl ?_
  exact Bb 2 rfl rfl hk
 ·intro _ hk; refine Br 2 rfl ?_; refine Ot rfl rfl ?_
  exact Bb 2 rfl rfl hk
 refine Om rfl ?_
 apply G4 29 32 rfl
 ·intro g1_27 hk
  try simp only [nb] at g1_27
  refine Ow rfl ?_; refine D8 rfl rfl rfl (.met rfl rfl) rfl ?_; refine Of rfl rfl ?_
  exact Bb 2 rfl rfl hk
 ·intro _ hk; refine Br 2 rfl ?_; refine Ot rfl rfl ?_
  exact Bb 2 rfl rfl hk
 refine Oa rfl (Ab (Am (.tmp rfl .nil) ?_)); refine only rfl ?_; refine congrArg Value.bool ?_; rw [Bool.eq_iff_iff]; simp [Fn]; omega
theorem Ada (b : UInt8) (I : Heap) (L : Bj) : Fun Tryz.prog 182 [.int .u8 (b.toNat : Nat)] I L (E2 (.bool (Fn b)) I L) := by
 refine Ao Ae ?_; refine Se rfl (Oa rfl (Ab (Se rfl (Om rfl (Oc rfl rfl rfl (Om rfl ?_))))))
 apply Fr 5 8 rfl
 ·intro g1_3 hk
  try simp only [nb] at g1_3
  refine Ow rfl ?_; refine D8 rfl rfl rfl (.met rfl rfl) rfl ?_; refine Ot rfl rfl ?_
  exact Bb 2 rfl rfl hk
 ·intro _ hk; refine Br 2 rfl ?_; refine Of rfl rfl ?_
  exact Bb 2 rfl rfl hk
 refine Om rfl ?_
 apply G4 9 16 rfl
 ·intro g1_7 hk
  try simp only [nb] at g1_7
  refine Ow rfl ?_; refine D8 rfl rfl rfl (.met rfl rfl) rfl ?_; refine Ow rfl ?_
  apply Fr 12 15 rfl
  ·intro g1_10 hk
   try simp only [nb] at g1_10
   refine Ow rfl ?_; refine D8 rfl rfl rfl (.met rfl rfl) rfl ?_; refine Em rfl rfl (.met rfl rfl) rfl ?_
   exact Bb 2 rfl rfl hk
  ·intro _ hk; refine Br 2 rfl ?_; refine D5 rfl rfl (.met rfl rfl) rfl ?_
   exact Bb 2 rfl rfl hk
  refine Of rfl rfl ?_
  exact Bb 4 rfl rfl hk
 ·intro _ hk; refine Br 6 rfl ?_; refine Ot rfl rfl ?_
  exact Bb 6 rfl rfl hk
 refine Om rfl ?_
 apply G4 17 20 rfl
 ·intro g1_15 hk
  try simp only [nb] at g1_15
  refine Ow rfl ?_; refine D8 rfl rfl rfl (.met rfl rfl) rfl ?_; refine Of rfl rfl ?_
  exact Bb 2 rfl rfl hk
 ·intro _ hk; refine Br 2 rfl ?_; refine Ot rfl rfl ?_
  exact Bb 2 rfl rfl hk
 refine Om rfl ?_
 apply G4 21 24 rfl
 ·intro g1_19 hk
  try simp only [nb] at g1_19
  refine Ow rfl ?_; refine D8 rfl rfl rfl (.met rfl rfl) rfl ?_; refine Of rfl rfl ?_
  exact Bb 2 rfl rfl hk
 ·intro _ hk; refine Br 2 rfl ?_; refine Ot rfl rfl ?_
  exact Bb 2 rfl rfl hk
 refine Om rfl ?_
 apply G4 25 28 rfl
 ·intro g1_23 hk
  try simp only [nb] at g1_23
  refine Ow rfl ?_; refine D8 rfl rfl rfl (.met rfl rfl) rfl ?_; refine Of rfl rfl ?_
  exact Bb 2 rfl rfl hk
 ·intro _ hk; refine Br 2 rfl ?_; refine Ot rfl rfl ?_
  exact Bb 2 rfl rfl hk
 refine Om rfl ?_
 apply G4 29 32 rfl
 ·intro g1_27 hk
  try simp only [nb] at g1_27
  refine Ow rfl ?_; refine D8 rfl rfl rfl (.met rfl rfl) rfl ?_; refine Of rfl rfl ?_
  exact Bb 2 rfl rfl hk
 ·intro _ hk; refine Br 2 rfl ?_; refine Ot rfl rfl ?_
  exact Bb 2 rfl rfl hk
 refine Oa rfl (Ab (Am (.tmp rfl .nil) ?_)); refine only rfl ?_; refine congrArg Value.bool ?_; rw [Bool.eq_iff_iff]; simp [Fn]; omega

theorem B8 {I : Heap} {t : Tree} {cs : List Value} (h : Rep I t cs) (L : Bj) : Fun Tryz.prog 81 [.agg cs.toArray] I L (E2 (.bool t.parts.isEmpty) I L) := by
 obtain ⟨oa, c, vs, rfl, hl, hs, hn, hc, ha, hp⟩ := h.open; refine Ao Ae ?_; refine Se rfl ?_; refine Cm rfl rfl .free rfl ?_; intro b1; refine Oa rfl (Ab (Se rfl ?_))
 first | refine Oh rfl ?_ | refine Oj rfl ?_
 refine C1 rfl .free rfl ?_; refine On rfl (Oc rfl rfl rfl (Oa rfl (Ab (Am (.tmp rfl .nil) ?_)))); refine only rfl ?_
 cases t.parts <;> simp [C2]; omega

theorem Bl {I : Heap} {t : Tree} {cs : List Value} (h : Rep I t cs) (L : Bj) : Fun Tryz.prog 84 [.agg cs.toArray] I L (E2 (.string (str t.head)) I L) := by
 obtain ⟨oa, c, vs, rfl, hl, hs, hn, hc, ha, hp⟩ := h.open; refine Ao Ae ?_; refine Se rfl ?_; refine Cm rfl rfl .free rfl ?_; intro b1; refine Oa rfl (Ab (Ah (Se rfl ?_))); refine C1 rfl .free rfl ?_; refine Ca rfl (B8 h _) ?_; rintro _ _ _ _ ⟨rfl, rfl, rfl⟩; refine Ab ?_; refine Si rfl ?_ ?_
 ·intro c0; refine Se rfl (Oa rfl (Ab (Am (.tmp rfl .nil) ?_))); refine only rfl ?_
  simp [C2, Tree.head]
  cases hh : t.parts with
  | nil => rfl
  | cons u us => simp [hh] at c0
 intro c0; obtain ⟨u, us, hu⟩ : ∃ u us, t.parts = u :: us := by
  cases hh : t.parts with
  | nil => simp [hh] at c0
  | cons u us => exact ⟨u, us, rfl⟩
 obtain ⟨x, rfl⟩ : ∃ x, oa = some x := by
  cases oa with
  | none => simp [hn rfl] at hu
  | some x => exact ⟨x, rfl⟩
 obtain ⟨oa', c', hr, hst⟩ := Rep.part hl (hs x rfl) 0 (by simp [hu])
 have hpos : 0 < t.parts.length := by simp [hu]
 refine Ak (Se rfl ?_)
 first | refine Oh rfl ?_ | refine Oj rfl ?_
 refine C1 rfl .free rfl ?_; refine Ck rfl rfl 0 rfl Bx Dp .free rfl ?_
 first | refine Oh rfl ?_ | refine Oj rfl ?_
 refine C1 rfl .free rfl ?_; refine Oa rfl (Ab (Am (.tmp rfl .nil) ?_)); refine only rfl ?_
 simp [C2, Tree.head, hu]
theorem Us {I : Heap} {t : Tree} {cs : List Value} (h : Rep I t cs) (hd : As) (k : Nat) (L : Bj) : Fun Tryz.prog 102 [.agg cs.toArray, .string (str hd), .int .i64 (k : Nat)] I L (E2 (.bool (t.is hd k)) I L) := by
 obtain ⟨oa, c, vs, rfl, hl, hs, hn, hc, ha, hp⟩ := h.open; refine Ao Ae ?_; refine Se rfl ?_; refine Cm rfl rfl .free rfl ?_; intro b3; refine Oa rfl (Ab (Se rfl ?_))
 first | refine Oh rfl ?_ | refine Oj rfl ?_
 refine C1 rfl .free rfl ?_; refine On rfl (Om rfl (Oc rfl rfl rfl (Om rfl ?_)))
 first | refine Ho rfl rfl ?_ ?_ | refine Fp rfl rfl ?_ ?_ | refine Nd rfl rfl ?_ ?_
 ·intro g1_6; refine C1 rfl (.met rfl rfl) rfl ?_; refine Cx rfl (.met rfl rfl) rfl (Bl h _) ?_; rintro _ _ _ _ ⟨rfl, rfl, rfl⟩; refine Ow rfl ?_; refine F9 rfl rfl rfl (.met rfl rfl) rfl ?_; refine Ot rfl rfl (Oa rfl (Ab (Am (.tmp rfl .nil) ?_))); refine only rfl ?_; refine congrArg Value.bool ?_; rw [Bool.eq_iff_iff]; simp [Tree.is, *]; try omega
 intro g1_6
 iterate 4 refine Cy rfl rfl rfl ?_
 refine Of rfl rfl (Oa rfl (Ab (Am (.tmp rfl .nil) ?_))); refine only rfl ?_; refine congrArg Value.bool ?_; rw [Bool.eq_iff_iff]; simp [Tree.is, *]; try omega

def E6 (b : UInt8) : Bool := decide (48 ≤ b.toNat) && decide (b.toNat ≤ 57)
theorem K0 {p : UInt8 → Bool} {s : As} {i : Nat} (h : (s.take i).all p = true) (hi : i < s.length) (hp : p (s.getD i 0) = true) : (s.take (i + 1)).all p = true := by
 rw [List.take_succ_eq_append_getElem hi]
 simp [List.getD_eq_getElem?_getD, hi] at hp
 rw [List.all_append, h]; simp [hp]
theorem Ip {p : UInt8 → Bool} {s : As} {i : Nat} (hi : i < s.length) (hp : p (s.getD i 0) = false) : s.all p = false := by
 simp [List.getD_eq_getElem?_getD, hi] at hp
 rw [List.all_eq_false]
 exact ⟨s[i], List.getElem_mem hi, by simp [hp]⟩

theorem Rg (s : As) (hs : s.length ≤ Bg) (I : Heap) (L : Bj) : Fun Tryz.prog 112 [.string (str s)] I L (E2 (.bool (s.all E6)) I L) := by
 unfold Bg at hs
 refine Ao Ae ?_; refine Se rfl (Oa rfl (Ab (Ah (Se rfl (Om rfl ?_))))); refine Dh rfl .free rfl ?_; refine Om rfl (Ab (Aq ?_)); refine Dn (X := Nat) (fun i => s.length - i) (fun i => [(0, .string (str s)), (5, .int .i64 (s.length : Nat)), (6, .int .i64 (i : Nat))]) (fun _ => I) (fun _ => L) (fun i => i ≤ s.length ∧ (s.take i).all E6 = true) 0 ⟨by simp, by simp⟩ ⟨rfl, rfl, rfl, trivial⟩ Cl ?_; rintro i ⟨hi, hall⟩ ih; refine Se rfl (Oc rfl rfl rfl (Ab (Ah ?_))); refine Si rfl ?_ ?_
 ·intro c0; refine Ak (Ah (Aq (Se rfl (Om rfl (Oa rfl (Ab (Se rfl (Om rfl (Om rfl ?_))))))))); refine D9 rfl rfl rfl Bx .free rfl ?_; refine Oc rfl rfl rfl (Om rfl ?_)
  first | refine Ho rfl rfl ?_ ?_ | refine Fp rfl rfl ?_ ?_ | refine Nd rfl rfl ?_ ?_
  ·intro g4_5
   iterate 4 refine Cy rfl rfl rfl ?_
   refine Ot rfl rfl (Ab ?_); refine B9 rfl ?_; refine Se rfl (Oa rfl (Ab (Am (.tmp rfl .nil) ?_))); refine only rfl ?_; refine congrArg Value.bool (Ip (i := i) Aa (by simp only [E6, Bool.and_eq_false_iff, decide_eq_false_iff_not]; omega)).symm
  intro g4_5; refine Ow rfl (Ow rfl ?_); refine D9 rfl rfl rfl Bx (.met rfl rfl) rfl ?_; refine D8 rfl rfl rfl (.met rfl rfl) rfl ?_; refine Of rfl rfl (Ab ?_); refine Si rfl ?_ ?_
  ·intro c1; refine Se rfl (Oa rfl (Ab (Am (.tmp rfl .nil) ?_))); refine only rfl ?_; refine congrArg Value.bool (Ip (i := i) Aa (by simp only [E6, Bool.and_eq_false_iff, decide_eq_false_iff_not]; omega)).symm
  intro c1; refine Ak (Ap (Al rfl ?_)); refine Or rfl rfl rfl ?_; refine Om rfl (Ab ?_); refine Ed (E' := [(0, .string (str s)), (5, .int .i64 (s.length : Nat)), (6, .int .i64 ((i + 1 : Nat)))]) ⟨rfl, rfl, rfl, trivial⟩ (ih (i + 1) ⟨by omega, K0 hall Aa (by simp only [E6, Bool.and_eq_true, decide_eq_true_eq]; omega)⟩ Aa)
 intro c0; refine Cc rfl ?_; refine Se rfl (Oa rfl (Ab (Am (.tmp rfl .nil) ?_))); refine only rfl ?_
 have : i = s.length := by omega
 subst this
 simpa [C2] using hall
def Ps (b : UInt8) : Bool := decide (97 ≤ b.toNat) && decide (b.toNat ≤ 122)
def B0 : As → Bool
 | [] => false
 | c :: r => decide (r.length ≤ 3) && Ps c && r.all E6

theorem S5 (s : As) : B0 s = (decide (1 ≤ s.length ∧ s.length ≤ 4) && Ps (s.getD 0 0) && (s.drop 1).all E6) := by
 cases s with
 | nil => rfl
 | cons c r => rw [Bool.eq_iff_iff]; simp [B0]

theorem Ko (s : As) (hs : s.length ≤ Bg) (I : Heap) (L : Bj) : Fun Tryz.prog 82 [.string (str s)] I L (E2 (.bool (B0 s)) I L) := by
 rw [S5]
 unfold Bg at hs
 refine Ao Ae ?_; refine Se rfl (Oa rfl (Ab (Se rfl (Om rfl ?_)))); refine Dh rfl .free rfl ?_; refine Ca rfl (Po ..) ?_; rintro _ _ _ _ ⟨rfl, rfl, rfl⟩; refine Om rfl ?_
 apply Fr 6 10 rfl
 ·intro g1_4 hk
  try simp only [nb] at g1_4
  refine Ow rfl ?_; refine D9 (i := 0) rfl rfl rfl Bx (.met rfl rfl) rfl ?_; refine D8 rfl rfl rfl (.met rfl rfl) rfl ?_; refine Ot rfl rfl ?_
  exact Bb 3 rfl rfl hk
 ·intro _ hk; refine Br 3 rfl ?_; refine Of rfl rfl ?_
  exact Bb 3 rfl rfl hk
 refine Om rfl ?_
 apply Fr 11 15 rfl
 ·intro g1_9 hk
  try simp only [nb] at g1_9
  refine Ow rfl ?_; refine D9 (i := 0) rfl rfl rfl Bx (.met rfl rfl) rfl ?_; refine D8 rfl rfl rfl (.met rfl rfl) rfl ?_; refine Ot rfl rfl ?_
  exact Bb 3 rfl rfl hk
 ·intro _ hk; refine Br 3 rfl ?_; refine Of rfl rfl ?_
  exact Bb 3 rfl rfl hk
 refine Om rfl ?_
 apply Fr 16 20 rfl
 ·intro g1_14 hk
  try simp only [nb] at g1_14
  refine Ow rfl ?_; refine Kf rfl rfl 1 rfl Bx (.met rfl rfl) rfl ?_; refine Cx rfl (.met rfl rfl) rfl (Rg (s.drop 1) Hb _ _) ?_; rintro _ _ _ _ ⟨rfl, rfl, rfl⟩; refine Ot rfl rfl ?_
  exact Bb 3 rfl rfl hk
 ·intro _ hk; refine Br 3 rfl ?_; refine Of rfl rfl ?_
  exact Bb 3 rfl rfl hk
 refine Oa rfl (Ab (Am (.tmp rfl .nil) ?_)); refine only rfl ?_; refine congrArg Value.bool ?_; simp only [Ps]; grind

theorem Gq (b : UInt8) : E6 b = decide (48 ≤ (b.toNat : Int) ∧ (b.toNat : Int) ≤ 57) := by
 rw [Bool.eq_iff_iff]; simp [E6]; omega
theorem Xj {s : As} (i : Nat) (hi : i < s.length) : (s.drop i).all E6 = (E6 (s.getD i 0) && (s.drop (i + 1)).all E6) := by
 have : s.getD i 0 = s[i] := by simp [hi]
 rw [this, List.drop_eq_getElem_cons hi, List.all_cons]

theorem Nf (s : As) (hs : s.length ≤ Bg) (I : Heap) (L : Bj) : Fun Tryz.prog 117 [.string (str s)] I L (E2 (.bool (B0 s)) I L) := by
 rw [S5]
 unfold Bg at hs
 refine Ao Ae ?_; refine Se rfl (Oa rfl (Ab (Ah (Se rfl (Om rfl ?_))))); refine Dh rfl .free rfl ?_; refine Ca rfl (Wb ..) ?_; rintro _ _ _ _ ⟨rfl, rfl, rfl⟩; refine Ei rfl .free rfl ?_; refine Om rfl ?_
 apply G4 8 12 rfl
 ·intro g1_5 hk
  try simp only [nb] at g1_5
  refine Ow rfl ?_; refine D9 (i := 0) rfl rfl rfl Bx (.met rfl rfl) rfl ?_; refine D8 rfl rfl rfl (.met rfl rfl) rfl ?_; refine Of rfl rfl ?_
  exact Bb 3 rfl rfl hk
 ·intro _ hk; refine Br 3 rfl ?_; refine Ot rfl rfl ?_
  exact Bb 3 rfl rfl hk
 refine Om rfl ?_
 apply G4 13 17 rfl
 ·intro g1_10 hk
  try simp only [nb] at g1_10
  refine Ow rfl ?_; refine D9 (i := 0) rfl rfl rfl Bx (.met rfl rfl) rfl ?_; refine D8 rfl rfl rfl (.met rfl rfl) rfl ?_; refine Of rfl rfl ?_
  exact Bb 3 rfl rfl hk
 ·intro _ hk; refine Br 3 rfl ?_; refine Ot rfl rfl ?_
  exact Bb 3 rfl rfl hk
 refine Ab ?_; refine A6 rfl ?_ ?_
 ·intro c0
  try simp only [nb] at c0
  refine Se rfl (Oa rfl (Ab (Am (.tmp rfl .nil) ?_))); refine only rfl ?_; refine congrArg Value.bool ?_; simp only [Ps]; grind
 intro c0
 try simp only [nb] at c0
 refine Ak (Ah (Se rfl (Oa rfl (Ab (Aq ?_))))); refine Dn (X := Nat) (fun i => s.length - i) (fun i => [(0, .string (str s)), (3, .int .i64 (i : Nat))]) (fun _ => I) (fun _ => L) (fun i => 1 ≤ i ∧ i ≤ s.length ∧ (s.drop i).all E6 = (s.drop 1).all E6) 1 ⟨by omega, by omega, rfl⟩ ⟨rfl, rfl, trivial⟩ Cl ?_; rintro i ⟨hi0, hi, hall⟩ ih; refine Ah (Se rfl (Om rfl (Om rfl ?_))); refine Dh rfl .free rfl ?_; refine Oc rfl rfl rfl (Ab ?_); refine A6 rfl ?_ ?_
 ·intro c1
  try simp only [nb] at c1
  refine Ak (Ah (Aq (Se rfl (Om rfl (Om rfl ?_))))); refine D9 rfl rfl rfl Bx .free rfl ?_; refine Oc rfl rfl rfl (Om rfl ?_)
  apply G4 28 33 rfl
  ·intro g6_5 hk
   try simp only [nb] at g6_5
   refine Ow rfl (Ow rfl ?_); refine D9 rfl rfl rfl Bx (.met rfl rfl) rfl ?_; refine D8 rfl rfl rfl (.met rfl rfl) rfl ?_; refine Of rfl rfl ?_
   exact Bb 4 rfl rfl hk
  ·intro _ hk; refine Br 4 rfl ?_; refine Ot rfl rfl ?_
   exact Bb 4 rfl rfl hk
  refine Ab ?_; refine A6 rfl ?_ ?_
  ·intro c2
   try simp only [nb] at c2
   refine Se rfl (Oa rfl (Ab (Am (.tmp rfl .nil) ?_))); refine only rfl ?_; refine congrArg Value.bool ?_; rw [← hall, Xj i Aa, Gq]; grind
  intro c2
  try simp only [nb] at c2
  refine Ak (Ap (Al rfl (Om rfl ?_))); refine Or rfl rfl rfl ?_; refine Oa rfl (Ab ?_); refine Ed (E' := [(0, .string (str s)), (3, .int .i64 ((i + 1 : Nat)))]) ⟨rfl, rfl, trivial⟩ (ih (i + 1) ⟨by omega, by omega, ?_⟩ Aa); rw [← hall, Xj i Aa, Gq, decide_eq_true Aa]; rfl
 intro c1
 try simp only [nb] at c1
 refine Cc rfl ?_; refine Se rfl (Oa rfl (Ab (Am (.tmp rfl .nil) ?_))); refine only rfl ?_
 have hl : i = s.length := by omega
 subst hl
 simp only [List.drop_length, List.all_nil] at hall
 refine congrArg Value.bool ?_; simp only [Ps]; grind

theorem It (s p : As) (hs : s.length ≤ Bg) (hp : p.length ≤ Bg) (I : Heap) (L : Bj) : Fun Tryz.prog 187 [.string (str s), .string (str p)] I L (E2 (.bool (p.isPrefixOf s)) I L) := by
 unfold Bg at hs hp
 refine Ao Ae ?_; refine Se rfl (Oa rfl (Ab (Se rfl (Om rfl ?_)))); refine Dh rfl .free rfl ?_; refine Om rfl ?_; refine Dh rfl .free rfl ?_; refine Oc rfl rfl rfl (Om rfl ?_)
 apply Fr 10 17 rfl
 ·intro g1_6 hk
  try simp only [nb] at g1_6
  refine Ow rfl (Ow rfl ?_); refine Dh rfl (.met rfl rfl) rfl ?_; refine Zt rfl rfl _ rfl Bx (.met rfl rfl) rfl ?_; refine Ow rfl ?_; refine F9 rfl rfl rfl (.met rfl rfl) rfl ?_; refine Ot rfl rfl ?_
  exact Bb 6 rfl rfl hk
 ·intro _ hk; refine Br 6 rfl ?_; refine Of rfl rfl ?_
  exact Bb 6 rfl rfl hk
 refine Oa rfl (Ab (Am (.tmp rfl .nil) ?_)); refine only rfl ?_; refine congrArg Value.bool ?_; rw [Bool.eq_iff_iff]; simp
 constructor
 ·rintro ⟨_, h⟩; rw [← h]; exact List.take_prefix ..
 ·intro h; exact ⟨h.length_le, (List.prefix_iff_eq_take.1 h).symm⟩
theorem Ka (s p : As) (hs : s.length ≤ Bg) (hp : p.length ≤ Bg) (I : Heap) (L : Bj) : Fun Tryz.prog 178 [.string (str s), .string (str p)] I L (E2 (.bool (p.isPrefixOf s)) I L) := by
 refine Ao Ae ?_; refine Se rfl (Oa rfl (Ab (Se rfl (Om rfl (Om rfl ?_))))); refine Ca rfl (It s p hs hp _ _) ?_; rintro _ _ _ _ ⟨rfl, rfl, rfl⟩; refine Oa rfl (Ab (Am (.tmp rfl .nil) ?_)); refine only rfl ?_
 simp [C2, *]

theorem Rh : ∀ (n : Nat) {I : Heap} {t : Tree} {cs : List Value} (_ : SizeOf.sizeOf t < n) (_ : Rep I t cs) (_ : t.size ≤ Bg) (L : Bj),
  Fun Tryz.prog 139 [.agg cs.toArray] I L (E2 (.int .i64 (t.size : Nat)) I L) := by
 intro n
 induction n with
 | zero => intro I t cs h; omega
 | succ n ihn =>
  intro I t cs hlt h hz L
  unfold Bg at hz
  obtain ⟨oa, c, vs, rfl, hl, hs, hn, hc, ha, hp⟩ := h.open
  unfold Bg at hp
  refine Ao Ae ?_; refine Se rfl ?_; refine Cm rfl rfl .free rfl ?_; intro b1; refine Oa rfl (Ab (Ah (Se rfl ?_))); refine C1 rfl .free rfl ?_; refine Ca rfl (B8 h _) ?_; rintro _ _ _ _ ⟨rfl, rfl, rfl⟩; refine Ab ?_; refine Si rfl ?_ ?_
  ·intro c0; refine Se rfl (Oa rfl (Ab (Am (.tmp rfl .nil) ?_))); refine only rfl ?_; rw [t.size_atom Fv]; rfl
  intro c0
  have hne : t.parts ≠ [] := by simpa using c0
  have hsz := t.size_eq hne
  refine Ak (Se rfl (Oa rfl (Ab (Ah (Se rfl ?_)))))
  first | refine Oh rfl ?_ | refine Oj rfl ?_
  refine C1 rfl .free rfl ?_; refine On rfl (Om rfl (Ab (Aq ?_))); refine Dn (X := Nat) (fun i => t.parts.length - i) (fun i => [(3, .int .i64 ((Eu (t.parts.take i) : Nat))), (9, .slice oa t.parts.length c), (10, .int .i64 (t.parts.length : Nat)), (11, .int .i64 (i : Nat))]) (fun _ => I) (fun _ => L) (fun i => i ≤ t.parts.length) 0 Aa ⟨rfl, rfl, rfl, rfl, trivial⟩ Cl ?_; rintro i hi ih; refine Se rfl (Oc rfl rfl rfl (Ab (Ah ?_))); refine Si rfl ?_ ?_
  ·intro c1; obtain ⟨x, hx, oa', c', hr, hst⟩ := Rep.at hl hs hn i Aa
   have hle := Yz t.parts (i + 1)
   rw [Mw _ _ Aa] at hle; refine Ak (Ah (Aq (Se rfl ?_))); refine Ck rfl rfl _ rfl Bx Dp .free rfl ?_; refine C1 rfl .free rfl ?_; refine A1 .free rfl ?_; intro b5; refine By rfl rfl rfl rfl .free ?_; refine Ab (Al rfl (Om rfl ?_)); refine C1 rfl .free rfl ?_; refine Ca rfl (ihn (t := t.parts[i]) (by have := t.part_lt i Aa; omega) hr C3 _) ?_; rintro _ _ _ _ ⟨rfl, rfl, rfl⟩; refine Or rfl rfl rfl ?_; refine Oa rfl (Ab (Ap (Al rfl ?_))); refine Or rfl rfl rfl ?_; refine Om rfl (Ab ?_)
   refine Cu Cl (Ed (E' := [(3, .int .i64 ((Eu (t.parts.take (i + 1)) : Nat))), (9, .slice oa t.parts.length c), (10, .int .i64 (t.parts.length : Nat)), (11, .int .i64 ((i + 1 : Nat)))]) ⟨?_, rfl, rfl, rfl, trivial⟩ (ih (i + 1) Aa Aa)); rw [Mw _ _ Aa]; rfl
  intro c1; refine Cc rfl ?_; refine Se rfl (Om rfl (Oa rfl (Ab (Am (.tmp rfl .nil) ?_)))); refine only rfl ?_
  have : i = t.parts.length := by omega
  subst this; rw [hsz, List.take_length]; rfl

theorem Tree.good_cases {t : Tree} (h : t.good = true) : (t.parts = [] ∧ t.atom ≠ []) ∨ (t.parts ≠ [] ∧ t.atom = []) := by
 cases t with
 | node a ps => cases ps <;> cases a <;> simp_all [Tree.good, Tree.parts, Tree.atom]
theorem Tree.good_part {t : Tree} (h : t.good = true) (i : Nat) (hi : i < t.parts.length) : t.parts[i].good = true := by
 cases t with
 | node a ps => simp [Tree.good] at h; exact Uz h.2 i hi

theorem X4 : ∀ (n : Nat) {I : Heap} {t : Tree} {cs : List Value} (_ : SizeOf.sizeOf t < n) (_ : Rep I t cs) (_ : t.good = true) (_ : t.size ≤ Bg) (L : Bj),
  Fun Tryz.prog 96 [.agg cs.toArray] I L (E2 (.int .i64 (t.size : Nat)) I L) := by
 intro n
 induction n with
 | zero => intro I t cs h; omega
 | succ n ihn =>
  intro I t cs hlt h hgood hz L
  unfold Bg at hz
  obtain ⟨oa, c, vs, rfl, hl, hs, hn, hc, ha, hp⟩ := h.open
  unfold Bg at hp
  refine Ao Ae ?_; refine Se rfl ?_; refine Cm rfl rfl .free rfl ?_; intro b1; refine Oa rfl (Ab (Ah (Se rfl ?_)))
  first | refine Oh rfl ?_ | refine Oj rfl ?_
  refine C1 rfl .free rfl ?_; refine Od rfl rfl rfl (Ab ?_); refine Si rfl ?_ ?_
  ·intro c0; refine Se rfl (Oa rfl (Ab (Am (.tmp rfl .nil) ?_))); refine only rfl ?_
   have : t.parts = [] := by rcases t.good_cases hgood with hh | hh <;> simp_all
   rw [t.size_atom this]; rfl
  intro c0
  have hne : t.parts ≠ [] := by rcases t.good_cases hgood with hh | hh <;> simp_all
  have hsz := t.size_eq hne
  refine Ak (Se rfl (Oa rfl (Ab (Ah (Se rfl (Oa rfl (Ab (Aq ?_)))))))); refine Dn (X := Nat) (fun i => t.parts.length - i) (fun i => [(1, .pointer (some ⟨b1, 0, none⟩)), (3, .int .i64 ((Eu (t.parts.take i) : Nat))), (4, .int .i64 (i : Nat))]) (fun _ => I) (fun _ => (b1, .cells [.string (str t.atom), .slice oa t.parts.length c].toArray _ (0, 0)) :: L) (fun i => i ≤ t.parts.length) 0 Aa ⟨rfl, rfl, rfl, trivial⟩ Cl ?_; rintro i hi ih; refine Ah (Se rfl (Om rfl ?_))
  first | refine Oh rfl ?_ | refine Oj rfl ?_
  refine C1 rfl .free rfl ?_; refine On rfl (Oc rfl rfl rfl (Ab ?_)); refine Si rfl ?_ ?_
  ·intro c1; obtain ⟨x, hx, oa', c', hr, hst⟩ := Rep.at hl hs hn i Aa
   have hle := Yz t.parts (i + 1)
   rw [Mw _ _ Aa] at hle; refine Ak (Ah (Aq (Al rfl (Om rfl ?_))))
   first | refine Oh rfl ?_ | refine Oj rfl ?_
   refine C1 rfl .free rfl ?_; refine Om rfl ?_; refine Ck rfl rfl _ rfl Bx Dp .free rfl ?_; refine C1 rfl .free rfl ?_; refine Ca rfl (ihn (t := t.parts[i]) (by have := t.part_lt i Aa; omega) hr (t.good_part hgood i Aa) C3 _) ?_; rintro _ _ _ _ ⟨rfl, rfl, rfl⟩; refine Or rfl rfl rfl ?_; refine Oa rfl (Ab (Ap (Al rfl (Om rfl ?_)))); refine Or rfl rfl rfl ?_; refine Oa rfl (Ab ?_); refine Ed (E' := [(1, .pointer (some ⟨b1, 0, none⟩)), (3, .int .i64 ((Eu (t.parts.take (i + 1)) : Nat))), (4, .int .i64 ((i + 1 : Nat)))]) ⟨rfl, ?_, rfl, trivial⟩ (ih (i + 1) Aa Aa); rw [Mw _ _ Aa]; rfl
  intro c1; refine Cc rfl ?_; refine Se rfl (Om rfl (Oa rfl (Ab (Am (.tmp rfl .nil) ?_)))); refine only rfl ?_
  have : i = t.parts.length := by omega
  subst this; rw [hsz, List.take_length]; rfl

theorem Rj {t : Tree} (h : t.parts = []) : t.isType = decide (t.atom = [105]) := by
 cases t with
 | node a ps => simp [Tree.parts] at h; subst h; change _ = decide (a = [105]); simp [Tree.isType]
theorem E9 {t : Tree} (h : t.parts.length = 3) : t.isType = ((t.is [62] 3 || t.is [42] 3) && t.parts[1].isType && t.parts[2].isType) := by
 cases t with
 | node a ps =>
  match ps, h with
  | [p, q, r], _ =>
   change _ = (((decide (3 = 3) && decide (p.atom = [62])) || (decide (3 = 3) && decide (p.atom = [42]))) && q.isType && r.isType)
   simp [Tree.isType]
theorem E8 {t : Tree} (h0 : t.parts ≠ []) (h : t.parts.length ≠ 3) : t.isType = false := by
 cases t with
 | node a ps =>
  match ps, h0, h with
  | [p], _, _ => simp [Tree.isType]
  | [p, q], _, _ => simp [Tree.isType]
  | p :: q :: r :: s :: us, _, _ => simp [Tree.isType]
  | [p, q, r], _, h => simp [Tree.parts] at h
theorem G9 {t : Tree} {h : As} (h3 : t.parts.length = 3) : t.is h 3 = decide (t.parts[0].atom = h) := by
 cases t with
 | node a ps =>
  match ps, h3 with
  | [p, q, r], _ =>
   change (decide (3 = 3) && decide (p.atom = h)) = decide (p.atom = h)
   simp
theorem Ado {t : Tree} {h : As} {k : Nat} (hi : t.is h k = true) : t.parts.length = k := by simp [Tree.is] at hi; exact hi.1

theorem T8 : ∀ (n : Nat) {I : Heap} {t : Tree} {cs : List Value} (_ : SizeOf.sizeOf t < n) (_ : Rep I t cs) (L : Bj),
  Fun Tryz.prog 152 [.agg cs.toArray] I L (E2 (.bool t.isType) I L) := by
 intro n
 induction n with
 | zero => intro I t cs h; omega
 | succ n ihn =>
  intro I t cs hlt h L; obtain ⟨oa, c, vs, rfl, hl, hs, hn, hc, ha, hp⟩ := h.open; refine Ao Ae ?_; refine Se rfl ?_; refine Cm rfl rfl .free rfl ?_; intro b1; refine Oa rfl (Ab (Ah (Se rfl ?_))); refine C1 rfl .free rfl ?_; refine Ca rfl (B8 h _) ?_; rintro _ _ _ _ ⟨rfl, rfl, rfl⟩; refine Ab ?_; refine Si rfl ?_ ?_
  ·intro c0; refine Se rfl ?_
   first | refine Oh rfl ?_ | refine Oj rfl ?_
   refine C1 rfl .free rfl ?_; refine Od rfl rfl rfl (Oa rfl (Ab (Am (.tmp rfl .nil) ?_))); refine only rfl ?_; rw [Rj Fv]; rfl
  intro c0
  have hne : t.parts ≠ [] := by simpa using c0
  refine Ak (Se rfl ?_); refine C1 rfl .free rfl ?_; refine Ca rfl (Us h _ 3 _) ?_; rintro _ _ _ _ ⟨rfl, rfl, rfl⟩; refine Om rfl ?_
  first | refine Ho rfl rfl ?_ ?_ | refine Fp rfl rfl ?_ ?_ | refine Nd rfl rfl ?_ ?_
  ·intro g3_3
   have h3 := Ado g3_3
   obtain ⟨x, hx, oa1, c1, hr1, hst1⟩ := Rep.at hl hs hn 1 Aa; obtain ⟨x', hx', oa2, c2, hr2, hst2⟩ := Rep.at hl hs hn 2 Aa; obtain rfl : x = x' := by rw [hx] at hx'; exact Option.some.inj hx'
   refine Cy rfl rfl rfl ?_; refine Cy rfl rfl rfl ?_; refine Ot rfl rfl (Om rfl ?_)
   first | refine Cj rfl (.met rfl rfl) rfl ?_ | refine Bh rfl (.met rfl rfl) rfl ?_
   refine C1 rfl (.met rfl rfl) rfl ?_; refine Ck rfl rfl 1 rfl Bx Dp (.met rfl rfl) rfl ?_; refine C1 rfl (.met rfl rfl) rfl ?_; refine Cx rfl (.met rfl rfl) rfl (ihn (t := t.parts[1]) (by have := t.part_lt 1 Aa; omega) hr1 _) ?_; rintro _ _ _ _ ⟨rfl, rfl, rfl⟩; refine Ot rfl rfl (Om rfl ?_)
   first | refine Ho rfl rfl ?_ ?_ | refine Fp rfl rfl ?_ ?_ | refine Nd rfl rfl ?_ ?_
   ·intro g3_14
    first | refine Cj rfl (.met rfl rfl) rfl ?_ | refine Bh rfl (.met rfl rfl) rfl ?_
    refine C1 rfl (.met rfl rfl) rfl ?_; refine Ck rfl rfl 2 rfl Bx Dp (.met rfl rfl) rfl ?_; refine C1 rfl (.met rfl rfl) rfl ?_; refine Cx rfl (.met rfl rfl) rfl (ihn (t := t.parts[2]) (by have := t.part_lt 2 Aa; omega) hr2 _) ?_; rintro _ _ _ _ ⟨rfl, rfl, rfl⟩; refine Ot rfl rfl (Oa rfl (Ab (Am (.tmp rfl .nil) ?_))); refine only rfl ?_; refine congrArg Value.bool ?_
    by_cases h3 : t.parts.length = 3
    ·rw [E9 h3]; simp [*]
    ·first | (rw [E8 hne h3]; done) | (exfalso; omega)
   intro g3_14
   iterate 5 refine Cy rfl rfl rfl ?_
   refine Of rfl rfl (Oa rfl (Ab (Am (.tmp rfl .nil) ?_))); refine only rfl ?_; refine congrArg Value.bool ?_
   by_cases h3 : t.parts.length = 3
   ·rw [E9 h3]; simp [*]
   ·first | (rw [E8 hne h3]; done) | (exfalso; omega)
  intro g3_3; refine C1 rfl (.met rfl rfl) rfl ?_; refine Cx rfl (.met rfl rfl) rfl (Us h _ 3 _) ?_; rintro _ _ _ _ ⟨rfl, rfl, rfl⟩; refine Of rfl rfl (Om rfl ?_)
  first | refine Ho rfl rfl ?_ ?_ | refine Fp rfl rfl ?_ ?_ | refine Nd rfl rfl ?_ ?_
  ·intro g3_7
   have h3 := Ado g3_7
   obtain ⟨x, hx, oa1, c1, hr1, hst1⟩ := Rep.at hl hs hn 1 Aa; obtain ⟨x', hx', oa2, c2, hr2, hst2⟩ := Rep.at hl hs hn 2 Aa; obtain rfl : x = x' := by rw [hx] at hx'; exact Option.some.inj hx'
   first | refine Cj rfl (.met rfl rfl) rfl ?_ | refine Bh rfl (.met rfl rfl) rfl ?_
   refine C1 rfl (.met rfl rfl) rfl ?_; refine Ck rfl rfl 1 rfl Bx Dp (.met rfl rfl) rfl ?_; refine C1 rfl (.met rfl rfl) rfl ?_; refine Cx rfl (.met rfl rfl) rfl (ihn (t := t.parts[1]) (by have := t.part_lt 1 Aa; omega) hr1 _) ?_; rintro _ _ _ _ ⟨rfl, rfl, rfl⟩; refine Ot rfl rfl (Om rfl ?_)
   first | refine Ho rfl rfl ?_ ?_ | refine Fp rfl rfl ?_ ?_ | refine Nd rfl rfl ?_ ?_
   ·intro g3_14
    first | refine Cj rfl (.met rfl rfl) rfl ?_ | refine Bh rfl (.met rfl rfl) rfl ?_
    refine C1 rfl (.met rfl rfl) rfl ?_; refine Ck rfl rfl 2 rfl Bx Dp (.met rfl rfl) rfl ?_; refine C1 rfl (.met rfl rfl) rfl ?_; refine Cx rfl (.met rfl rfl) rfl (ihn (t := t.parts[2]) (by have := t.part_lt 2 Aa; omega) hr2 _) ?_; rintro _ _ _ _ ⟨rfl, rfl, rfl⟩; refine Ot rfl rfl (Oa rfl (Ab (Am (.tmp rfl .nil) ?_))); refine only rfl ?_; refine congrArg Value.bool ?_
    by_cases h3 : t.parts.length = 3
    ·rw [E9 h3]; simp [*]
    ·first | (rw [E8 hne h3]; done) | (exfalso; omega)
   intro g3_14
   iterate 5 refine Cy rfl rfl rfl ?_
   refine Of rfl rfl (Oa rfl (Ab (Am (.tmp rfl .nil) ?_))); refine only rfl ?_; refine congrArg Value.bool ?_
   by_cases h3 : t.parts.length = 3
   ·rw [E9 h3]; simp [*]
   ·first | (rw [E8 hne h3]; done) | (exfalso; omega)
  intro g3_7
  iterate 5 refine Cy rfl rfl rfl ?_
  refine Of rfl rfl (Om rfl ?_)
  iterate 5 refine Cy rfl rfl rfl ?_
  refine Of rfl rfl (Oa rfl (Ab (Am (.tmp rfl .nil) ?_))); refine only rfl ?_; refine congrArg Value.bool ?_
  by_cases h3 : t.parts.length = 3
  ·rw [E9 h3]; simp [*]
  ·first | (rw [E8 hne h3]; done) | (exfalso; omega)

theorem Add : ∀ (n : Nat) {I : Heap} {t : Tree} {cs : List Value} (_ : SizeOf.sizeOf t < n) (_ : Rep I t cs) (_ : t.good = true) (L : Bj),
  Fun Tryz.prog 183 [.agg cs.toArray] I L (E2 (.bool t.isType) I L) := by
 intro n
 induction n with
 | zero => intro I t cs h; omega
 | succ n ihn =>
  intro I t cs hlt h hgood L; obtain ⟨oa, c, vs, rfl, hl, hs, hn, hc, ha, hp⟩ := h.open; refine Ao Ae ?_; refine Se rfl ?_; refine Cm rfl rfl .free rfl ?_; intro b1; refine Oa rfl (Ab (Ah (Se rfl ?_)))
  first | refine Oh rfl ?_ | refine Oj rfl ?_
  refine C1 rfl .free rfl ?_; refine Od rfl rfl rfl (Ab ?_); refine Si rfl ?_ ?_
  ·intro c0; refine Se rfl ?_
   first | refine Oh rfl ?_ | refine Oj rfl ?_
   refine C1 rfl .free rfl ?_; refine Od rfl rfl rfl (Oa rfl (Ab (Am (.tmp rfl .nil) ?_))); refine only rfl ?_; rw [Rj (by rcases t.good_cases hgood with hh | hh <;> simp_all)]; rfl
  intro c0
  have hne : t.parts ≠ [] := by rcases t.good_cases hgood with hh | hh <;> simp_all
  refine Ak (Ah (Se rfl ?_))
  first | refine Oh rfl ?_ | refine Oj rfl ?_
  refine C1 rfl .free rfl ?_; refine On rfl (Oc rfl rfl rfl (Om rfl ?_))
  first | refine Ho rfl rfl ?_ ?_ | refine Fp rfl rfl ?_ ?_ | refine Nd rfl rfl ?_ ?_
  ·intro g3_5
   iterate 7 refine Cy rfl rfl rfl ?_
   iterate 6 refine Mq rfl rfl rfl ?_
   refine Cy rfl rfl rfl ?_; refine Ot rfl rfl (Ab ?_); refine B9 rfl ?_; refine Se rfl (Oa rfl (Ab (Am (.tmp rfl .nil) ?_))); refine only rfl ?_; refine congrArg Value.bool ?_
   by_cases h3 : t.parts.length = 3
   ·rw [E9 h3, G9 h3, G9 h3]; grind
   ·first | (rw [E8 hne h3]; done) | (exfalso; omega)
  intro g3_5
  have h3 : t.parts.length = 3 := by omega
  obtain ⟨x, hx, oa0, c0', hr0, hst0⟩ := Rep.at hl hs hn 0 Aa; obtain ⟨x', hx', oa1, c1', hr1, hst1⟩ := Rep.at hl hs hn 1 Aa; obtain rfl : x = x' := by rw [hx] at hx'; exact Option.some.inj hx'
  obtain ⟨x', hx', oa2, c2', hr2, hst2⟩ := Rep.at hl hs hn 2 Aa; obtain rfl : x = x' := by rw [hx] at hx'; exact Option.some.inj hx'
  first | refine Cj rfl (.met rfl rfl) rfl ?_ | refine Bh rfl (.met rfl rfl) rfl ?_
  refine C1 rfl (.met rfl rfl) rfl ?_; refine Ck rfl rfl 0 rfl Bx Dp (.met rfl rfl) rfl ?_
  first | refine Cj rfl (.met rfl rfl) rfl ?_ | refine Bh rfl (.met rfl rfl) rfl ?_
  refine C1 rfl (.met rfl rfl) rfl ?_; refine F9 rfl rfl rfl (.met rfl rfl) rfl ?_; refine Ow rfl ?_
  first | refine Ho rfl rfl ?_ ?_ | refine Fp rfl rfl ?_ ?_ | refine Nd rfl rfl ?_ ?_
  ·intro g3_12
   first | refine Cj rfl (.met rfl rfl) rfl ?_ | refine Bh rfl (.met rfl rfl) rfl ?_
   refine C1 rfl (.met rfl rfl) rfl ?_; refine Ck rfl rfl 0 rfl Bx Dp (.met rfl rfl) rfl ?_
   first | refine Cj rfl (.met rfl rfl) rfl ?_ | refine Bh rfl (.met rfl rfl) rfl ?_
   refine C1 rfl (.met rfl rfl) rfl ?_; refine F9 rfl rfl rfl (.met rfl rfl) rfl ?_; refine Em rfl rfl (.met rfl rfl) rfl ?_; refine Of rfl rfl (Ab ?_); refine Si rfl ?_ ?_
   ·intro c1; refine Se rfl (Oa rfl (Ab (Am (.tmp rfl .nil) ?_))); refine only rfl ?_; refine congrArg Value.bool ?_
    by_cases h3 : t.parts.length = 3
    ·rw [E9 h3, G9 h3, G9 h3]; grind
    ·first | (rw [E8 hne h3]; done) | (exfalso; omega)
   intro c1; refine Ak (Se rfl ?_)
   first | refine Oh rfl ?_ | refine Oj rfl ?_
   refine C1 rfl .free rfl ?_; refine Ck rfl rfl 1 rfl Bx Dp .free rfl ?_; refine C1 rfl .free rfl ?_; refine Ca rfl (ihn (t := t.parts[1]) (by have := t.part_lt 1 Aa; omega) hr1 (t.good_part hgood 1 Aa) _) ?_; rintro _ _ _ _ ⟨rfl, rfl, rfl⟩; refine Om rfl ?_
   first | refine Ho rfl rfl ?_ ?_ | refine Fp rfl rfl ?_ ?_ | refine Nd rfl rfl ?_ ?_
   ·intro g5_6
    first | refine Cj rfl (.met rfl rfl) rfl ?_ | refine Bh rfl (.met rfl rfl) rfl ?_
    refine C1 rfl (.met rfl rfl) rfl ?_; refine Ck rfl rfl 2 rfl Bx Dp (.met rfl rfl) rfl ?_; refine C1 rfl (.met rfl rfl) rfl ?_; refine Cx rfl (.met rfl rfl) rfl (ihn (t := t.parts[2]) (by have := t.part_lt 2 Aa; omega) hr2 (t.good_part hgood 2 Aa) _) ?_; rintro _ _ _ _ ⟨rfl, rfl, rfl⟩; refine Ot rfl rfl (Oa rfl (Ab (Am (.tmp rfl .nil) ?_))); refine only rfl ?_; refine congrArg Value.bool ?_
    by_cases h3 : t.parts.length = 3
    ·rw [E9 h3, G9 h3, G9 h3]; grind
    ·first | (rw [E8 hne h3]; done) | (exfalso; omega)
   intro g5_6
   iterate 5 refine Cy rfl rfl rfl ?_
   refine Of rfl rfl (Oa rfl (Ab (Am (.tmp rfl .nil) ?_))); refine only rfl ?_; refine congrArg Value.bool ?_
   by_cases h3 : t.parts.length = 3
   ·rw [E9 h3, G9 h3, G9 h3]; grind
   ·first | (rw [E8 hne h3]; done) | (exfalso; omega)
  intro g3_12
  iterate 6 refine Cy rfl rfl rfl ?_
  refine D5 rfl rfl (.met rfl rfl) rfl ?_; refine Of rfl rfl (Ab ?_); refine A0 rfl ?_; refine Ak (Se rfl ?_)
  first | refine Oh rfl ?_ | refine Oj rfl ?_
  refine C1 rfl .free rfl ?_; refine Ck rfl rfl 1 rfl Bx Dp .free rfl ?_; refine C1 rfl .free rfl ?_; refine Ca rfl (ihn (t := t.parts[1]) (by have := t.part_lt 1 Aa; omega) hr1 (t.good_part hgood 1 Aa) _) ?_; rintro _ _ _ _ ⟨rfl, rfl, rfl⟩; refine Om rfl ?_
  first | refine Ho rfl rfl ?_ ?_ | refine Fp rfl rfl ?_ ?_ | refine Nd rfl rfl ?_ ?_
  ·intro g5_6
   first | refine Cj rfl (.met rfl rfl) rfl ?_ | refine Bh rfl (.met rfl rfl) rfl ?_
   refine C1 rfl (.met rfl rfl) rfl ?_; refine Ck rfl rfl 2 rfl Bx Dp (.met rfl rfl) rfl ?_; refine C1 rfl (.met rfl rfl) rfl ?_; refine Cx rfl (.met rfl rfl) rfl (ihn (t := t.parts[2]) (by have := t.part_lt 2 Aa; omega) hr2 (t.good_part hgood 2 Aa) _) ?_; rintro _ _ _ _ ⟨rfl, rfl, rfl⟩; refine Ot rfl rfl (Oa rfl (Ab (Am (.tmp rfl .nil) ?_))); refine only rfl ?_; refine congrArg Value.bool ?_
   by_cases h3 : t.parts.length = 3
   ·rw [E9 h3, G9 h3, G9 h3]; grind
   ·first | (rw [E8 hne h3]; done) | (exfalso; omega)
  intro g5_6
  iterate 5 refine Cy rfl rfl rfl ?_
  refine Of rfl rfl (Oa rfl (Ab (Am (.tmp rfl .nil) ?_))); refine only rfl ?_; refine congrArg Value.bool ?_
  by_cases h3 : t.parts.length = 3
  ·rw [E9 h3, G9 h3, G9 h3]; grind
  ·first | (rw [E8 hne h3]; done) | (exfalso; omega)
theorem Pm {I : Heap} {t : Tree} {cs : List Value} (h : Rep I t cs) (hz : t.size ≤ Bg) (L : Bj) : Fun Tryz.prog 107 [.agg cs.toArray] I L (E2 (.bool t.typed) I L) := by
 obtain ⟨oa, c, vs, rfl, hl, hs, hn, hc, ha, hp⟩ := h.open; refine Ao Ae ?_; refine Se rfl ?_; refine Cm rfl rfl .free rfl ?_; intro b1; refine Oa rfl (Ab (Se rfl ?_)); refine C1 rfl .free rfl ?_; refine Ca rfl (T8 _ (Nat.lt_succ_self _) h _) ?_; rintro _ _ _ _ ⟨rfl, rfl, rfl⟩; refine Om rfl ?_
 first | refine Ho rfl rfl ?_ ?_ | refine Fp rfl rfl ?_ ?_ | refine Nd rfl rfl ?_ ?_
 ·intro g1_3; refine C1 rfl (.met rfl rfl) rfl ?_; refine Cx rfl (.met rfl rfl) rfl (Rh _ (Nat.lt_succ_self _) h hz _) ?_; rintro _ _ _ _ ⟨rfl, rfl, rfl⟩; refine D8 rfl rfl rfl (.met rfl rfl) rfl ?_; refine Ot rfl rfl (Oa rfl (Ab (Am (.tmp rfl .nil) ?_))); refine only rfl ?_; refine congrArg Value.bool ?_; simp only [Tree.typed]; rw [Bool.eq_iff_iff]; simp [*]; try omega
 intro g1_3
 iterate 3 refine Cy rfl rfl rfl ?_
 refine Of rfl rfl (Oa rfl (Ab (Am (.tmp rfl .nil) ?_))); refine only rfl ?_; refine congrArg Value.bool ?_; simp only [Tree.typed]; rw [Bool.eq_iff_iff]; simp [*]; try omega
theorem Nx {I : Heap} {t : Tree} {cs : List Value} (h : Rep I t cs) (hg : t.good = true) (hz : t.size ≤ Bg) (L : Bj) : Fun Tryz.prog 146 [.agg cs.toArray] I L (E2 (.bool t.typed) I L) := by
 obtain ⟨oa, c, vs, rfl, hl, hs, hn, hc, ha, hp⟩ := h.open; refine Ao Ae ?_; refine Se rfl ?_; refine Cm rfl rfl .free rfl ?_; intro b1; refine Oa rfl (Ab (Se rfl ?_)); refine C1 rfl .free rfl ?_; refine Ca rfl (Add _ (Nat.lt_succ_self _) h hg _) ?_; rintro _ _ _ _ ⟨rfl, rfl, rfl⟩; refine Om rfl ?_
 first | refine Ho rfl rfl ?_ ?_ | refine Fp rfl rfl ?_ ?_ | refine Nd rfl rfl ?_ ?_
 ·intro g1_3; refine C1 rfl (.met rfl rfl) rfl ?_; refine Cx rfl (.met rfl rfl) rfl (X4 _ (Nat.lt_succ_self _) h hg hz _) ?_; rintro _ _ _ _ ⟨rfl, rfl, rfl⟩; refine D8 rfl rfl rfl (.met rfl rfl) rfl ?_; refine Ot rfl rfl (Oa rfl (Ab (Am (.tmp rfl .nil) ?_))); refine only rfl ?_; refine congrArg Value.bool ?_; simp only [Tree.typed]; rw [Bool.eq_iff_iff]; simp [*]; try omega
 intro g1_3
 iterate 3 refine Cy rfl rfl rfl ?_
 refine Of rfl rfl (Oa rfl (Ab (Am (.tmp rfl .nil) ?_))); refine only rfl ?_; refine congrArg Value.bool ?_; simp only [Tree.typed]; rw [Bool.eq_iff_iff]; simp [*]; try omega

def RF (k : Nat) (s : As ) (L : Bj ) : Cv   := fun v I' L' => ∃ t cs r ok, v = .tuple #[.agg cs.toArray, .string (str r), .bool ok] ∧ Rep I' t cs ∧ L = L' ∧ r.length ≤ s.length ∧
  (match E4    k s with
   | some (t0, r0) => ok = true ∧ t = t0 ∧ r = r0
   | none => ok = false)
def R9 (p : As → Option (Tree × As)) (tgt : Option (Tree × As)) (x : PS) : Prop := match Fe p x.n (x.s.drop 1) with
 | some (us, r) => tgt = some (.node [] (x.ts ++ us), r)
 | none => tgt = none
abbrev Aci (k : Nat) (s : As) (x : PS) : Prop := R9 (E4 k) (E4 (k + 1) s) x
def Ag5 (k : Nat) (s : As) (I₀ : Heap) (x : PS) : Prop := HLe I₀ x.I ∧ RepL x.I x.ts x.xs ∧ Dd 2 x.m x.c x.xs x.B ∧ x.m = x.ts.length ∧ x.s ≠ [] ∧ x.s.length ≤ x.n ∧ x.s.length ≤ s.length ∧ x.ts.length + x.s.length ≤ s.length ∧ Aci k s x
theorem U9 (s : As) : [40].isPrefixOf s = decide ((s.getD 0 0).toNat = 40) := by
 cases s with
 | nil => rfl
 | cons c r =>
  rw [Bool.eq_iff_iff]; simp [List.isPrefixOf]
  constructor
  ·intro h; subst h; rfl
  ·intro h; exact UInt8.toNat_inj.1 (by simpa using h.symm)

theorem Rx {k : Nat} {s : As} {I : Heap} {L : Bj} (hf : E4 k s = none) : RF k s L (.tuple #[.agg #[.string (str []), .slice none 0 0], .string (str []), .bool false]) I L :=
 ⟨.node [] [], _, [], false, rfl, Rep.empty I, rfl, by simp, by rw [hf]⟩
theorem Rw {k : Nat} {s : As} {I : Heap} {L : Bj} {i : Nat} (hs : s.length ≤ 12000) (h40 : (s.getD 0 0).toNat ≠ 40) (hall : (s.take i).all Fn = true) (hi : i ≤ s.length)
  (he : i = s.length ∨ (i < s.length ∧ Fn (s.getD i 0) = false)) :
  RF k s L (.tuple #[.agg #[.string (str (s.take i)), .slice none 0 0], .string (str (s.drop i)), .bool (decide (0 < (i : Int)))]) I L := by
 obtain ⟨h1, h2⟩ := Mx hall he; refine ⟨.node (s.take i) [], _, s.drop i, _, rfl, Rep.ofAtom Jc, rfl, by simp, ?_⟩; rw [Ij h40, h1, h2]
 by_cases h0 : i = 0
 ·subst h0; simp
 ·have : s.take i ≠ [] := by
   intro e
   have := congrArg List.length e
   rw [List.length_take, List.length_nil] at this; omega
  rw [if_neg this]
  exact ⟨decide_eq_true Aa, rfl, rfl⟩

theorem Kj {p : As → Option (Tree × As)} {tgt : Option (Tree × As)} {x : PS} (hl : R9 p tgt x) (hn : 0 < x.n)
  (h : p (x.s.drop 1) = none ∨ ∃ t r, p (x.s.drop 1) = some (t, r) ∧ (r = [] ∨ ((r.getD 0 0).toNat ≠ 41 ∧ (r.getD 0 0).toNat ≠ 32))) : tgt = none := by
 obtain ⟨m, hm⟩ : ∃ m, x.n = m + 1 := ⟨x.n - 1, by omega⟩
 unfold R9 at hl
 rw [hm] at hl
 simp only [Fe] at hl
 rcases h with h | ⟨t, r, h, h'⟩
 ·rw [h] at hl; exact hl
 ·rw [h] at hl
  cases r with
  | nil => exact hl
  | cons c r =>
   simp at h'
   have h1 : (c.toNat == 41) = false := by simpa using h'.1
   have h2 : (c.toNat == 32) = false := by simpa using h'.2
   simpa only [h1, h2, cond_true, cond_false] using hl
theorem Qo {p : As → Option (Tree × As)} {tgt : Option (Tree × As)} {x : PS} (hl : R9 p tgt x) (hn : 0 < x.n) {t : Tree} {r : As} (h : p (x.s.drop 1) = some (t, r)) (hr : r ≠ []) (h41 : (r.getD 0 0).toNat = 41) :
  tgt = some (.node [] (x.ts ++ [t]), r.drop 1) := by
 obtain ⟨m, hm⟩ : ∃ m, x.n = m + 1 := ⟨x.n - 1, by omega⟩
 unfold R9 at hl
 rw [hm] at hl
 simp only [Fe] at hl
 cases r with
 | nil => exact absurd rfl hr
 | cons c r =>
  have h1 : (c.toNat == 41) = true := by simpa using h41
  rw [h] at hl
  simpa only [h1, cond_true, List.drop_succ_cons, List.drop_zero] using hl
theorem Qp {p : As → Option (Tree × As)} {tgt : Option (Tree × As)} {x : PS} (hl : R9 p tgt x) (hn : 0 < x.n) {t : Tree} {r : As} (h : p (x.s.drop 1) = some (t, r)) (hr : r ≠ []) (h41 : (r.getD 0 0).toNat ≠ 41) (h32 : (r.getD 0 0).toNat = 32)
  {I : Heap} {B : Kg} {c m' : Nat} {xs : List Value} : R9 p tgt ⟨I, r, m', x.ts ++ [t], B, c, xs, x.n - 1⟩ := by
 obtain ⟨m, hm⟩ : ∃ m, x.n = m + 1 := ⟨x.n - 1, by omega⟩
 unfold R9 at hl ⊢
 rw [hm] at hl
 simp only [Fe] at hl
 cases r with
 | nil => exact absurd rfl hr
 | cons c r =>
  have h1 : (c.toNat == 41) = false := by simpa using h41
  have h2 : (c.toNat == 32) = true := by simpa using h32
  simp only [h, h1, h2, cond_true, cond_false] at hl
  simp only [hm, Nat.add_sub_cancel, List.drop_succ_cons, List.drop_zero]
  cases hp : Fe p m r with
  | none => rw [hp] at hl; exact hl
  | some q => rw [hp] at hl; simpa using hl

theorem Zj : ∀ (k : Nat) (s : As) (_ : s.length ≤ 12000) (deep : Nat) (_ : deep + k = 60) (I : Heap) (L : Bj),
  Fun Tryz.prog 138 [.string (str s), .int .i64 (deep : Nat)] I L (RF k s L) := by
 intro k
 induction k with
 | zero =>
  intro s hsl deep hdeep I L; refine Ao Ae ?_; refine Se rfl ?_; refine A1 .free rfl ?_; intro b4; refine Oa rfl (Oa rfl (Ab (Ah (Se rfl (Om rfl ?_))))); refine Ca rfl (Ka s [40] C3 Bf _ _) ?_; rintro _ _ _ _ ⟨rfl, rfl, rfl⟩; rw [U9]; refine Ei rfl .free rfl ?_; refine Ab ?_; refine Si rfl ?_ ?_
  ·intro c0; refine Se rfl (Oa rfl (Ab (Ah (Aq ?_)))); refine Dn (X := Nat) (fun i => s.length - i) (fun i => [(0, .string (str s)), (4, .pointer (some ⟨b4, 0, none⟩)), (7, .int .i64 (i : Nat))]) (fun _ => I) (fun _ => (b4, .cells [.string (str []), .slice none 0 0].toArray _ (0, 0)) :: L) (fun i => i ≤ s.length ∧ (s.take i).all Fn = true) 0 ⟨by omega, by simp⟩ ⟨rfl, rfl, rfl, trivial⟩ Cl ?_; rintro i ⟨hi, hall⟩ ih; refine Ah (Se rfl (Om rfl (Om rfl ?_))); refine Dh rfl .free rfl ?_; refine Oc rfl rfl rfl (Om rfl ?_)
   first | refine Ho rfl rfl ?_ ?_ | refine Fp rfl rfl ?_ ?_ | refine Nd rfl rfl ?_ ?_
   ·intro g3_5; refine Ow rfl (Ow rfl ?_); refine D9 rfl rfl rfl Bx (.met rfl rfl) rfl ?_; refine Cx rfl (.met rfl rfl) rfl (Pn _ _ _) ?_; rintro _ _ _ _ ⟨rfl, rfl, rfl⟩; refine Ot rfl rfl (Ab ?_); refine Si rfl ?_ ?_
    ·intro c1; refine Ak (Aq (Al rfl (Om rfl ?_))); refine Or rfl rfl rfl ?_; refine Oa rfl (Ab (Ap ?_)); refine Ed (E' := [(0, .string (str s)), (4, .pointer (some ⟨b4, 0, none⟩)), (7, .int .i64 ((i + 1 : Nat)))]) ⟨rfl, rfl, rfl, trivial⟩ (ih (i + 1) ⟨by omega, K0 hall Aa Df⟩ Aa)
    intro c1; refine Cc rfl ?_; refine Ah ?_; refine Fh 12 rfl rfl ?_; refine Da 0 rfl (Ai rfl) ?_; refine Da 1 rfl (Ai rfl) ?_; refine G1 2 rfl Af rfl (.inr Au) (K1 rfl rfl _ rfl Bx) .free rfl ?_; refine Da 3 rfl (H9 rfl rfl rfl) ?_; refine Da 4 rfl (Ai rfl) ?_; refine Da 5 rfl (Ai rfl) ?_; refine G1 6 rfl Af rfl (.inr Au) (G6 rfl rfl _ rfl Bx) .free rfl ?_; refine Da 7 rfl (Ai rfl) ?_; refine Da 8 rfl (Le rfl rfl rfl) ?_; refine Dx 9 rfl rfl rfl rfl ?_; refine Db 10 rfl (Bk rfl) ?_; refine Db 11 rfl (Bk rfl) ?_; refine A5 Af ?_; refine Am (.c rfl (.tmp rfl (.tmp rfl .nil))) ?_
    exact ⟨I, L, .refl _, fun _ h => h.drop, Rw hsl c0 hall hi Nr⟩
   intro g3_5
   iterate 4 refine Cy rfl rfl rfl ?_
   refine Of rfl rfl (Ab ?_); refine A0 rfl ?_; refine Cc rfl ?_; refine Ah ?_; refine Fh 12 rfl rfl ?_; refine Da 0 rfl (Ai rfl) ?_; refine Da 1 rfl (Ai rfl) ?_; refine G1 2 rfl Af rfl (.inr Au) (K1 rfl rfl _ rfl Bx) .free rfl ?_; refine Da 3 rfl (H9 rfl rfl rfl) ?_; refine Da 4 rfl (Ai rfl) ?_; refine Da 5 rfl (Ai rfl) ?_; refine G1 6 rfl Af rfl (.inr Au) (G6 rfl rfl _ rfl Bx) .free rfl ?_; refine Da 7 rfl (Ai rfl) ?_; refine Da 8 rfl (Le rfl rfl rfl) ?_; refine Dx 9 rfl rfl rfl rfl ?_; refine Db 10 rfl (Bk rfl) ?_; refine Db 11 rfl (Bk rfl) ?_; refine A5 Af ?_
   refine Am (.c rfl (.tmp rfl (.tmp rfl .nil))) ?_
   exact ⟨I, L, .refl _, fun _ h => h.drop, Rw hsl c0 hall hi Nr⟩
  intro c0; refine Ak (Ah (Se rfl (Om rfl (Oc rfl rfl rfl (Ab ?_)))))
  first | refine St rfl Aa ?_ | refine B9 Ar ?_
  refine Se rfl ?_; refine Cd rfl rfl rfl .free rfl ?_; refine By rfl rfl rfl rfl .free ?_; refine Oa rfl (Oa rfl (Ab ?_)); refine Am (.c rfl (.tmp rfl (.tmp rfl .nil))) ?_
  exact ⟨I, L, .refl _, fun _ h => h.drop, Rx (Kv c0)⟩
 | succ k ihk =>
  intro s hsl deep hdeep I L; refine Ao Ae ?_; refine Se rfl ?_; refine A1 .free rfl ?_; intro b4; refine Oa rfl (Oa rfl (Ab (Ah (Se rfl (Om rfl ?_))))); refine Ca rfl (Ka s [40] C3 Bf _ _) ?_; rintro _ _ _ _ ⟨rfl, rfl, rfl⟩; rw [U9]; refine Ei rfl .free rfl ?_; refine Ab ?_; refine Si rfl ?_ ?_
  ·intro c0; refine Se rfl (Oa rfl (Ab (Ah (Aq ?_)))); refine Dn (X := Nat) (fun i => s.length - i) (fun i => [(0, .string (str s)), (4, .pointer (some ⟨b4, 0, none⟩)), (7, .int .i64 (i : Nat))]) (fun _ => I) (fun _ => (b4, .cells [.string (str []), .slice none 0 0].toArray _ (0, 0)) :: L) (fun i => i ≤ s.length ∧ (s.take i).all Fn = true) 0 ⟨by omega, by simp⟩ ⟨rfl, rfl, rfl, trivial⟩ Cl ?_; rintro i ⟨hi, hall⟩ ih; refine Ah (Se rfl (Om rfl (Om rfl ?_))); refine Dh rfl .free rfl ?_; refine Oc rfl rfl rfl (Om rfl ?_)
   first | refine Ho rfl rfl ?_ ?_ | refine Fp rfl rfl ?_ ?_ | refine Nd rfl rfl ?_ ?_
   ·intro g3_5; refine Ow rfl (Ow rfl ?_); refine D9 rfl rfl rfl Bx (.met rfl rfl) rfl ?_; refine Cx rfl (.met rfl rfl) rfl (Pn _ _ _) ?_; rintro _ _ _ _ ⟨rfl, rfl, rfl⟩; refine Ot rfl rfl (Ab ?_); refine Si rfl ?_ ?_
    ·intro c1; refine Ak (Aq (Al rfl (Om rfl ?_))); refine Or rfl rfl rfl ?_; refine Oa rfl (Ab (Ap ?_)); refine Ed (E' := [(0, .string (str s)), (4, .pointer (some ⟨b4, 0, none⟩)), (7, .int .i64 ((i + 1 : Nat)))]) ⟨rfl, rfl, rfl, trivial⟩ (ih (i + 1) ⟨by omega, K0 hall Aa Df⟩ Aa)
    intro c1; refine Cc rfl ?_; refine Ah ?_; refine Fh 12 rfl rfl ?_; refine Da 0 rfl (Ai rfl) ?_; refine Da 1 rfl (Ai rfl) ?_; refine G1 2 rfl Af rfl (.inr Au) (K1 rfl rfl _ rfl Bx) .free rfl ?_; refine Da 3 rfl (H9 rfl rfl rfl) ?_; refine Da 4 rfl (Ai rfl) ?_; refine Da 5 rfl (Ai rfl) ?_; refine G1 6 rfl Af rfl (.inr Au) (G6 rfl rfl _ rfl Bx) .free rfl ?_; refine Da 7 rfl (Ai rfl) ?_; refine Da 8 rfl (Le rfl rfl rfl) ?_; refine Dx 9 rfl rfl rfl rfl ?_; refine Db 10 rfl (Bk rfl) ?_; refine Db 11 rfl (Bk rfl) ?_; refine A5 Af ?_; refine Am (.c rfl (.tmp rfl (.tmp rfl .nil))) ?_
    exact ⟨I, L, .refl _, fun _ h => h.drop, Rw hsl c0 hall hi Nr⟩
   intro g3_5
   iterate 4 refine Cy rfl rfl rfl ?_
   refine Of rfl rfl (Ab ?_); refine A0 rfl ?_; refine Cc rfl ?_; refine Ah ?_; refine Fh 12 rfl rfl ?_; refine Da 0 rfl (Ai rfl) ?_; refine Da 1 rfl (Ai rfl) ?_; refine G1 2 rfl Af rfl (.inr Au) (K1 rfl rfl _ rfl Bx) .free rfl ?_; refine Da 3 rfl (H9 rfl rfl rfl) ?_; refine Da 4 rfl (Ai rfl) ?_; refine Da 5 rfl (Ai rfl) ?_; refine G1 6 rfl Af rfl (.inr Au) (G6 rfl rfl _ rfl Bx) .free rfl ?_; refine Da 7 rfl (Ai rfl) ?_; refine Da 8 rfl (Le rfl rfl rfl) ?_; refine Dx 9 rfl rfl rfl rfl ?_; refine Db 10 rfl (Bk rfl) ?_; refine Db 11 rfl (Bk rfl) ?_; refine A5 Af ?_
   refine Am (.c rfl (.tmp rfl (.tmp rfl .nil))) ?_
   exact ⟨I, L, .refl _, fun _ h => h.drop, Rw hsl c0 hall hi Nr⟩
  intro c0; refine Ak (Ah (Se rfl (Om rfl (Oc rfl rfl rfl (Ab ?_)))))
  first | refine Sf rfl Aa ?_ | refine A0 Ar ?_
  refine Ak (Se rfl ?_); refine A1 .free rfl ?_; intro b8; refine Ab (Aq ?_)
  have hne : s ≠ [] := by
   intro e; subst e; simp at c0
  have hpos : 0 < s.length := List.length_pos_iff.2 hne
  refine Dn (X := PS) (fun x => x.s.length) (fun x => [(0, .string (str x.s)), (1, .int .i64 (deep : Nat)), (4, .pointer (some ⟨b4, 0, none⟩)), (8, .pointer (some ⟨b8, 0, none⟩))]) (fun x => x.I)
   (fun x => (b8, .cells [.string (str []), Bm x.m x.c x.B].toArray 49 (0, 0)) :: (b4, .cells [.string (str []), .slice none 0 0].toArray 49 (0, 0)) :: (A2 49 x.xs x.B ++ L)) (Ag5 k s I) ⟨I, s, 0, [], none, 0, [], s.length⟩
   ⟨.refl _, .nil, ⟨rfl, rfl, rfl⟩, rfl, hne, Nat.le_refl _, Nat.le_refl _, by simp, by
    have := Js (k := k) c0
    unfold Aci R9
    split <;> simp_all⟩ ⟨rfl, rfl, rfl, rfl, trivial⟩ (fun _ h => h) ?_
  rintro x ⟨hle, hrl, hB, hxm, hxne, hxn, hxs, hxt, hlink⟩ ih
  have hxpos : 0 < x.s.length := List.length_pos_iff.2 hxne
  refine Aq (Se rfl (Om rfl ?_)); refine Kf rfl rfl 1 rfl Bx .free rfl ?_; refine Om rfl ?_; refine Or rfl rfl rfl ?_; refine Ca rfl (ihk (x.s.drop 1) Dr (deep + 1) Aa _ _) ?_; rintro _ J _ hleJ ⟨t, cs, r, ok, rfl, hrep, rfl, hrlen, hpf⟩; obtain ⟨oa, cc, vs, rfl, -⟩ := hrep.open
  simp only [List.length_drop] at hrlen
  refine Om rfl ?_
  iterate 3 refine Oe rfl rfl ?_
  refine A1 .free rfl ?_; intro b9; refine By rfl rfl rfl rfl .free ?_; refine Oa rfl (Oa rfl (Ab (Ah (Se rfl (Om rfl ?_))))); refine Ei rfl .free rfl ?_; refine Om rfl ?_
  first | refine Ho rfl rfl ?_ ?_ | refine Fp rfl rfl ?_ ?_ | refine Nd rfl rfl ?_ ?_
  ·intro g10_3; refine Cy rfl rfl rfl ?_; refine Cy rfl rfl rfl ?_; refine Ot rfl rfl (Om rfl ?_)
   iterate 4 refine Cy rfl rfl rfl ?_
   iterate 3 refine Mq rfl rfl rfl ?_
   refine Cy rfl rfl rfl ?_; refine Ot rfl rfl (Ab ?_); refine B9 rfl ?_; refine Se rfl ?_; refine Cd rfl rfl rfl .free rfl ?_; refine By rfl rfl rfl rfl .free ?_; refine Oa rfl (Oa rfl (Ab ?_)); refine Am (.c rfl (.tmp rfl (.tmp rfl .nil))) ?_; refine ⟨J, L, hle.trans hleJ, fun w h => (h.drop.drop.drop).sub (List.sublist_append_right _ _), Rx (Kj hlink Aa ?_)⟩
   ·cases hp : E4 k (x.s.drop 1) with
    | none => exact .inl rfl
    | some p =>
     rw [hp] at hpf; obtain ⟨rfl, rfl, rfl⟩ := hpf; refine .inr ⟨_, _, rfl, ?_⟩
     first
      | exact .inl Df
      | exact .inr ⟨by omega, by omega⟩
      | (exfalso; simp_all; done)
  intro g10_3; refine Ow rfl ?_; refine F9 rfl rfl rfl (.met rfl rfl) rfl ?_; refine Of rfl rfl (Om rfl ?_)
  first | refine Ho rfl rfl ?_ ?_ | refine Fp rfl rfl ?_ ?_ | refine Nd rfl rfl ?_ ?_
  ·intro g10_7
   iterate 4 refine Cy rfl rfl rfl ?_
   iterate 3 refine Mq rfl rfl rfl ?_
   refine Cy rfl rfl rfl ?_; refine Ot rfl rfl (Ab ?_); refine B9 rfl ?_; refine Se rfl ?_; refine Cd rfl rfl rfl .free rfl ?_; refine By rfl rfl rfl rfl .free ?_; refine Oa rfl (Oa rfl (Ab ?_)); refine Am (.c rfl (.tmp rfl (.tmp rfl .nil))) ?_; refine ⟨J, L, hle.trans hleJ, fun w h => (h.drop.drop.drop).sub (List.sublist_append_right _ _), Rx (Kj hlink Aa ?_)⟩
   ·cases hp : E4 k (x.s.drop 1) with
    | none => exact .inl rfl
    | some p =>
     rw [hp] at hpf; obtain ⟨rfl, rfl, rfl⟩ := hpf; refine .inr ⟨_, _, rfl, ?_⟩
     first
      | exact .inl Df
      | exact .inr ⟨by omega, by omega⟩
      | (exfalso; simp_all; done)
  intro g10_7; refine Ow rfl ?_; refine D9 (i := 0) rfl rfl rfl (List.length_pos_iff.2 Df) (.met rfl rfl) rfl ?_; refine D8 rfl rfl rfl (.met rfl rfl) rfl ?_; refine Ow rfl ?_
  first | refine Ho rfl rfl ?_ ?_ | refine Fp rfl rfl ?_ ?_ | refine Nd rfl rfl ?_ ?_
  ·intro g10_11; refine Ow rfl ?_; refine D9 (i := 0) rfl rfl rfl (List.length_pos_iff.2 Df) (.met rfl rfl) rfl ?_; refine D8 rfl rfl rfl (.met rfl rfl) rfl ?_; refine Em rfl rfl (.met rfl rfl) rfl ?_; refine Of rfl rfl (Ab ?_); refine Si rfl ?_ ?_
   ·intro c3; refine Se rfl ?_; refine Cd rfl rfl rfl .free rfl ?_; refine By rfl rfl rfl rfl .free ?_; refine Oa rfl (Oa rfl (Ab ?_)); refine Am (.c rfl (.tmp rfl (.tmp rfl .nil))) ?_; refine ⟨J, L, hle.trans hleJ, fun w h => (h.drop.drop.drop).sub (List.sublist_append_right _ _), Rx (Kj hlink Aa ?_)⟩
    ·cases hp : E4 k (x.s.drop 1) with
     | none => exact .inl rfl
     | some p =>
      rw [hp] at hpf; obtain ⟨rfl, rfl, rfl⟩ := hpf; refine .inr ⟨_, _, rfl, ?_⟩
      first
       | exact .inl Df
       | exact .inr ⟨by omega, by omega⟩
       | (exfalso; simp_all; done)
   intro c3; refine Ak (Se rfl ?_)
   first | refine Oh rfl ?_ | refine Oj rfl ?_
   refine C1 rfl .free rfl ?_; refine C1 rfl .free rfl ?_; refine Ol rfl rfl ?_; intro b68; refine D1 (B := x.B) (xs := x.xs) (ys := [.string (str t.atom), .slice oa t.parts.length cc]) (m := x.m) (c := x.c) Av Ac rfl rfl hB (fun _ h => h.u4) Ac (fun a ha => by cases ha; exact Bw (.head _) Ac) Ae Ac Ad Ad Aa Ad .free rfl ?_; intro bb sp c' hB'
   first | refine Oh rfl ?_ | refine Oj rfl ?_
   refine By rfl rfl rfl rfl .free ?_
   have hpf' : E4 k (x.s.drop 1) = some (t, r) := by
    cases hp : E4 k (x.s.drop 1) with
    | none => rw [hp] at hpf; simp [hpf] at *
    | some p =>
     rw [hp] at hpf; obtain ⟨rfl, rfl, rfl⟩ := hpf
     rfl
   have hrl' : RepL J (x.ts ++ [t]) (x.xs ++ [Value.string (str t.atom), Value.slice oa t.parts.length cc]) := (hrl.mono hleJ).append (.cons hrep .nil)
   have hlen' : x.m + 1 = (x.ts ++ [t]).length := by simp [hxm]
   refine Ab (Se rfl (Om rfl (Oa rfl (Ab (Se rfl (Om rfl ?_)))))); refine D9 (i := 0) rfl rfl rfl (List.length_pos_iff.2 Df) .free rfl ?_; refine Oc rfl rfl rfl (Ab ?_); refine Si rfl ?_ ?_
   ·intro c4; refine Ah ?_; refine Bu ?_; intro hfz; refine Fh 6 rfl rfl ?_; refine Dt 0 [3] rfl (Ra rfl) ?_; refine Da 1 rfl (Ai rfl) ?_; refine Da 2 rfl (G6 rfl rfl 1 rfl (List.length_pos_iff.2 Df)) ?_; refine Dx 3 rfl rfl rfl rfl ?_; refine Db 4 rfl (Bk rfl) ?_; refine Db 5 rfl (Bk rfl) ?_; refine A5 Af ?_; refine Am (.c rfl (.tmp rfl (.tmp rfl .nil))) ?_; refine ⟨_, L, (hle.trans hleJ).trans hfz, fun _ h => h.drop.drop.drop.drop, .node [] (x.ts ++ [t]), _, r.drop 1, true, rfl, .mk' hlen' (hrl'.mono hfz) (fun y hy => by cases hy; exact A9) Ae hB'.2.1 Bf C3, rfl, by simp; omega, ?_⟩
    rw [Qo hlink Aa hpf' Df Aa]; exact ⟨rfl, rfl, rfl⟩
   intro c4; refine Ak (Ap ?_); refine Cu (fun w h => Mem.sub (L' := (b8, _) :: (b4, _) :: (bb, _) :: L) A7 h.f4.f4) (Ed ?_ (ih ⟨J, r, x.m + 1, x.ts ++ [t], some (bb, sp), c', _, x.n - 1⟩ ⟨hle.trans hleJ, hrl', hB', hlen', by assumption, by simp; omega, by simp; omega, by simp; omega, Qp hlink Aa hpf' Df Aa Aa⟩ Dr))
   exact ⟨rfl, rfl, rfl, rfl, trivial⟩
  intro g10_11
  iterate 3 refine Cy rfl rfl rfl ?_
  refine D5 rfl rfl (.met rfl rfl) rfl ?_; refine Of rfl rfl (Ab ?_); refine A0 rfl ?_; refine Ak (Se rfl ?_)
  first | refine Oh rfl ?_ | refine Oj rfl ?_
  refine C1 rfl .free rfl ?_; refine C1 rfl .free rfl ?_; refine Ol rfl rfl ?_; intro b68; refine D1 (B := x.B) (xs := x.xs) (ys := [.string (str t.atom), .slice oa t.parts.length cc]) (m := x.m) (c := x.c) Av Ac rfl rfl hB (fun _ h => h.u4) Ac (fun a ha => by cases ha; exact Bw (.head _) Ac) Ae Ac Ad Ad Aa Ad .free rfl ?_; intro bb sp c' hB'
  first | refine Oh rfl ?_ | refine Oj rfl ?_
  refine By rfl rfl rfl rfl .free ?_
  have hpf' : E4 k (x.s.drop 1) = some (t, r) := by
   cases hp : E4 k (x.s.drop 1) with
   | none => rw [hp] at hpf; simp [hpf] at *
   | some p =>
    rw [hp] at hpf; obtain ⟨rfl, rfl, rfl⟩ := hpf
    rfl
  have hrl' : RepL J (x.ts ++ [t]) (x.xs ++ [Value.string (str t.atom), Value.slice oa t.parts.length cc]) := (hrl.mono hleJ).append (.cons hrep .nil)
  have hlen' : x.m + 1 = (x.ts ++ [t]).length := by simp [hxm]
  refine Ab (Se rfl (Om rfl (Oa rfl (Ab (Se rfl (Om rfl ?_)))))); refine D9 (i := 0) rfl rfl rfl (List.length_pos_iff.2 Df) .free rfl ?_; refine Oc rfl rfl rfl (Ab ?_); refine Si rfl ?_ ?_
  ·intro c4; refine Ah ?_; refine Bu ?_; intro hfz; refine Fh 6 rfl rfl ?_; refine Dt 0 [3] rfl (Ra rfl) ?_; refine Da 1 rfl (Ai rfl) ?_; refine Da 2 rfl (G6 rfl rfl 1 rfl (List.length_pos_iff.2 Df)) ?_; refine Dx 3 rfl rfl rfl rfl ?_; refine Db 4 rfl (Bk rfl) ?_; refine Db 5 rfl (Bk rfl) ?_; refine A5 Af ?_; refine Am (.c rfl (.tmp rfl (.tmp rfl .nil))) ?_; refine ⟨_, L, (hle.trans hleJ).trans hfz, fun _ h => h.drop.drop.drop.drop, .node [] (x.ts ++ [t]), _, r.drop 1, true, rfl, .mk' hlen' (hrl'.mono hfz) (fun y hy => by cases hy; exact A9) Ae hB'.2.1 Bf C3, rfl, by simp; omega, ?_⟩
   rw [Qo hlink Aa hpf' Df Aa]; exact ⟨rfl, rfl, rfl⟩
  intro c4; refine Ak (Ap ?_); refine Cu (fun w h => Mem.sub (L' := (b8, _) :: (b4, _) :: (bb, _) :: L) A7 h.f4.f4) (Ed ?_ (ih ⟨J, r, x.m + 1, x.ts ++ [t], some (bb, sp), c', _, x.n - 1⟩ ⟨hle.trans hleJ, hrl', hB', hlen', by assumption, by simp; omega, by simp; omega, by simp; omega, Qp hlink Aa hpf' Df Aa Aa⟩ Dr))
  exact ⟨rfl, rfl, rfl, rfl, trivial⟩
mutual
def Tree.bytes : Tree → Bool
 | .node a ps => a.all Fn && Gz ps
def Gz : List Tree → Bool
 | [] => true
 | t :: ts => t.bytes && Gz ts
end

structure Ae1 (k : Nat) (s : As) (t : Tree) (r : As) : Prop where
 good : t.good = true
 bytes : t.bytes = true
 depth : t.depth ≤ k
 text : s = t.text ++ r
 size : t.size + r.length ≤ s.length
 ends : t.parts = [] → ∀ c, r.head? = some c → Fn c = false
structure Ag3 (k : Nat) (s : As) (ts : List Tree) (r : As) : Prop where
 good : F2 ts = true
 bytes : Gz ts = true
 depth : Ec ts ≤ k
 text : 32 :: s = Gm ts ++ 41 :: r
 size : Eu ts + r.length + 1 ≤ s.length
 ne : ts ≠ []

theorem Aad {c : UInt8} {n : Nat} (h : (c.toNat == n) = true) (hn : n < 256) : c = UInt8.ofNat n := by
 apply UInt8.toNat_inj.1
 have : c.toNat = n := by simpa using h
 rw [this]; simp [Nat.mod_eq_of_lt hn]

theorem Wo {k : Nat} {p : As → Option (Tree × As)} (hp : ∀ s t r, p s = some (t, r) → Ae1 k s t r) : ∀ {n : Nat} {s : As} {ts : List Tree} {r : As}, Fe p n s = some (ts, r) → Ag3 k s ts r := by
 intro n
 induction n with
 | zero => intro s ts r h; simp [Fe] at h
 | succ n ih =>
  intro s ts r h
  simp only [Fe] at h
  split at h
  ·simp at h
  ·rename_i t r1 hpp
   have hf := hp _ _ _ hpp
   have htx := hf.text
   have hsz := hf.size
   split at h
   ·simp at h
   ·rename_i c r'
    simp only [List.length_cons] at hsz
    cases h41 : (c.toNat == 41) with
    | true =>
     simp [h41] at h
     obtain ⟨rfl, rfl⟩ := h
     have hc := Aad h41 Aa
     subst hc
     exact ⟨by simp [F2, hf.good], by simp [Gz, hf.bytes], by simp [Ec, hf.depth], by rw [htx]; simp [Gm], by simp [Eu]; omega, by simp⟩
    | false =>
     cases h32 : (c.toNat == 32) with
     | false => simp [h41, h32] at h
     | true =>
      simp [h41, h32] at h
      split at h
      ·rename_i ts' r'' hrec
       simp at h
       obtain ⟨rfl, rfl⟩ := h
       have hc := Aad h32 Aa
       have hr := ih hrec
       have hr1 := hr.text
       have hr2 := hr.size
       have hr3 := hr.depth
       have hf3 := hf.depth
       refine ⟨by simp [F2, hf.good, hr.good], by simp [Gz, hf.bytes, hr.bytes], by simp [Ec]; omega, ?_, by simp [Eu]; omega, by simp⟩; rw [htx]; subst hc
       simp only [Gm, List.cons_append, List.append_assoc]
       rw [← hr1]; rfl
      ·simp at h

theorem Zw : ∀ {k : Nat} {s : As} {t : Tree} {r : As}, E4 k s = some (t, r) → Ae1 k s t r := by
 have atom : ∀ {k : Nat} {s : As} {t : Tree} {r : As}, (s.getD 0 0).toNat ≠ 40 → E4 k s = some (t, r) → Ae1 k s t r := by
  intro k s t r h40 h; rw [Ij h40] at h
  split at h
  ·cases h
  ·rename_i hne
   simp at h
   obtain ⟨rfl, rfl⟩ := h
   have hl := My Fn s
   have h0 : 0 < (s.takeWhile Fn).length := List.length_pos_iff.2 hne
   refine ⟨?_, ?_, by simp [Tree.depth], by simp [Tree.text], ?_, ?_⟩
   ·simp [Tree.good, F2, hne]
   ·simp [Tree.bytes, Gz]
   ·simp [Tree.size]; omega
   ·intro _ c hc
    have := List.head?_dropWhile_not Fn s
    rw [hc] at this
    simpa using this
 intro k
 induction k with
 | zero =>
  intro s t r h
  by_cases h40 : (s.getD 0 0).toNat = 40
  ·rw [Kv h40] at h; cases h
  ·exact atom h40 h
 | succ k ih =>
  intro s t r h
  by_cases h40 : (s.getD 0 0).toNat = 40
  ·rw [Js h40] at h
   split at h
   ·rename_i ts r' hpp
    simp at h
    obtain ⟨rfl, rfl⟩ := h
    have hf := Wo (fun _ _ _ hh => ih hh) hpp
    cases s with
    | nil => simp at h40
    | cons c s =>
     have hc : c = 40 := UInt8.toNat_inj.1 (by simpa using h40)
     subst hc
     have h1 := hf.text
     have h2 := hf.size
     have h3 := hf.depth
     cases ts with
     | nil => exact absurd rfl hf.ne
     | cons t ts =>
      simp only [Gm, List.cons_append, List.cons.injEq, true_and, List.drop_succ_cons, List.drop_zero] at h1 h2
      refine ⟨by simpa [Tree.good] using hf.good, by simpa [Tree.bytes] using hf.bytes, by simp [Tree.depth]; omega, ?_, by simp [Tree.size]; omega, by simp [Tree.parts]⟩
      simp only [Tree.text, h1]; simp
   ·cases h
  ·exact atom h40 h

theorem Mr {s : As} {t : Tree} (h : D4 s = some t) : Ae1 60 s t [] ∧ s.length ≤ 12000 := by
 unfold D4 at h
 split at h
 ·cases h
 ·rename_i hlen
  split at h
  ·rename_i t' hp
   simp at h; subst h
   exact ⟨Zw hp, by omega⟩
  ·cases h
theorem Ku {s : As} {t : Tree} (h : D4 s = some t) : t.text = s := by simpa using (Mr h).1.text.symm
theorem O4 {s : As} {t : Tree} (h : D4 s = some t) : t.size ≤ 12000 := by have := (Mr h).1.size; have := (Mr h).2; simp at *; omega
end Go.Proofs.YtmfagaajiakgoaaGreatDoor
