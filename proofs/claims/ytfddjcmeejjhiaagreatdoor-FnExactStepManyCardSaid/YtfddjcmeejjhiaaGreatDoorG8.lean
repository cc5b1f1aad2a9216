/- Types by their texts: taken apart, put together, joined. No conditions. -/
import Derived.Test.YtfddjcmeejjhiaaGreatDoorG7
namespace Go.Proofs.YtfddjcmeejjhiaaGreatDoor
set_option maxRecDepth 100000
set_option linter.unusedVariables false
set_option linter.unusedSimpArgs false

/-- Both types of a type with a sign. -/
def twoOf (sg s : Txt) : Option (Ty × Ty) := match tyOf s with
 | some (.fn a b) => if sg = [62] then some (a, b) else none
 | some (.pr a b) => if sg = [42] then some (a, b) else none
 | _ => none
def t1 (o : Option (Ty × Ty)) : Txt := (o.map fun p => p.1.tree.text).getD []
def t2 (o : Option (Ty × Ty)) : Txt := (o.map fun p => p.2.tree.text).getD []
/-- A type made of both. -/
def mkTy (f : Bool) (a b : Ty) : Ty := if f then .fn a b else .pr a b
def mkOf (f : Bool) (a b : Txt) : Option Txt := match tyOf a, tyOf b with
 | some x, some y => if (mkTy f x y).size ≤ 16 then some (mkTy f x y).tree.text else none
 | _, _ => none
def sgn (f : Bool) : Txt := if f then [62] else [42]
/-- What the reference joins, by texts. -/
def joinT (h k0 k1 k2 : Txt) : Txt :=
 if h = tIf ∧ k0 = [105] ∧ k1 = k2 then k1
 else if h = tCall ∧ (twoOf [62] k0).isSome = true ∧ t1 (twoOf [62] k0) = k1 then t2 (twoOf [62] k0)
 else if h = tPair then (mkOf false k0 k1).getD []
 else if h = tFst ∧ (twoOf [42] k0).isSome = true then t1 (twoOf [42] k0)
 else if h = tSnd ∧ (twoOf [42] k0).isSome = true then t2 (twoOf [42] k0)
 else if (h = [43] ∨ h = [45] ∨ h = [42]) ∧ k0 = [105] ∧ k1 = [105] then [105]
 else []
def arity (h : Txt) (n : Nat) : Prop := (∃ o : B5, h = o.txt ∧ n = 2) ∨ (h = tIf ∧ n = 3) ∨ (∃ o : U2, h = o.txt ∧ n = 1)
abbrev tx (m : List Ty) : List Txt := m.map fun t => t.tree.text
theorem Bytes.take {I : Heap} {oa : Option Addr} {l : List UInt8} {c : Nat} (h : Bytes I oa l c) (m : Nat) (hm : m ≤ l.length) : Bytes I (if c = 0 then oa else oa.map (·.add (0 * 1))) (l.take m) (c - 0) := by
  have e : (if c = 0 then oa else oa.map (·.add (0 * 1))) = oa := by
    have : ∀ x : Addr, x.add (0 * 1) = x := fun x => by simp [Addr.add]
    cases oa <;> simp [this]
  rw [e]
  refine ⟨fun x hx => ?_, fun hx => by rw [h.nil hx]; simp, by have := h.cap; simp; omega, by have := h.len; simp; omega⟩
  rcases h.still x hx with h0 | ⟨cc, T, fr, hb, hs, hc⟩
  · exact .inl (by have : l = [] := by simpa using h0
                   simp [this])
  · refine .inr ⟨cc, T, fr, hb, hs, fun i hi => ?_⟩
    simp only [List.length_map, List.length_take] at hi
    rw [hc i (by simp; omega)]
    simp

/-- The reader, in the call's own memory. -/
def rd (b : Nat) (oa : Option Addr) (l : List UInt8) (c p : Nat) : Nat × Obj := (b, .cells [.slice oa l.length c, .int .i64 (p : Nat)].toArray 88 (0, 0))
def OP (L : Own) : Post := fun v I' L' => ∃ b oa l c, v = .pointer (some ⟨b, 0, none⟩) ∧ Bytes I' oa l c ∧ l.length ≤ 2000 ∧ L' = rd b oa l c 0 :: L
def PK (b : Nat) (oa : Option Addr) (l : List UInt8) (c p n : Nat) (I : Heap) (L : Own) : Post := fun v I' L' => ∃ r : Nat, v = .int .i64 (r : Nat) ∧ I = I' ∧ L' = rd b oa l c (p + 1) :: L ∧ (r < n ∨ r = 0)
def OF (b : Nat) (oa : Option Addr) (l : List UInt8) (c p : Nat) (ts : List Txt) (I : Heap) (L : Own) : Post := fun v I' L' => ∃ s, v = .string (str s) ∧ s ∈ ts ∧ I = I' ∧ L' = rd b oa l c (p + 1) :: L
/-- A list of texts in still memory. -/
def LS1 (l : List Txt) (L : Own) : Post := fun v I' L' => ∃ oa c, v = .slice oa (List.length l) c ∧ Strs I' oa l c ∧ L = L'
/-- Two lists of texts in still memory; the reader has gone on. -/
def EV (b : Nat) (oa : Option Addr) (l : List UInt8) (c p : Nat) (L : Own) : Post := fun v I' L' => ∃ o1 n1 c1 o2 n2 c2, v = .tuple #[.slice o1 (List.length n1) c1, .slice o2 (List.length n2) c2] ∧ Strs I' o1 n1 c1 ∧ Strs I' o2 n2 c2 ∧ n1.length ≤ 16 ∧ n2.length ≤ 16 ∧ (∀ s ∈ n1, s.length ≤ 16) ∧ (∀ s ∈ n2, s.length ≤ 16) ∧ L' = rd b oa l c (p + 1) :: L
/-- A drawn environment. -/
def DE (L : Own) : Post := fun v I' L' => ∃ o1 n1 c1 o2 n2 c2, v = .tuple #[.slice o1 (List.length n1) c1, .slice o2 (List.length n2) c2] ∧ Strs I' o1 n1 c1 ∧ Strs I' o2 n2 c2 ∧ n1.length ≤ 16 ∧ n2.length ≤ 16 ∧ (∀ s ∈ n1, s.length ≤ 16) ∧ (∀ s ∈ n2, s.length ≤ 16) ∧ L = L'
def DL (L : Own) : Post := fun v I' L' => ∃ o1 n1 c1 o2 n2 c2 s, v = .tuple #[.slice o1 (List.length n1) c1, .slice o2 (List.length n2) c2, .string (str s)] ∧ Strs I' o1 n1 c1 ∧ Strs I' o2 n2 c2 ∧ n1.length ≤ 16 ∧ n2.length ≤ 16 ∧ (∀ s ∈ n1, s.length ≤ 16) ∧ (∀ s ∈ n2, s.length ≤ 16) ∧ s.length ≤ 16 ∧ L = L'
end Go.Proofs.YtfddjcmeejjhiaaGreatDoor
