
/- Bindings put ahead of a normal expression. No conditions. -/
import Derived.Test.YtekfjhopngcneaaE6
import Derived.Test.YtekfjhopngcneaaA2
import Derived.Test.YtekfjhopngcneaaM6
namespace Go.Proofs.Ytekfjhopngcneaa
set_option maxRecDepth 100000
set_option linter.unusedVariables false
set_option linter.unusedSimpArgs false

theorem RX_some {s : Txt} {t : Tree} {ok : Bool} (hpf : match exOf s with | some e => ok = true ∧ t = e.tree | none => ok = false) (h : ok = true) : ∃ e, exOf s = some e ∧ t = e.tree ∧ e.ok = true ∧ e.tree.len ≤ 12000 ∧ e.fine = true ∧ s = e.tree.text := by
  cases hx : exOf s with
  | none => rw [hx] at hpf; simp [h] at hpf
  | some e =>
    rw [hx] at hpf
    obtain ⟨h1, h2, h3⟩ := exOf_some hx
    have hfine := h2
    simp only [Ex.fine, Bool.and_eq_true, Tree.fits, decide_eq_true_eq] at h2
    exact ⟨e, rfl, hpf.2, h2.1.1, h2.2.2, hfine, h3⟩
theorem RX_none {s : Txt} {t : Tree} {ok : Bool} (hpf : match exOf s with | some e => ok = true ∧ t = e.tree | none => ok = false) (h : ok = false) : exOf s = none := by
  cases hx : exOf s with
  | none => rfl
  | some e => rw [hx] at hpf; simp [h] at hpf
theorem exNorm_and {s : Txt} {t : Tree} {ok : Bool} (hpf : match exOf s with | some e => ok = true ∧ t = e.tree | none => ok = false) (b : Bool) : (ok && exNorm b s) = exNorm b s := by
  cases ok with
  | true => rfl
  | false => rw [exNorm, normOf, RX_none hpf rfl]; rfl

/-- What reading a simple or a normal expression returns. -/
def RN (p : Option Ex) (L : Own) : Post := RX p L
/- Bindings in memory. -/
inductive BindL : Heap → Bds → List Value → Prop
  | nil {I : Heap} : BindL I [] []
  | cons {I : Heap} {x : Txt} {e : Ex} {bs : Bds} {c1 c2 : Value} {vs : List Value} (hx : x.length ≤ maxN) (h : Rep I e.tree [c1, c2]) (hs : BindL I bs vs) : BindL I ((x, e) :: bs) (.string (str x) :: c1 :: c2 :: vs)
theorem BindL.mono {I I' : Heap} (hle : HLe I I') {bs : Bds} {vs : List Value} (h : BindL I bs vs) : BindL I' bs vs := by
  induction h with
  | nil => exact .nil
  | cons hx h _ ih => exact .cons hx (h.mono hle) ih
theorem BindL.length {I : Heap} {bs : Bds} {vs : List Value} (h : BindL I bs vs) : vs.length = bs.length * 3 := by
  induction h with
  | nil => rfl
  | cons hx h _ ih => simp [ih]; omega
theorem BindL.plain {I : Heap} {bs : Bds} {vs : List Value} (h : BindL I bs vs) : vs.all plainCell = true := by
  induction h with
  | nil => rfl
  | cons hx h _ ih =>
    have h2 := h.vals
    simp only [List.all_cons, List.all_nil, Bool.and_true, Bool.and_eq_true] at h2 ⊢
    exact ⟨rfl, h2.1, h2.2, ih⟩
theorem BindL.append {I : Heap} {bs cs : Bds} {vs ws : List Value} (h : BindL I bs vs) (h' : BindL I cs ws) : BindL I (bs ++ cs) (vs ++ ws) := by
  induction h with
  | nil => exact h'
  | cons hx h _ ih => exact .cons hx h ih
theorem BindL.get {I : Heap} {bs : Bds} {vs : List Value} (h : BindL I bs vs) : ∀ i (hi : i < bs.length), ∃ c1 c2, Rep I bs[i].2.tree [c1, c2] ∧ bs[i].1.length ≤ maxN ∧ vs[i * 3]? = some (.string (str bs[i].1)) ∧ vs[i * 3 + 1]? = some c1 ∧ vs[i * 3 + 2]? = some c2 := by
  induction h with
  | nil => intro i hi; simp at hi
  | @cons x e bs c1 c2 vs hx h hs ih =>
    intro i hi
    cases i with
    | zero => exact ⟨c1, c2, h, hx, rfl, rfl, rfl⟩
    | succ i =>
      obtain ⟨d1, d2, h1, h2, h3, h4, h5⟩ := ih i (by simpa using hi)
      refine ⟨d1, d2, by simpa using h1, by simpa using h2, ?_, ?_, ?_⟩
      · rw [show (i + 1) * 3 = i * 3 + 1 + 1 + 1 by omega]; simpa using h3
      · rw [show (i + 1) * 3 + 1 = i * 3 + 1 + 1 + 1 + 1 by omega]; simpa using h4
      · rw [show (i + 1) * 3 + 2 = i * 3 + 2 + 1 + 1 + 1 by omega]; simpa using h5
structure Binds (I : Heap) (oa : Option Addr) (bs : Bds) (c : Nat) : Prop where
  rep : ∃ vs, BindL I bs vs ∧ ∀ x, oa = some x → Still I x vs
  nil : oa = none → bs.length = 0
  cap : bs.length ≤ c
  len : bs.length ≤ maxN
theorem Binds.mono {I I' : Heap} (hle : HLe I I') {oa : Option Addr} {bs : Bds} {c : Nat} (h : Binds I oa bs c) : Binds I' oa bs c := by
  obtain ⟨⟨vs, h1, h2⟩, h3, h4, h5⟩ := h
  exact ⟨⟨vs, h1.mono hle, fun x hx => (h2 x hx).mono hle⟩, h3, h4, h5⟩
theorem Binds.at {I : Heap} {oa : Option Addr} {bs : Bds} {c : Nat} (h : Binds I oa bs c) (i : Nat) (hi : i < bs.length) :
    ∃ ob d, Rep I bs[i].2.tree [.string (str bs[i].2.tree.atom), .slice ob bs[i].2.tree.parts.length d] ∧ bs[i].1.length ≤ maxN ∧
      Still I ((oad oa).add (i * 3)) [.string (str bs[i].1), .string (str bs[i].2.tree.atom), .slice ob bs[i].2.tree.parts.length d] := by
  obtain ⟨⟨vs, h1, h2⟩, h3, h4, h5⟩ := h
  obtain ⟨c1, c2, r, hx, e1, e2, e3⟩ := h1.get i hi
  obtain ⟨ob, d, ws, he, _⟩ := r.open
  simp only [List.cons.injEq, and_true] at he
  obtain ⟨rfl, rfl⟩ := he
  obtain ⟨y, rfl⟩ : ∃ y, oa = some y := by
    cases oa with
    | none => have := h3 rfl; omega
    | some y => exact ⟨y, rfl⟩
  refine ⟨ob, d, r, hx, (h2 y rfl).part (i * 3) ?_⟩
  intro j hj
  match j, hj with
  | 0, _ => simpa using e1
  | 1, _ => simpa using e2
  | 2, _ => simpa using e3
theorem s_freezeBinds {P : Program} {f : FuncId} {n : Nat} {I₀ : Heap} {Q : Post} {todo : List Item} {E : Env} {I : Heap} {L : Own} {e : TypeId} {bs : Bds} {xs : List Value} {B : Buf} {m c : Nat}
    (hb : BindL I bs xs) (hB : BufOk 3 m c xs B) (hm : m = bs.length) (hp : m ≤ maxN)
    (h : ∀ I' oa c', HLe I I' → bufVal m c B = .slice oa bs.length c' → Binds I' oa bs c' → RunS P f n I₀ Q todo E I' L) : RunS P f n I₀ Q todo E I (bufOwn e xs B ++ L) := by
  cases B with
  | none =>
    obtain ⟨rfl, rfl, rfl⟩ := hB
    obtain rfl : bs = [] := List.length_eq_zero_iff.1 hm.symm
    exact h I none 0 (.refl _) rfl ⟨⟨[], .nil, by simp⟩, fun _ => rfl, by simp, by simp⟩
  | some p =>
    obtain ⟨b, sp⟩ := p
    refine s_freeze fun hle => h _ (some ⟨b, 0, none⟩) c hle (by rw [← hm]; rfl) ⟨⟨xs, hb.mono hle, fun y hy => ?_⟩, by simp, by have := hB.2.1; omega, by omega⟩
    cases hy; exact still_set
/-- An expression that a loop has made, and where it lies. -/
structure YS where
  I : Heap
  k : Nat
  oa : Option Addr
  c : Nat
end Go.Proofs.Ytekfjhopngcneaa
