/- Environments of types, by the program: one name more, the environment of a part. No conditions. -/
import Derived.Test.YtmfagaajiakgoaaGreatDoorG7

namespace Go.Proofs.YtmfagaajiakgoaaGreatDoor
set_option maxRecDepth 100000
set_option linter.unusedVariables false
set_option linter.unusedSimpArgs false

section rules
variable {P : Program} {f : FuncId} {n : Nat} {I₀ : Heap} {Q : C2} {k : List Item} {E : He} {I : Heap} {L : Bm}
variable {ops : Array Oper} {S : World → Prop} {fuel : Nat} {listed : Array Bool}
theorem Y2 {I : Heap} {e : TypeId} {ts : List Tree} {vs : List Value} {B : K1} {m c : Nat} (hl : RepL I ts vs) (hB : E6 2 m c vs B) (hm : m = ts.length) (hn : ts.length ≤ Be) :
  (B = none ∧ ts = []) ∨ ∃ b sp, B = some (b, sp) ∧ Cn e vs B = [(b, .cells (vs ++ sp).toArray e (0, 0))] ∧ ts.length ≤ c := by
 cases B with
 | none =>
  obtain ⟨h1, h2, h3⟩ := hB
  exact .inl ⟨rfl, List.length_eq_zero_iff.1 Ab⟩
 | some p => exact .inr ⟨p.1, p.2, rfl, rfl, by have := hB.2.1; omega⟩
theorem W5 (I : Heap) : Forms I none [] 0 := ⟨⟨[], .nil, by simp⟩, fun _ => rfl, by simp, by simp [Be]⟩
theorem Ru {todo : List Item} {e : TypeId} {ts : List Tree} {vs : List Value} {B : K1} {m c : Nat} (hl : RepL I ts vs) (hB : E6 2 m c vs B) (hm : m = ts.length) (hn : ts.length ≤ Be)
  (h : ∀ I' oa c', HLe I I' → Ci m c B = .slice oa ts.length c' → Forms I' oa ts c' → RunS P f n I₀ Q todo E I' L) : RunS P f n I₀ Q todo E I (Cn e vs B ++ L) := by
 rcases Y2 (e := e) hl hB hm hn with ⟨rfl, rfl⟩ | ⟨b, sp, rfl, _, hc⟩
 ·exact h I none 0 (.refl _) rfl (W5 _)
 ·exact Bn fun hle => h _ (some ⟨b, 0, none⟩) c hle (by rw [← hm]; rfl) (R8 hl hle hc hn)
end rules

structure EnvAt (I : Heap) (l : List Au) (m : List Ty) (oa : Option Addr) (c : Nat) (ob : Option Addr) (c' : Nat) : Prop where
 names : Strs I oa l c
 types : Forms I ob (m.map Ty.tree) c'
 len : l.length = m.length
 small : smallL m
theorem EnvAt.mono {I I' : Heap} (hle : HLe I I') {l : List Au} {m : List Ty} {oa : Option Addr} {c : Nat} {ob : Option Addr} {c' : Nat} (h : EnvAt I l m oa c ob c') : EnvAt I' l m oa c ob c' :=
 ⟨h.names.mono hle, h.types.mono hle, h.len, h.small⟩
def RV (l : List Au) (m : List Ty) (L : Bm) : C2 := fun v I' L' => ∃ oa c ob c', v = .agg [.slice oa (List.length l) c, .slice ob (List.map Ty.tree m).length c'].toArray ∧ EnvAt I' l m oa c ob c' ∧ L = L'
theorem Ig {I : Heap} {L L' : Bm} {a : Addr} {vs : List Value} (h : Gh I L a vs) (hs : ∀ w, Mem I L' w → Mem I L w) : Gh I L' a vs := fun w hw => h w (hs w hw)
theorem Rc {I I' : Heap} (hle : HLe I I') {L : Bm} {a : Addr} {vs : List Value} (h : Gh I L a vs) : Gh I' L a vs := fun w hw => h w (hw.le hle)
theorem Acb (a : Addr) (o i : Nat) : (a.add o).add i = a.add (o + i) := by
 unfold Addr.add
 by_cases h1 : o = 0
 ·by_cases h2 : i = 0 <;> simp [h1, h2]
 ·by_cases h2 : i = 0
  ·simp [h1, h2]
  ·have : ¬ o + i = 0 := by omega
   simp [h1, h2, this, Nat.add_assoc]
theorem Zt {I : Heap} {L : Bm} {a : Addr} {vs us : List Value} {o k : Nat} (h : Gh I L a vs) (hc : Nk o k vs = some us) : Gh I L (a.add o) us := by
 intro w hw i hi; obtain ⟨h1, h2⟩ := Nl hc
 have h3 := h2 i Ab
 rw [List.getElem?_eq_getElem hi] at h3; obtain ⟨h4, h5⟩ := List.getElem?_eq_some_iff.1 h3; rw [Acb, h w hw (o + i) h4, h5]
theorem Vr {P : Program} {I : Heap} {L : Bm} {T : TypeId} {a : Addr} {vs : List Value} {fs : Array Field} {s b : Nat} {z : List Value} [ht : Ax P T (.struct fs) s b z] (h : Gh I L a vs) (hl : vs.length = s) : F4 P I L T a (.agg vs.toArray) := La hl h
theorem Sh {P : Program} {I : Heap} {L : Bm} {T : TypeId} {a : Addr} {vs : List Value} {v : Value} {o : Nat} {d : TypeDesc} {s b : Nat} {z : List Value} [ht : Ax P T d s b z] (h : Gh I L a vs) (hc : Nk o 1 vs = some [v]) (hd : Nb d = true) : F4 P I L T (a.add o) v := E4 hd (Zt h hc)
structure Have (I : Heap) (L : Bm) (oh : Option Addr) (ts : List Ty) : Prop where
 rep : ∀ k (hk : k < ts.length), ∃ o1 c1, Rep I ts[k].tree [.string (str ts[k].tree.atom), .slice o1 ts[k].tree.parts.length c1] ∧ Gh I L ((Ur oh).add (k * 2)) [.string (str ts[k].tree.atom), .slice o1 ts[k].tree.parts.length c1]
 nil : oh = none → ts.length = 0
theorem Have.mono {I I' : Heap} (hle : HLe I I') {L : Bm} {oh : Option Addr} {ts : List Ty} (h : Have I L oh ts) : Have I' L oh ts :=
 ⟨fun k hk => by obtain ⟨o1, c1, h1, h2⟩ := h.rep k hk; exact ⟨o1, c1, h1.mono hle, Rc hle h2⟩, h.nil⟩
theorem Have.sub {I : Heap} {L L' : Bm} {oh : Option Addr} {ts : List Ty} (h : Have I L oh ts) (hs : ∀ w, Mem I L' w → Mem I L w) : Have I L' oh ts :=
 ⟨fun k hk => by obtain ⟨o1, c1, h1, h2⟩ := h.rep k hk; exact ⟨o1, c1, h1, Ig h2 hs⟩, h.nil⟩
def JO (r : Option Ty) (L : Bm) : C2 := fun v I' L' => ∃ u cs ok, v = .tuple #[.agg cs.toArray, .bool ok] ∧ Rep I' u cs ∧ L = L' ∧ match r with | some t => ok = true ∧ u = t.tree | none => ok = false
end Go.Proofs.YtmfagaajiakgoaaGreatDoor
