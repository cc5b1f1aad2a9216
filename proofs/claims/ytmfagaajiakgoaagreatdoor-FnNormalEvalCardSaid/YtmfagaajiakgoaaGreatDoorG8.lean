/- Environments of types, by the program: one name more, the environment of a part. No conditions. -/
import Derived.Test.YtmfagaajiakgoaaGreatDoorG7

namespace Go.Proofs.YtmfagaajiakgoaaGreatDoor
set_option maxRecDepth 100000
set_option linter.unusedVariables false
set_option linter.unusedSimpArgs false

section rules
variable {P : Program} {f : FuncId} {n : Nat} {I₀ : Heap} {Q : Cv} {k : List Item} {E : Hg} {I : Heap} {L : Bj}
variable {ops : Array Oper} {S : World → Prop} {fuel : Nat} {listed : Array Bool}
theorem Uv {I : Heap} {e : TypeId} {ts : List Tree} {vs : List Value} {B : Kg} {m c : Nat} (hl : RepL I ts vs) (hB : Dd 2 m c vs B) (hm : m = ts.length) (hn : ts.length ≤ Bg) :
  (B = none ∧ ts = []) ∨ ∃ b sp, B = some (b, sp) ∧ A2 e vs B = [(b, .cells (vs ++ sp).toArray e (0, 0))] ∧ ts.length ≤ c := by
 cases B with
 | none =>
  obtain ⟨h1, h2, h3⟩ := hB
  exact .inl ⟨rfl, List.length_eq_zero_iff.1 Aa⟩
 | some p => exact .inr ⟨p.1, p.2, rfl, rfl, by have := hB.2.1; omega⟩
theorem S0 (I : Heap) : Forms I none [] 0 := ⟨⟨[], .nil, by simp⟩, fun _ => rfl, by simp, by simp [Bg]⟩
theorem Ui {todo : List Item} {e : TypeId} {ts : List Tree} {vs : List Value} {B : Kg} {m c : Nat} (hl : RepL I ts vs) (hB : Dd 2 m c vs B) (hm : m = ts.length) (hn : ts.length ≤ Bg)
  (h : ∀ I' oa c', HLe I I' → Bm m c B = .slice oa ts.length c' → Forms I' oa ts c' → RunS P f n I₀ Q todo E I' L) : RunS P f n I₀ Q todo E I (A2 e vs B ++ L) := by
 rcases Uv (e := e) hl hB hm hn with ⟨rfl, rfl⟩ | ⟨b, sp, rfl, _, hc⟩
 ·exact h I none 0 (.refl _) rfl (S0 _)
 ·exact Bu fun hle => h _ (some ⟨b, 0, none⟩) c hle (by rw [← hm]; rfl) (Qf hl hle hc hn)
end rules

structure EnvAt (I : Heap) (l : List As) (m : List Ty) (oa : Option Addr) (c : Nat) (ob : Option Addr) (c' : Nat) : Prop where
 names : Strs I oa l c
 types : Forms I ob (m.map Ty.tree) c'
 len : l.length = m.length
 small : smallL m
theorem EnvAt.mono {I I' : Heap} (hle : HLe I I') {l : List As} {m : List Ty} {oa : Option Addr} {c : Nat} {ob : Option Addr} {c' : Nat} (h : EnvAt I l m oa c ob c') : EnvAt I' l m oa c ob c' :=
 ⟨h.names.mono hle, h.types.mono hle, h.len, h.small⟩
def RV (l : List As) (m : List Ty) (L : Bj) : Cv := fun v I' L' => ∃ oa c ob c', v = .agg [.slice oa (List.length l) c, .slice ob (List.map Ty.tree m).length c'].toArray ∧ EnvAt I' l m oa c ob c' ∧ L = L'
theorem Jj {I : Heap} {L L' : Bj} {a : Addr} {vs : List Value} (h : He I L a vs) (hs : ∀ w, Mem I L' w → Mem I L w) : He I L' a vs := fun w hw => h w (hs w hw)
theorem Tk {I I' : Heap} (hle : HLe I I') {L : Bj} {a : Addr} {vs : List Value} (h : He I L a vs) : He I' L a vs := fun w hw => h w (hw.le hle)
theorem Ae4 (a : Addr) (o i : Nat) : (a.add o).add i = a.add (o + i) := by
 unfold Addr.add
 by_cases h1 : o = 0
 ·by_cases h2 : i = 0 <;> simp [h1, h2]
 ·by_cases h2 : i = 0
  ·simp [h1, h2]
  ·have : ¬ o + i = 0 := by omega
   simp [h1, h2, this, Nat.add_assoc]
theorem Ab7 {I : Heap} {L : Bj} {a : Addr} {vs us : List Value} {o k : Nat} (h : He I L a vs) (hc : Oz o k vs = some us) : He I L (a.add o) us := by
 intro w hw i hi; obtain ⟨h1, h2⟩ := M8 hc
 have h3 := h2 i Aa
 rw [List.getElem?_eq_getElem hi] at h3; obtain ⟨h4, h5⟩ := List.getElem?_eq_some_iff.1 h3; rw [Ae4, h w hw (o + i) h4, h5]
theorem Ye {P : Program} {I : Heap} {L : Bj} {T : TypeId} {a : Addr} {vs : List Value} {fs : Array Field} {s b : Nat} {z : List Value} [ht : At P T (.struct fs) s b z] (h : He I L a vs) (hl : vs.length = s) : Gh P I L T a (.agg vs.toArray) := Ke hl h
theorem U4 {P : Program} {I : Heap} {L : Bj} {T : TypeId} {a : Addr} {vs : List Value} {v : Value} {o : Nat} {d : TypeDesc} {s b : Nat} {z : List Value} [ht : At P T d s b z] (h : He I L a vs) (hc : Oz o 1 vs = some [v]) (hd : Pa d = true) : Gh P I L T (a.add o) v := Fl hd (Ab7 h hc)
structure Have (I : Heap) (L : Bj) (oh : Option Addr) (ts : List Ty) : Prop where
 rep : ∀ k (hk : k < ts.length), ∃ o1 c1, Rep I ts[k].tree [.string (str ts[k].tree.atom), .slice o1 ts[k].tree.parts.length c1] ∧ He I L ((W6 oh).add (k * 2)) [.string (str ts[k].tree.atom), .slice o1 ts[k].tree.parts.length c1]
 nil : oh = none → ts.length = 0
theorem Have.mono {I I' : Heap} (hle : HLe I I') {L : Bj} {oh : Option Addr} {ts : List Ty} (h : Have I L oh ts) : Have I' L oh ts :=
 ⟨fun k hk => by obtain ⟨o1, c1, h1, h2⟩ := h.rep k hk; exact ⟨o1, c1, h1.mono hle, Tk hle h2⟩, h.nil⟩
theorem Have.sub {I : Heap} {L L' : Bj} {oh : Option Addr} {ts : List Ty} (h : Have I L oh ts) (hs : ∀ w, Mem I L' w → Mem I L w) : Have I L' oh ts :=
 ⟨fun k hk => by obtain ⟨o1, c1, h1, h2⟩ := h.rep k hk; exact ⟨o1, c1, h1, Jj h2 hs⟩, h.nil⟩
def JO (r : Option Ty) (L : Bj) : Cv := fun v I' L' => ∃ u cs ok, v = .tuple #[.agg cs.toArray, .bool ok] ∧ Rep I' u cs ∧ L = L' ∧ match r with | some t => ok = true ∧ u = t.tree | none => ok = false
end Go.Proofs.YtmfagaajiakgoaaGreatDoor
