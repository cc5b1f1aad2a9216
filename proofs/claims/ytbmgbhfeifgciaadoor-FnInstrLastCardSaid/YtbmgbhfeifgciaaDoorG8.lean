/- Environments of types, by the program: one name more, the environment of a part. No conditions. -/
import Derived.Test.YtbmgbhfeifgciaaDoorG7

namespace Go.Proofs.YtbmgbhfeifgciaaDoor
set_option maxRecDepth 100000
set_option linter.unusedVariables false
set_option linter.unusedSimpArgs false

section rules
variable {P : Program} {f : FuncId} {n : Nat} {I₀ : Heap} {Q : A5} {k : List Item} {E : D3} {I : Heap} {L : At}
variable {ops : Array Oper} {S : World → Prop} {fuel : Nat} {listed : Array Bool}
end rules

structure EnvAt (I : Heap) (l : List Af) (m : List Ty) (oa : Option Addr) (c : Nat) (ob : Option Addr) (c' : Nat) : Prop where
 names : Strs I oa l c
 types : Forms I ob (m.map Ty.tree) c'
 len : l.length = m.length
 small : smallL m
theorem EnvAt.mono {I I' : Heap} (hle : HLe I I') {l : List Af} {m : List Ty} {oa : Option Addr} {c : Nat} {ob : Option Addr} {c' : Nat} (h : EnvAt I l m oa c ob c') : EnvAt I' l m oa c ob c' :=
 ⟨h.names.mono hle, h.types.mono hle, h.len, h.small⟩
def RV (l : List Af) (m : List Ty) (L : At) : A5 := fun v I' L' => ∃ oa c ob c', v = .agg [.slice oa (List.length l) c, .slice ob (List.map Ty.tree m).length c'].toArray ∧ EnvAt I' l m oa c ob c' ∧ L = L'
theorem Fh {I : Heap} {L L' : At} {a : Addr} {vs : List Value} (h : Do I L a vs) (hs : ∀ w, Mem I L' w → Mem I L w) : Do I L' a vs := fun w hw => h w (hs w hw)
theorem Jc {I I' : Heap} (hle : HLe I I') {L : At} {a : Addr} {vs : List Value} (h : Do I L a vs) : Do I' L a vs := fun w hw => h w (hw.le hle)
theorem Qg (a : Addr) (o i : Nat) : (a.add o).add i = a.add (o + i) := by
 unfold Addr.add
 by_cases h1 : o = 0
 ·by_cases h2 : i = 0 <;> simp [h1, h2]
 ·by_cases h2 : i = 0
  ·simp [h1, h2]
  ·have : ¬ o + i = 0 := by omega
   simp [h1, h2, this, Nat.add_assoc]
theorem Oq {I : Heap} {L : At} {a : Addr} {vs us : List Value} {o k : Nat} (h : Do I L a vs) (hc : G5 o k vs = some us) : Do I L (a.add o) us := by
 intro w hw i hi; obtain ⟨h1, h2⟩ := G6 hc
 have h3 := h2 i (by omega)
 rw [List.getElem?_eq_getElem hi] at h3; obtain ⟨h4, h5⟩ := List.getElem?_eq_some_iff.1 h3; rw [Qg, h w hw (o + i) h4, h5]
theorem L2 {P : Program} {I : Heap} {L : At} {T : TypeId} {a : Addr} {vs : List Value} {fs : Array Field} {s b : Nat} {z : List Value} [ht : Ae P T (.struct fs) s b z] (h : Do I L a vs) (hl : vs.length = s) : C1 P I L T a (.agg vs.toArray) := Fo hl h
theorem N6 {P : Program} {I : Heap} {L : At} {T : TypeId} {a : Addr} {vs : List Value} {v : Value} {o : Nat} {d : TypeDesc} {s b : Nat} {z : List Value} [ht : Ae P T d s b z] (h : Do I L a vs) (hc : G5 o 1 vs = some [v]) (hd : G2 d = true) : C1 P I L T (a.add o) v := Ct hd (Oq h hc)
structure Have (I : Heap) (L : At) (oh : Option Addr) (ts : List Ty) : Prop where
 rep : ∀ k (hk : k < ts.length), ∃ o1 c1, Rep I ts[k].tree [.string (str ts[k].tree.atom), .slice o1 ts[k].tree.parts.length c1] ∧ Do I L ((K8 oh).add (k * 2)) [.string (str ts[k].tree.atom), .slice o1 ts[k].tree.parts.length c1]
 nil : oh = none → ts.length = 0
theorem Have.mono {I I' : Heap} (hle : HLe I I') {L : At} {oh : Option Addr} {ts : List Ty} (h : Have I L oh ts) : Have I' L oh ts :=
 ⟨fun k hk => by obtain ⟨o1, c1, h1, h2⟩ := h.rep k hk; exact ⟨o1, c1, h1.mono hle, Jc hle h2⟩, h.nil⟩
theorem Have.sub {I : Heap} {L L' : At} {oh : Option Addr} {ts : List Ty} (h : Have I L oh ts) (hs : ∀ w, Mem I L' w → Mem I L w) : Have I L' oh ts :=
 ⟨fun k hk => by obtain ⟨o1, c1, h1, h2⟩ := h.rep k hk; exact ⟨o1, c1, h1, Fh h2 hs⟩, h.nil⟩
def JO (r : Option Ty) (L : At) : A5 := fun v I' L' => ∃ u cs ok, v = .tuple #[.agg cs.toArray, .bool ok] ∧ Rep I' u cs ∧ L = L' ∧ match r with | some t => ok = true ∧ u = t.tree | none => ok = false
end Go.Proofs.YtbmgbhfeifgciaaDoor
