/- Environments of types, by the program: one name more, the environment of a part. No conditions. -/
import Derived.Test.YtdgpnibnogdllaaGreatDoorG7
namespace Go.Proofs.YtdgpnibnogdllaaGreatDoor
set_option maxRecDepth 100000
set_option linter.unusedVariables false
set_option linter.unusedSimpArgs false

section rules
variable {P : Program} {f : FuncId} {n : Nat} {I₀ : Heap} {Q : Post} {k : List Item} {E : Env} {I : Heap} {L : Own}
variable {ops : Array Oper} {S : World → Prop} {fuel : Nat} {listed : Array Bool}
theorem forms_buf {I : Heap} {e : TypeId} {ts : List Tree} {vs : List Value} {B : Buf} {m c : Nat} (hl : RepL I ts vs) (hB : BufOk 2 m c vs B) (hm : m = ts.length) (hn : ts.length ≤ maxN) :
  (B = none ∧ ts = []) ∨ ∃ b sp, B = some (b, sp) ∧ bufOwn e vs B = [(b, .cells (vs ++ sp).toArray e (0, 0))] ∧ ts.length ≤ c := by
 cases B with
 | none =>
  obtain ⟨h1, h2, h3⟩ := hB
  exact .inl ⟨rfl, List.length_eq_zero_iff.1 (by omega)⟩
 | some p => exact .inr ⟨p.1, p.2, rfl, rfl, by have := hB.2.1; omega⟩
theorem forms_none (I : Heap) : Forms I none [] 0 := ⟨⟨[], .nil, by simp⟩, fun _ => rfl, by simp, by simp [maxN]⟩
end rules

structure EnvAt (I : Heap) (l : List Txt) (m : List Ty) (oa : Option Addr) (c : Nat) (ob : Option Addr) (c' : Nat) : Prop where
 names : Strs I oa l c
 types : Forms I ob (m.map Ty.tree) c'
 len : l.length = m.length
 small : smallL m
theorem EnvAt.mono {I I' : Heap} (hle : HLe I I') {l : List Txt} {m : List Ty} {oa : Option Addr} {c : Nat} {ob : Option Addr} {c' : Nat} (h : EnvAt I l m oa c ob c') : EnvAt I' l m oa c ob c' :=
 ⟨h.names.mono hle, h.types.mono hle, h.len, h.small⟩
/-- What gives an environment returns. -/
def RV (l : List Txt) (m : List Ty) (L : Own) : Post := fun v I' L' => ∃ oa c ob c', v = .agg [.slice oa (List.length l) c, .slice ob (List.map Ty.tree m).length c'].toArray ∧ EnvAt I' l m oa c ob c' ∧ L = L'
end Go.Proofs.YtdgpnibnogdllaaGreatDoor
