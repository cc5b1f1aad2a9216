/- Environments of types, by the program: one name more, the environment of a part. No conditions. -/
import Derived.Test.YtpfacnejglnjfaaGreatDoorG7
namespace Go.Proofs.YtpfacnejglnjfaaGreatDoor
set_option maxRecDepth 100000
set_option linter.unusedVariables false
set_option linter.unusedSimpArgs false

section rules
variable {P : Program} {f : FuncId} {n : Nat} {I₀ : Heap} {Q : Post} {k : List Item} {E : Env} {I : Heap} {L : Own}
variable {ops : Array Oper} {S : World → Prop} {fuel : Nat} {listed : Array Bool}
theorem forms_buf {I : Heap} {e : TypeId} {ts : List Tree} {vs : List Value} {B : Buf} {m c : Nat} (hl : RepL I ts vs) (hB : BufOk 2 m c vs B) (hm : m = ts.length) (hn : ts.length ≤ maxN) :
  (B = none ∧ ts = []) ∨ ∃ b sp, B = some (b, sp) ∧ bufOwn e vs B = [(b, .cells (vs ++ sp).toArray e (0, 0))] ∧ ts.length ≤ c := by
 cases B with
 | none =>
  obtain ⟨h1, h2, h3⟩ := hB
  exact .inl ⟨rfl, List.length_eq_zero_iff.1 (by omega)⟩
 | some p => exact .inr ⟨p.1, p.2, rfl, rfl, by have := hB.2.1; omega⟩
theorem forms_none (I : Heap) : Forms I none [] 0 := ⟨⟨[], .nil, by simp⟩, fun _ => rfl, by simp, by simp [maxN]⟩
theorem s_freezeForms {todo : List Item} {e : TypeId} {ts : List Tree} {vs : List Value} {B : Buf} {m c : Nat} (hl : RepL I ts vs) (hB : BufOk 2 m c vs B) (hm : m = ts.length) (hn : ts.length ≤ maxN)
  (h : ∀ I' oa c', HLe I I' → bufVal m c B = .slice oa ts.length c' → Forms I' oa ts c' → RunS P f n I₀ Q todo E I' L) : RunS P f n I₀ Q todo E I (bufOwn e vs B ++ L) := by
 rcases forms_buf (e := e) hl hB hm hn with ⟨rfl, rfl⟩ | ⟨b, sp, rfl, _, hc⟩
 ·exact h I none 0 (.refl _) rfl (forms_none _)
 ·exact s_freeze fun hle => h _ (some ⟨b, 0, none⟩) c hle (by rw [← hm]; rfl) (forms_lit hl hle hc hn)
end rules

structure EnvAt (I : Heap) (l : List Txt) (m : List Ty) (oa : Option Addr) (c : Nat) (ob : Option Addr) (c' : Nat) : Prop where
 names : Strs I oa l c
 types : Forms I ob (m.map Ty.tree) c'
 len : l.length = m.length
 small : smallL m
theorem EnvAt.mono {I I' : Heap} (hle : HLe I I') {l : List Txt} {m : List Ty} {oa : Option Addr} {c : Nat} {ob : Option Addr} {c' : Nat} (h : EnvAt I l m oa c ob c') : EnvAt I' l m oa c ob c' :=
 ⟨h.names.mono hle, h.types.mono hle, h.len, h.small⟩
/-- What gives an environment returns. -/
def RV (l : List Txt) (m : List Ty) (L : Own) : Post := fun v I' L' => ∃ oa c ob c', v = .agg [.slice oa (List.length l) c, .slice ob (List.map Ty.tree m).length c'].toArray ∧ EnvAt I' l m oa c ob c' ∧ L = L'
theorem reads_sub {I : Heap} {L L' : Own} {a : Addr} {vs : List Value} (h : Reads I L a vs) (hs : ∀ w, Mem I L' w → Mem I L w) : Reads I L' a vs := fun w hw => h w (hs w hw)
theorem reads_mono {I I' : Heap} (hle : HLe I I') {L : Own} {a : Addr} {vs : List Value} (h : Reads I L a vs) : Reads I' L a vs := fun w hw => h w (hw.le hle)
theorem add_add (a : Addr) (o i : Nat) : (a.add o).add i = a.add (o + i) := by
 unfold Addr.add
 by_cases h1 : o = 0
 ·by_cases h2 : i = 0 <;> simp [h1, h2]
 ·by_cases h2 : i = 0
  ·simp [h1, h2]
  ·have : ¬ o + i = 0 := by omega
   simp [h1, h2, this, Nat.add_assoc]
theorem reads_cut {I : Heap} {L : Own} {a : Addr} {vs us : List Value} {o k : Nat} (h : Reads I L a vs) (hc : cutN o k vs = some us) : Reads I L (a.add o) us := by
 intro w hw i hi
 obtain ⟨h1, h2⟩ := cutN_get hc
 have h3 := h2 i (by omega)
 rw [List.getElem?_eq_getElem hi] at h3
 obtain ⟨h4, h5⟩ := List.getElem?_eq_some_iff.1 h3
 rw [add_add, h w hw (o + i) h4, h5]
theorem loads_rd {P : Program} {I : Heap} {L : Own} {T : TypeId} {a : Addr} {vs : List Value} {fs : Array Field} {s b : Nat} {z : List Value} [ht : TyIs P T (.struct fs) s b z] (h : Reads I L a vs) (hl : vs.length = s) : Loads P I L T a (.agg vs.toArray) := loads_struct hl h
theorem loads_rdF {P : Program} {I : Heap} {L : Own} {T : TypeId} {a : Addr} {vs : List Value} {v : Value} {o : Nat} {d : TypeDesc} {s b : Nat} {z : List Value} [ht : TyIs P T d s b z] (h : Reads I L a vs) (hc : cutN o 1 vs = some [v]) (hd : scalar d = true) : Loads P I L T (a.add o) v := loads_scalar hd (reads_cut h hc)
/-- A list of types' forms that lies in a block of the call's own, or nowhere. -/
structure Have (I : Heap) (L : Own) (oh : Option Addr) (ts : List Ty) : Prop where
 rep : ∀ k (hk : k < ts.length), ∃ o1 c1, Rep I ts[k].tree [.string (str ts[k].tree.atom), .slice o1 ts[k].tree.parts.length c1] ∧ Reads I L ((oad oh).add (k * 2)) [.string (str ts[k].tree.atom), .slice o1 ts[k].tree.parts.length c1]
 nil : oh = none → ts.length = 0
theorem Have.mono {I I' : Heap} (hle : HLe I I') {L : Own} {oh : Option Addr} {ts : List Ty} (h : Have I L oh ts) : Have I' L oh ts :=
 ⟨fun k hk => by obtain ⟨o1, c1, h1, h2⟩ := h.rep k hk; exact ⟨o1, c1, h1.mono hle, reads_mono hle h2⟩, h.nil⟩
theorem Have.sub {I : Heap} {L L' : Own} {oh : Option Addr} {ts : List Ty} (h : Have I L oh ts) (hs : ∀ w, Mem I L' w → Mem I L w) : Have I L' oh ts :=
 ⟨fun k hk => by obtain ⟨o1, c1, h1, h2⟩ := h.rep k hk; exact ⟨o1, c1, h1, reads_sub h2 hs⟩, h.nil⟩
def JO (r : Option Ty) (L : Own) : Post := fun v I' L' => ∃ u cs ok, v = .tuple #[.agg cs.toArray, .bool ok] ∧ Rep I' u cs ∧ L = L' ∧ match r with | some t => ok = true ∧ u = t.tree | none => ok = false
end Go.Proofs.YtpfacnejglnjfaaGreatDoor
