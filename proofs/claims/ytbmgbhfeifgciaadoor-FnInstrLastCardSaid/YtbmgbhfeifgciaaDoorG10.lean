/- The type of an expression by its text, by the reference: the walk. No conditions. -/
import Derived.Test.YtbmgbhfeifgciaaDoorG9

namespace Go.Proofs.YtbmgbhfeifgciaaDoor
set_option maxRecDepth 100000
set_option linter.unusedVariables false
set_option linter.unusedSimpArgs false

structure EnvG (I : Heap) (l : List Af) (m : List Ty) (oa : Option Addr) (c : Nat) (ob : Option Addr) (c' : Nat) : Prop where
 names : Strs I oa l c
 types : Strs I ob (tx m) c'
 len : l.length = m.length
 small : smallL m
theorem EnvG.mono {I I' : Heap} (hle : HLe I I') {l : List Af} {m : List Ty} {oa : Option Addr} {c : Nat} {ob : Option Addr} {c' : Nat} (h : EnvG I l m oa c ob c') : EnvG I' l m oa c ob c' :=
 ⟨h.names.mono hle, h.types.mono hle, h.len, h.small⟩
structure GS where
 J : Heap
 i : Nat
 b : Nat
 sp : List Value
 c : Nat
def gv (e : Ex) (l : List Af) (m : List Ty) (i : Nat) : List Value := (((e.sub.take i).map fun a => a.ty l m).map Uh).map sv
theorem Fn {l : List Af} {s : Af} {i : Nat} (h : A3 l s = some i) : s ∈ l := by
 obtain ⟨h1, h2⟩ := Ka (show Et l s l.length = some i from h); rw [← h2]; simp [h1]
def Uo (s : Af) : Option Ty := (G7 s).bind fun e => e.ty [] []
def Ex.flt (e : Ex) (l : List Af) (m : List Ty) : Af := match e.chk l m with
 | .ok _ => []
 | .error x => x.tree.text
structure FS where
 J : Heap
 ts : List Ty
def FS.is (e : Ex) (l : List Af) (m : List Ty) (J0 : Heap) (x : FS) : Prop := HLe J0 x.J ∧ x.ts.length ≤ e.sub.length ∧ smallL x.ts ∧
 e.runs l m = e.run l m (e.sub.drop x.ts.length) ((Rs e.tree).drop x.ts.length) x.ts ∧ (∀ y a b, e = .lt y a b → x.ts.length = 1 → a.chk l m = .ok (x.ts.getD 0 .i))
def S7 (s : Af) : Option Af := match F5 s with
 | some e => match e.chk [] [] with
  | .error x => some x.tree.text
  | .ok _ => none
 | none => none
end Go.Proofs.YtbmgbhfeifgciaaDoor
