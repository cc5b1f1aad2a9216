/- The type of an expression by its text, by the reference: the walk. No conditions. -/
import Derived.Test.YtmfagaajiakgoaaGreatDoorG9

namespace Go.Proofs.YtmfagaajiakgoaaGreatDoor
set_option maxRecDepth 100000
set_option linter.unusedVariables false
set_option linter.unusedSimpArgs false

structure EnvG (I : Heap) (l : List As) (m : List Ty) (oa : Option Addr) (c : Nat) (ob : Option Addr) (c' : Nat) : Prop where
 names : Strs I oa l c
 types : Strs I ob (tx m) c'
 len : l.length = m.length
 small : smallL m
theorem EnvG.mono {I I' : Heap} (hle : HLe I I') {l : List As} {m : List Ty} {oa : Option Addr} {c : Nat} {ob : Option Addr} {c' : Nat} (h : EnvG I l m oa c ob c') : EnvG I' l m oa c ob c' :=
 ⟨h.names.mono hle, h.types.mono hle, h.len, h.small⟩
structure GS where
 J : Heap
 i : Nat
 b : Nat
 sp : List Value
 c : Nat
def gv (e : Ex) (l : List As) (m : List Ty) (i : Nat) : List Value := (((e.sub.take i).map fun a => a.ty l m).map tyT).map sv
theorem Jg {l : List As} {s : As} {i : Nat} (h : B7 l s = some i) : s ∈ l := by
 obtain ⟨h1, h2⟩ := Ki (show Fz l s l.length = some i from h); rw [← h2]; simp [h1]
theorem Z3 {l : List As} {m : List Ty} {s : As} {t : Ty} (h : Ge l m s = some t) : s ∈ l := by
 unfold Ge at h
 cases hi : B7 l s with
 | none => rw [hi] at h; cases h
 | some i => exact Jg hi
theorem Ex.chk_occ : ∀ {e : Ex} {l : List As} {m : List Ty} {t : Ty}, e.chk l m = .ok t → ∀ x ∈ e.occ [], x ∈ l
 | .num _, l, m, t, h, x, hx => by cases hx
 | .name s, l, m, t, h, x, hx => by
  simp only [Ex.occ, List.not_mem_nil, if_false, List.mem_singleton] at hx
  subst hx
  simp only [Ex.chk] at h
  split at h
  ·rename_i h1; exact Z3 h1
  ·cases h
 | .bin o a b, l, m, t, h, x, hx => by
  simp only [Ex.occ, List.mem_append] at hx
  simp only [Ex.chk] at h
  split at h
  ·cases h
  ·rename_i h1
   split at h
   ·cases h
   ·rename_i h2
    rcases hx with hx | hx
    ·exact Ex.chk_occ h1 x hx
    ·exact Ex.chk_occ h2 x hx
 | .ite a b c, l, m, t, h, x, hx => by
  simp only [Ex.occ, List.mem_append] at hx
  simp only [Ex.chk] at h
  split at h
  ·cases h
  ·rename_i h1
   split at h
   ·cases h
   ·rename_i h2
    split at h
    ·cases h
    ·rename_i h3
     rcases hx with (hx | hx) | hx
     ·exact Ex.chk_occ h1 x hx
     ·exact Ex.chk_occ h2 x hx
     ·exact Ex.chk_occ h3 x hx
 | .lt y a b, l, m, t, h, x, hx => by
  simp only [Ex.occ, List.mem_append, List.nil_append] at hx
  simp only [Ex.chk] at h
  split at h
  ·cases h
  ·rename_i h1
   rcases hx with hx | hx
   ·exact Ex.chk_occ h1 x hx
   ·rw [Ex.occ_mem] at hx
    have := Ex.chk_occ h x hx.1
    rcases List.mem_append.1 this with h2 | h2
    ·exact h2
    ·exact absurd h2 hx.2
 | .fn f y s t b, l, m, u, h, x, hx => by
  simp only [Ex.occ, List.nil_append] at hx
  rw [Ex.occ_mem] at hx
  simp only [Ex.chk] at h
  split at h
  ·split at h
   ·cases h
   ·rename_i h2
    have := Ex.chk_occ h2 x hx.1
    rcases List.mem_append.1 this with h3 | h3
    ·exact h3
    ·exact absurd h3 hx.2
  ·cases h
 | .un o a, l, m, t, h, x, hx => by
  simp only [Ex.occ] at hx
  simp only [Ex.chk] at h
  split at h
  ·cases h
  ·rename_i h1; exact Ex.chk_occ h1 x hx
theorem Ex.ty_occ {e : Ex} {l : List As} {m : List Ty} {t : Ty} (h : e.ty l m = some t) : ∀ x ∈ e.occ [], x ∈ l := by
 unfold Ex.ty at h
 split at h
 ·exact Ex.chk_occ Df
 ·cases h
theorem Ex.ty_closed {e : Ex} {t : Ty} (h : e.ty [] [] = some t) : e.closed = true := by
 unfold Ex.closed
 rw [List.isEmpty_iff]
 exact List.eq_nil_iff_forall_not_mem.2 fun x hx => by have := Ex.ty_occ h x hx; cases this
def tyC (s : As) : Option Ty := (Fo s).bind fun e => e.ty [] []
theorem Iz {s : As} {e : Ex} (h : Cr s = some e) : Fo s = some e ∧ e.ok = true ∧ e.size ≤ 120 ∧ e.tree.len ≤ 12000 ∧ e.closed = true := by
 obtain ⟨h1, h2⟩ := H4 h
 have h3 := (Nw h1).2.1
 simp only [Ex.fine, Bool.and_eq_true, Tree.fits, decide_eq_true_eq] at h3
 exact ⟨h1, h3.1.1, h3.1.2, h3.2.2, h2⟩
theorem Afc {e : Ex} (h : e.ok = true) : (decide (e.tree.size ≤ 120) && e.tree.fits && e.tree.ex.isSome) = e.fine := by
 simp [Ex.tree_size, Ex.tree_ex h, Ex.fine, h]
theorem Ac5 {I : Heap} {e : Ex} {cs : List Value} (h : Rep I e.tree cs) (hok : e.ok = true) (hz : e.tree.len ≤ 12000000) (L : Bj) : Fun Tryz.prog 91 [.agg cs.toArray] I L (E2 (.bool e.fine) I L) := by
 rw [← Afc hok]; exact J9 h (Ex.tree_good hok).1 hz L
def Ex.flt (e : Ex) (l : List As) (m : List Ty) : As := match e.chk l m with
 | .ok _ => []
 | .error x => x.tree.text
structure FS where
 J : Heap
 ts : List Ty
def FS.is (e : Ex) (l : List As) (m : List Ty) (J0 : Heap) (x : FS) : Prop := HLe J0 x.J ∧ x.ts.length ≤ e.sub.length ∧ smallL x.ts ∧
 e.runs l m = e.run l m (e.sub.drop x.ts.length) ((D2 e.tree).drop x.ts.length) x.ts ∧ (∀ y a b, e = .lt y a b → x.ts.length = 1 → a.chk l m = .ok (x.ts.getD 0 .i))
def Ahv (s : As) : Option As := match Cr s with
 | some e => match e.chk [] [] with
  | .error x => some x.tree.text
  | .ok _ => none
 | none => none
end Go.Proofs.YtmfagaajiakgoaaGreatDoor
