/- The run of one goroutine described by what is known of its slots, of memory that nothing changes any more, and of memory that the call owns: the rules of single steps. No conditions. -/
import Derived.Calls
import Derived.Orders
import Derived.Laws.Sem
import Derived.Tactics
import Derived.OrdersHeld
import Derived.KernelRfl

namespace Go.Proofs.YtmfagaajiakgoaaGreatDoor
set_option linter.unusedVariables false
set_option linter.unusedSimpArgs false
theorem Pd {p : Prop} (h : p := by intro y hy; simp only [List.mem_cons, List.not_mem_nil, or_false] at hy; rcases hy with rfl | rfl; exact hok.1.1.1.1.1; exact hok.1.1.1.1.2) : p := h
theorem Lo {p : Prop} (h : p := by have := Ma (Fq a + Fq b); have := Ma (Fq a - Fq b); have := Ma (Fq a * Fq b); omega) : p := h
theorem Bx {p : Prop} (h : p := by first | omega | exact Fx (by assumption) (by decide) | (simp; done) | (simp; omega) | decide | (simp at *; omega)) : p := h
theorem E5 {p : Prop} (h : p := by first | omega | (simp only [List.length_append, List.length_cons, List.length_nil]; omega) | (simp; omega)) : p := h
theorem A7 {p : Prop} (h : p := by repeat (first | exact List.Sublist.refl _ | apply List.Sublist.cons_cons | apply List.Sublist.cons)) : p := h
theorem Lp {p : Prop} (h : p := by first | exact fun _ h => h | exact fun _ h => h.f1 | exact fun _ h => h.f2 | exact fun _ h => h.f3) : p := h
theorem Lq {p : Prop} (h : p := by first | exact fun _ h => h | exact fun _ h => h.u1 | exact fun _ h => h.u2 | exact fun _ h => h.u3) : p := h
theorem Cq {p : Prop} (h : p := by first | omega | (simp only [List.length_append, List.length_cons, List.length_nil]; omega)) : p := h
theorem G7 {p : Prop} (h : p := by repeat first | exact .head _ | apply List.Mem.tail | apply List.mem_append_right) : p := h
theorem Pe {p : Prop} (h : p := by exact fun h2 => by have h3 := (Ex.atom_iff hok).1 h2; rw [hb] at h3; cases h3) : p := h
theorem Ht {p : Prop} (h : p := by simp only [List.length_append, List.length_cons, List.length_nil]; omega) : p := h
theorem Nr {p : Prop} (h : p := by first | exact .inl (by omega) | exact .inr ⟨by omega, by assumption⟩) : p := h
theorem Ns {p : Prop} (h : p := by simp only [List.length_cons, List.length_nil]; unfold Bg; omega) : p := h
theorem Nt {p : Prop} (h : p := by simp only [Ex.step, Pb hs, if_true, hs, Option.map_some]) : p := h
theorem Hu {p : Prop} (h : p := by rw [List.length_append]; exact Ex.binds_room0 (by omega)) : p := h
theorem Ay {p : Prop} (h : p := by first | rfl | decide | (simp; done) | omega) : p := h
theorem Gn {p : Prop} (h : p := by rw [ha]; exact Nat.blt_eq ▸ hdn) : p := h
theorem Ej {p : Prop} (h : p := by rw [hp0]; cases o <;> decide) : p := h
theorem Il {p : Prop} (h : p := by rw [hhd]; cases o <;> decide) : p := h
theorem Im {p : Prop} (h : p := by simp [hxf, hxi, hxfd, hxid]) : p := h
theorem In {p : Prop} (h : p := by simpa [Act.put] using hds) : p := h
theorem Ek {p : Prop} (h : p := by simp [Ex.tree, Tree.atom]) : p := h
theorem Ff {p : Prop} (h : p := by have := hcl.length; omega) : p := h
theorem Dp {p : Prop} (h : p := by first | rfl | assumption) : p := h
theorem Jc {p : Prop} (h : p := by unfold Bg; simp; omega) : p := h
theorem Io {p : Prop} (h : p := by simp; unfold Bg; omega) : p := h
theorem Ar {p : Prop} (h : p := by simp [look, Ch, *]) : p := h
theorem Gp {p : Prop} (h : p := by simp [Act.put, ha]) : p := h
theorem Hb {p : Prop} (h : p := by simp [Bg]; omega) : p := h
theorem C3 {p : Prop} (h : p := by unfold Bg; omega) : p := h
theorem Hc {p : Prop} (h : p := by rw [Nat.zero_add]) : p := h
theorem Dq {p : Prop} (h : p := by simp only; omega) : p := h
theorem Gf {p : Prop} (h : p := by rw [hp0]; decide) : p := h
theorem D0 {p : Prop} (h : p := by simp [Ex.binds]) : p := h
theorem Fv {p : Prop} (h : p := by simpa using c0) : p := h
theorem Av {p : Prop} (h : p := by intro kk; simp) : p := h
theorem F7 {p : Prop} (h : p := by congr 1; omega) : p := h
theorem Dr {p : Prop} (h : p := by simp; omega) : p := h
theorem Bf {p : Prop} (h : p := by simp [Bg]) : p := h
theorem Df {p : Prop} (h : p := by assumption) : p := h
theorem Af {p : Prop} (h : p := by kernel_rfl) : p := h
theorem D6 {p : Prop} (h : p := by simp [hft]) : p := h
theorem Ad {p : Prop} (h : p := by decide) : p := h
theorem Aa {p : Prop} (h : p := by omega) : p := h
theorem Ae {p : Prop} (h : p := by simp) : p := h
theorem Ac {p : Prop} (h : p := by rfl) : p := h

abbrev Hg := List (Nat × Value)
structure Heap where
 get : Nat → Option Obj
 os : Os
 out : Array (Nat × ByteArray)
instance : CoeFun Heap (fun _ => Nat → Option Obj) := ⟨Heap.get⟩
abbrev Bj := List (Nat × Obj)

def look : Hg → Nat → Option Value
 | [], _ => none
 | (k, v) :: E, t => bif Nat.beq k t then some v else look E t

def EnvOk (E : Hg) (a : Act) : Prop := ∀ t v, look E t = some v → a.tmps[t]? = some v

theorem Fw (k t : Nat) (v : Value) (E : Hg) : look ((k, v) :: E) t = if k = t then some v else look E t := by
 simp only [look]
 by_cases h : k = t
 ·subst h; simp
 ·have : Nat.beq k t = false := by
   cases hb : Nat.beq k t with
   | false => rfl
   | true => exact absurd (Nat.eq_of_beq_eq_true hb) h
  simp [this, h]

theorem EnvOk.put {E : Hg} {a : Act} {d : Nat} {v : Value} (h : EnvOk E a) (hd : d < a.tmps.size) : EnvOk ((d, v) :: E) (a.put (some d) v) := by
 intro t u hu; rw [Fw] at hu
 by_cases e : d = t
 ·subst e
  simp at hu
  subst hu
  simp [Act.put, Array.getElem?_setIfInBounds_self, hd]
 ·simp [e] at hu
  simp only [Act.put]
  rw [Array.getElem?_setIfInBounds_ne e]
  exact h t u hu

def Ch (E : Hg) : Operand → Option Value
 | .tmp t => look E t
 | .const v => some v
 | .global g => some (.pointer (some ⟨g, 0, none⟩))
 | .func f => some (.func (.func f) #[] #[])

def I9 (E : Hg) : List Operand → Option (List Value)
 | [] => some []
 | x :: xs => match Ch E x with
  | some v => match I9 E xs with
   | some vs => some (v :: vs)
   | none => none
  | none => none

theorem EnvOk.eval {E : Hg} {a : Act} (h : EnvOk E a) {x : Operand} {v : Value} (hx : Ch E x = some v) : a.eval x = v := by
 cases x with
 | tmp t => have := h t v hx; simp [Act.eval, this]
 | const u => simpa [Ch, Act.eval] using hx
 | global g => simpa [Ch, Act.eval] using hx
 | func f => simpa [Ch, Act.eval] using hx

theorem EnvOk.evals {E : Hg} {a : Act} (h : EnvOk E a) : ∀ {xs : List Operand} {vs : List Value}, I9 E xs = some vs → xs.map a.eval = vs := by
 intro xs
 induction xs with
 | nil => intro vs hv; simp [I9] at hv; simp [hv]
 | cons x xs ih =>
  intro vs hv
  simp only [I9] at hv
  cases hx : Ch E x with
  | none => simp [hx] at hv
  | some v =>
   cases hxs : I9 E xs with
   | none => simp [hx, hxs] at hv
   | some us =>
    simp [hx, hxs] at hv
    subst hv
    simp [h.eval hx, ih hxs]

/- Memory: what stays as it is, and what the call owns. -/
def Mem (I : Heap) (L : Bj) (w : World) : Prop :=
 ((∀ b o, I b = some o → w.heap[b]? = some o) ∧ w.os = I.os ∧ w.output = I.out) ∧ (∀ p ∈ L, w.heap[p.1]? = some p.2 ∧ I p.1 = none) ∧ (L.map (·.1)).Nodup

class HLe (I I' : Heap) : Prop where
 le : ∀ b o, I b = some o → I' b = some o
 os : I'.os = I.os
 out : I'.out = I.out
instance HLe.refl (I : Heap) : HLe I I := ⟨fun _ _ h => h, rfl, rfl⟩
theorem HLe.trans {I J K : Heap} (h : HLe I J) (h' : HLe J K) : HLe I K := ⟨fun b o x => h'.le b o (h.le b o x), h'.os.trans h.os, h'.out.trans h.out⟩

def Heap.set (I : Heap) (b : Nat) (o : Obj) : Heap := { I with get := fun c => if c = b then some o else I c }

theorem Mem.drop {I : Heap} {p : Nat × Obj} {L : Bj} {w : World} (h : Mem I (p :: L) w) : Mem I L w :=
 ⟨h.1, fun q hq => h.2.1 q (.tail _ hq), (List.nodup_cons.1 (by simpa using h.2.2)).2⟩

theorem Mem.freeze {I : Heap} {b : Nat} {o : Obj} {L : Bj} {w : World} (h : Mem I ((b, o) :: L) w) : Mem (I.set b o) L w ∧ HLe I (I.set b o) := by
 obtain ⟨h1, h2, h3⟩ := h
 have hb := h2 (b, o) (.head _)
 have hn : b ∉ L.map (·.1) ∧ (L.map (·.1)).Nodup := by simpa using h3
 refine ⟨⟨⟨?_, h1.2⟩, ?_, hn.2⟩, ⟨?_, rfl, rfl⟩⟩
 ·intro c u hc
  simp only [Heap.set] at hc
  by_cases e : c = b
  ·subst e; simp at hc; subst hc; exact hb.1
  ·simp [e] at hc; exact h1.1 c u hc
 ·intro q hq; refine ⟨(h2 q (.tail _ hq)).1, ?_⟩
  have hne : q.1 ≠ b := fun e => hn.1 (e ▸ List.mem_map.2 ⟨q, hq, rfl⟩)
  simp only [Heap.set, hne, if_false]
  exact (h2 q (.tail _ hq)).2
 ·intro c u hc
  have hne : c ≠ b := fun e => by subst e; simp [hb.2] at hc
  simpa [Heap.set, hne] using hc

theorem Mem.alloc {I : Heap} {L : Bj} {w : World} (h : Mem I L w) (o : Obj) :
  Mem I ((w.heap.size, o) :: L) { w with heap := w.heap.push o } := by
 obtain ⟨h1, h2, h3⟩ := h
 have lt : ∀ b u, w.heap[b]? = some u → b < w.heap.size := fun b u hu => by
  rcases Nat.lt_or_ge b w.heap.size with g | g
  ·exact g
  ·simp [Array.getElem?_eq_none g] at hu
 have keep : ∀ b u, w.heap[b]? = some u → (w.heap.push o)[b]? = some u := fun b u hu => by
  have := lt b u hu
  rw [Array.getElem?_push]
  simp [Nat.ne_of_lt this, hu]
 refine ⟨⟨fun b u hu => keep b u (h1.1 b u hu), h1.2⟩, ?_, ?_⟩
 ·intro q hq
  cases hq with
  | head =>
   refine ⟨by simp, ?_⟩
   cases hi : I w.heap.size with
   | none => rfl
   | some u => have := lt _ _ (h1.1 _ _ hi); omega
  | tail _ hq => exact ⟨keep _ _ (h2 q hq).1, (h2 q hq).2⟩
 ·have hn : w.heap.size ∉ L.map (·.1) := by
   intro hm; obtain ⟨q, hq, e⟩ := List.mem_map.1 hm
   have := lt _ _ (h2 q hq).1
   omega
  simpa using ⟨by simpa using hn, h3⟩

theorem Mem.le {I I' : Heap} {L : Bj} {w : World} (hle : HLe I I') (h : Mem I' L w) : Mem I L w := by
 obtain ⟨h1, h2, h3⟩ := h; refine ⟨⟨fun b o hb => h1.1 b o (hle.le b o hb), h1.2.1.trans hle.os, h1.2.2.trans hle.out⟩, fun p hp => ⟨(h2 p hp).1, ?_⟩, h3⟩
 cases hi : I p.1 with
 | none => rfl
 | some o => have := hle.le _ _ hi; rw [(h2 p hp).2] at this; cases this

theorem Mem.drew {I : Heap} {L : Bj} {w : World} (h : Mem I L w) (n : Nat) : Mem I L { w with drawn := n } := h

/- One owned block's content exchanged. -/
inductive Upd (b : Nat) (o' : Obj) : Obj → Bj → Bj → Prop
 | here {o : Obj} {L : Bj} : Upd b o' o ((b, o) :: L) ((b, o') :: L)
 | there {o : Obj} {L L' : Bj} {p : Nat × Obj} (h : Upd b o' o L L') : Upd b o' o (p :: L) (p :: L')

theorem Upd.mem {b : Nat} {o o' : Obj} {L L' : Bj} (h : Upd b o' o L L') : (b, o) ∈ L ∧ (b, o') ∈ L' := by
 induction h with
 | here => exact ⟨.head _, .head _⟩
 | there _ ih => exact ⟨.tail _ ih.1, .tail _ ih.2⟩

theorem Upd.keys {b : Nat} {o o' : Obj} {L L' : Bj} (h : Upd b o' o L L') : L'.map (·.1) = L.map (·.1) := by
 induction h with
 | here => rfl
 | there _ ih => simp [ih]

theorem Upd.other {b : Nat} {o o' : Obj} {L L' : Bj} (h : Upd b o' o L L') (hn : (L.map (·.1)).Nodup) : ∀ p ∈ L', p = (b, o') ∨ (p.1 ≠ b ∧ p ∈ L) := by
 induction h with
 | @here L =>
  intro p hp
  have hn' : b ∉ L.map (·.1) ∧ (L.map (·.1)).Nodup := List.nodup_cons.1 hn
  cases hp with
  | head => exact .inl rfl
  | tail _ hp => exact .inr ⟨fun e => hn'.1 (e ▸ List.mem_map.2 ⟨p, hp, rfl⟩), .tail _ hp⟩
 | @there L L' q h ih =>
  intro p hp
  have hn' : q.1 ∉ L.map (·.1) ∧ (L.map (·.1)).Nodup := List.nodup_cons.1 hn
  cases hp with
  | head =>
   refine .inr ⟨fun e => ?_, .head _⟩
   exact hn'.1 (e ▸ List.mem_map.2 ⟨_, h.mem.1, rfl⟩)
  | tail _ hp =>
   rcases ih hn'.2 p hp with e | ⟨e, m⟩
   ·exact .inl e
   ·exact .inr ⟨e, .tail _ m⟩

theorem Mem.upd {I : Heap} {L L' : Bj} {w : World} {b : Nat} {o o' : Obj} (h : Mem I L w) (hu : Upd b o' o L L') :
  Mem I L' { w with heap := w.heap.setIfInBounds b o' } := by
 obtain ⟨h1, h2, h3⟩ := h
 have hb := h2 _ hu.mem.1
 have lt : b < w.heap.size := by
  rcases Nat.lt_or_ge b w.heap.size with g | g
  ·exact g
  ·have := hb.1; simp [Array.getElem?_eq_none g] at this
 refine ⟨⟨?_, h1.2⟩, ?_, by rw [hu.keys]; exact h3⟩
 ·intro c u hc
  have hne : b ≠ c := fun e => by subst e; have := hb.2; simp [hc] at this
  simpa [Array.getElem?_setIfInBounds_ne hne] using h1.1 c u hc
 ·intro p hp
  rcases hu.other h3 p hp with e | ⟨e, m⟩
  ·subst e
   exact ⟨by simp [Array.getElem?_setIfInBounds_self, lt], hb.2⟩
  ·refine ⟨?_, (h2 p m).2⟩
   simpa [Array.getElem?_setIfInBounds_ne (Ne.symm e)] using (h2 p m).1

theorem Fx {i m b : Nat} (h : m = b) (hlt : i < b) : i < m := by omega
section short
variable {α : Type} {x a b c d e g : α} {l : List α}
theorem m0 : x ∈ x :: l := .head _
theorem m1 : x ∈ a :: x :: l := .tail _ m0
theorem m2 : x ∈ a :: b :: x :: l := .tail _ m1
theorem m3 : x ∈ a :: b :: c :: x :: l := .tail _ m2
theorem m4 : x ∈ a :: b :: c :: d :: x :: l := .tail _ m3
theorem m5 : x ∈ a :: b :: c :: d :: e :: x :: l := .tail _ m4
theorem m6 : x ∈ a :: b :: c :: d :: e :: g :: x :: l := .tail _ m5
end short
section short
variable {b : Nat} {o o' : Obj} {L : Bj} {p p1 p2 p3 p4 p5 : Nat × Obj}
theorem u0 : Upd b o' o ((b, o) :: L) ((b, o') :: L) := .here
theorem u1 : Upd b o' o (p :: (b, o) :: L) (p :: (b, o') :: L) := .there .here
theorem u2 : Upd b o' o (p :: p1 :: (b, o) :: L) (p :: p1 :: (b, o') :: L) := .there u1
theorem u3 : Upd b o' o (p :: p1 :: p2 :: (b, o) :: L) (p :: p1 :: p2 :: (b, o') :: L) := .there u2
theorem u4 : Upd b o' o (p :: p1 :: p2 :: p3 :: (b, o) :: L) (p :: p1 :: p2 :: p3 :: (b, o') :: L) := .there u3
theorem u5 : Upd b o' o (p :: p1 :: p2 :: p3 :: p4 :: (b, o) :: L) (p :: p1 :: p2 :: p3 :: p4 :: (b, o') :: L) := .there u4
theorem u6 : Upd b o' o (p :: p1 :: p2 :: p3 :: p4 :: p5 :: (b, o) :: L) (p :: p1 :: p2 :: p3 :: p4 :: p5 :: (b, o') :: L) := .there u5
theorem dr1 {I : Heap} {w : World} (h : Mem I (p :: L) w) : Mem I L w := h.drop
theorem dr2 {I : Heap} {w : World} (h : Mem I (p :: p1 :: L) w) : Mem I L w := h.drop.drop
theorem dr3 {I : Heap} {w : World} (h : Mem I (p :: p1 :: p2 :: L) w) : Mem I L w := h.drop.drop.drop
theorem dr4 {I : Heap} {w : World} (h : Mem I (p :: p1 :: p2 :: p3 :: L) w) : Mem I L w := h.drop.drop.drop.drop
theorem dr5 {I : Heap} {w : World} (h : Mem I (p :: p1 :: p2 :: p3 :: p4 :: L) w) : Mem I L w := h.drop.drop.drop.drop.drop
theorem Oo {I : Heap} {w : World} (h : Mem I (p :: p1 :: p2 :: p3 :: p4 :: p5 :: L) w) : Mem I L w := h.drop.drop.drop.drop.drop.drop
end short

/- A function's run from a point within it. -/
def base (f : FuncId) : Frame := { (default : Frame) with fn := f, kind := .normal }

def Run (P : Program) (f : FuncId) (R : Ending → World → Prop) (todo : List Item) (a : Act) (w : World) : Prop :=
 ∀ cs, ∃ e w' fr, R e w' ∧ Comes P (lone ((base f).at a todo) cs w) (lone fr cs w') e ∧ fr.fn = f ∧ fr.leaving P w' e

theorem Run.step {P : Program} {f : FuncId} {R : Ending → World → Prop} {todo todo' : List Item} {a a' : Act} {w w' : World}
  (hs : ∀ cs, step P (lone ((base f).at a todo) cs w) = .next (lone ((base f).at a' todo') cs w')) (h : Run P f R todo' a' w') : Run P f R todo a w :=
 fun cs => let ⟨e, w₁, fr, r, c, rest⟩ := h cs; ⟨e, w₁, fr, r, .of_steps (.one (hs cs)) c, rest⟩

theorem Run.steps {P : Program} {f : FuncId} {R : Ending → World → Prop} {todo todo' : List Item} {a a' : Act} {w w' : World}
  (hs : ∀ cs, Steps P (lone ((base f).at a todo) cs w) (lone ((base f).at a' todo') cs w')) (h : Run P f R todo' a' w') : Run P f R todo a w :=
 fun cs => let ⟨e, w₁, fr, r, c, rest⟩ := h cs; ⟨e, w₁, fr, r, .of_steps (hs cs) c, rest⟩

abbrev Cv := Value → Heap → Bj → Prop

def Ae0 (I : Heap) (Q : Cv) (e : Ending) (w' : World) : Prop := ∃ v I' L', e = .returned v ∧ HLe I I' ∧ Mem I' L' w' ∧ Q v I' L'

structure Fun (P : Program) (f : FuncId) (vs : List Value) (I : Heap) (L : Bj) (Q : Cv) : Prop where
 run : ∀ w, Mem I L w → Calls P f vs.toArray w (Ae0 I Q)

def RunS (P : Program) (f : FuncId) (n : Nat) (I₀ : Heap) (Q : Cv) (todo : List Item) (E : Hg) (I : Heap) (L : Bj) : Prop :=
 ∀ a w, a.tmps.size = n → a.defers = [] → EnvOk E a → Mem I L w → Run P f (Ae0 I₀ Q) todo a w

def QK (P : Program) (f : FuncId) (n : Nat) (I₀ : Heap) (Q : Cv) (k : List Item) : Exit → Act → World → Prop
 | .normal, a, w => a.tmps.size = n ∧ a.defers = [] ∧ Run P f (Ae0 I₀ Q) k a w
 | _, _, _ => False

/- What is left out of what is owned. -/
class M3 (L L₀ : Bj) : Prop where
 sub : L₀.Sublist L
instance (L : Bj) : M3 L L := ⟨List.Sublist.refl _⟩
instance (p : Nat × Obj) (L L₀ : Bj) [h : M3 L L₀] : M3 (p :: L) L₀ := ⟨h.sub.cons _⟩
instance (p : Nat × Obj) (L L₀ : Bj) [h : M3 L L₀] : M3 (p :: L) (p :: L₀) := ⟨h.sub.cons_cons _⟩
instance (X L L₀ : Bj) [h : M3 L L₀] : M3 (X ++ L) L₀ := ⟨h.sub.trans (List.sublist_append_right _ _)⟩
theorem Mem.left {I : Heap} {L L' : Bj} {w : World} (hs : L'.Sublist L) (h : Mem I L w) : Mem I L' w :=
 ⟨h.1, fun p hp => h.2.1 p (hs.subset hp), (hs.map _).nodup h.2.2⟩
theorem Au {I I₀ : Heap} {L L₀ : Bj} [h : HLe I₀ I] [hs : M3 L L₀] : ∀ w, Mem I L w → Mem I₀ L₀ w := fun w hw => (hw.left hs.sub).le h

/- A region that draws its order. Until its first store comes up, 'S' holds; behind it nothing is asked of the world. -/
def Tq (ops : Array Oper) : Nat := ops.toList.findIdx fun o => match o.op with
 | .store .. => true
 | _ => false
def T1 (ops : Array Oper) (S : World → Prop) (listed : Array Bool) (w : World) : Prop := listed.getD (Tq ops) false = true ∨ S w
def T3 (P : Program) (ops : Array Oper) (Q : Exit → Act → World → Prop) (S : World → Prop) : Nat → Array Bool → Act → World → Prop
 | 0, listed, a, w => Region.ready .any ops listed = [] ∧ Q .normal a w
 | fuel + 1, listed, a, w => (Region.ready .any ops listed = [] → Q .normal a w) ∧
  ∀ i ∈ Region.ready .any ops listed, wpOp P ops Q i (fun a' w' => T1 ops S (listed.setIfInBounds i true) w' ∧ T3 P ops Q S fuel (listed.setIfInBounds i true) a' w') a w
theorem M5 {P : Program} {ops : Array Oper} {Q : Exit → Act → World → Prop} {S : World → Prop} : ∀ (fuel : Nat) (listed : Array Bool) (a : Act) (w : World), T3 P ops Q S fuel listed a w → wpAny P .any ops Q fuel listed a w
 | 0, _, _, _, h => h
 | fuel + 1, _, _, _, h => ⟨h.1, fun i hi => wpOp_mono (fun a' w' h' => M5 fuel _ a' w' h'.2) (h.2 i hi)⟩
def Q7 (ops : Array Oper) (i : Nat) (C : List Nat) (listed : Array Bool) : Bool :=
 C.all fun c => !(listed.getD c false) && match ops[c]? with
  | some o => o.after.any fun e => Region.binds .any e && (e.on == i || C.contains e.on)
  | none => true
theorem Y4 {ops : Array Oper} {i j : Nat} {C : List Nat} {listed : Array Bool} (h : Q7 ops i C listed = true) (hi : listed.getD i true = false) (hj : j ∈ Region.ready .any ops listed) : j ∉ C := by
 intro hC; obtain ⟨h0, o, ho, hall⟩ := mem_ready.1 hj
 have h1 := List.all_eq_true.1 h j hC
 simp only [ho, Bool.and_eq_true] at h1
 obtain ⟨e, he, hb⟩ := Array.any_eq_true'.1 h1.2
 simp only [Bool.and_eq_true, Bool.or_eq_true, beq_iff_eq] at hb
 have h2 := hall e he hb.1
 rcases hb.2 with rfl | hc
 ·rcases Nat.lt_or_ge e.on listed.size with g | g
  ·simp [g] at hi h2; rw [hi] at h2; cases h2
  ·simp [Array.getElem?_eq_none g] at h2
 ·have h3 := List.all_eq_true.1 h e.on (by simpa using hc)
  simp only [Bool.and_eq_true, Bool.not_eq_true'] at h3
  rw [h2] at h3; exact absurd h3.1 Ae
theorem Vl {ops : Array Oper} {i j : Nat} {C : List Nat} {listed : Array Bool} (h : Q7 ops i C listed = true) (hj : j ∉ C) : Q7 ops i C (listed.setIfInBounds j true) = true := by
 refine List.all_eq_true.2 fun c hc => ?_
 have h1 := List.all_eq_true.1 h c hc
 have e : (listed.setIfInBounds j true).getD c false = listed.getD c false := getD_set_ne false (fun e => hj (by rw [e]; exact hc))
 simp only [e]; exact h1
theorem Oy {P : Program} {ops : Array Oper} {Q : Exit → Act → World → Prop} {S S₀ : World → Prop} {C : List Nat} {i : Nat} {oi : Oper} {v : Value} (hi : ops[i]? = some oi) (hsel : ∀ (j : Nat) (o : Oper) cs b, ops[j]? = some o → o.op ≠ .select cs b)
  (hQ : ∀ c a w, Q (.panic c) (a.put oi.dst v) w → Q (.panic c) a w) (his : i ≠ Tq ops) (hS₀ : (∀ w, S₀ w) ∨ (Tq ops ∈ C ∧ ∀ w, S w → S₀ w)) :
  ∀ (fuel : Nat) (listed : Array Bool) (a : Act) (w : World),
   (∀ j oj, ops[j]? = some oj → j ≠ i → listed.getD j true = false → (∀ e ∈ oj.after, Region.binds .any e = true → e.on ≠ i) → oi.apart ops oj = true) →
   i ∈ Region.ready .any ops listed → Q7 ops i C listed = true → YieldsIf P ops S₀ oi v a → S₀ w → T1 ops S listed w →
   T3 P ops Q S fuel (listed.setIfInBounds i true) (a.put oi.dst v) w → T3 P ops Q S (fuel + 1) listed a w := by
 have heldi : ∀ (listed : Array Bool) (w : World), T1 ops S (listed.setIfInBounds i true) w ↔ T1 ops S listed w := fun listed w => by
  unfold T1; rw [getD_set_ne false his]
 intro fuel
 induction fuel with
 | zero =>
  intro listed a w _ hr _ hy hS hH H; refine ⟨fun h => (by rw [h] at hr; cases hr), fun j hj => ?_⟩
  by_cases hji : j = i
  ·subst hji; exact hy.wpOp hi hS ⟨(heldi _ _).2 hH, H⟩
  ·have := ready_mono hj hji
   rw [H.1] at this
   cases this
 | succ fuel ih =>
  intro listed a w hfree hr hC hy hS hH H; refine ⟨fun h => (by rw [h] at hr; cases hr), fun j hj => ?_⟩
  by_cases hji : j = i
  ·subst hji; exact hy.wpOp hi hS ⟨(heldi _ _).2 hH, H⟩
  ·have h1 := H.2 j (ready_mono hj hji)
   obtain ⟨hjun, oj, hoj, hall⟩ := mem_ready.1 hj
   have hiun := (mem_ready.1 hr).1
   have hjC := Y4 hC hiun hj
   have hnot : ∀ e ∈ oj.after, Region.binds .any e = true → e.on ≠ i := fun e he hb heq => by
    have h1 := hall e he hb
    rw [heq] at h1
    rcases Nat.lt_or_ge i listed.size with h' | h'
    ·simp [h'] at hiun h1; rw [hiun] at h1; cases h1
    ·simp [Array.getElem?_eq_none h'] at h1
   have h2 := wpOp_putIf hoj (hfree j oj hoj hji hjun hnot) (fun cs b => hsel i oi cs b hi) (fun cs b => hsel j oj cs b hoj) hQ hy h1
   have hfree' : ∀ k ok, ops[k]? = some ok → k ≠ i → (listed.setIfInBounds j true).getD k true = false →
     (∀ e ∈ ok.after, Region.binds .any e = true → e.on ≠ i) → oi.apart ops ok = true := fun k ok hk hki hun hno => by
    refine hfree k ok hk hki ?_ hno
    by_cases hjk : j = k
    ·subst hjk; exact hjun
    ·rw [getD_set_ne true hjk] at hun; exact hun
   refine wpOp_mono (fun a' w' h3 => ?_) h2
   have hheld : T1 ops S (listed.setIfInBounds j true) w' := by
    have := h3.2.1
    rw [Array.setIfInBounds_comm _ _ (Ne.symm hji)] at this
    exact (heldi _ _).1 this
   refine ⟨hheld, ih (listed.setIfInBounds j true) a' w' hfree' (ready_mono hr (Ne.symm hji)) (Vl hC hjC) h3.1 ?_ hheld ?_⟩
   ·rcases hS₀ with h | ⟨hst, h⟩
    ·exact h w'
    ·rcases hheld with hl | hs
     ·exfalso
      have := List.all_eq_true.1 (Vl hC hjC) _ hst
      simp only [Bool.and_eq_true, Bool.not_eq_true'] at this
      rw [hl] at this; exact absurd this.1 Ae
     ·exact h w' hs
   ·rw [Array.setIfInBounds_comm _ _ hji]
    exact h3.2.2

def A8 (P : Program) (f : FuncId) (n : Nat) (I₀ : Heap) (Q : Cv) (ops : Array Oper) (l : List Oper) (k : List Item) (E : Hg) (I : Heap) (L : Bj) : Prop :=
 ∀ a w, a.tmps.size = n → a.defers = [] → EnvOk E a → Mem I L w → wpList P ops (QK P f n I₀ Q k) l a w

def C0 (P : Program) (f : FuncId) (n : Nat) (I₀ : Heap) (Q : Cv) (ops : Array Oper) (S : World → Prop) (fuel : Nat) (listed : Array Bool) (k : List Item) (E : Hg) (I : Heap) (L : Bj) : Prop :=
 ∀ a w, a.tmps.size = n → a.defers = [] → EnvOk E a → Mem I L w → T3 P ops (QK P f n I₀ Q k) S fuel listed a w

theorem Fun.mono {P : Program} {f : FuncId} {vs : List Value} {I : Heap} {L : Bj} {Q Q' : Cv} (h : Fun P f vs I L Q)
  (hq : ∀ v I' L', HLe I I' → Q v I' L' → Q' v I' L') : Fun P f vs I L Q' :=
 ⟨fun w hw => (h.run w hw).mono fun _ _ ⟨v, I', L', he, hle, hm, q⟩ => ⟨v, I', L', he, hle, hm, hq v I' L' hle q⟩⟩

class Bq (P : Program) (f : FuncId) (c : outParam Code) (n : outParam Nat) (rs : outParam (List ResultVar)) : Prop where
 get : ∃ fn, P.funcs[f]? = some fn ∧ fn.body = some c ∧ fn.ntmps = n ∧ fn.results = rs.toArray ∧ (fn.name == "runtime.NumGoroutine") = false

def Sc : Nat → List Value → Hg
 | _, [] => []
 | k, v :: vs => (k, v) :: Sc (k + 1) vs

theorem Xa : ∀ (vs : List Value) (k t : Nat) (v : Value), look (Sc k vs) t = some v → k ≤ t ∧ vs[t - k]? = some v := by
 intro vs
 induction vs with
 | nil => intro k t v h; simp [Sc, look] at h
 | cons u us ih =>
  intro k t v h
  simp only [Sc, Fw] at h
  by_cases e : k = t
  ·subst e; simp at h; simp [h]
  ·simp [e] at h
   obtain ⟨h1, h2⟩ := ih (k + 1) t v h; refine ⟨by omega, ?_⟩
   have : t - k = (t - (k + 1)) + 1 := by omega
   rw [this]; simpa using h2

theorem Ao {P : Program} {f : FuncId} {vs : List Value} {I : Heap} {L : Bj} {Q : Cv} {c : Code} {n : Nat} {rs : List ResultVar} [hf : Bq P f c n rs]
  (hn : vs.length ≤ n) (h : RunS P f n I Q [.code c] (Sc 0 vs) I L) : Fun P f vs I L Q := by
 obtain ⟨fn, hfn, hb, hnt, hrs, _⟩ := hf.get; refine ⟨fun w hw cs => ?_⟩
 have henter : Frame.enter P f vs.toArray .normal =
   (base f).at { tmps := vs.toArray ++ Array.replicate (fn.ntmps - vs.toArray.size) undef, defers := [] } [.code c] := by
  simp [Frame.enter, Frame.at, hfn, hb, base]
 rw [henter]; refine h _ w ?_ rfl ?_ hw cs
 ·simp [hnt]; omega
 ·intro t v hv; obtain ⟨_, h2⟩ := Xa vs 0 t v hv
  simp at h2
  have : t < vs.length := by
   rcases Nat.lt_or_ge t vs.length with g | g
   ·exact g
   ·simp [List.getElem?_eq_none g] at h2
  rw [Array.getElem?_append_left (by simpa using this)]
  simpa using h2

section rules
variable {P : Program} {f : FuncId} {n : Nat} {I₀ : Heap} {Q : Cv} {k : List Item} {E : Hg} {I : Heap} {L : Bj}

theorem RunS.env {E' : Hg} {todo : List Item} (h : RunS P f n I₀ Q todo E' I L) (hs : ∀ t v, look E' t = some v → look E t = some v) : RunS P f n I₀ Q todo E I L :=
 fun a w ha hd he hm => h a w ha hd (fun t v hv => he t v (hs t v hv)) hm

/- Fewer slots: each one named stands in the environment with the value told. -/
def Tr (E : Hg) : Hg → Prop
 | [] => True
 | (t, v) :: E' => look E t = some v ∧ Tr E E'
theorem Rr : ∀ {E' : Hg}, Tr E E' → ∀ t v, look E' t = some v → look E t = some v := by
 intro E'
 induction E' with
 | nil => intro _ t v h; simp [look] at h
 | cons p E' ih =>
  intro hs t v h; obtain ⟨h1, h2⟩ := hs; rw [Fw] at h
  by_cases e : p.1 = t
  ·simp [e] at h; rw [← e, ← h]; exact h1
  ·simp [e] at h; exact ih h2 t v h
theorem Ed {E' : Hg} {todo : List Item} (hs : Tr E E') (h : RunS P f n I₀ Q todo E' I L) : RunS P f n I₀ Q todo E I L := h.env (Rr hs)
theorem Cu {I' : Heap} {L' : Bj} {todo : List Item} (hm : ∀ w, Mem I L w → Mem I' L' w) (h : RunS P f n I₀ Q todo E I' L') : RunS P f n I₀ Q todo E I L :=
 fun a w ha hd he hw => h a w ha hd he (hm w hw)
theorem C4 {I' : Heap} {L' : Bj} {ops : Array Oper} {l : List Oper} (hm : ∀ w, Mem I L w → Mem I' L' w) (h : A8 P f n I₀ Q ops l k E I' L') : A8 P f n I₀ Q ops l k E I L :=
 fun a w ha hd he hw => h a w ha hd he (hm w hw)

theorem Bu {b : Nat} {o : Obj} {todo : List Item} (h : HLe I (I.set b o) → RunS P f n I₀ Q todo E (I.set b o) L) : RunS P f n I₀ Q todo E I ((b, o) :: L) :=
 fun a w ha hd he hm => h hm.freeze.2 a w ha hd he hm.freeze.1

theorem Ak (h : RunS P f n I₀ Q k E I L) : RunS P f n I₀ Q (.code .skip :: k) E I L :=
 fun a w ha hd he hm => .step (fun _ => step_skip) (h a w ha hd he hm)
theorem Ap {id : Nat} (h : RunS P f n I₀ Q k E I L) : RunS P f n I₀ Q (.inBlock id :: k) E I L :=
 fun a w ha hd he hm => .step (fun _ => step_inBlock) (h a w ha hd he hm)
theorem Ah {x y : Code} (h : RunS P f n I₀ Q (.code x :: .code y :: k) E I L) : RunS P f n I₀ Q (.code (.seq x y) :: k) E I L :=
 fun a w ha hd he hm => .step (fun _ => step_seq) (h a w ha hd he hm)
theorem Aq {id : Nat} {c : Code} (h : RunS P f n I₀ Q (.code c :: .inBlock id :: k) E I L) : RunS P f n I₀ Q (.code (.block id c) :: k) E I L :=
 fun a w ha hd he hm => .step (fun _ => step_block) (h a w ha hd he hm)
theorem Cc {id : Nat} {k' : List Item} (hk : exitTo id k = some k') (h : RunS P f n I₀ Q k' E I L) : RunS P f n I₀ Q (.code (.exit id) :: k) E I L :=
 fun a w ha hd he hm => .step (fun _ => step_exit hk) (h a w ha hd he hm)
theorem B9 {c : Operand} {x y : Code} (hc : Ch E c = some (.bool true)) (h : RunS P f n I₀ Q (.code x :: k) E I L) : RunS P f n I₀ Q (.code (.cond c x y) :: k) E I L :=
 fun a w ha hd he hm => .step (fun _ => by rw [step_cond (he.eval hc)]; rfl) (h a w ha hd he hm)
theorem A0 {c : Operand} {x y : Code} (hc : Ch E c = some (.bool false)) (h : RunS P f n I₀ Q (.code y :: k) E I L) : RunS P f n I₀ Q (.code (.cond c x y) :: k) E I L :=
 fun a w ha hd he hm => .step (fun _ => by rw [step_cond (he.eval hc)]; rfl) (h a w ha hd he hm)
theorem A6 {c : Operand} {x y : Code} {b : Bool} (hc : Ch E c = some (.bool b)) (ht : b = true → RunS P f n I₀ Q (.code x :: k) E I L)
  (hf : b = false → RunS P f n I₀ Q (.code y :: k) E I L) : RunS P f n I₀ Q (.code (.cond c x y) :: k) E I L := by
 cases b
 ·exact A0 hc (hf rfl)
 ·exact B9 hc (ht rfl)
theorem Ee {c : Code} (h : RunS P f n I₀ Q (.code c :: .inLoop c :: k) E I L) : RunS P f n I₀ Q (.code (.loop c) :: k) E I L :=
 fun a w ha hd he hm => .step (fun _ => step_loop) (h a w ha hd he hm)

theorem Bz {c : Code} (h : RunS P f n I₀ Q (.code c :: .inLoop c :: k) E I L) : RunS P f n I₀ Q (.inLoop c :: k) E I L :=
 fun a w ha hd he hm => .step (fun _ => step_inLoop) (h a w ha hd he hm)

theorem Dn {X : Type} (μ : X → Nat) (Ex : X → Hg) (Ix : X → Heap) (Lx : X → Bj) (Inv : X → Prop) {c : Code} (x₀ : X) (h₀ : Inv x₀)
  (hE : Tr E (Ex x₀)) (hM : ∀ w, Mem I L w → Mem (Ix x₀) (Lx x₀) w)
  (round : ∀ x, Inv x → (∀ y, Inv y → μ y < μ x → RunS P f n I₀ Q (.inLoop c :: k) (Ex y) (Ix y) (Lx y)) →
   RunS P f n I₀ Q (.code c :: .inLoop c :: k) (Ex x) (Ix x) (Lx x)) : RunS P f n I₀ Q (.code (.loop c) :: k) E I L := by
 have key : ∀ m x, μ x = m → Inv x → RunS P f n I₀ Q (.code c :: .inLoop c :: k) (Ex x) (Ix x) (Lx x) := by
  intro m
  induction m using Nat.strongRecOn with
  | _ m ih =>
   intro x hx hi
   exact round x hi fun y hy hlt => Bz (ih (μ y) (hx ▸ hlt) y rfl hy)
 exact Ee (Ed hE (Cu hM (key _ x₀ rfl h₀)))

def Afu (E : Hg) : List ResultVar → Option (List Value)
 | [] => some []
 | .tmp t :: rs => match look E t with
  | some v => match Afu E rs with
   | some vs => some (v :: vs)
   | none => none
  | none => none
 | .cell .. :: _ => none

def Gh (P : Program) (I : Heap) (L : Bj) (T : TypeId) (a : Addr) (v : Value) : Prop := ∀ w, Mem I L w → (loadVar T a).run P w = .ok v w

inductive RetOk (P : Program) (E : Hg) (I : Heap) (L : Bj) : List ResultVar → List Value → Prop
 | nil : RetOk P E I L [] []
 | tmp {t : Nat} {v : Value} {rs : List ResultVar} {vs : List Value} (h : look E t = some v) (r : RetOk P E I L rs vs) : RetOk P E I L (.tmp t :: rs) (v :: vs)
 | cell {t T : Nat} {a : Addr} {v : Value} {rs : List ResultVar} {vs : List Value} (h : look E t = some (.pointer (some a))) (hl : Gh P I L T a v)
   (r : RetOk P E I L rs vs) : RetOk P E I L (.cell t T :: rs) (v :: vs)

def C2 : List Value → Value
 | [v] => v
 | vs => .tuple vs.toArray

theorem Vo {α β : Type} (p : Program) (s : Sem α) (g : α → Sem β) (w : World) :
  (s.bind g).run p w = match s.run p w with | .ok a w' => (g a).run p w' | .halt h w' => .halt h w' := by
 induction s generalizing w with
 | pure a => rfl
 | load m a k ih =>
  simp only [Sem.bind, Sem.run]
  cases w.cell? a with
  | some v => exact ih v w
  | none =>
   simp only []
   cases w.farLoad p a (m == .atomic) with
   | ok r => exact ih r.1 w
   | error h => rfl
 | store m a v k ih =>
  cases v <;> simp only [Sem.bind, Sem.run] <;> (try rfl) <;>
  ·cases w.cell? a with
   | some u => simp only []; split <;> first | rfl | exact ih _
   | none =>
    simp only []
    split
    ·exact ih _
    ·rfl
 | new o k ih => exact ih _ _
 | shape r k ih => exact ih _ _
 | freeze a n k ih => exact ih _
 | frozen a k ih => exact ih _ _
 | getObj r k ih =>
  simp only [Sem.bind, Sem.run]
  split <;> first | rfl | exact ih _ _
 | setObj r o k ih =>
  simp only [Sem.bind, Sem.run]
  split <;> first | rfl | exact ih _
 | choose q k ih =>
  simp only [Sem.bind, Sem.run]
  split <;> exact ih _ _
 | sys c k ih => exact ih _ _
 | program k ih => exact ih _ _
 | mark m k ih => exact ih _
 | halt h => rfl

theorem Aeq {α β : Type} (p : Program) (s : Sem α) (g : α → Sem β) (w : World) :
  (s >>= g).run p w = match s.run p w with | .ok a w' => (g a).run p w' | .halt h w' => .halt h w' := Vo p s g w
theorem Ag {α β : Type} {p : Program} {s : Sem α} {g : α → Sem β} {w w' : World} {a : α} (h : s.run p w = .ok a w') :
  (s >>= g).run p w = (g a).run p w' := by rw [Aeq, h]
theorem Ha {α : Type} (p : Program) (a : α) (w : World) : (pure a : Sem α).run p w = .ok a w := rfl

theorem Aep {rs : List ResultVar} {vs : List Value} {a : Act} {w : World} (h : RetOk P E I L rs vs) (he : EnvOk E a) (hm : Mem I L w) :
  (rs.mapM (fun | .tmp t => pure (a.tmps.getD t undef) | .cell b t => do loadVar t (← asAddr (a.tmps.getD b undef)) : ResultVar → Sem Value)).run P w = .ok vs w := by
 induction h with
 | nil => rfl
 | tmp h r ih =>
  rw [List.mapM_cons]; rw [Ag (a := _) (w' := w) rfl, Ag ih]
  have := he _ _ h
  simp [this, Ha]
 | @cell t T b v rs vs h hl r ih =>
  rw [List.mapM_cons]
  have h1 := he _ _ h
  have h2 : (do loadVar T (← asAddr (a.tmps.getD t undef)) : Sem Value).run P w = .ok v w := by
   simp only [Array.getD_eq_getD_getElem?, h1, Option.getD_some, asAddr]
   exact hl w hm
  rw [Ag h2, Ag ih]
  rfl

theorem Am {c : Code} {rs : List ResultVar} {vs : List Value} {m : Nat} [hf : Bq P f c m rs] (hr : RetOk P E I L rs vs)
  (hp : ∃ I' L', HLe I₀ I' ∧ (∀ w, Mem I L w → Mem I' L' w) ∧ Q (C2 vs) I' L') : RunS P f n I₀ Q (.code .ret :: k) E I L := by
 obtain ⟨fn, hfn, _, _, hrs, _⟩ := hf.get; intro a w ha hd he hm cs; obtain ⟨I', L', hle, hmm, hq⟩ := hp; refine ⟨.returned (C2 vs), w, _, ⟨_, I', L', rfl, hle, hmm w hm, hq⟩, .one step_ret, rfl, rfl, hd, rfl, fn, hfn, ?_⟩
 have h1 := Aep hr he hm
 have h2 : (fn.results.mapM (fun | .tmp t => pure (a.tmps.getD t undef) | .cell b t => do loadVar t (← asAddr (a.tmps.getD b undef)) : ResultVar → Sem Value)).run P w = .ok vs.toArray w := by
  rw [hrs, List.mapM_toArray]
  exact Ag h1
 unfold results
 rw [show ((base f).at a (Item.code Code.ret :: k)).tmps = a.tmps from rfl]; refine Eq.trans (Ag h2) ?_
 cases vs with
 | nil => rfl
 | cons v vs =>
  cases vs with
  | nil => rfl
  | cons u us => simp [C2, Ha]

/- Operations. -/
theorem Q5 {c : Code} {a : Act} {w : World} (h : c.wp P (QK P f n I₀ Q k) a w) : Run P f (Ae0 I₀ Q) (.code c :: k) a w := by
 intro cs; obtain ⟨e, a', w', hq, harr⟩ := h (base f) k cs
 cases e with
 | normal =>
  obtain ⟨_, _, hr⟩ := hq; obtain ⟨e₂, w₂, fr, hR, hc, rest⟩ := hr cs
  exact ⟨e₂, w₂, fr, hR, .of_steps harr hc, rest⟩
 | _ => exact hq.elim

theorem Al {id : Nat} {ops : Array Oper} {l : List Oper} (hl : ops.toList = l) (h : A8 P f n I₀ Q ops l k E I L) : RunS P f n I₀ Q (.code (.region id ops false) :: k) E I L := by
 intro a w ha hd he hm; refine Q5 (n := n) (wp_region ?_)
 have h1 := h a w ha hd he hm
 subst hl; rw [List.range_eq_range', show ops.size = ops.toList.length by simp, wpOps_eq_wpList ops.toList 0 (fun j => by simp)]
 exact h1

theorem Ab {ops : Array Oper} (h : RunS P f n I₀ Q k E I L) : A8 P f n I₀ Q ops [] k E I L :=
 fun a w ha hd he hm => ⟨ha, hd, h a w ha hd he hm⟩

theorem Jo {ops : Array Oper} {o : Oper} {l : List Oper} {d : Nat} (hd : o.dst = some d) (hdn : Nat.blt d n = true)
  (hw : ∀ a, EnvOk E a → Region.wanted o (yielded ops a.tmps) = true)
  (hx : ∀ a w, EnvOk E a → Mem I L w → ∃ v w' I' L', (execOp a.eval o).run P w = .ok (.value v) w' ∧ Mem I' L' w' ∧ A8 P f n I₀ Q ops l k ((d, v) :: E) I' L') :
  A8 P f n I₀ Q ops (o :: l) k E I L := by
 intro a w ha hds he hm; obtain ⟨v, w', I', L', hrun, hm', h⟩ := hx a w he hm
 simp only [wpList]
 rw [if_pos (hw a he)]
 left
 simp only [Oper.wp, hrun, Oper.upon, hd]
 exact h _ _ Gp In (he.put Gn) hm'

theorem Aec {ops : Array Oper} {o : Oper} {l : List Oper} {d : Nat} {v : Value} {I' : Heap} {L' : Bj} (hd : o.dst = some d) (hdn : Nat.blt d n = true)
  (hw : ∀ a, EnvOk E a → Region.wanted o (yielded ops a.tmps) = true)
  (hx : ∀ a w, EnvOk E a → Mem I L w → ∃ w', (execOp a.eval o).run P w = .ok (.value v) w' ∧ Mem I' L' w')
  (h : A8 P f n I₀ Q ops l k ((d, v) :: E) I' L') : A8 P f n I₀ Q ops (o :: l) k E I L :=
 Jo hd hdn hw fun a w he hm => let ⟨w', hr, hm'⟩ := hx a w he hm; ⟨v, w', I', L', hr, hm', h⟩

theorem Nk {ops : Array Oper} {o : Oper} {l : List Oper} {I' : Heap} {L' : Bj} (hd : o.dst = none)
  (hw : ∀ a, EnvOk E a → Region.wanted o (yielded ops a.tmps) = true)
  (hx : ∀ a w, EnvOk E a → Mem I L w → ∃ w', ((execOp a.eval o).run P w = .ok .skip w' ∨ ∃ v, (execOp a.eval o).run P w = .ok (.value v) w') ∧ Mem I' L' w')
  (h : A8 P f n I₀ Q ops l k E I' L') : A8 P f n I₀ Q ops (o :: l) k E I L := by
 intro a w ha hds he hm; obtain ⟨w', hrun, hm'⟩ := hx a w he hm
 simp only [wpList]
 rw [if_pos (hw a he)]
 left
 rcases hrun with hrun | ⟨v, hrun⟩ <;>
 ·simp only [Oper.wp, hrun, Oper.upon, hd, Act.put]
  exact h a w' ha hds he hm'

theorem Cy {ops : Array Oper} {d : Nat} {op : Op} {ty : TypeId} {pos : String} {af : Array Edge} {j : Nat} {b : Bool} {l : List Oper} {dj : Nat}
  (hdj : (ops[j]?).bind (·.dst) = some dj) (hb : look E dj = some (.bool (!b))) (hdn : Nat.blt d n = true)
  (h : A8 P f n I₀ Q ops l k ((d, undef) :: E) I L) : A8 P f n I₀ Q ops (⟨some d, op, ty, pos, af, some (j, b)⟩ :: l) k E I L := by
 intro a w ha hds he hm
 have hw : Region.wanted ⟨some d, op, ty, pos, af, some (j, b)⟩ (yielded ops a.tmps) = false := by
  have := he _ _ hb
  simp only [Region.wanted, yielded, hdj, Option.bind_some, this]
  cases b <;> rfl
 simp only [wpList, hw, Bool.false_eq_true, if_false]
 exact h _ _ Gp In (he.put Gn) hm

theorem Mq {ops : Array Oper} {d : Nat} {op : Op} {ty : TypeId} {pos : String} {af : Array Edge} {j : Nat} {b : Bool} {l : List Oper} {dj : Nat}
  (hdj : (ops[j]?).bind (·.dst) = some dj) (hb : look E dj = some undef) (hdn : Nat.blt d n = true)
  (h : A8 P f n I₀ Q ops l k ((d, undef) :: E) I L) : A8 P f n I₀ Q ops (⟨some d, op, ty, pos, af, some (j, b)⟩ :: l) k E I L := by
 intro a w ha hds he hm
 have hw : Region.wanted ⟨some d, op, ty, pos, af, some (j, b)⟩ (yielded ops a.tmps) = false := by
  have := he _ _ hb
  simp only [Region.wanted, yielded, hdj, Option.bind_some, this]
  rfl
 simp only [wpList, hw, Bool.false_eq_true, if_false]
 exact h _ _ Gp In (he.put Gn) hm

theorem Y5 {ops : Array Oper} {d : Option Tmp} {op : Op} {ty : TypeId} {pos : String} {af : Array Edge} {j : Nat} {b : Bool} {dj : Nat}
  (hdj : (ops[j]?).bind (·.dst) = some dj) (hb : look E dj = some (.bool b)) (a : Act) (he : EnvOk E a) :
  Region.wanted ⟨d, op, ty, pos, af, some (j, b)⟩ (yielded ops a.tmps) = true := by
 have := he _ _ hb
 simp [Region.wanted, yielded, hdj, this]

inductive Wants (ops : Array Oper) (E : Hg) : Option (Nat × Bool) → Prop
 | free : Wants ops E none
 | met {j : Nat} {b : Bool} {dj : Nat} (hdj : (ops[j]?).bind (·.dst) = some dj) (hb : look E dj = some (.bool b)) : Wants ops E (some (j, b))
theorem Wants.wanted {ops : Array Oper} {d : Option Tmp} {op : Op} {ty : TypeId} {pos : String} {af : Array Edge} {g : Option (Nat × Bool)} (h : Wants ops E g) (a : Act) (he : EnvOk E a) :
  Region.wanted ⟨d, op, ty, pos, af, g⟩ (yielded ops a.tmps) = true := by
 cases h with
 | free => rfl
 | met hdj hb => exact Y5 hdj hb a he

variable {ops : Array Oper} {d : Nat} {ty : TypeId} {pos : String} {af : Array Edge} {g : Option (Nat × Bool)} {l : List Oper}

def Ia (P : Program) (E : Hg) (S : World → Prop) (o : Oper) (v : Value) : Prop := ∀ a w, EnvOk E a → S w → (execOp a.eval o).run P w = .ok (.value v) w

theorem Es {op : Op} {v : Value} (hx : Ia P E (Mem I L) ⟨some d, op, ty, pos, af, g⟩ v) (hg : Wants ops E g) (hdn : Nat.blt d n = true)
  (h : A8 P f n I₀ Q ops l k ((d, v) :: E) I L) : A8 P f n I₀ Q ops (⟨some d, op, ty, pos, af, g⟩ :: l) k E I L :=
 Aec rfl hdn (fun a he => hg.wanted a he) (fun a w he hm => ⟨w, hx a w he hm, hm⟩) h
theorem Aea {op : Op} {v : Value} (hx : ∀ a w, EnvOk E a → (execOp a.eval ⟨some d, op, ty, pos, af, g⟩).run P w = .ok (.value v) w) (hg : Wants ops E g) (hdn : Nat.blt d n = true)
  (h : A8 P f n I₀ Q ops l k ((d, v) :: E) I L) : A8 P f n I₀ Q ops (⟨some d, op, ty, pos, af, g⟩ :: l) k E I L :=
 Es (fun a w he _ => hx a w he) hg hdn h

/- A region that draws its order: an operation that only yields a value is taken at once; an operation that alone can come up comes up. -/
theorem Kk {id : Nat} {ops : Array Oper} (I₁ : Heap) (L₀ : Bj) (N : Nat) (hN : ops.size = N) (hm : P.follows .mixedOrders = true)
  (h : C0 P f n I₀ Q ops (Mem I₁ L₀) N (Array.replicate N false) k E I L) : RunS P f n I₀ Q (.code (.region id ops true) :: k) E I L := by
 subst hN
 exact fun a w ha hd he hw => Q5 (wp_region_any hm (M5 _ _ _ _ (h a { w with drawn := w.drawn + 1 } ha hd he (hw.drew _))))
theorem Vz {id : Nat} {ops : Array Oper} {p : Nat × Obj} {X L₀ : Bj} (N : Nat) (hN : ops.size = N) (hm : P.follows .mixedOrders = true)
  (h : C0 P f n I₀ Q ops (Mem I (p :: L₀)) N (Array.replicate N false) k E I (p :: (X ++ L₀))) : RunS P f n I₀ Q (.code (.region id ops true) :: k) E I (p :: (X ++ L₀)) := Kk I (p :: L₀) N hN hm h
theorem Fh {id : Nat} {ops : Array Oper} (N : Nat) (hN : ops.size = N) (hm : P.follows .mixedOrders = true)
  (h : C0 P f n I₀ Q ops (Mem I L) N (Array.replicate N false) k E I L) : RunS P f n I₀ Q (.code (.region id ops true) :: k) E I L := by
 subst hN
 exact fun a w ha hd he hw => Q5 (wp_region_any hm (M5 _ _ _ _ (h a { w with drawn := w.drawn + 1 } ha hd he (hw.drew _))))

def Ji (ops : Array Oper) (listed : Array Bool) (i : Nat) : Bool := Region.noSelect ops && Region.free .any ops listed i && (Region.ready .any ops listed).contains i && !(i == Tq ops)
theorem Hk {S : World → Prop} {fuel : Nat} {listed listed' : Array Bool} (i : Nat) (C : List Nat) {op : Op} {v : Value} (hi : ops[i]? = some ⟨some d, op, ty, pos, af, g⟩)
  (hc : (Ji ops listed i && (C.contains (Tq ops) && Q7 ops i C listed)) = true) (hl : listed' = listed.setIfInBounds i true)
  (hS : ∀ w, Mem I L w → S w) (hx : Ia P E S ⟨some d, op, ty, pos, af, g⟩ v) (hg : Wants ops E g) (hdn : Nat.blt d n = true)
  (h : C0 P f n I₀ Q ops S fuel listed' k ((d, v) :: E) I L) : C0 P f n I₀ Q ops S (fuel + 1) listed k E I L := by
 intro a w ha hd he hm
 simp only [Ji, Bool.and_eq_true, Bool.not_eq_true', beq_eq_false_iff_ne, List.contains_iff_mem] at hc
 refine Oy (S₀ := S) hi (Region.noSelect_spec hc.1.1.1.1) (fun _ _ _ h => h) hc.1.2 (.inr ⟨hc.2.1, fun _ h => h⟩) fuel listed a w (Region.free_spec hi hc.1.1.1.2) hc.1.1.2 hc.2.2 (.inl ⟨hg.wanted a he, fun w hs => hx a w he hs⟩) (hS w hm) (.inr (hS w hm)) ?_; rw [← hl]
 exact h _ _ Gp (by simpa [Act.put] using hd) (he.put Gn) hm
def F6 (ops : Array Oper) (listed : Array Bool) : Bool := listed.getD (Tq ops) false
theorem G1 {S : World → Prop} {fuel : Nat} {listed listed' : Array Bool} (i : Nat) {op : Op} {v : Value} (hi : ops[i]? = some ⟨some d, op, ty, pos, af, g⟩)
  (hc : Ji ops listed i = true) (hl : listed' = listed.setIfInBounds i true)
  (hS : F6 ops listed = true ∨ ∀ w, Mem I L w → S w) (hx : Ia P E (fun _ => True) ⟨some d, op, ty, pos, af, g⟩ v) (hg : Wants ops E g) (hdn : Nat.blt d n = true)
  (h : C0 P f n I₀ Q ops S fuel listed' k ((d, v) :: E) I L) : C0 P f n I₀ Q ops S (fuel + 1) listed k E I L := by
 intro a w ha hd he hm
 simp only [Ji, Bool.and_eq_true, Bool.not_eq_true', beq_eq_false_iff_ne, List.contains_iff_mem] at hc
 refine Oy (S₀ := fun _ => True) (C := []) hi (Region.noSelect_spec hc.1.1.1) (fun _ _ _ h => h) hc.2 (.inl fun _ => trivial) fuel listed a w (Region.free_spec hi hc.1.1.2) hc.1.2 rfl (.inl ⟨hg.wanted a he, fun w hs => hx a w he hs⟩) trivial (hS.imp id fun h => h w hm) ?_; rw [← hl]
 exact h _ _ Gp (by simpa [Act.put] using hd) (he.put Gn) hm
theorem Xf {S : World → Prop} {fuel : Nat} {listed listed' : Array Bool} (i : Nat) {op : Op} (hi : ops[i]? = some ⟨some d, op, ty, pos, af, g⟩)
  (hc : Ji ops listed i = true) (hl : listed' = listed.setIfInBounds i true) (hS : F6 ops listed = true ∨ ∀ w, Mem I L w → S w)
  (hw : ∀ a, EnvOk E a → Region.wanted ⟨some d, op, ty, pos, af, g⟩ (yielded ops a.tmps) = false) (hdn : Nat.blt d n = true)
  (h : C0 P f n I₀ Q ops S fuel listed' k ((d, undef) :: E) I L) : C0 P f n I₀ Q ops S (fuel + 1) listed k E I L := by
 intro a w ha hd he hm
 simp only [Ji, Bool.and_eq_true, Bool.not_eq_true', beq_eq_false_iff_ne, List.contains_iff_mem] at hc
 refine Oy (S₀ := fun _ => True) (C := []) hi (Region.noSelect_spec hc.1.1.1) (fun _ _ _ h => h) hc.2 (.inl fun _ => trivial) fuel listed a w (Region.free_spec hi hc.1.1.2) hc.1.2 rfl (.inr ⟨hw a he, rfl⟩) trivial (hS.imp id fun h => h w hm) ?_; rw [← hl]
 exact h _ _ Gp (by simpa [Act.put] using hd) (he.put Gn) hm
theorem Ze {S : World → Prop} {fuel : Nat} {listed listed' : Array Bool} (i : Nat) {op : Op} {j dj : Nat} {b : Bool} (hi : ops[i]? = some ⟨some d, op, ty, pos, af, some (j, b)⟩)
  (hc : Ji ops listed i = true) (hl : listed' = listed.setIfInBounds i true)
  (hS : F6 ops listed = true ∨ ∀ w, Mem I L w → S w) (hdj : (ops[j]?).bind (·.dst) = some dj) (hb : look E dj = some (.bool (!b))) (hdn : Nat.blt d n = true)
  (h : C0 P f n I₀ Q ops S fuel listed' k ((d, undef) :: E) I L) : C0 P f n I₀ Q ops S (fuel + 1) listed k E I L :=
 Xf i hi hc hl hS (fun a he => by
  have := he _ _ hb
  simp only [Region.wanted, yielded, hdj, Option.bind_some, this]
  cases b <;> rfl) hdn h
theorem Cw {S : World → Prop} {fuel : Nat} {listed listed' : Array Bool} (i : Nat) {op : Op} {j dj : Nat} {b : Bool} (hi : ops[i]? = some ⟨some d, op, ty, pos, af, some (j, b)⟩)
  (hc : Ji ops listed i = true) (hl : listed' = listed.setIfInBounds i true)
  (hS : F6 ops listed = true ∨ ∀ w, Mem I L w → S w) (hdj : (ops[j]?).bind (·.dst) = some dj) (hb : look E dj = some undef) (hdn : Nat.blt d n = true)
  (h : C0 P f n I₀ Q ops S fuel listed' k ((d, undef) :: E) I L) : C0 P f n I₀ Q ops S (fuel + 1) listed k E I L :=
 Xf i hi hc hl hS (fun a he => by
  have := he _ _ hb
  simp only [Region.wanted, yielded, hdj, Option.bind_some, this]
  rfl) hdn h

theorem Acz {S : World → Prop} {fuel : Nat} {listed : Array Bool} (i : Nat) {o : Oper} (hi : ops[i]? = some o) (hc : decide (Region.ready .any ops listed = [i]) = true)
  {a : Act} {w : World} (hw : Region.wanted o (yielded ops a.tmps) = true)
  (h : o.wp P a w (fun a' w' => T1 ops S (listed.setIfInBounds i true) w' ∧ T3 P ops (QK P f n I₀ Q k) S fuel (listed.setIfInBounds i true) a' w') (QK P f n I₀ Q k)) :
  T3 P ops (QK P f n I₀ Q k) S (fuel + 1) listed a w := by
 have hr : Region.ready .any ops listed = [i] := of_decide_eq_true hc
 refine ⟨fun h0 => (by rw [hr] at h0; cases h0), fun j hj => ?_⟩
 have : j = i := by rw [hr] at hj; simpa using hj
 subst this
 unfold wpOp
 simp only [hi, hw, if_true]
 exact .inl h

theorem Pi {S : World → Prop} {fuel : Nat} {listed listed' : Array Bool} (i : Nat) {o : Oper} (hi : ops[i]? = some o) (hc : decide (Region.ready .any ops listed = [i]) = true) (hl : listed' = listed.setIfInBounds i true)
  (hd : o.dst = some d) (hdn : Nat.blt d n = true) (hw : ∀ a, EnvOk E a → Region.wanted o (yielded ops a.tmps) = true)
  (hx : ∀ a w, EnvOk E a → Mem I L w → ∃ v w' I' L', (execOp a.eval o).run P w = .ok (.value v) w' ∧ Mem I' L' w' ∧ (F6 ops listed' = true ∨ ∀ w, Mem I' L' w → S w) ∧ C0 P f n I₀ Q ops S fuel listed' k ((d, v) :: E) I' L') :
  C0 P f n I₀ Q ops S (fuel + 1) listed k E I L := by
 intro a w ha hds he hm; obtain ⟨v, w', I', L', hrun, hm', hS, h⟩ := hx a w he hm; refine Acz i hi hc (hw a he) ?_
 simp only [Oper.wp, hrun, Oper.upon, hd]
 rw [← hl]
 exact ⟨hS.imp id fun h => h _ hm', h _ _ Gp In (he.put Gn) hm'⟩
theorem Xe {S : World → Prop} {fuel : Nat} {listed listed' : Array Bool} (i : Nat) {o : Oper} {I' : Heap} {L' : Bj} (hi : ops[i]? = some o) (hc : decide (Region.ready .any ops listed = [i]) = true) (hl : listed' = listed.setIfInBounds i true)
  (hd : o.dst = none) (hw : ∀ a, EnvOk E a → Region.wanted o (yielded ops a.tmps) = true)
  (hx : ∀ a w, EnvOk E a → Mem I L w → ∃ w', ((execOp a.eval o).run P w = .ok .skip w' ∨ ∃ v, (execOp a.eval o).run P w = .ok (.value v) w') ∧ Mem I' L' w') (hS : F6 ops listed' = true ∨ ∀ w, Mem I' L' w → S w)
  (h : C0 P f n I₀ Q ops S fuel listed' k E I' L') : C0 P f n I₀ Q ops S (fuel + 1) listed k E I L := by
 intro a w ha hds he hm; obtain ⟨w', hrun, hm'⟩ := hx a w he hm; refine Acz i hi hc (hw a he) ?_
 rcases hrun with hrun | ⟨v, hrun⟩ <;>
 ·simp only [Oper.wp, hrun, Oper.upon, hd, Act.put]
  rw [← hl]
  exact ⟨hS.imp id fun h => h _ hm', h a w' ha hds he hm'⟩
theorem Acx {S : World → Prop} {fuel : Nat} {listed listed' : Array Bool} (i : Nat) {o : Oper} {kf : FuncId} {vs : List Value} {Q' : Cv} (hi : ops[i]? = some o) (hc : decide (Region.ready .any ops listed = [i]) = true) (hl : listed' = listed.setIfInBounds i true)
  (hd : o.dst = some d) (hdn : Nat.blt d n = true) (hw : ∀ a, EnvOk E a → Region.wanted o (yielded ops a.tmps) = true)
  (hx : ∀ a w, EnvOk E a → (execOp a.eval o).run P w = .ok (.enter kf vs.toArray) w) (hF : Fun P kf vs I L Q')
  (h : ∀ v I' L', HLe I I' → Q' v I' L' → (F6 ops listed' = true ∨ ∀ w, Mem I' L' w → S w) ∧ C0 P f n I₀ Q ops S fuel listed' k ((d, v) :: E) I' L') : C0 P f n I₀ Q ops S (fuel + 1) listed k E I L := by
 intro a w ha hds he hm; refine Acz i hi hc (hw a he) ?_
 simp only [Oper.wp, hx a w he, Oper.upon, hd]
 refine (hF.run w hm).mono fun e w' hE => ?_
 obtain ⟨v, I', L', rfl, hle, hm', hq⟩ := hE; obtain ⟨hS, h⟩ := h v I' L' hle hq; rw [← hl]
 exact ⟨hS.imp id fun h => h _ hm', h _ _ Gp In (he.put Gn) hm'⟩

theorem A5 {S : World → Prop} {fuel : Nat} {listed : Array Bool} (hr : (Region.ready .any ops listed).isEmpty = true) (h : RunS P f n I₀ Q k E I L) : C0 P f n I₀ Q ops S fuel listed k E I L := by
 intro a w ha hd he hm
 have hr : Region.ready .any ops listed = [] := by simpa using hr
 have hq : QK P f n I₀ Q k .normal a w := ⟨ha, hd, h a w ha hd he hm⟩
 cases fuel with
 | zero => exact ⟨hr, hq⟩
 | succ fuel => exact ⟨fun _ => hq, by rw [hr]; simp⟩
theorem G8 {S : World → Prop} {fuel : Nat} {listed : Array Bool} {t : Nat} {v v' : Value} (ht : look E t = some v) (hv : v = v') (h : C0 P f n I₀ Q ops S fuel listed k ((t, v') :: E) I L) : C0 P f n I₀ Q ops S fuel listed k E I L := by
 subst hv; refine fun a w ha hd he hm => h a w ha hd ?_ hm
 intro u x hx; rw [Fw] at hx
 by_cases e : t = u
 ·subst e; simp at hx; subst hx; exact he _ _ ht
 ·simp [e] at hx; exact he _ _ hx
theorem C7 {S : World → Prop} {fuel : Nat} {listed : Array Bool} {E' : Hg} (hs : Tr E E') (h : C0 P f n I₀ Q ops S fuel listed k E' I L) : C0 P f n I₀ Q ops S fuel listed k E I L :=
 fun a w ha hd he hm => h a w ha hd (fun t v hv => he t v (Rr hs t v hv)) hm

theorem Rd {kf : FuncId} {c : Code} {m : Nat} {rs : List ResultVar} [hf : Bq P kf c m rs] (args : Array Value) (w : World) :
  (callFunc kf args).run P w = .ok (.enter kf args) w := by
 obtain ⟨fn, hfn, hb, _, _, hne⟩ := hf.get
 unfold callFunc
 rw [Ag (a := P) (w' := w) rfl]
 simp [hfn, hb, hne, Ha]

theorem Yh {o : Oper} {kf : FuncId} {vs : List Value} {Q' : Cv} (hd : o.dst = some d) (hdn : Nat.blt d n = true)
  (hw : ∀ a, EnvOk E a → Region.wanted o (yielded ops a.tmps) = true)
  (hx : ∀ a w, EnvOk E a → (execOp a.eval o).run P w = .ok (.enter kf vs.toArray) w)
  (hF : Fun P kf vs I L Q') (h : ∀ v I' L', HLe I I' → Q' v I' L' → A8 P f n I₀ Q ops l k ((d, v) :: E) I' L') : A8 P f n I₀ Q ops (o :: l) k E I L := by
 intro a w ha hds he hm
 simp only [wpList]
 rw [if_pos (hw a he)]
 left
 simp only [Oper.wp, hx a w he, Oper.upon, hd]
 refine (hF.run w hm).mono fun e w' hE => ?_
 obtain ⟨v, I', L', rfl, hle, hm', hq⟩ := hE
 exact h v I' L' hle hq _ _ Gp In (he.put Gn) hm'

theorem Z7 {kf : FuncId} {args : Array Operand} {tys : Array TypeId} {vs : List Value} {c : Code} {m : Nat} {rs : List ResultVar} [hf : Bq P kf c m rs]
  (ha : I9 E args.toList = some vs) (a : Act) (w : World) (he : EnvOk E a) :
  (execOp a.eval ⟨some d, .call ⟨.value (.func kf), args, tys⟩, ty, pos, af, g⟩).run P w = .ok (.enter kf vs.toArray) w := by
 have h1 : args.map a.eval = vs.toArray := Array.ext' (by simpa using he.evals ha)
 simp only [execOp, resolve, h1]
 simp only [Act.eval, Deferred.ofValue, pure_bind, invoke]
 simpa using Rd (P := P) (kf := kf) vs.toArray w
theorem Afy {x : Operand} {kf : FuncId} {fst cap : List Value} {args : Array Operand} {tys : Array TypeId} {vs : List Value} {c : Code} {m : Nat} {rs : List ResultVar} [hf : Bq P kf c m rs]
  (hx : Ch E x = some (.func (.func kf) fst.toArray cap.toArray)) (ha : I9 E args.toList = some vs) (a : Act) (w : World) (he : EnvOk E a) :
  (execOp a.eval ⟨some d, .call ⟨.value x, args, tys⟩, ty, pos, af, g⟩).run P w = .ok (.enter kf (fst ++ vs ++ cap).toArray) w := by
 have h1 : args.map a.eval = vs.toArray := Array.ext' (by simpa using he.evals ha)
 simp only [execOp, resolve, h1, he.eval hx, Deferred.ofValue, pure_bind, invoke]
 simpa using Rd (P := P) (kf := kf) (fst ++ vs ++ cap).toArray w
theorem Cx {kf : FuncId} {args : Array Operand} {tys : Array TypeId} {vs : List Value} {Q' : Cv} {c : Code} {m : Nat} {rs : List ResultVar} [hf : Bq P kf c m rs]
  (ha : I9 E args.toList = some vs) (hg : Wants ops E g) (hdn : Nat.blt d n = true)
  (hF : Fun P kf vs I L Q') (h : ∀ v I' L', HLe I I' → Q' v I' L' → A8 P f n I₀ Q ops l k ((d, v) :: E) I' L') :
  A8 P f n I₀ Q ops (⟨some d, .call ⟨.value (.func kf), args, tys⟩, ty, pos, af, g⟩ :: l) k E I L :=
 Yh rfl hdn (fun a he => hg.wanted a he) (Z7 ha) hF h
theorem Aaq {x : Operand} {kf : FuncId} {fst cap : List Value} {args : Array Operand} {tys : Array TypeId} {vs : List Value} {Q' : Cv} {c : Code} {m : Nat} {rs : List ResultVar} [hf : Bq P kf c m rs]
  (hx : Ch E x = some (.func (.func kf) fst.toArray cap.toArray)) (ha : I9 E args.toList = some vs) (hg : Wants ops E g) (hdn : Nat.blt d n = true)
  (hF : Fun P kf (fst ++ vs ++ cap) I L Q') (h : ∀ v I' L', HLe I I' → Q' v I' L' → A8 P f n I₀ Q ops l k ((d, v) :: E) I' L') :
  A8 P f n I₀ Q ops (⟨some d, .call ⟨.value x, args, tys⟩, ty, pos, af, g⟩ :: l) k E I L :=
 Yh rfl hdn (fun a he => hg.wanted a he) (Afy hx ha) hF h
theorem Lf {S : World → Prop} {fuel : Nat} {listed listed' : Array Bool} (i : Nat) {kf : FuncId} {args : Array Operand} {tys : Array TypeId} {vs : List Value} {Q' : Cv} {c : Code} {m : Nat} {rs : List ResultVar} [hf : Bq P kf c m rs]
  (hi : ops[i]? = some ⟨some d, .call ⟨.value (.func kf), args, tys⟩, ty, pos, af, g⟩) (hc : decide (Region.ready .any ops listed = [i]) = true) (hl : listed' = listed.setIfInBounds i true)
  (ha : I9 E args.toList = some vs) (hg : Wants ops E g) (hdn : Nat.blt d n = true) (hF : Fun P kf vs I L Q')
  (h : ∀ v I' L', HLe I I' → Q' v I' L' → (F6 ops listed' = true ∨ ∀ w, Mem I' L' w → S w) ∧ C0 P f n I₀ Q ops S fuel listed' k ((d, v) :: E) I' L') : C0 P f n I₀ Q ops S (fuel + 1) listed k E I L :=
 Acx i hi hc hl rfl hdn (fun a he => hg.wanted a he) (Z7 ha) hF h

theorem Ai {S : World → Prop} {x : Operand} {v : Value} (hx : Ch E x = some v) : Ia P E S ⟨some d, .move x, ty, pos, af, g⟩ v := fun a w he _ => by simp [execOp, he.eval hx]
theorem Bk {S : World → Prop} {x : Operand} {v : Value} (hx : Ch E x = some v) : Ia P E S ⟨some d, .assign x, ty, pos, af, g⟩ v := fun a w he _ => by simp [execOp, he.eval hx]
theorem Ad9 {x : Operand} {v : Value} (hx : Ch E x = some v) (hg : Wants ops E g) (hdn : Nat.blt d n = true) (h : A8 P f n I₀ Q ops l k ((d, v) :: E) I L) :
  A8 P f n I₀ Q ops (⟨some d, .move x, ty, pos, af, g⟩ :: l) k E I L := Es (Ai hx) hg hdn h
theorem Ad3 {x : Operand} {v : Value} (hx : Ch E x = some v) (hg : Wants ops E g) (hdn : Nat.blt d n = true) (h : A8 P f n I₀ Q ops l k ((d, v) :: E) I L) :
  A8 P f n I₀ Q ops (⟨some d, .assign x, ty, pos, af, g⟩ :: l) k E I L := Es (Bk hx) hg hdn h

theorem Se {id : Nat} {ops : Array Oper} {l : List Oper} {y : Code} (hl : ops.toList = l) (h : A8 P f n I₀ Q ops l (.code y :: k) E I L) : RunS P f n I₀ Q (.code (.seq (.region id ops false) y) :: k) E I L := Ah (Al hl h)
theorem Om {x : Operand} {v : Value} (hx : Ch E x = some v) (h : A8 P f n I₀ Q ops l k ((d, v) :: E) I L) (hdn : Nat.blt d n = true := by rfl) : A8 P f n I₀ Q ops (⟨some d, .move x, ty, pos, af, none⟩ :: l) k E I L := Ad9 hx .free hdn h
theorem Oa {x : Operand} {v : Value} (hx : Ch E x = some v) (h : A8 P f n I₀ Q ops l k ((d, v) :: E) I L) (hdn : Nat.blt d n = true := by rfl) : A8 P f n I₀ Q ops (⟨some d, .assign x, ty, pos, af, none⟩ :: l) k E I L := Ad3 hx .free hdn h
theorem Da {S : World → Prop} {fuel : Nat} {listed : Array Bool} (i : Nat) {op : Op} {v : Value} (hi : ops[i]? = some ⟨some d, op, ty, pos, af, none⟩) (hx : Ia P E (fun _ => True) ⟨some d, op, ty, pos, af, none⟩ v)
  (h : C0 P f n I₀ Q ops S fuel (listed.setIfInBounds i true) k ((d, v) :: E) I L) (hc : Ji ops listed i = true := by kernel_rfl) (hS : F6 ops listed = true ∨ ∀ w, Mem I L w → S w := by exact .inr Au) (hdn : Nat.blt d n = true := by rfl) :
  C0 P f n I₀ Q ops S (fuel + 1) listed k E I L := G1 i hi hc rfl hS hx .free hdn h
theorem Dt {S : World → Prop} {fuel : Nat} {listed : Array Bool} (i : Nat) (C : List Nat) {op : Op} {v : Value} (hi : ops[i]? = some ⟨some d, op, ty, pos, af, none⟩) (hx : Ia P E S ⟨some d, op, ty, pos, af, none⟩ v)
  (h : C0 P f n I₀ Q ops S fuel (listed.setIfInBounds i true) k ((d, v) :: E) I L) (hc : (Ji ops listed i && (C.contains (Tq ops) && Q7 ops i C listed)) = true := by kernel_rfl) (hS : ∀ w, Mem I L w → S w := by exact Au) (hdn : Nat.blt d n = true := by rfl) :
  C0 P f n I₀ Q ops S (fuel + 1) listed k E I L := Hk i C hi hc rfl hS hx .free hdn h
theorem Ds {S : World → Prop} {fuel : Nat} {listed : Array Bool} (i : Nat) {op : Op} {j dj : Nat} {b : Bool} (hi : ops[i]? = some ⟨some d, op, ty, pos, af, some (j, b)⟩) (hdj : (ops[j]?).bind (·.dst) = some dj) (hb : look E dj = some (.bool (!b)))
  (h : C0 P f n I₀ Q ops S fuel (listed.setIfInBounds i true) k ((d, undef) :: E) I L) (hc : Ji ops listed i = true := by kernel_rfl) (hS : F6 ops listed = true ∨ ∀ w, Mem I L w → S w := by exact .inr Au) (hdn : Nat.blt d n = true := by rfl) :
  C0 P f n I₀ Q ops S (fuel + 1) listed k E I L := Ze i hi hc rfl hS hdj hb hdn h
end rules
end Go.Proofs.YtmfagaajiakgoaaGreatDoor
