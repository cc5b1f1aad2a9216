/- The rules of single operations: numbers, strings, variables in memory, slices, calls. No conditions. -/
import Derived.Test.YtbohngcdgmjfaaaGreatDoorG1
import Derived.Laws.Strings
import Derived.Test.YtbohngcdgmjfaaaGreatDoorRows

namespace Go.Proofs.YtbohngcdgmjfaaaGreatDoor
set_option linter.unusedVariables false
set_option linter.unusedSimpArgs false

@[reducible] def str (l : List UInt8) : ByteArray := ⟨l.toArray⟩

class Aq (P : Program) (T : TypeId) (d : outParam TypeDesc) (size bytes : outParam Nat) (zero : outParam (List Value)) : Prop where
 und : P.underlying T = some d
 info : ∃ i z, P.info? T = some i ∧ i.size = size ∧ i.bytes = bytes ∧ i.zero = some z ∧ z.cells.toList = zero

class Az (P : Program) (S : TypeId) (i : Nat) (off : outParam Nat) : Prop where
 get : ∃ fs fld inf, P.underlying S = some (.struct fs) ∧ fs[i]? = some fld ∧ P.info? fld.type = some inf ∧ inf.size ≠ 0 ∧ fld.offset = off

section
variable {P : Program}
theorem Ay {T : TypeId} {d : TypeDesc} (h : P.underlying T = some d) (w : World) : (underlying T).run P w = .ok d w := by
 simp only [underlying, program]; show (match P.underlying T with | some d => pure d | none => stuck "no such type" : Sem TypeDesc).run P w = _; rw [h]; rfl
theorem Gh {T : TypeId} {i : TypeInfo} (h : P.info? T = some i) (w : World) : (typeInfo T).run P w = .ok i w := by
 simp only [typeInfo, program]; show (match P.info? T with | some d => pure d | none => stuck "no such type" : Sem TypeInfo).run P w = _; rw [h]; rfl
theorem Ey {T : TypeId} {d : TypeDesc} {s b : Nat} {z : List Value} (h : Aq P T d s b z) (w : World) : (sizeOf T).run P w = .ok s w := by
 obtain ⟨i, z, hi, hs, _⟩ := h.info
 unfold sizeOf
 rw [Ad (Gh hi w), ← hs]; rfl
theorem Ir {T : TypeId} {d : TypeDesc} {s b : Nat} {z : List Value} (h : Aq P T d s b z) (w : World) : ∃ i, (typeInfo T).run P w = .ok i w ∧ i.bytes = b := by
 obtain ⟨i, z, hi, hs, hb, _⟩ := h.info
 exact ⟨i, Gh hi w, hb⟩
theorem If {T : TypeId} {d : TypeDesc} {s b : Nat} {z : List Value} (h : Aq P T d s b z) (w : World) : ∃ v, (zeroValue T).run P w = .ok v w ∧ v.cells.toList = z := by
 obtain ⟨i, v, hi, _, _, hz, hv⟩ := h.info; refine ⟨v, ?_, hv⟩
 unfold zeroValue
 rw [Ad (Gh hi w), hz]; rfl

def Lw : TypeDesc → Bool
 | .struct _ | .array _ _ => false
 | _ => true
theorem S2 {T : TypeId} {d : TypeDesc} (h : P.underlying T = some d) (hs : Lw d = true) (w : World) : (isAgg T).run P w = .ok false w := by
 unfold isAgg
 rw [Ad (Ay h w)]
 cases d <;> first | rfl | simp [Lw] at hs
theorem Ni {T : TypeId} {fs : Array Field} (h : P.underlying T = some (.struct fs)) (w : World) : (isAgg T).run P w = .ok true w := by
 unfold isAgg; rw [Ad (Ay h w)]; rfl
def F5 (I : Heap) (L : Bc) (a : Addr) (vs : List Value) : Prop := ∀ w, Mem I L w → ∀ i (h : i < vs.length), w.cell? (a.add i) = some vs[i]

theorem Li {w : World} {a : Addr} {v : Value} (h : w.cell? a = some v) : (load a).run P w = .ok v w := by
 simp [load, Sem.run, h]

theorem Mk {w : World} {a : Addr} : ∀ (vs : List Value) (i : Nat) (acc : Array Value), (∀ j (h : j < vs.length), w.cell? (a.add (i + j)) = some vs[j]) →
  (loadCellsFrom a i vs.length acc).run P w = .ok (acc ++ vs.toArray) w := by
 intro vs
 induction vs with
 | nil => intro i acc h; simp [loadCellsFrom, F2]
 | cons v vs ih =>
  intro i acc h
  simp only [List.length_cons, loadCellsFrom]
  rw [Ad (Li (show w.cell? (a.add i) = some v from h 0 (by simp)))]
  rw [ih (i + 1) (acc.push v) (fun j hj => by
   have := h (j + 1) (by simp; omega)
   rw [show i + 1 + j = i + (j + 1) by omega]; simpa using this)]
  simp
theorem I6 {w : World} {a : Addr} (vs : List Value) (h : ∀ j (h : j < vs.length), w.cell? (a.add j) = some vs[j]) :
  (loadCells a vs.length).run P w = .ok vs.toArray w := by
 unfold loadCells
 rw [Mk vs 0 #[] (by simpa using h)]; simp

theorem Ep {I : Heap} {L : Bc} {T : TypeId} {a : Addr} {v : Value} {d : TypeDesc} {s b : Nat} {z : List Value} [ht : Aq P T d s b z] (hd : Lw d = true)
  (h : F5 I L a [v]) : Fc P I L T a v := by
 intro w hm
 unfold loadVar
 rw [Ad (S2 ht.und hd w)]
 have := h w hm 0 (by simp)
 exact Li (by simpa [Addr.add] using this)
theorem Hz {I : Heap} {L : Bc} {T : TypeId} {a : Addr} {vs : List Value} {fs : Array Field} {s b : Nat} {z : List Value} [ht : Aq P T (.struct fs) s b z]
  (hl : vs.length = s) (h : F5 I L a vs) : Fc P I L T a (.agg vs.toArray) := by
 intro w hm
 unfold loadVar
 rw [Ad (Ni ht.und w)]
 show (do pure (.agg (← loadCells a (← sizeOf T))) : Sem Value).run P w = _
 rw [Ad (Ey ht w), ← hl, Ad (I6 vs (h w hm))]; rfl
/- A stretch of a list of cells, forced. -/
def P8 : Nat → List Value → Option (List Value)
 | 0, _ => some []
 | k + 1, v :: cs => match P8 k cs with
  | some vs => some (v :: vs)
  | none => none
 | _ + 1, [] => none
def Lk : Nat → Nat → List Value → Option (List Value)
 | 0, k, cs => P8 k cs
 | o + 1, k, _ :: cs => Lk o k cs
 | _ + 1, _, [] => none
theorem Xr : ∀ {k : Nat} {cs vs : List Value}, P8 k cs = some vs → vs.length = k ∧ ∀ i, i < k → cs[i]? = vs[i]? := by
 intro k
 induction k with
 | zero => intro cs vs h; simp [P8] at h; subst h; simp
 | succ k ih =>
  intro cs vs h
  cases cs with
  | nil => simp [P8] at h
  | cons c cs =>
   simp only [P8] at h
   cases ht : P8 k cs with
   | none => simp [ht] at h
   | some us =>
    simp [ht] at h
    subst h; obtain ⟨h1, h2⟩ := ih ht; refine ⟨by simp [h1], fun i hi => ?_⟩
    cases i with
    | zero => rfl
    | succ i => simpa using h2 i (by omega)
theorem Ki : ∀ {o k : Nat} {cs vs : List Value}, Lk o k cs = some vs → vs.length = k ∧ ∀ i, i < k → cs[o + i]? = vs[i]? := by
 intro o
 induction o with
 | zero => intro k cs vs h; simpa [Lk] using Xr (by simpa [Lk] using h)
 | succ o ih =>
  intro k cs vs h
  cases cs with
  | nil => simp [Lk] at h
  | cons c cs =>
   obtain ⟨h1, h2⟩ := ih (by simpa [Lk] using h)
   exact ⟨h1, fun i hi => by rw [show o + 1 + i = o + i + 1 by omega]; simpa using h2 i hi⟩

theorem L3 {w : World} {b off i : Nat} {c : Array Value} {T : TypeId} {fr : Nat × Nat} (h : w.heap[b]? = some (.cells c T fr)) :
  w.cell? (Addr.add ⟨b, off, none⟩ i) = c[off + i]? := by
 unfold Addr.add
 by_cases e : i = 0
 ·subst e; simp [World.cell?, h]
 ·simp [e, World.cell?, h]

theorem Ng {I : Heap} {L : Bc} {b off k : Nat} {cs vs : List Value} {T : TypeId} {fr : Nat × Nat} (hm : (b, Obj.cells cs.toArray T fr) ∈ L) (hc : Lk off k cs = some vs) :
  F5 I L ⟨b, off, none⟩ vs := by
 intro w hw i hi; rw [L3 (hw.2.1 _ hm).1]; obtain ⟨h1, h2⟩ := Ki hc
 have := h2 i (by omega)
 simpa [hi] using this

theorem B0 {I : Heap} {L : Bc} {b off : Nat} {cs vs : List Value} {T : TypeId} {fr : Nat × Nat} (hm : (b, Obj.cells cs.toArray T fr) ∈ L) (hc : Lk off vs.length cs = some vs) : F5 I L ⟨b, off, none⟩ vs := Ng hm hc

def Still (I : Heap) (a : Addr) (vs : List Value) : Prop :=
 vs = [] ∨ ∃ c T fr, I a.block = some (.cells c T fr) ∧ a.spot = none ∧ ∀ i (h : i < vs.length), c[a.off + i]? = some vs[i]
theorem Still.mono {I I' : Heap} (hle : HLe I I') {a : Addr} {vs : List Value} (h : Still I a vs) : Still I' a vs := by
 rcases h with h | ⟨c, T, fr, hb, hs, hc⟩
 ·exact .inl h
 ·exact .inr ⟨c, T, fr, hle.le _ _ hb, hs, hc⟩
theorem Still.reads {I : Heap} {L : Bc} {a : Addr} {vs : List Value} (h : Still I a vs) : F5 I L a vs := by
 intro w hw i hi
 rcases h with h | ⟨c, T, fr, hb, hs, hc⟩
 ·subst h; simp at hi
 ·obtain ⟨b, off, sp⟩ := a
  simp at hs
  subst hs; rw [L3 (hw.1.1 _ _ hb)]
  exact hc i hi
theorem Still.part {I : Heap} {a : Addr} {vs us : List Value} (h : Still I a vs) (off : Nat) (hu : ∀ i (hi : i < us.length), vs[off + i]? = some us[i]) : Still I (a.add off) us := by
 rcases Nat.eq_zero_or_pos us.length with e | e
 ·exact .inl (List.length_eq_zero_iff.1 e)
 ·rcases h with h | ⟨c, T, fr, hb, hs, hc⟩
  ·subst h; have := hu 0 e; simp at this
  ·refine .inr ⟨c, T, fr, ?_, ?_, ?_⟩
   ·unfold Addr.add; split <;> exact hb
   ·unfold Addr.add; split <;> first | exact hs | rfl
   ·intro i hi
    have h1 := hu i hi
    have h2 : off + i < vs.length := by
     rcases Nat.lt_or_ge (off + i) vs.length with g | g
     ·exact g
     ·simp [List.getElem?_eq_none g] at h1
    have h3 := hc (off + i) h2
    have h4 : vs[off + i] = us[i] := by simpa [h2] using h1
    rw [h4] at h3
    have : (a.add off).off + i = a.off + (off + i) := by
     unfold Addr.add; split
     ·subst_vars; omega
     ·simp; omega
    rw [this]; exact h3

theorem Still.cut {I : Heap} {a : Addr} {vs us : List Value} {o k : Nat} (h : Still I a vs) (hc : Lk o k vs = some us) : Still I (a.add o) us := by
 obtain ⟨h1, h2⟩ := Ki hc
 exact h.part o fun i hi => by rw [h2 i (by omega)]; simp [hi]

theorem Dv {I : Heap} {L : Bc} {T : TypeId} {b off : Nat} {v : Value} {cs : List Value} {U : TypeId} {fr : Nat × Nat} {d : TypeDesc} {s bb : Nat} {z : List Value} [ht : Aq P T d s bb z]
  (hm : (b, Obj.cells cs.toArray U fr) ∈ L) (hc : Lk off 1 cs = some [v]) (hd : Lw d = true) : Fc P I L T ⟨b, off, none⟩ v := Ep hd (Ng hm hc)
theorem Gs {I : Heap} {L : Bc} {T : TypeId} {b off : Nat} {vs : List Value} {cs : List Value} {U : TypeId} {fr : Nat × Nat} {fs : Array Field} {s bb : Nat} {z : List Value} [ht : Aq P T (.struct fs) s bb z]
  (hm : (b, Obj.cells cs.toArray U fr) ∈ L) (hc : Lk off s cs = some vs) : Fc P I L T ⟨b, off, none⟩ (.agg vs.toArray) := Hz (Ki hc).1 (Ng hm hc)
theorem C8 {I : Heap} {L : Bc} {T : TypeId} {a : Addr} {v : Value} {d : TypeDesc} {s bb : Nat} {z : List Value} [ht : Aq P T d s bb z] (h : Still I a [v]) (hd : Lw d = true) : Fc P I L T a v := Ep hd h.reads
theorem Eh {I : Heap} {L : Bc} {T : TypeId} {a : Addr} {vs : List Value} {fs : Array Field} {s bb : Nat} {z : List Value} [ht : Aq P T (.struct fs) s bb z] (h : Still I a vs) (hl : vs.length = s) : Fc P I L T a (.agg vs.toArray) := Hz hl h.reads
theorem Eg {I : Heap} {L : Bc} {T : TypeId} {a : Addr} {v : Value} {vs : List Value} {o : Nat} {d : TypeDesc} {s bb : Nat} {z : List Value} [ht : Aq P T d s bb z] (h : Still I a vs) (hc : Lk o 1 vs = some [v]) (hd : Lw d = true) :
  Fc P I L T (a.add o) v := Ep hd (h.cut hc).reads

/- Values by their cells. -/
def Fg : Value → Option (List Value)
 | .agg c => some c.toList
 | .tuple _ => none
 | v => some [v]
theorem It {v : Value} {vs : List Value} (h : Fg v = some vs) : v.cells = vs.toArray := by
 cases v <;> simp [Fg] at h <;> subst h <;> rfl

def Cs : Value → Bool
 | .agg _ | .tuple _ => false
 | _ => true
end

section rules
variable {P : Program} {f : FuncId} {n : Nat} {I₀ : Heap} {Q : C3} {k : List Item} {E : Gj} {I : Heap} {L : Bc}
variable {ops : Array Oper} {d : Nat} {ty : TypeId} {pos : String} {af : Array Edge} {g : Option (Nat × Bool)} {l : List Oper}

theorem D3 {S : World → Prop} {c x y : Operand} {v : Value} (hc : Bo E c = some (.bool true)) (hx : Bo E x = some v) : G1 P E S ⟨some d, .pick c x y, ty, pos, af, g⟩ (v) := fun a w he _ => by simp [execOp, he.eval hc, he.eval hx, asBool]
theorem Dj {c x y : Operand} {v : Value} (hc : Bo E c = some (.bool true)) (hx : Bo E x = some v) (hg : Wants ops E g) (hdn : Nat.blt d n = true)
  (h : A6 P f n I₀ Q ops l k ((d, v) :: E) I L) : A6 P f n I₀ Q ops (⟨some d, .pick c x y, ty, pos, af, g⟩ :: l) k E I L := D7 (D3 hc hx) hg hdn h
theorem C9 {S : World → Prop} {c x y : Operand} {v : Value} (hc : Bo E c = some (.bool false)) (hy : Bo E y = some v) : G1 P E S ⟨some d, .pick c x y, ty, pos, af, g⟩ (v) := fun a w he _ => by simp [execOp, he.eval hc, he.eval hy, asBool]
theorem C1 {c x y : Operand} {v : Value} (hc : Bo E c = some (.bool false)) (hy : Bo E y = some v) (hg : Wants ops E g) (hdn : Nat.blt d n = true)
  (h : A6 P f n I₀ Q ops l k ((d, v) :: E) I L) : A6 P f n I₀ Q ops (⟨some d, .pick c x y, ty, pos, af, g⟩ :: l) k E I L := D7 (C9 hc hy) hg hdn h

theorem Ik {S : World → Prop} {x : Operand} {b : Bool} {T : TypeId} (hx : Bo E x = some (.bool b)) : G1 P E S ⟨some d, .unOp .not T x, ty, pos, af, g⟩ (.bool (!b)) := fun a w he _ => by simp [execOp, he.eval hx, Op.unary]
theorem Dy {x : Operand} {b : Bool} {T : TypeId} (hx : Bo E x = some (.bool b)) (hg : Wants ops E g) (hdn : Nat.blt d n = true)
  (h : A6 P f n I₀ Q ops l k ((d, .bool (!b)) :: E) I L) : A6 P f n I₀ Q ops (⟨some d, .unOp .not T x, ty, pos, af, g⟩ :: l) k E I L := D7 (Ik hx) hg hdn h
theorem Jk {S : World → Prop} {x : Operand} {vs : List Value} {i : Nat} {v : Value} (hx : Bo E x = some (.tuple vs.toArray)) (hi : vs[i]? = some v) : G1 P E S ⟨some d, .extract x i, ty, pos, af, g⟩ (v) := fun a w he _ => by simp [execOp, he.eval hx, Instr.extract, hi]
theorem Xe {x : Operand} {vs : List Value} {i : Nat} {v : Value} (hx : Bo E x = some (.tuple vs.toArray)) (hi : vs[i]? = some v) (hg : Wants ops E g) (hdn : Nat.blt d n = true)
  (h : A6 P f n I₀ Q ops l k ((d, v) :: E) I L) : A6 P f n I₀ Q ops (⟨some d, .extract x i, ty, pos, af, g⟩ :: l) k E I L := D7 (Jk hx hi) hg hdn h

def O9 : BinOp → Int → Int → Option Bool
 | .eql, a, b => some (decide (a = b))
 | .neq, a, b => some (!decide (a = b))
 | .lss, a, b => some (decide (a < b))
 | .leq, a, b => some (decide (a ≤ b))
 | .gtr, a, b => some (decide (b < a))
 | .geq, a, b => some (decide (b ≤ a))
 | _, _, _ => none
theorem Vu {op : BinOp} {T : TypeId} {kk : IntKind} {a b : Int} {r : Bool} (h : O9 op a b = some r) (w : World) : (binOp op T (.int kk a) (.int kk b)).run P w = .ok (.bool r) w := by
 cases op <;> simp only [O9, Option.some.injEq, reduceCtorEq] at h <;> subst h <;> simp [binOp, Op.intCmp, bne, decide_not] <;> rfl
theorem Fb {op : BinOp} {T : TypeId} {x y : Operand} {kk kk' : IntKind} {a b : Int} (w : World) : (eqGuard op T x y (.int kk a) (.int kk' b)).run P w = .ok () w := by
 unfold eqGuard; split <;> rfl
theorem Ie {op : BinOp} {T : TypeId} {x y : Operand} {a b : ByteArray} (w : World) : (eqGuard op T x y (.string a) (.string b)).run P w = .ok () w := by
 unfold eqGuard; split <;> rfl

theorem Iu {S : World → Prop} {op : BinOp} {T T' : TypeId} {x y : Operand} {kk : IntKind} {a b : Int} {r : Bool} (hx : Bo E x = some (.int kk a)) (hy : Bo E y = some (.int kk b)) (hr : O9 op a b = some r)
  : G1 P E S ⟨some d, .binOp op T x y T', ty, pos, af, g⟩ (.bool r) := fun a w he _ => by
  simp only [execOp, he.eval hx, he.eval hy]
  refine Ad (a := _) (w' := w) ?_ |>.trans rfl
  rw [Ad (Fb w)]
  exact Vu hr w
theorem C7 {op : BinOp} {T T' : TypeId} {x y : Operand} {kk : IntKind} {a b : Int} {r : Bool} (hx : Bo E x = some (.int kk a)) (hy : Bo E y = some (.int kk b)) (hr : O9 op a b = some r)
  (hg : Wants ops E g) (hdn : Nat.blt d n = true)
  (h : A6 P f n I₀ Q ops l k ((d, .bool r) :: E) I L) : A6 P f n I₀ Q ops (⟨some d, .binOp op T x y T', ty, pos, af, g⟩ :: l) k E I L := D7 (Iu hx hy hr) hg hdn h

def V5 : BinOp → Int → Int → Option Int
 | .add, a, b => some (a + b)
 | .sub, a, b => some (a - b)
 | .mul, a, b => some (a * b)
 | _, _, _ => none
theorem Mr {m : Int} (h : -9223372036854775808 ≤ m ∧ m ≤ 9223372036854775807) : IntKind.i64.wrap m = m := by
 simp [IntKind.wrap, IntKind.bits, IntKind.signed]; omega
theorem G6 {S : World → Prop} {op : BinOp} {T T' : TypeId} {x y : Operand} {a b m : Int} (hx : Bo E x = some (.int .i64 a)) (hy : Bo E y = some (.int .i64 b)) (hr : V5 op a b = some m)
  (hb : -9223372036854775808 ≤ m ∧ m ≤ 9223372036854775807) : G1 P E S ⟨some d, .binOp op T x y T', ty, pos, af, g⟩ (.int .i64 m) := fun a' w he _ => by
  simp only [execOp, he.eval hx, he.eval hy]
  refine Ad (a := _) (w' := w) ?_ |>.trans rfl
  rw [Ad (Fb w)]
  have := Mr hb
  cases op <;> simp [V5] at hr <;> subst hr <;> simp [binOp, Op.intArith] <;> (simp only [this])
theorem O1 {op : BinOp} {T T' : TypeId} {x y : Operand} {a b m : Int} (hx : Bo E x = some (.int .i64 a)) (hy : Bo E y = some (.int .i64 b)) (hr : V5 op a b = some m)
  (hb : -9223372036854775808 ≤ m ∧ m ≤ 9223372036854775807) (hg : Wants ops E g) (hdn : Nat.blt d n = true)
  (h : A6 P f n I₀ Q ops l k ((d, .int .i64 m) :: E) I L) : A6 P f n I₀ Q ops (⟨some d, .binOp op T x y T', ty, pos, af, g⟩ :: l) k E I L := D7 (G6 hx hy hr hb) hg hdn h

theorem Vx (l : List UInt8) : (str l).toList = l := ByteArray.toList_mk l
def R1 : BinOp → List UInt8 → List UInt8 → Option Bool
 | .eql, a, b => some (decide (a = b))
 | .neq, a, b => some (!decide (a = b))
 | _, _, _ => none
theorem J8 {S : World → Prop} {op : BinOp} {T T' : TypeId} {x y : Operand} {a b : List UInt8} {r : Bool} (hx : Bo E x = some (.string (str a))) (hy : Bo E y = some (.string (str b))) (hr : R1 op a b = some r)
  : G1 P E S ⟨some d, .binOp op T x y T', ty, pos, af, g⟩ (.bool r) := fun a' w he _ => by
  simp only [execOp, he.eval hx, he.eval hy]
  refine Ad (a := _) (w' := w) ?_ |>.trans rfl
  rw [Ad (Ie w)]
  cases op <;> simp only [R1, Option.some.injEq, reduceCtorEq] at hr <;> subst hr <;> simp [binOp, Op.stringOp, Vx, Bool.beq_eq_decide_eq] <;> rfl
theorem Fn {op : BinOp} {T T' : TypeId} {x y : Operand} {a b : List UInt8} {r : Bool} (hx : Bo E x = some (.string (str a))) (hy : Bo E y = some (.string (str b))) (hr : R1 op a b = some r)
  (hg : Wants ops E g) (hdn : Nat.blt d n = true)
  (h : A6 P f n I₀ Q ops l k ((d, .bool r) :: E) I L) : A6 P f n I₀ Q ops (⟨some d, .binOp op T x y T', ty, pos, af, g⟩ :: l) k E I L := D7 (J8 hx hy hr) hg hdn h
theorem U1 {S : World → Prop} {T T' : TypeId} {x y : Operand} {a b : List UInt8} (hx : Bo E x = some (.string (str a))) (hy : Bo E y = some (.string (str b)))
  (hb : a.length + b.length ≤ 9223372036854775807)
  : G1 P E S ⟨some d, .binOp .add T x y T', ty, pos, af, g⟩ (.string (str (a ++ b))) := fun a' w he _ => by
  simp only [execOp, he.eval hx, he.eval hy]
  refine Ad (a := _) (w' := w) ?_ |>.trans rfl
  rw [Ad (Ie w)]
  have h1 : (str a).size = a.length := by simp [str, ByteArray.size]
  have h2 : (str b).size = b.length := by simp [str, ByteArray.size]
  have h3 : str a ++ str b = str (a ++ b) := by
   apply ByteArray.ext; simp [str]
  have h4 : ¬ ((((str a).size + (str b).size : Nat) : Int) > IntKind.i64.max) := by rw [h1, h2]; simp [IntKind.max, IntKind.bits, IntKind.signed]; omega
  simp only [binOp, Op.stringOp, if_neg h4, h3]; rfl
theorem Y8 {T T' : TypeId} {x y : Operand} {a b : List UInt8} (hx : Bo E x = some (.string (str a))) (hy : Bo E y = some (.string (str b)))
  (hb : a.length + b.length ≤ 9223372036854775807)
  (hg : Wants ops E g) (hdn : Nat.blt d n = true)
  (h : A6 P f n I₀ Q ops l k ((d, .string (str (a ++ b))) :: E) I L) : A6 P f n I₀ Q ops (⟨some d, .binOp .add T x y T', ty, pos, af, g⟩ :: l) k E I L := D7 (U1 hx hy hb) hg hdn h

theorem Xt {S : World → Prop} {x : Operand} {s : List UInt8} {T : TypeId} {sz bb : Nat} {z : List Value} [ht : Aq P T .string sz bb z] (hx : Bo E x = some (.string (str s))) :
  G1 P E S ⟨some d, .call ⟨.builtin .len, #[x], #[T]⟩, ty, pos, af, g⟩ (.int .i64 (s.length : Nat)) := fun a w he _ => by
  simp only [execOp, resolve, List.map_toArray, List.map, he.eval hx]
  simp only [pure_bind, invoke, builtin, Builtin.len_]
  refine Ad (a := _) (w' := w) ?_ |>.trans rfl
  simp only [List.getElem?_toArray, List.getElem?_cons_zero]
  rw [Ad (Ay ht.und w)]
  simp [goInt, F2, str, ByteArray.size]
theorem C2 {x : Operand} {s : List UInt8} {T : TypeId} {sz bb : Nat} {z : List Value} [ht : Aq P T .string sz bb z] (hx : Bo E x = some (.string (str s))) (hg : Wants ops E g) (hdn : Nat.blt d n = true)
  (h : A6 P f n I₀ Q ops l k ((d, .int .i64 (s.length : Nat)) :: E) I L) : A6 P f n I₀ Q ops (⟨some d, .call ⟨.builtin .len, #[x], #[T]⟩, ty, pos, af, g⟩ :: l) k E I L := D7 (Xt hx) hg hdn h

theorem D9 {S : World → Prop} {x : Operand} {ad : Option Addr} {m c : Nat} {e T : TypeId} {sz bb : Nat} {z : List Value} [ht : Aq P T (.slice e) sz bb z] (hx : Bo E x = some (.slice ad m c)) : G1 P E S ⟨some d, .call ⟨.builtin .len, #[x], #[T]⟩, ty, pos, af, g⟩ (.int .i64 (m : Nat)) := fun a w he _ => by
  simp only [execOp, resolve, List.map_toArray, List.map, he.eval hx]
  simp only [pure_bind, invoke, builtin, Builtin.len_]
  refine Ad (a := _) (w' := w) ?_ |>.trans rfl
  simp only [List.getElem?_toArray, List.getElem?_cons_zero]
  rw [Ad (Ay ht.und w)]
  rfl
theorem Iq {x : Operand} {ad : Option Addr} {m c : Nat} {e T : TypeId} {sz bb : Nat} {z : List Value} [ht : Aq P T (.slice e) sz bb z] (hx : Bo E x = some (.slice ad m c)) (hg : Wants ops E g) (hdn : Nat.blt d n = true)
  (h : A6 P f n I₀ Q ops l k ((d, .int .i64 (m : Nat)) :: E) I L) : A6 P f n I₀ Q ops (⟨some d, .call ⟨.builtin .len, #[x], #[T]⟩, ty, pos, af, g⟩ :: l) k E I L := D7 (D9 hx) hg hdn h

theorem U3 {S : World → Prop} {x y : Operand} {s : List UInt8} {i : Nat} {b : UInt8} {T : TypeId} {sz bb : Nat} {z : List Value} [ht : Aq P T .string sz bb z] (hx : Bo E x = some (.string (str s)))
  (hy : Bo E y = some (.int .i64 ((i : Nat) : Int))) (hi : s[i]? = some b) : G1 P E S ⟨some d, .index T x y, ty, pos, af, g⟩ (.int .u8 (b.toNat : Nat)) := fun a w he _ => by
  simp only [execOp, he.eval hx, he.eval hy, Instr.index, asIntOf, pure_bind]
  refine Ad (a := _) (w' := w) ?_ |>.trans rfl
  rw [Ad (Ay ht.und w)]
  have hlt : i < s.length := by
   rcases Nat.lt_or_ge i s.length with gg | gg
   ·exact gg
   ·simp [List.getElem?_eq_none gg] at hi
  have : (str s)[i]? = some b := by
   have h1 : i < (str s).size := by simpa [str, ByteArray.size] using hlt
   rw [getElem?_pos (str s) i h1]
   simp [hlt] at hi
   rw [← hi]; rfl
  simp [this, F2]
theorem Ul {x y : Operand} {s : List UInt8} {i : Nat} {b : UInt8} {T : TypeId} {sz bb : Nat} {z : List Value} [ht : Aq P T .string sz bb z] (hx : Bo E x = some (.string (str s)))
  (hy : Bo E y = some (.int .i64 ((i : Nat) : Int))) (hi : s[i]? = some b) (hg : Wants ops E g) (hdn : Nat.blt d n = true)
  (h : A6 P f n I₀ Q ops l k ((d, .int .u8 (b.toNat : Nat)) :: E) I L) : A6 P f n I₀ Q ops (⟨some d, .index T x y, ty, pos, af, g⟩ :: l) k E I L := D7 (U3 hx hy hi) hg hdn h


/- Parts of strings. -/
theorem K8 {v : Int} {kk : IntKind} {y : Nat} {c : BoundsCode} {r : Nat} (hr : v = (r : Int)) (hb : r ≤ y) (w : World) : (Instr.sliceBound (.int kk v) y c).run P w = .ok r w := by
 simp only [Instr.sliceBound, asIntOf, pure_bind]
 subst hr; rw [if_pos (by omega)]; rfl
theorem Tn {s : List UInt8} {a b : Nat} (hb : b ≤ s.length) : (str s).extract a b = str ((s.take b).drop a) := by
 apply ByteArray.ext
 simp [str, ByteArray.data_extract]
 rw [List.drop_take]

def Lc (E : Gj) : Option Operand → Option Int
 | none => some 0
 | some x => match Bo E x with | some (.int .i64 m) => some m | _ => none
def Lb (E : Gj) (top : Int) : Option Operand → Option Int
 | none => some top
 | some x => match Bo E x with | some (.int .i64 m) => some m | _ => none
theorem Kx {S : World → Prop} {x : Operand} {s : List UInt8} {lo hi : Option Operand} {a b : Int} {T : TypeId} {sz bb : Nat} {z : List Value} [ht : Aq P T .string sz bb z] (hx : Bo E x = some (.string (str s)))
  (hlo : Lc E lo = some a) (hhi : Lb E s.length hi = some b) (a' b' : Nat) (ha : a = a') (hb : b = b') (hab : a' ≤ b' ∧ b' ≤ s.length) : G1 P E S ⟨some d, .slice T x lo hi none, ty, pos, af, g⟩ (.string (str ((s.take b').drop a'))) := fun ac w he _ => by
  simp only [execOp, he.eval hx, Instr.sliceAt]
  refine Ad (a := _) (w' := w) ?_ |>.trans rfl
  rw [Ad (Ay ht.und w)]
  simp only [Instr.slice]
  rw [Ad (Ay ht.und w)]
  have hsz : (str s).size = s.length := by simp [str, ByteArray.size]
  have key : (Instr.sliceBounds false (str s).size (str s).size (lo.map ac.eval) (hi.map ac.eval) none).run P w = .ok (a', b', s.length) w := by
   rw [hsz]
   unfold Instr.sliceBounds
   simp only [pure_bind]
   have hlo' : lo = none ∧ a' = 0 ∨ ∃ y, lo = some y ∧ ac.eval y = .int .i64 a := by
    cases lo with
    | none => simp [Lc] at hlo; exact .inl ⟨rfl, by omega⟩
    | some y =>
     simp only [Lc] at hlo
     split at hlo
     ·rename_i m hm
      simp at hlo; subst hlo
      exact .inr ⟨y, rfl, he.eval hm⟩
     ·simp at hlo
   have tail : ∀ h' : Nat, h' = b' → (match lo.map ac.eval with
     | some v => do
      let l ← Instr.sliceBound v h' (if (none : Option Value).isSome = true then .slice3C else .sliceB)
      pure (l, h', s.length)
     | none => pure (0, h', s.length) : Sem (Nat × Nat × Nat)).run P w = .ok (a', b', s.length) w := by
    intro h' e; subst e
    rcases hlo' with ⟨e, e'⟩ | ⟨y, e, hy⟩
    ·subst e e'; rfl
    ·subst e
     simp only [Option.map_some, hy]
     rw [Ad (K8 ha hab.1 w)]; rfl
   cases hi with
   | none =>
    simp [Lb] at hhi
    simp only [Option.map_none]
    exact tail s.length (by omega)
   | some y =>
    simp only [Lb] at hhi
    split at hhi
    ·rename_i m hm
     simp at hhi; subst hhi
     simp only [Option.map_some, he.eval hm]
     rw [Ad (K8 hb hab.2 w)]
     exact tail b' rfl
    ·simp at hhi
  show (do let x ← Instr.sliceBounds false (str s).size (str s).size (lo.map ac.eval) (hi.map ac.eval) none; pure (.string ((str s).extract x.1 x.2.1)) : Sem Value).run P w = _
  rw [Ad key, Tn hab.2]; rfl
theorem N2 {x : Operand} {s : List UInt8} {lo hi : Option Operand} {a b : Int} {T : TypeId} {sz bb : Nat} {z : List Value} [ht : Aq P T .string sz bb z] (hx : Bo E x = some (.string (str s)))
  (hlo : Lc E lo = some a) (hhi : Lb E s.length hi = some b) (a' b' : Nat) (ha : a = a') (hb : b = b') (hab : a' ≤ b' ∧ b' ≤ s.length) (hg : Wants ops E g) (hdn : Nat.blt d n = true)
  (h : A6 P f n I₀ Q ops l k ((d, .string (str ((s.take b').drop a'))) :: E) I L) : A6 P f n I₀ Q ops (⟨some d, .slice T x lo hi none, ty, pos, af, g⟩ :: l) k E I L := D7 (Kx hx hlo hhi a' b' ha hb hab) hg hdn h

/- Variables in memory. -/
theorem Fy {S : World → Prop} {x : Operand} {s : List UInt8} {lo : Option Operand} {a : Int} {T : TypeId} {sz bb : Nat} {z : List Value} [ht : Aq P T .string sz bb z] (hx : Bo E x = some (.string (str s)))
  (hlo : Lc E lo = some a) (a' : Nat) (ha : a = a') (hab : a' ≤ s.length) : G1 P E S ⟨some d, .slice T x lo none none, ty, pos, af, g⟩ (.string (str (s.drop a'))) := by
 have := Kx (P := P) (S := S) (d := d) (ty := ty) (pos := pos) (af := af) (g := g) (T := T) (hi := none) hx hlo (b := s.length) rfl a' s.length ha rfl ⟨hab, Nat.le_refl _⟩
 rwa [List.take_length] at this
theorem Il {S : World → Prop} {x : Operand} {s : List UInt8} {hi : Option Operand} {b : Int} {T : TypeId} {sz bb : Nat} {z : List Value} [ht : Aq P T .string sz bb z] (hx : Bo E x = some (.string (str s)))
  (hhi : Lb E s.length hi = some b) (b' : Nat) (hb : b = b') (hab : b' ≤ s.length) : G1 P E S ⟨some d, .slice T x none hi none, ty, pos, af, g⟩ (.string (str (s.take b'))) :=
 Kx (P := P) (S := S) (d := d) (ty := ty) (pos := pos) (af := af) (g := g) (T := T) (lo := none) hx (a := 0) rfl hhi 0 b' rfl hb ⟨Nat.zero_le _, hab⟩
theorem H0 {x : Operand} {s : List UInt8} {lo : Option Operand} {a : Int} {T : TypeId} {sz bb : Nat} {z : List Value} [ht : Aq P T .string sz bb z] (hx : Bo E x = some (.string (str s)))
  (hlo : Lc E lo = some a) (a' : Nat) (ha : a = a') (hab : a' ≤ s.length) (hg : Wants ops E g) (hdn : Nat.blt d n = true)
  (h : A6 P f n I₀ Q ops l k ((d, .string (str (s.drop a'))) :: E) I L) : A6 P f n I₀ Q ops (⟨some d, .slice T x lo none none, ty, pos, af, g⟩ :: l) k E I L := D7 (Fy hx hlo a' ha hab) hg hdn h
theorem Vo {x : Operand} {s : List UInt8} {hi : Option Operand} {b : Int} {T : TypeId} {sz bb : Nat} {z : List Value} [ht : Aq P T .string sz bb z] (hx : Bo E x = some (.string (str s)))
  (hhi : Lb E s.length hi = some b) (b' : Nat) (hb : b = b') (hab : b' ≤ s.length) (hg : Wants ops E g) (hdn : Nat.blt d n = true)
  (h : A6 P f n I₀ Q ops l k ((d, .string (str (s.take b'))) :: E) I L) : A6 P f n I₀ Q ops (⟨some d, .slice T x none hi none, ty, pos, af, g⟩ :: l) k E I L := D7 (Il hx hhi b' hb hab) hg hdn h

theorem At {T : TypeId} {dd : TypeDesc} {sz bb : Nat} {z : List Value} [ht : Aq P T dd sz bb z] (hg : Wants ops E g) (hdn : Nat.blt d n = true)
  (h : ∀ b, A6 P f n I₀ Q ops l k ((d, .pointer (some ⟨b, 0, none⟩)) :: E) I ((b, .cells z.toArray T (0, 0)) :: L)) : A6 P f n I₀ Q ops (⟨some d, .alloc T, ty, pos, af, g⟩ :: l) k E I L := by
 refine Hk rfl hdn (fun a he => hg.wanted a he) fun a w he hm => ?_
 obtain ⟨v, hv, hz⟩ := If ht w; refine ⟨_, _, I, (w.heap.size, .cells z.toArray T (0, 0)) :: L, ?_, hm.alloc _, h _⟩
 simp only [execOp, Instr.alloc]
 refine Ad (a := .pointer (some ⟨w.heap.size, 0, none⟩)) (w' := { w with heap := w.heap.push (.cells z.toArray T (0, 0)) }) ?_ |>.trans rfl
 rw [Ad hv]
 have : v.cells = z.toArray := by rw [← hz]
 simp only [newVar, newRow, newObj, this]
 rfl
theorem Cc {T : TypeId} {x : Operand} {v : Value} {vs : List Value} (hx : Bo E x = some v) (hv : Fg v = some vs) (hg : Wants ops E g) (hdn : Nat.blt d n = true)
  (h : ∀ b, A6 P f n I₀ Q ops l k ((d, .pointer (some ⟨b, 0, none⟩)) :: E) I ((b, .cells vs.toArray T (0, 0)) :: L)) : A6 P f n I₀ Q ops (⟨some d, .box T x, ty, pos, af, g⟩ :: l) k E I L := by
 refine Hk rfl hdn (fun a he => hg.wanted a he) fun a w he hm => ?_
 refine ⟨_, _, I, (w.heap.size, .cells vs.toArray T (0, 0)) :: L, ?_, hm.alloc _, h _⟩
 simp only [execOp, Instr.box, he.eval hx, newVar, newRow, newObj, It hv]
 rfl

theorem Ij {I' : Heap} {L' : Bc} {T : TypeId} {x : Operand} {ad : Addr} {v : Value} (hx : Bo E x = some (.pointer (some ad))) (hl : Fc P I' L' T ad v) : G1 P E (Mem I' L') ⟨some d, .load T x, ty, pos, af, g⟩ v := by
 intro a w he hm
 simp only [execOp, Instr.loadAt, he.eval hx, Instr.sureAddr, pure_bind]
 exact Ad (hl w hm) |>.trans rfl
theorem Hf {T : TypeId} {x : Operand} {ad : Addr} {v : Value} (hx : Bo E x = some (.pointer (some ad))) (hl : Fc P I L T ad v) (hg : Wants ops E g) (hdn : Nat.blt d n = true)
  (h : A6 P f n I₀ Q ops l k ((d, v) :: E) I L) : A6 P f n I₀ Q ops (⟨some d, .load T x, ty, pos, af, g⟩ :: l) k E I L := D7 (Ij hx hl) hg hdn h

def Me : List Value → List Value → Option (List Value)
 | [], cs => some cs
 | v :: vs, _ :: cs => match Me vs cs with
  | some us => some (v :: us)
  | none => none
 | _ :: _, [] => none
def Kc : Nat → List Value → List Value → Option (List Value)
 | 0, vs, cs => Me vs cs
 | o + 1, vs, c :: cs => match Kc o vs cs with
  | some us => some (c :: us)
  | none => none
 | _ + 1, _, [] => none
theorem Zi : ∀ {vs cs us : List Value}, Me vs cs = some us → vs.length ≤ cs.length ∧ us = vs ++ cs.drop vs.length := by
 intro vs
 induction vs with
 | nil => intro cs us h; simp [Me] at h; simp [h]
 | cons v vs ih =>
  intro cs us h
  cases cs with
  | nil => simp [Me] at h
  | cons c cs =>
   simp only [Me] at h
   cases hu : Me vs cs with
   | none => simp [hu] at h
   | some xs =>
    simp [hu] at h
    obtain ⟨h1, h2⟩ := ih hu; subst h
    exact ⟨by simpa using h1, by simp [h2]⟩
theorem Wj : ∀ {o : Nat} {vs cs us : List Value}, Kc o vs cs = some us → o + vs.length ≤ cs.length ∧ us = cs.take o ++ vs ++ cs.drop (o + vs.length) := by
 intro o
 induction o with
 | zero => intro vs cs us h; obtain ⟨h1, h2⟩ := Zi (by simpa [Kc] using h); exact ⟨by omega, by simp [h2]⟩
 | succ o ih =>
  intro vs cs us h
  cases cs with
  | nil => simp [Kc] at h
  | cons c cs =>
   simp only [Kc] at h
   cases hu : Kc o vs cs with
   | none => simp [hu] at h
   | some xs =>
    simp [hu] at h
    obtain ⟨h1, h2⟩ := ih hu; subst h; refine ⟨by simp; omega, ?_⟩; rw [h2, show o + 1 + vs.length = o + vs.length + 1 by omega]; simp

theorem Vv {w : World} {b off : Nat} {c : Array Value} {T : TypeId} {v : Value} (hb : w.heap[b]? = some (.cells c T (0, 0))) (ho : off < c.size) (hv : Cs v = true) :
  (store ⟨b, off, none⟩ v).run P w = .ok () { w with heap := w.heap.setIfInBounds b (.cells (c.setIfInBounds off v) T (0, 0)) } := by
 have hc : w.cell? ⟨b, off, none⟩ = some c[off] := by simp [World.cell?, hb, ho]
 have hf : w.frozen? ⟨b, off, none⟩ = false := by simp [World.frozen?, hb]
 have hs : w.setCell ⟨b, off, none⟩ v = { w with heap := w.heap.setIfInBounds b (.cells (c.setIfInBounds off v) T (0, 0)) } := by
  unfold World.setCell
  congr 1
  apply Array.ext_getElem?
  intro i
  have lt : b < w.heap.size := by
   rcases Nat.lt_or_ge b w.heap.size with gg | gg
   ·exact gg
   ·simp [Array.getElem?_eq_none gg] at hb
  by_cases e : b = i
  ·subst e; rw [Array.getElem?_setIfInBounds_self, if_pos lt, Array.getElem?_modify, if_pos rfl, hb]; rfl
  ·simp [Array.getElem?_modify, e, Array.getElem?_setIfInBounds_ne e]
 cases v <;> simp [Cs] at hv <;> simp [store, Sem.run, hc, hf, hs]

theorem Us {l : List Value} {p : Nat} {v : Value} (h : p < l.length) : (l.set p v).take (p + 1) = l.take p ++ [v] := by
 rw [List.set_eq_take_append_cons_drop, if_pos h, List.take_append]
 simp [Nat.min_eq_left (Nat.le_of_lt h), List.take_take]
theorem W4 {w : World} {b : Nat} {o : Obj} (hb : w.heap[b]? = some o) : w.heap.setIfInBounds b o = w.heap := by
 apply Array.ext_getElem?
 intro j
 by_cases e : b = j
 ·subst e
  rcases Nat.lt_or_ge b w.heap.size with lt | gg
  ·rw [Array.getElem?_setIfInBounds_self, if_pos lt, hb]
  ·simp [Array.getElem?_eq_none gg] at hb
 ·rw [Array.getElem?_setIfInBounds_ne e]

theorem Kw {b : Nat} {T : TypeId} {off : Nat} : ∀ (vs : List Value) (i : Nat) (w : World) (c : Array Value), w.heap[b]? = some (.cells c T (0, 0)) → off + i + vs.length ≤ c.size → (vs.all Cs = true) →
  ∃ c' : Array Value, (storeCells ⟨b, off, none⟩ vs i).run P w = .ok () { w with heap := w.heap.setIfInBounds b (.cells c' T (0, 0)) } ∧
   c'.toList = c.toList.take (off + i) ++ vs ++ c.toList.drop (off + i + vs.length) := by
 intro vs
 induction vs with
 | nil =>
  intro i w c hb hn _
  exact ⟨c, by simp only [storeCells, F2, W4 hb], by simp⟩
 | cons v vs ih =>
  intro i w c hb hn hp
  simp only [List.all_cons, Bool.and_eq_true] at hp
  simp only [List.length_cons] at hn
  have lt : b < w.heap.size := by
   rcases Nat.lt_or_ge b w.heap.size with gg | gg
   ·exact gg
   ·simp [Array.getElem?_eq_none gg] at hb
  have ha : (Addr.add ⟨b, off, none⟩ i) = ⟨b, off + i, none⟩ := by unfold Addr.add; split <;> simp_all
  simp only [storeCells, ha]
  rw [Ad (Vv hb (by omega) hp.1)]; obtain ⟨c', h1, h2⟩ := ih (i + 1) { w with heap := w.heap.setIfInBounds b (.cells (c.setIfInBounds (off + i) v) T (0, 0)) } (c.setIfInBounds (off + i) v)
   (by simp [Array.getElem?_setIfInBounds_self, lt]) (by simp; omega) hp.2
  refine ⟨c', ?_, ?_⟩
  ·rw [h1]; simp
  ·rw [h2]
   simp only [Array.toList_setIfInBounds]
   rw [show off + (i + 1) = off + i + 1 by omega, Us (by simpa using (by omega : off + i < c.size)), List.drop_set_of_lt (by omega)]; rw [show off + i + 1 + vs.length = off + i + (v :: vs).length by simp; omega]
   simp

theorem S3 {b off : Nat} {T U : TypeId} {dd : TypeDesc} {sz bb : Nat} {z : List Value} (ht : Aq P T dd sz bb z) {v : Value} {vs cs us : List Value} {w : World}
  (hb : w.heap[b]? = some (.cells cs.toArray U (0, 0))) (hv : v.cells = vs.toArray) (hl : vs.length = sz) (hp : vs.all Cs = true) (hu : off + vs.length ≤ cs.length)
  (hus : us = cs.take off ++ vs ++ cs.drop (off + vs.length)) :
  (storeVar T ⟨b, off, none⟩ v).run P w = .ok () { w with heap := w.heap.setIfInBounds b (.cells us.toArray U (0, 0)) } := by
 unfold storeVar
 rw [Ad (Ey ht w)]; rw [if_neg (by rw [hv]; simp [hl])]
 have := Kw (P := P) (off := off) vs 0 w cs.toArray hb (by simpa using hu) hp
 obtain ⟨c', h1, h2⟩ := this; rw [hv]; rw [show (List.toArray vs).toList = vs from rfl]
 have h3 : c' = us.toArray := by
  apply Array.ext'
  rw [h2, hus]; simp
 rw [← h3]
 exact h1

theorem S6 {T U : TypeId} {x y : Operand} {b off : Nat} {v : Value} {vs cs us : List Value} {L' : Bc} {dd : TypeDesc} {sz bb : Nat} {z : List Value} [ht : Aq P T dd sz bb z]
  (hx : Bo E x = some (.pointer (some ⟨b, off, none⟩))) (hy : Bo E y = some v) (hv : Fg v = some vs) (hl : vs.length = sz) (hp : vs.all Cs = true)
  (hu : Upd b (.cells us.toArray U (0, 0)) (.cells cs.toArray U (0, 0)) L L') (hus : Kc off vs cs = some us) (a : Act) (w : World) (he : EnvOk E a) (hm : Mem I L w) :
  ∃ w', ((execOp a.eval ⟨none, .store T x y, ty, pos, af, g⟩).run P w = .ok .skip w' ∨ ∃ v, (execOp a.eval ⟨none, .store T x y, ty, pos, af, g⟩).run P w = .ok (.value v) w') ∧ Mem I L' w' := by
 refine ⟨{ w with heap := w.heap.setIfInBounds b (.cells us.toArray U (0, 0)) }, .inl ?_, hm.upd hu⟩
 simp only [execOp, Instr.storeAt, he.eval hx, he.eval hy, Instr.sureAddr, pure_bind]
 obtain ⟨h1, h2⟩ := Wj hus
 exact Ad (S3 ht (hm.2.1 _ hu.mem.1).1 (It hv) hl hp h1 h2) |>.trans rfl
theorem Sy {T U : TypeId} {x y : Operand} {b off : Nat} {v : Value} {vs cs us : List Value} {L' : Bc} {dd : TypeDesc} {sz bb : Nat} {z : List Value} [ht : Aq P T dd sz bb z]
  (hx : Bo E x = some (.pointer (some ⟨b, off, none⟩))) (hy : Bo E y = some v) (hv : Fg v = some vs) (hl : vs.length = sz) (hp : vs.all Cs = true)
  (hu : Upd b (.cells us.toArray U (0, 0)) (.cells cs.toArray U (0, 0)) L L') (hus : Kc off vs cs = some us) (hg : Wants ops E g)
  (h : A6 P f n I₀ Q ops l k E I L') : A6 P f n I₀ Q ops (⟨none, .store T x y, ty, pos, af, g⟩ :: l) k E I L :=
 Ku rfl (fun a he => hg.wanted a he) (S6 hx hy hv hl hp hu hus) h
theorem V7 {S : World → Prop} {fuel : Nat} {listed listed' : Array Bool} (i : Nat) {T U : TypeId} {x y : Operand} {b off : Nat} {v : Value} {vs cs us : List Value} {L' : Bc} {dd : TypeDesc} {sz bb : Nat} {z : List Value} [ht : Aq P T dd sz bb z]
  (hi : ops[i]? = some ⟨none, .store T x y, ty, pos, af, g⟩) (hc : decide (Region.ready .any ops listed = [i]) = true) (hl' : listed' = listed.setIfInBounds i true)
  (hx : Bo E x = some (.pointer (some ⟨b, off, none⟩))) (hy : Bo E y = some v) (hv : Fg v = some vs) (hl : vs.length = sz) (hp : vs.all Cs = true)
  (hu : Upd b (.cells us.toArray U (0, 0)) (.cells cs.toArray U (0, 0)) L L') (hus : Kc off vs cs = some us) (hg : Wants ops E g) (hS : E4 ops listed' = true ∨ ∀ w, Mem I L' w → S w)
  (h : Cn P f n I₀ Q ops S fuel listed' k E I L') : Cn P f n I₀ Q ops S (fuel + 1) listed k E I L :=
 Tf i hi hc hl' rfl (fun a he => hg.wanted a he) (S6 hx hy hv hl hp hu hus) hS h

end rules
section rules
variable {P : Program} {f : FuncId} {n : Nat} {I₀ : Heap} {Q : C3} {k : List Item} {E : Gj} {I : Heap} {L : Bc}
variable {ops : Array Oper} {d : Nat} {ty : TypeId} {pos : String} {af : Array Edge} {g : Option (Nat × Bool)} {l : List Oper}

theorem Ae {S : World → Prop} {T : TypeId} {i off : Nat} [hf : Az P T i off] {x : Operand} {b o : Nat} (hx : Bo E x = some (.pointer (some ⟨b, o, none⟩))) :
  G1 P E S ⟨some d, .fieldAddr T x i, ty, pos, af, g⟩ (.pointer (some ⟨b, o + off, none⟩)) := by
 obtain ⟨fs, fld, inf, hu, hi, hin, hsz, ho⟩ := hf.get; intro a w he _
 simp only [execOp, Instr.fieldAt, he.eval hx]
 refine Ad (a := _) (w' := w) ?_ |>.trans rfl
 rw [Ad (Ay hu w)]
 simp only [hi, Instr.sureAddr, pure_bind, fieldPlace]
 have h1 : (sizeOf fld.type).run P w = .ok inf.size w := by unfold sizeOf; rw [Ad (Gh hin w)]; rfl
 refine Ad (a := (⟨b, o + off, none⟩ : Addr)) (w' := w) ?_ |>.trans rfl
 rw [Ad h1, if_neg (by simpa using hsz), ho]
 have : Addr.add ⟨b, o, none⟩ off = ⟨b, o + off, none⟩ := by unfold Addr.add; split <;> simp_all
 rw [this]; rfl
theorem Ba {S : World → Prop} {T : TypeId} {i off : Nat} [hf : Az P T i off] {x : Operand} {ad : Addr} (hx : Bo E x = some (.pointer (some ad))) :
  G1 P E S ⟨some d, .fieldAddr T x i, ty, pos, af, g⟩ (.pointer (some (ad.add off))) := by
 obtain ⟨fs, fld, inf, hu, hi, hin, hsz, ho⟩ := hf.get; intro a w he _
 simp only [execOp, Instr.fieldAt, he.eval hx]
 refine Ad (a := _) (w' := w) ?_ |>.trans rfl
 rw [Ad (Ay hu w)]
 simp only [hi, Instr.sureAddr, pure_bind, fieldPlace]
 have h1 : (sizeOf fld.type).run P w = .ok inf.size w := by unfold sizeOf; rw [Ad (Gh hin w)]; rfl
 refine Ad (a := ad.add off) (w' := w) ?_ |>.trans rfl
 rw [Ad h1, if_neg (by simpa using hsz), ho]
 rfl
theorem A3 {T : TypeId} {i off : Nat} [hf : Az P T i off] {x : Operand} {ad : Addr} (hx : Bo E x = some (.pointer (some ad))) (hg : Wants ops E g) (hdn : Nat.blt d n = true)
  (h : A6 P f n I₀ Q ops l k ((d, .pointer (some (ad.add off))) :: E) I L) : A6 P f n I₀ Q ops (⟨some d, .fieldAddr T x i, ty, pos, af, g⟩ :: l) k E I L := D7 (Ba hx) hg hdn h
theorem Bv {T : TypeId} {i off : Nat} [hf : Az P T i off] {x : Operand} {b o : Nat} (hx : Bo E x = some (.pointer (some ⟨b, o, none⟩))) (hg : Wants ops E g) (hdn : Nat.blt d n = true)
  (h : A6 P f n I₀ Q ops l k ((d, .pointer (some ⟨b, o + off, none⟩)) :: E) I L) : A6 P f n I₀ Q ops (⟨some d, .fieldAddr T x i, ty, pos, af, g⟩ :: l) k E I L := D7 (Ae hx) hg hdn h

theorem N7 {S : World → Prop} {T e : TypeId} {sz bb esz ebb : Nat} {z ez : List Value} {dd : TypeDesc} [ht : Aq P T (.slice e) sz bb z] [hte : Aq P e dd esz ebb ez] {x y : Operand} {ad : Addr} {m c : Nat} {i : Int}
  (hx : Bo E x = some (.slice (some ad) m c)) (hy : Bo E y = some (.int .i64 i)) (i' : Nat) (hi : i = i') (him : i' < m) : G1 P E S ⟨some d, .indexAddr T x y, ty, pos, af, g⟩ (.pointer (some (ad.add (i' * esz)))) := fun a w he _ => by
  subst hi
  simp only [execOp, he.eval hx, he.eval hy, Instr.indexAt, asIntOf, pure_bind]
  refine Ad (a := _) (w' := w) ?_ |>.trans rfl
  rw [Ad (Ay ht.und w)]
  simp only [pure_bind]
  rw [Ad (Ay ht.und w)]; rw [if_pos ⟨by omega, by omega⟩]; rw [Ad (Ey hte w)]
  simp [F2]
theorem Uk {T e : TypeId} {sz bb esz ebb : Nat} {z ez : List Value} {dd : TypeDesc} [ht : Aq P T (.slice e) sz bb z] [hte : Aq P e dd esz ebb ez] {x y : Operand} {ad : Addr} {m c : Nat} {i : Int}
  (hx : Bo E x = some (.slice (some ad) m c)) (hy : Bo E y = some (.int .i64 i)) (i' : Nat) (hi : i = i') (him : i' < m) (hg : Wants ops E g) (hdn : Nat.blt d n = true)
  (h : A6 P f n I₀ Q ops l k ((d, .pointer (some (ad.add (i' * esz)))) :: E) I L) : A6 P f n I₀ Q ops (⟨some d, .indexAddr T x y, ty, pos, af, g⟩ :: l) k E I L := D7 (N7 hx hy i' hi him) hg hdn h

theorem Qs {S : World → Prop} {T e : TypeId} {sz bb esz ebb : Nat} {z ez : List Value} {dd : TypeDesc} [ht : Aq P T (.slice e) sz bb z] [hte : Aq P e dd esz ebb ez] {x : Operand} {ad : Option Addr} {m c : Nat}
  {lo hi : Option Operand} {a b : Int} (hx : Bo E x = some (.slice ad m c))
  (hlo : Lc E lo = some a) (hhi : Lb E m hi = some b) (a' b' : Nat) (ha : a = a') (hb : b = b') (hab : a' ≤ b' ∧ b' ≤ c) : G1 P E S ⟨some d, .slice T x lo hi none, ty, pos, af, g⟩ (.slice (if c = a' then ad else ad.map (·.add (a' * esz))) (b' - a') (c - a')) := fun ac w he _ => by
  simp only [execOp, he.eval hx, Instr.sliceAt]
  refine Ad (a := _) (w' := w) ?_ |>.trans rfl
  rw [Ad (Ay ht.und w)]
  simp only [Instr.slice]
  rw [Ad (Ay ht.und w)]
  have key : (Instr.sliceBounds true m c (lo.map ac.eval) (hi.map ac.eval) none).run P w = .ok (a', b', c) w := by
   unfold Instr.sliceBounds
   simp only [pure_bind]
   have hlo' : lo = none ∧ a' = 0 ∨ ∃ y, lo = some y ∧ ac.eval y = .int .i64 a := by
    cases lo with
    | none => simp [Lc] at hlo; exact .inl ⟨rfl, by omega⟩
    | some y =>
     simp only [Lc] at hlo
     split at hlo
     ·rename_i m hm
      simp at hlo; subst hlo
      exact .inr ⟨y, rfl, he.eval hm⟩
     ·simp at hlo
   have tail : ∀ h' : Nat, h' = b' → (match lo.map ac.eval with
     | some v => do
      let l ← Instr.sliceBound v h' (if (none : Option Value).isSome = true then .slice3C else .sliceB)
      pure (l, h', c)
     | none => pure (0, h', c) : Sem (Nat × Nat × Nat)).run P w = .ok (a', b', c) w := by
    intro h' e; subst e
    rcases hlo' with ⟨e, e'⟩ | ⟨y, e, hy⟩
    ·subst e e'; rfl
    ·subst e
     simp only [Option.map_some, hy]
     rw [Ad (K8 ha hab.1 w)]; rfl
   cases hi with
   | none =>
    simp [Lb] at hhi
    simp only [Option.map_none]
    exact tail m (by omega)
   | some y =>
    simp only [Lb] at hhi
    split at hhi
    ·rename_i m' hm
     simp at hhi; subst hhi
     simp only [Option.map_some, he.eval hm]
     rw [Ad (K8 hb hab.2 w)]
     exact tail b' rfl
    ·simp at hhi
  show (do let x ← Instr.sliceBounds true m c (lo.map ac.eval) (hi.map ac.eval) none; let size ← sizeOf e; pure (.slice (if x.2.2 = x.1 then ad else ad.map (·.add (x.1 * size))) (x.2.1 - x.1) (x.2.2 - x.1)) : Sem Value).run P w = _
  rw [Ad key]; rw [Ad (Ey hte w)]; rfl
theorem I5 {T e : TypeId} {sz bb esz ebb : Nat} {z ez : List Value} {dd : TypeDesc} [ht : Aq P T (.slice e) sz bb z] [hte : Aq P e dd esz ebb ez] {x : Operand} {ad : Option Addr} {m c : Nat}
  {lo hi : Option Operand} {a b : Int} (hx : Bo E x = some (.slice ad m c))
  (hlo : Lc E lo = some a) (hhi : Lb E m hi = some b) (a' b' : Nat) (ha : a = a') (hb : b = b') (hab : a' ≤ b' ∧ b' ≤ c) (hg : Wants ops E g) (hdn : Nat.blt d n = true)
  (h : A6 P f n I₀ Q ops l k ((d, .slice (if c = a' then ad else ad.map (·.add (a' * esz))) (b' - a') (c - a')) :: E) I L) : A6 P f n I₀ Q ops (⟨some d, .slice T x lo hi none, ty, pos, af, g⟩ :: l) k E I L := D7 (Qs hx hlo hhi a' b' ha hb hab) hg hdn h

theorem Aaq {S : World → Prop} {T : TypeId} {parts : Array (Nat × Operand)} {is : List Nat} {vs : List Value} {v : Value} (hp : parts.toList.map (·.1) = is) (ho : G9 E (parts.toList.map (·.2)) = some vs)
  (hb : ∀ w, (Instr.build T (is.zip vs).toArray).run P w = .ok v w) : G1 P E S ⟨some d, .build T parts, ty, pos, af, g⟩ (v) := fun a w he _ => by
  have h1 : parts.map (fun (i, x) => (i, a.eval x)) = (is.zip vs).toArray := by
   apply Array.ext'
   have := he.evals ho
   rw [← hp, ← this]
   simp [List.zip_map', Function.comp_def]
  simp only [execOp]
  rw [h1]
  exact Ad (hb w) |>.trans rfl
theorem Aak {T : TypeId} {parts : Array (Nat × Operand)} {is : List Nat} {vs : List Value} {v : Value} (hp : parts.toList.map (·.1) = is) (ho : G9 E (parts.toList.map (·.2)) = some vs)
  (hb : ∀ w, (Instr.build T (is.zip vs).toArray).run P w = .ok v w) (hg : Wants ops E g) (hdn : Nat.blt d n = true)
  (h : A6 P f n I₀ Q ops l k ((d, v) :: E) I L) : A6 P f n I₀ Q ops (⟨some d, .build T parts, ty, pos, af, g⟩ :: l) k E I L := D7 (Aaq hp ho hb) hg hdn h

theorem Sr {T e : TypeId} {parts : Array (Nat × Operand)} {is : List Nat} {vs cs : List Value} {m : Nat} {sz bb esz ebb : Nat} {z ez : List Value} {dd : TypeDesc} [ht : Aq P T (.slice e) sz bb z] [hte : Aq P e dd esz ebb ez]
  (hp : parts.toList.map (·.1) = is) (ho : G9 E (parts.toList.map (·.2)) = some vs) (hm0 : m * esz ≠ 0) (hm1 : m * esz ≤ 2 ^ 24)
  (hfill : Instr.fill (fun i => some (i * esz, esz)) ((Array.range (m * esz)).map (ez.toArray[· % ez.toArray.size]!)) (is.zip vs) = some cs.toArray) (hg : Wants ops E g) (hdn : Nat.blt d n = true)
  (h : ∀ b, A6 P f n I₀ Q ops l k ((d, .slice (some ⟨b, 0, none⟩) m m) :: E) I ((b, .cells cs.toArray e (0, 0)) :: L)) :
  A6 P f n I₀ Q ops (⟨some d, .buildSlice T m parts, ty, pos, af, g⟩ :: l) k E I L := by
 refine Hk rfl hdn (fun a he => hg.wanted a he) fun a w he hm => ?_
 refine ⟨_, _, I, (w.heap.size, .cells cs.toArray e (0, 0)) :: L, ?_, hm.alloc _, h _⟩
 have h1 : parts.map (fun (i, x) => (i, a.eval x)) = (is.zip vs).toArray := by
  apply Array.ext'
  have := he.evals ho
  rw [← hp, ← this]
  simp [List.zip_map', Function.comp_def]
 simp only [execOp]
 rw [h1]; refine Ad (a := .slice (some ⟨w.heap.size, 0, none⟩) m m) (w' := { w with heap := w.heap.push (.cells cs.toArray e (0, 0)) }) ?_ |>.trans rfl
 unfold Instr.buildSlice
 rw [Ad (Ay ht.und w)]
 simp only []
 rw [Ad (Ey hte w)]; rw [if_neg (by omega), if_neg hm0]; obtain ⟨zv, hz1, hz2⟩ := If hte w
 have hz3 : zv.cells = ez.toArray := by rw [← hz2]
 simp only [bind_assoc, pure_bind]
 rw [Ad hz1, hz3]; rw [hfill]
 rfl

/- 'append' onto a slice of the call's own. -/
theorem Pu (need c : Nat) (h : c < need) : Builtin.nextslicecap need c ≤ 2 * need + 1000 := by
 unfold Builtin.nextslicecap
 split
 ·omega
 ·split
  ·omega
  ·have gen : ∀ r c : Nat, c < need + (need + 768) / 4 + 1 → Builtin.growBy need r c ≤ need + (need + 768) / 4 := by
    intro r
    induction r with
    | zero => intro c hc; simp [Builtin.growBy]; omega
    | succ r ih =>
     intro c hc
     simp only [Builtin.growBy]
     split
     ·omega
     ·exact ih _ (by omega)
   have := gen 4 c (by omega)
   omega

theorem Gc {I : Heap} {L : Bc} {w : World} (hm : Mem I L w) {ad : Option Addr} {m c sz : Nat} {xs : List Value} (hl : xs.length = m * sz)
  (hr : ∀ a, ad = some a → F5 I L a xs) (hn : ad = none → xs = []) : (Builtin.firstCells sz m (.slice ad m c)).run P w = .ok xs.toArray w := by
 cases ad with
 | none => simp [Builtin.firstCells, hn rfl, F2]
 | some a =>
  simp only [Builtin.firstCells]
  rw [← hl]
  exact I6 xs (hr a rfl w hm)

abbrev H3 := Option (Nat × List Value)
def A2 (e : TypeId) (xs : List Value) : H3 → Bc
 | none => []
 | some (b, sp) => [(b, .cells (xs ++ sp).toArray e (0, 0))]
def Bd (m : Nat) (c : Nat) : H3 → Value
 | none => .slice none 0 0
 | some (b, sp) => .slice (some ⟨b, 0, none⟩) m c
theorem Gm {m c : Nat} {B : H3} : Cs (Bd m c B) = true := by cases B <;> rfl
def Cy (esz m c : Nat) (xs : List Value) : H3 → Prop
 | none => xs = [] ∧ m = 0 ∧ c = 0
 | some (_, sp) => xs.length = m * esz ∧ m ≤ c ∧ sp.length = (c - m) * esz

theorem Mem.perm {I : Heap} {L L' : Bc} {w : World} (hp : L.Perm L') (h : Mem I L w) : Mem I L' w :=
 ⟨h.1, fun r hr => h.2.1 r (hp.mem_iff.2 hr), (hp.map _).nodup_iff.1 h.2.2⟩
theorem Mem.perm2 {I : Heap} {p q : Nat × Obj} {L : Bc} {w : World} (h : Mem I (p :: q :: L) w) : Mem I (q :: p :: L) w := h.perm (List.Perm.swap ..)
theorem Mem.sub {I : Heap} {L L' : Bc} {w : World} (hs : L'.Sublist L) (h : Mem I L w) : Mem I L' w :=
 ⟨h.1, fun r hr => h.2.1 r (hs.subset hr), h.2.2.sublist (hs.map _)⟩

theorem Mem.f1 {I : Heap} {a p : Nat × Obj} {L : Bc} {w : World} (h : Mem I (a :: p :: L) w) : Mem I (p :: a :: L) w := h.perm2
theorem Mem.f2 {I : Heap} {a b p : Nat × Obj} {L : Bc} {w : World} (h : Mem I (a :: b :: p :: L) w) : Mem I (p :: a :: b :: L) w := h.perm (List.perm_middle (l₁ := [a, b]))
theorem Mem.f3 {I : Heap} {a b c p : Nat × Obj} {L : Bc} {w : World} (h : Mem I (a :: b :: c :: p :: L) w) : Mem I (p :: a :: b :: c :: L) w := h.perm (List.perm_middle (l₁ := [a, b, c]))
theorem Mem.f4 {I : Heap} {a b c d p : Nat × Obj} {L : Bc} {w : World} (h : Mem I (a :: b :: c :: d :: p :: L) w) : Mem I (p :: a :: b :: c :: d :: L) w := h.perm (List.perm_middle (l₁ := [a, b, c, d]))
theorem Mem.f5 {I : Heap} {a b c d e p : Nat × Obj} {L : Bc} {w : World} (h : Mem I (a :: b :: c :: d :: e :: p :: L) w) : Mem I (p :: a :: b :: c :: d :: e :: L) w := h.perm (List.perm_middle (l₁ := [a, b, c, d, e]))
theorem Mem.f6 {I : Heap} {a b c d e g p : Nat × Obj} {L : Bc} {w : World} (h : Mem I (a :: b :: c :: d :: e :: g :: p :: L) w) : Mem I (p :: a :: b :: c :: d :: e :: g :: L) w := h.perm (List.perm_middle (l₁ := [a, b, c, d, e, g]))
theorem Mem.u1 {I : Heap} {a : Nat × Obj} {X L : Bc} {w : World} (h : Mem I (a :: (X ++ L)) w) : Mem I (X ++ a :: L) w := h.perm (List.perm_append_comm_assoc [a] X L)
theorem Mem.u2 {I : Heap} {a b : Nat × Obj} {X L : Bc} {w : World} (h : Mem I (a :: b :: (X ++ L)) w) : Mem I (X ++ a :: b :: L) w := h.perm (List.perm_append_comm_assoc [a, b] X L)
theorem Mem.u3 {I : Heap} {a b c : Nat × Obj} {X L : Bc} {w : World} (h : Mem I (a :: b :: c :: (X ++ L)) w) : Mem I (X ++ a :: b :: c :: L) w := h.perm (List.perm_append_comm_assoc [a, b, c] X L)
theorem Mem.u4 {I : Heap} {a b c d : Nat × Obj} {X L : Bc} {w : World} (h : Mem I (a :: b :: c :: d :: (X ++ L)) w) : Mem I (X ++ a :: b :: c :: d :: L) w := h.perm (List.perm_append_comm_assoc [a, b, c, d] X L)
theorem Mem.u5 {I : Heap} {a b c d e : Nat × Obj} {X L : Bc} {w : World} (h : Mem I (a :: b :: c :: d :: e :: (X ++ L)) w) : Mem I (X ++ a :: b :: c :: d :: e :: L) w := h.perm (List.perm_append_comm_assoc [a, b, c, d, e] X L)

theorem Ky (z : Array Value) (m : Nat) : (Builtin.zeroCells z m).size = m * z.size := by simp [Builtin.zeroCells]

theorem Lu {T e : TypeId} {sz bb esz ebb : Nat} {z ez : List Value} {dd : TypeDesc} (ht : Aq P T (.slice e) sz bb z) (hte : Aq P e dd esz ebb ez) (hez : ez.length = esz)
  {I : Heap} {L : Bc} {w : World} {B : H3} {xs ys : List Value} {m c : Nat} {T2 : TypeId} {x : Value} {m2 : Nat} {dd2 : TypeDesc} (hu2 : P.underlying T2 = some dd2) (hni : ∀ kk, dd2 ≠ .int kk)
  (hB : Cy esz m c xs B) (hm : Mem I (A2 e xs B ++ L) w) (hyl : ys.length = m2 * esz) (hxl : ∀ w, (Builtin.lenOf x).run P w = .ok m2 w) (hxf : ∀ w, Mem I L w → (Builtin.firstCells esz m2 x).run P w = .ok ys.toArray w) (hyp : ys.all Cs = true) (hm2 : 0 < m2) (hesz : 0 < esz)
  (hsize : (m + m2) ≤ 4294967296) (hbytes : ebb ≤ 1024) :
  ∃ w' B' c', (Builtin.append_ #[T, T2] T #[Bd m c B, x]).run P w = .ok (Bd (m + m2) c' B') w' ∧ B' ≠ none ∧
   Cy esz (m + m2) c' (xs ++ ys) B' ∧ Mem I (A2 e (xs ++ ys) B' ++ L) w' := by
 have hmL : Mem I L w := hm.sub (List.sublist_append_right _ _)
 obtain ⟨einf, hein, hebb⟩ := Ir hte w
 have hval : ∃ base cc, Bd m c B = .slice base m cc ∧ c = cc ∧ (base = none → xs = [] ∧ B = none ∧ m = 0 ∧ c = 0) ∧ (∀ a, base = some a → ∃ b sp, B = some (b, sp) ∧ a = ⟨b, 0, none⟩) := by
  cases B with
  | none => obtain ⟨h1, h2, h3⟩ := hB; exact ⟨none, 0, by simp [Bd, h2], h3, fun _ => ⟨h1, rfl, h2, h3⟩, by simp⟩
  | some p => obtain ⟨b, sp⟩ := p; exact ⟨some ⟨b, 0, none⟩, c, rfl, rfl, by simp, fun a ha => ⟨b, sp, rfl, by simpa using ha.symm⟩⟩
 obtain ⟨base, cc, hbv, rfl, hbn, hbs⟩ := hval; rw [hbv]
 unfold Builtin.append_
 simp only [List.getElem?_toArray, List.getElem?_cons_zero, List.getElem?_cons_succ]
 rw [Ad (Ay ht.und w)]
 simp only []
 rw [Ad (Ey hte w)]; rw [Ad (Ay hu2 w)]
 have hz : (match dd2 with | .int _ => true | _ => false) = false := by
  cases dd2 <;> first | rfl | exact absurd rfl (hni _)
 simp only [hz, pure_bind, Bool.false_eq_true, if_false, Bool.not_false, if_true, false_or]
 rw [Ad (hxl w)]
 have hxl : xs.length = m * esz ∧ m ≤ c := by
  cases B with
  | none => obtain ⟨h1, h2, h3⟩ := hB; subst h1 h2; simp
  | some p => exact ⟨hB.1, hB.2.1⟩
 have hfy := hxf w hmL
 by_cases hfit : m + m2 ≤ c
 ·simp only [if_pos hfit]
  rw [Ad hfy]
  have : base ≠ none := fun e => by have := hbn e; omega
  cases hbb : base with
  | none => exact absurd hbb this
  | some a =>
   obtain ⟨b, sp, rfl, rfl⟩ := hbs a hbb; obtain ⟨h1, h2, h3⟩ := hB
   have hown := (hm.2.1 _ (List.mem_append_left _ (List.mem_singleton.2 rfl))).1
   have hsp : ys.length ≤ sp.length := by rw [hyl, h3]; exact Nat.mul_le_mul_right _ (by omega)
   have hadd : (Addr.add ⟨b, 0, none⟩ (m * esz)) = ⟨b, m * esz, none⟩ := by unfold Addr.add; split <;> simp_all
   obtain ⟨c', hs1, hs2⟩ := Kw (P := P) (off := m * esz) ys 0 w _ hown (by simp; omega) hyp
   have hc' : c' = (xs ++ ys ++ sp.drop ys.length).toArray := by
    apply Array.ext'
    rw [hs2]
    simp only [List.toList_toArray, Nat.add_zero, ← h1]
    rw [List.take_left', List.drop_append]
    ·simp [List.drop_eq_nil_of_le]
    ·rfl
   refine ⟨{ w with heap := w.heap.setIfInBounds b (.cells c' e (0, 0)) }, some (b, sp.drop ys.length), c, ?_, by simp, ?_, ?_⟩
   ·simp only [hadd, Bd]
    rw [Ad hs1]; rfl
   ·refine ⟨by simp [h1, hyl, Nat.add_mul], hfit, ?_⟩
    simp only [List.length_drop, h3, hyl]
    rw [← Nat.sub_mul]; congr 1; omega
   ·rw [hc']
    exact hm.upd (Upd.here)
 ·simp only [if_neg hfit]
  have hmax : ¬ (((m + m2 : Nat) : Int) > IntKind.i64.max) := by
   simp [IntKind.max, IntKind.bits, IntKind.signed]; omega
  rw [Ad hein]
  simp only [if_neg (fun h : (((m + m2 : Nat) : Int) > IntKind.i64.max) ∧ _ => hmax h.1)]
  rw [Ad hein]
  have hcap : ¬ (Builtin.nextslicecap (m + m2) c * einf.bytes > 2 ^ 48) := by
   have h1 := Pu (m + m2) c (by omega)
   have h2 : Builtin.nextslicecap (m + m2) c * einf.bytes ≤ (2 * (m + m2) + 1000) * 1024 := Nat.mul_le_mul h1 (by omega)
   omega
  simp only [if_neg hcap]
  obtain ⟨zv, hz1, hz2⟩ := If hte w
  have hcut : ∀ t, m + m2 ≤ (Question.appendCap (m + m2) c e).cut t := fun t => by simp [Question.cut]
  let NC := (Question.appendCap (m + m2) c e).cut (w.tape w.drawn (.appendCap (m + m2) c e))
  let w1 : World := { w with drawn := w.drawn + 1 }
  have hch : (choose (.appendCap (m + m2) c e)).run P w = .ok NC w1 := by simp [choose, Sem.run, Question.forced, NC, w1]
  have hNC : m + m2 ≤ NC := hcut _
  rw [Ad hch]
  have hm1 : Mem I (A2 e xs B ++ L) w1 := hm
  have hmL1 : Mem I L w1 := hmL
  obtain ⟨einf1, hein1, _⟩ := Ir hte w1; rw [Ad hein1]
  have hroom : (askRoom (NC * einf1.bytes)).run P w1 = .ok () w1 := by unfold askRoom; split <;> rfl
  rw [Ad hroom]
  have hfx : (Builtin.firstCells esz m (.slice base m c)).run P w1 = .ok xs.toArray w1 := by
   refine Gc hm1 hxl.1 ?_ (fun e => (hbn e).1); intro a ha; obtain ⟨b, sp, rfl, rfl⟩ := hbs a ha; intro ww hw i hi; rw [L3 (hw.2.1 _ (List.mem_append_left _ (List.mem_singleton.2 rfl))).1]
   simp [List.getElem?_append_left hi, hi]
  rw [Ad hfx, Ad (hxf w1 hmL1)]; obtain ⟨zv1, hz1, hz2⟩ := If hte w1; rw [Ad hz1]
  refine ⟨{ w1 with heap := w1.heap.push (.cells (xs ++ ys ++ (Builtin.zeroCells zv1.cells (NC - (m + m2))).toList).toArray e (0, 0)) },
   some (w.heap.size, (Builtin.zeroCells zv1.cells (NC - (m + m2))).toList), NC, ?_, by simp, ?_, ?_⟩
  ·have : (xs.toArray ++ ys.toArray ++ Builtin.zeroCells zv1.cells (NC - (m + m2))) = (xs ++ ys ++ (Builtin.zeroCells zv1.cells (NC - (m + m2))).toList).toArray := by
    apply Array.ext'; simp
   rw [this]
   rfl
  ·refine ⟨by simp [hxl.1, hyl, Nat.add_mul], hNC, ?_⟩
   have hzs : zv1.cells.size = esz := by rw [← hez, ← hz2]; simp
   simp [Ky, hzs]
  ·exact hmL1.alloc _

theorem D5 {T T2 e : TypeId} {sz bb esz ebb sz2 bb2 : Nat} {z ez z2 : List Value} {dd dd2 : TypeDesc} [ht : Aq P T (.slice e) sz bb z] [hte : Aq P e dd esz ebb ez] [ht2 : Aq P T2 dd2 sz2 bb2 z2]
  {x y : Operand} {B : H3} {xs ys : List Value} {m c : Nat} {ad2 : Option Addr} {m2 c2 : Nat} {L₀ : Bc} (hni : ∀ kk, dd2 ≠ .int kk) (hez : ez.length = esz)
  (hx : Bo E x = some (Bd m c B)) (hy : Bo E y = some (.slice ad2 m2 c2)) (hB : Cy esz m c xs B) (hL : ∀ w, Mem I L w → Mem I (A2 e xs B ++ L₀) w)
  (hyl : ys.length = m2 * esz) (hyr : ∀ a, ad2 = some a → F5 I L₀ a ys) (hyn : ad2 = none → ys = []) (hyp : ys.all Cs = true) (hm2 : 0 < m2) (hesz : 0 < esz)
  (hsize : (m + m2) ≤ 4294967296) (hbytes : ebb ≤ 1024) (hg : Wants ops E g) (hdn : Nat.blt d n = true)
  (h : ∀ b sp c', Cy esz (m + m2) c' (xs ++ ys) (some (b, sp)) → A6 P f n I₀ Q ops l k ((d, .slice (some ⟨b, 0, none⟩) (m + m2) c') :: E) I ((b, .cells (xs ++ ys ++ sp).toArray e (0, 0)) :: L₀)) :
  A6 P f n I₀ Q ops (⟨some d, .call ⟨.builtin .append, #[x, y], #[T, T2]⟩, T, pos, af, g⟩ :: l) k E I L := by
 refine Hk rfl hdn (fun a he => hg.wanted a he) fun a w he hm => ?_
 obtain ⟨w', B', c', hr, hne, hB', hm'⟩ := Lu (x := .slice ad2 m2 c2) ht hte hez ht2.und hni hB (hL w hm) hyl (fun _ => rfl) (fun w hw => Gc hw hyl hyr hyn) hyp hm2 hesz hsize hbytes
 cases B' with
 | none => exact absurd rfl hne
 | some p =>
  obtain ⟨b, sp⟩ := p; refine ⟨_, w', I, _, ?_, hm', h b sp c' hB'⟩
  simp only [execOp, resolve, List.map_toArray, List.map, he.eval hx, he.eval hy, pure_bind, invoke, builtin]
  exact Ad hr |>.trans rfl


/- Tests that split the way, and tests that are decided. -/
theorem EnvOk.shadow {E : Gj} {a : Act} {t : Nat} {v : Value} (h : EnvOk E a) (hv : Bu E t = some v) : EnvOk ((t, v) :: E) a := by
 intro u x hx; rw [Ew] at hx
 by_cases e : t = u
 ·subst e; simp at hx; subst hx; exact h _ _ hv
 ·simp [e] at hx; exact h _ _ hx

theorem Ji {c : Operand} {x y : Code} {p : Prop} [Decidable p] (hc : Bo E c = some (.bool (decide p))) (hp : p) (h : RunS P f n I₀ Q (.code x :: k) E I L) : RunS P f n I₀ Q (.code (.cond c x y) :: k) E I L :=
 Cm (by rw [hc, decide_eq_true hp]) h
theorem Eu {c : Operand} {x y : Code} {p : Prop} [Decidable p] (hc : Bo E c = some (.bool (decide p))) (hp : ¬ p) (h : RunS P f n I₀ Q (.code y :: k) E I L) : RunS P f n I₀ Q (.code (.cond c x y) :: k) E I L :=
 A8 (by rw [hc, decide_eq_false hp]) h
theorem Jh {c : Operand} {x y : Code} {p : Prop} [Decidable p] (hc : Bo E c = some (.bool (!decide p))) (hp : ¬ p) (h : RunS P f n I₀ Q (.code x :: k) E I L) : RunS P f n I₀ Q (.code (.cond c x y) :: k) E I L :=
 Cm (by rw [hc, decide_eq_false hp]; rfl) h
theorem Et {c : Operand} {x y : Code} {p : Prop} [Decidable p] (hc : Bo E c = some (.bool (!decide p))) (hp : p) (h : RunS P f n I₀ Q (.code y :: k) E I L) : RunS P f n I₀ Q (.code (.cond c x y) :: k) E I L :=
 A8 (by rw [hc, decide_eq_true hp]; rfl) h
section guards
variable {od : Option Tmp} {op : Op} {j dj : Nat} {b : Bool}
theorem F1 {t : Nat} {v v' : Value} (ht : Bu E t = some v) (he : v = v') (h : A6 P f n I₀ Q ops l k ((t, v') :: E) I L) : A6 P f n I₀ Q ops l k E I L := by
 subst he
 exact fun a w ha hd he hm => h a w ha hd (he.shadow ht) hm
theorem Hp {t : Nat} {v v' : Value} {todo : List Item} (ht : Bu E t = some v) (he : v = v') (h : RunS P f n I₀ Q todo ((t, v') :: E) I L) : RunS P f n I₀ Q todo E I L := by
 subst he
 exact fun a w ha hd he hm => h a w ha hd (he.shadow ht) hm
theorem Aba {p : Prop} [Decidable p] (hdj : (ops[j]?).bind (·.dst) = some dj) (hb : Bu E dj = some (.bool (decide p))) (hp : p)
  (h : A6 P f n I₀ Q ops (⟨od, op, ty, pos, af, some (j, b)⟩ :: l) k ((dj, .bool true) :: E) I L) : A6 P f n I₀ Q ops (⟨od, op, ty, pos, af, some (j, b)⟩ :: l) k E I L :=
 F1 hb (by rw [decide_eq_true hp]) h
theorem Aa7 {p : Prop} [Decidable p] (hdj : (ops[j]?).bind (·.dst) = some dj) (hb : Bu E dj = some (.bool (decide p))) (hp : ¬ p)
  (h : A6 P f n I₀ Q ops (⟨od, op, ty, pos, af, some (j, b)⟩ :: l) k ((dj, .bool false) :: E) I L) : A6 P f n I₀ Q ops (⟨od, op, ty, pos, af, some (j, b)⟩ :: l) k E I L :=
 F1 hb (by rw [decide_eq_false hp]) h
theorem Aa9 {p : Prop} [Decidable p] (hdj : (ops[j]?).bind (·.dst) = some dj) (hb : Bu E dj = some (.bool (!decide p))) (hp : ¬ p)
  (h : A6 P f n I₀ Q ops (⟨od, op, ty, pos, af, some (j, b)⟩ :: l) k ((dj, .bool true) :: E) I L) : A6 P f n I₀ Q ops (⟨od, op, ty, pos, af, some (j, b)⟩ :: l) k E I L :=
 F1 hb (by rw [decide_eq_false hp]; rfl) h
theorem Aa6 {p : Prop} [Decidable p] (hdj : (ops[j]?).bind (·.dst) = some dj) (hb : Bu E dj = some (.bool (!decide p))) (hp : p)
  (h : A6 P f n I₀ Q ops (⟨od, op, ty, pos, af, some (j, b)⟩ :: l) k ((dj, .bool false) :: E) I L) : A6 P f n I₀ Q ops (⟨od, op, ty, pos, af, some (j, b)⟩ :: l) k E I L :=
 F1 hb (by rw [decide_eq_true hp]; rfl) h
theorem F4 {p : Prop} [Decidable p] (hdj : (ops[j]?).bind (·.dst) = some dj) (hb : Bu E dj = some (.bool (decide p)))
  (ht : p → A6 P f n I₀ Q ops (⟨od, op, ty, pos, af, some (j, b)⟩ :: l) k ((dj, .bool true) :: E) I L) (hf : ¬ p → A6 P f n I₀ Q ops (⟨od, op, ty, pos, af, some (j, b)⟩ :: l) k ((dj, .bool false) :: E) I L) :
  A6 P f n I₀ Q ops (⟨od, op, ty, pos, af, some (j, b)⟩ :: l) k E I L := by
 by_cases hp : p
 ·exact Aba hdj hb hp (ht hp)
 ·exact Aa7 hdj hb hp (hf hp)
theorem Ek {p : Prop} [Decidable p] (hdj : (ops[j]?).bind (·.dst) = some dj) (hb : Bu E dj = some (.bool (!decide p)))
  (ht : ¬ p → A6 P f n I₀ Q ops (⟨od, op, ty, pos, af, some (j, b)⟩ :: l) k ((dj, .bool true) :: E) I L) (hf : p → A6 P f n I₀ Q ops (⟨od, op, ty, pos, af, some (j, b)⟩ :: l) k ((dj, .bool false) :: E) I L) :
  A6 P f n I₀ Q ops (⟨od, op, ty, pos, af, some (j, b)⟩ :: l) k E I L := by
 by_cases hp : p
 ·exact Aa6 hdj hb hp (hf hp)
 ·exact Aa9 hdj hb hp (ht hp)
theorem Kb {c : Bool} (hdj : (ops[j]?).bind (·.dst) = some dj) (hb : Bu E dj = some (.bool c))
  (ht : c = true → A6 P f n I₀ Q ops (⟨od, op, ty, pos, af, some (j, b)⟩ :: l) k ((dj, .bool true) :: E) I L) (hf : c = false → A6 P f n I₀ Q ops (⟨od, op, ty, pos, af, some (j, b)⟩ :: l) k ((dj, .bool false) :: E) I L) :
  A6 P f n I₀ Q ops (⟨od, op, ty, pos, af, some (j, b)⟩ :: l) k E I L := by
 cases c
 ·exact F1 hb rfl (hf rfl)
 ·exact F1 hb rfl (ht rfl)
end guards


theorem Dg {x y : Operand} {s : List UInt8} {i : Nat} {ii : Int} {T : TypeId} {sz bb : Nat} {z : List Value} [ht : Aq P T .string sz bb z] (hx : Bo E x = some (.string (str s)))
  (hy : Bo E y = some (.int .i64 ii)) (hii : ii = ((i : Nat) : Int)) (hi : i < s.length) (hg : Wants ops E g) (hdn : Nat.blt d n = true)
  (h : A6 P f n I₀ Q ops l k ((d, .int .u8 ((s.getD i 0).toNat : Nat)) :: E) I L) : A6 P f n I₀ Q ops (⟨some d, .index T x y, ty, pos, af, g⟩ :: l) k E I L :=
 Ul hx (hii ▸ hy) (b := s.getD i 0) (by simp [hi]) hg hdn h

theorem Cj {T e : TypeId} {sz bb esz ebb : Nat} {z ez : List Value} {dd : TypeDesc} [ht : Aq P T (.slice e) sz bb z] [hte : Aq P e dd esz ebb ez] {x y : Operand} {oa : Option Addr} {ad : Addr} {m c : Nat} {i : Int}
  (hx : Bo E x = some (.slice oa m c)) (hy : Bo E y = some (.int .i64 i)) (i' : Nat) (hi : i = i') (him : i' < m) (hoa : oa = some ad) (hg : Wants ops E g) (hdn : Nat.blt d n = true)
  (h : A6 P f n I₀ Q ops l k ((d, .pointer (some (ad.add (i' * esz)))) :: E) I L) : A6 P f n I₀ Q ops (⟨some d, .indexAddr T x y, ty, pos, af, g⟩ :: l) k E I L :=
 Uk (hoa ▸ hx) hy i' hi him hg hdn h

/- Literals of struct types: each part lies in its place. -/
class Cl (P : Program) (T : TypeId) (places : outParam (List (Nat × Nat))) : Prop where
 get : ∃ fs, P.underlying T = some (.struct fs) ∧ ∀ w, (fs.mapM fun f => do pure (f.offset, ← sizeOf f.type) : Sem (Array (Nat × Nat))).run P w = .ok places.toArray w

def Pj (places : List (Nat × Nat)) : List (Nat × Value) → List Value → Option (List Value)
 | [], cs => some cs
 | (i, v) :: r, cs => match places[i]? with
  | some (off, size) => match Fg v with
   | some vs => match Kc off vs cs with
    | some us => bif Nat.beq vs.length size then Pj places r us else none
    | none => none
   | none => none
  | none => none
theorem Q1 : ∀ (vs : List Value) (off j : Nat) (c : Array Value), off + j + vs.length ≤ c.size →
  ((vs.zipIdx j).foldl (fun (cs : Array Value) (x : Value × Nat) => cs.setIfInBounds (off + x.2) x.1) c).toList = c.toList.take (off + j) ++ vs ++ c.toList.drop (off + j + vs.length) := by
 intro vs
 induction vs with
 | nil => intro off j c h; simp
 | cons v vs ih =>
  intro off j c h
  simp only [List.length_cons] at h
  simp only [List.zipIdx_cons, List.foldl_cons]
  rw [ih off (j + 1) _ (by simp; omega)]
  simp only [Array.toList_setIfInBounds]
  rw [show off + (j + 1) = off + j + 1 by omega, Us (by simpa using (by omega : off + j < c.size)), List.drop_set_of_lt (by omega)]; rw [show off + j + 1 + vs.length = off + j + (v :: vs).length by simp; omega]
  simp
theorem Aaa {places : List (Nat × Nat)} : ∀ {ps : List (Nat × Value)} {cs us : List Value}, Pj places ps cs = some us → Instr.fill (places.toArray[·]?) cs.toArray ps = some us.toArray := by
 intro ps
 induction ps with
 | nil => intro cs us h; simp [Pj] at h; simp [Instr.fill, h]
 | cons p ps ih =>
  obtain ⟨i, v⟩ := p; intro cs us h
  simp only [Pj] at h
  split at h
  ·rename_i off size hp
   split at h
   ·rename_i vs hv
    split at h
    ·rename_i us' hu
     cases hb : Nat.beq vs.length size with
     | false => simp [hb] at h
     | true =>
      have hb' := Nat.eq_of_beq_eq_true hb
      simp [hb] at h
      obtain ⟨h1, h2⟩ := Wj hu
      have hvc := It hv
      have hf := Q1 vs off 0 cs.toArray (by simpa using h1)
      have hc : ((vs.zipIdx 0).foldl (fun (cs : Array Value) (x : Value × Nat) => cs.setIfInBounds (off + x.2) x.1) cs.toArray) = us'.toArray := by
       apply Array.ext'
       rw [hf, h2]; simp
      simp only [Instr.fill, List.getElem?_toArray, hp, hvc]
      rw [if_neg (by simp [hb']; omega)]; rw [← ih h, ← hc, ← Array.foldl_toList, Array.toList_zipIdx]
      simp
    ·simp at h
   ·simp at h
  ·simp at h

theorem Ri {T : TypeId} {places : List (Nat × Nat)} {sz bb : Nat} {z : List Value} {fs : Array Field} [hs : Cl P T places] [ht : Aq P T (.struct fs) sz bb z] {ps : List (Nat × Value)} {us : List Value}
  (h : Pj places ps z = some us) (w : World) : (Instr.build T ps.toArray).run P w = .ok (.agg us.toArray) w := by
 obtain ⟨fs', hf, hp⟩ := hs.get; obtain ⟨v, hv, hz⟩ := If ht w
 unfold Instr.build
 rw [Ad hv]; rw [Ad (Ay hf w)]
 simp only []
 rw [Ad (hp w)]
 have hvz : v.cells = z.toArray := by rw [← hz]
 rw [hvz, Aaa h]; rfl

theorem G7 {S : World → Prop} {T : TypeId} {places : List (Nat × Nat)} {sz bb : Nat} {z : List Value} {fs : Array Field} [hs : Cl P T places] [ht : Aq P T (.struct fs) sz bb z] {parts : Array (Nat × Operand)} {is : List Nat} {vs us : List Value}
  (hp : parts.toList.map (·.1) = is) (ho : G9 E (parts.toList.map (·.2)) = some vs)
  (hb : Pj places (is.zip vs) z = some us) : G1 P E S ⟨some d, .build T parts, ty, pos, af, g⟩ (.agg us.toArray) := fun a w he _ => by
  have h1 : parts.map (fun (i, x) => (i, a.eval x)) = (is.zip vs).toArray := by
   apply Array.ext'
   have := he.evals ho
   rw [← hp, ← this]
   simp [List.zip_map', Function.comp_def]
  simp only [execOp]
  rw [h1]
  exact Ad (Ri hb w) |>.trans rfl
theorem Cf {T : TypeId} {places : List (Nat × Nat)} {sz bb : Nat} {z : List Value} {fs : Array Field} [hs : Cl P T places] [ht : Aq P T (.struct fs) sz bb z] {parts : Array (Nat × Operand)} {is : List Nat} {vs us : List Value}
  (hp : parts.toList.map (·.1) = is) (ho : G9 E (parts.toList.map (·.2)) = some vs)
  (hb : Pj places (is.zip vs) z = some us) (hg : Wants ops E g) (hdn : Nat.blt d n = true)
  (h : A6 P f n I₀ Q ops l k ((d, .agg us.toArray) :: E) I L) : A6 P f n I₀ Q ops (⟨some d, .build T parts, ty, pos, af, g⟩ :: l) k E I L :=
 Aak hp ho (fun w => Ri hb w) hg hdn h

/- '[]T{x, y, ..}'. -/
def L9 : Nat → List Value → Option (List Value)
 | _, [] => some []
 | esz, v :: vs => match Fg v with
  | some cs => match L9 esz vs with
   | some us => bif Nat.beq cs.length esz then some (cs ++ us) else none
   | none => none
  | none => none
theorem Q0 {esz : Nat} : ∀ {vs us : List Value} (k : Nat) (hd tl : List Value), L9 esz vs = some us → hd.length = k * esz → tl.length = vs.length * esz →
  Instr.fill (fun i => some (i * esz, esz)) (hd ++ tl).toArray ((List.range' k vs.length).zip vs) = some (hd ++ us).toArray := by
 intro vs
 induction vs with
 | nil => intro us k hd tl h hh ht; simp [L9] at h; subst h; simp at ht; subst ht; simp [Instr.fill]
 | cons v vs ih =>
  intro us k hd tl h hh ht
  simp only [L9] at h
  split at h
  ·rename_i cs hv
   split at h
   ·rename_i us' hu
    cases hb : Nat.beq cs.length esz with
    | false => simp [hb] at h
    | true =>
     have hb' := Nat.eq_of_beq_eq_true hb
     simp [hb] at h
     subst h
     simp only [List.length_cons, List.range'_succ, List.zip_cons_cons, Instr.fill]
     have hvc := It hv
     simp only [List.length_cons, Nat.add_mul, Nat.one_mul] at ht
     rw [hvc, if_neg (by simp [hb', hh]; omega)]
     have hf := Q1 cs (k * esz) 0 (hd ++ tl).toArray (by simp; omega)
     have hc : ((cs.zipIdx 0).foldl (fun (c : Array Value) (x : Value × Nat) => c.setIfInBounds (k * esz + x.2) x.1) (hd ++ tl).toArray) = ((hd ++ cs) ++ tl.drop esz).toArray := by
      apply Array.ext'
      rw [hf]
      simp only [List.toList_toArray, Nat.add_zero, ← hh]
      rw [List.take_left', List.drop_append]
      ·simp [List.drop_eq_nil_of_le, hb']
      ·rfl
     have := ih (k + 1) (hd ++ cs) (tl.drop esz) hu (by simp [hh, hb', Nat.add_mul]) (by simp; omega)
     rw [← List.append_assoc hd cs us', ← this, ← hc, ← Array.foldl_toList, Array.toList_zipIdx]
   ·simp at h
  ·simp at h
theorem Abc {T e : TypeId} {parts : Array (Nat × Operand)} {is : List Nat} {vs us : List Value} {m : Nat} {sz bb esz ebb : Nat} {z ez : List Value} {dd : TypeDesc} [ht : Aq P T (.slice e) sz bb z] [hte : Aq P e dd esz ebb ez]
  (hp : parts.toList.map (·.1) = is) (ho : G9 E (parts.toList.map (·.2)) = some vs) (hr : is = List.range' 0 vs.length) (hm : vs.length = m) (hfl : L9 esz vs = some us) (hm0 : m * esz ≠ 0) (hm1 : m * esz ≤ 2 ^ 24) (hez : ez.length = esz)
  (hg : Wants ops E g) (hdn : Nat.blt d n = true)
  (h : ∀ b, A6 P f n I₀ Q ops l k ((d, .slice (some ⟨b, 0, none⟩) m m) :: E) I ((b, .cells us.toArray e (0, 0)) :: L)) :
  A6 P f n I₀ Q ops (⟨some d, .buildSlice T m parts, ty, pos, af, g⟩ :: l) k E I L := by
 refine Sr hp ho hm0 hm1 ?_ hg hdn h; rw [hr]
 have := Q0 (esz := esz) 0 [] (((Array.range (m * esz)).map (ez.toArray[· % ez.toArray.size]!)).toList) hfl (by simp) (by simp [hm])
 rw [List.nil_append, List.nil_append, Array.toArray_toList] at this
 exact this

/- Where two ways meet again. -/
def Pn : Nat → Gj → Bool
 | 0, _ => true
 | _ + 1, [] => true
 | m + 1, (x, _) :: E => (match Bu (E.drop m) x with | none => true | some _ => false) && Pn m E
theorem Q3 : ∀ (m : Nat) (E : Gj), Pn m E = true → ∀ t v, Bu (E.drop m) t = some v → Bu E t = some v := by
 intro m
 induction m with
 | zero => intro E _ t v h; simpa using h
 | succ m ih =>
  intro E hf t v h
  cases E with
  | nil => simp [Bu] at h
  | cons p E =>
   simp only [Pn, Bool.and_eq_true] at hf
   have h1 := ih E hf.2 t v (by simpa using h)
   rw [Ew]
   by_cases e : p.1 = t
   ·rw [List.drop_succ_cons] at h
    have h2 := hf.1
    rw [e, h] at h2; cases h2
   ·rw [if_neg e]; exact h1
theorem A0 (m : Nat) {v : Value} {E' : Gj} (hE : E.drop m = E') (hf : Pn m E = true) (hk : A6 P f n I₀ Q ops l k ((d, v) :: E') I L) : A6 P f n I₀ Q ops l k ((d, v) :: E) I L := by
 subst hE; refine fun a w ha hd he hm => hk a w ha hd (fun t u hu => he t u ?_) hm
 rw [Ew] at hu ⊢
 by_cases e : d = t
 ·rwa [if_pos e] at hu ⊢
 ·rw [if_neg e] at hu ⊢; exact Q3 m E hf t u hu
def N5 (ops : Array Oper) (n : Nat) : Nat → List Oper → Gj → Option (List Oper × Gj)
 | 0, l, E => some (l, E)
 | m + 1, ⟨some d, _, _, _, _, some (j, b)⟩ :: l, E => match (ops[j]?).bind (·.dst) with
  | some dj => match Bu E dj with
   | some (.bool b') => bif (Bool.xor b' b) && Nat.blt d n then N5 ops n m l ((d, undef) :: E) else none
   | some (.tuple a) => bif a.isEmpty && Nat.blt d n then N5 ops n m l ((d, undef) :: E) else none
   | _ => none
  | none => none
 | _ + 1, _, _ => none
theorem A9 (m : Nat) {l' : List Oper} {E' : Gj} (h : N5 ops n m l E = some (l', E')) (hk : A6 P f n I₀ Q ops l' k E' I L) : A6 P f n I₀ Q ops l k E I L := by
 induction m generalizing l E with
 | zero => simp only [N5, Option.some.injEq, Prod.mk.injEq] at h; obtain ⟨rfl, rfl⟩ := h; exact hk
 | succ m ih =>
  cases l with
  | nil => simp [N5] at h
  | cons o l =>
   obtain ⟨dst, op, ty, pos, af, g⟩ := o
   cases dst with
   | none => simp [N5] at h
   | some d =>
    cases g with
    | none => simp [N5] at h
    | some g =>
     obtain ⟨j, b⟩ := g
     simp only [N5] at h
     cases hdj : (ops[j]?).bind (·.dst) with
     | none => rw [hdj] at h; cases h
     | some dj =>
      rw [hdj] at h
      simp only at h
      split at h
      ·rename_i b' hl
       cases hx : ((Bool.xor b' b) && Nat.blt d n) with
       | false => rw [hx] at h; cases h
       | true =>
        rw [hx] at h
        simp only [Bool.and_eq_true] at hx
        have e : b' = !b := by have := hx.1; revert this; cases b' <;> cases b <;> decide
        subst e
        exact Ck hdj hl hx.2 (ih h)
      ·rename_i a hl
       cases hx : (a.isEmpty && Nat.blt d n) with
       | false => rw [hx] at h; cases h
       | true =>
        rw [hx] at h
        simp only [Bool.and_eq_true] at hx
        have e : a = #[] := by have := hx.1; simpa using this
        subst e
        exact Jr hdj hl hx.2 (ih h)
      ·cases h
theorem Sw {c dd : Nat} {b : Bool} {v : Value} {l' : List Oper} (hc : Bu E c = some (.bool b)) (hk : A6 P f n I₀ Q ops l' k ((dd, v) :: E) I L) : A6 P f n I₀ Q ops l' k ((dd, v) :: (c, .bool b) :: E) I L := by
 refine fun a w ha hd he hm => hk a w ha hd (fun t u hu => he t u ?_) hm
 rw [Ew] at hu ⊢
 by_cases e : dd = t
 ·rwa [if_pos e] at hu ⊢
 ·rw [if_neg e] at hu ⊢; rw [Ew]
  by_cases e' : c = t
  ·subst e'; rw [if_pos rfl, ← hc, hu]
  ·rwa [if_neg e']
theorem Sx {c : Nat} {b : Bool} (hc : Bu E c = some (.bool b)) (h : A6 P f n I₀ Q ops l k ((c, .bool b) :: E) I L) : A6 P f n I₀ Q ops l k E I L := by
 refine fun a w ha hd he hm => h a w ha hd (fun t u hu => ?_) hm
 rw [Ew] at hu
 by_cases e : c = t
 ·subst e; rw [if_pos rfl] at hu; exact he _ _ (hc.trans hu)
 ·rw [if_neg e] at hu; exact he _ _ hu
theorem D4 (c dd : Nat) {b q : Bool} {l' : List Oper} (hc : Bu E c = some (.bool b))
  (hT : b = true → A6 P f n I₀ Q ops l' k ((dd, .bool q) :: (c, .bool true) :: E) I L → A6 P f n I₀ Q ops l k ((c, .bool true) :: E) I L)
  (hF : b = false → A6 P f n I₀ Q ops l' k ((dd, .bool false) :: (c, .bool false) :: E) I L → A6 P f n I₀ Q ops l k ((c, .bool false) :: E) I L)
  (hk : A6 P f n I₀ Q ops l' k ((dd, .bool (b && q)) :: E) I L) : A6 P f n I₀ Q ops l k E I L := by
 cases b with
 | true => exact Sx hc (hT rfl (Sw hc hk))
 | false => exact Sx hc (hF rfl (Sw hc hk))
theorem Fw (c dd : Nat) {b q : Bool} {l' : List Oper} (hc : Bu E c = some (.bool b))
  (hF : b = false → A6 P f n I₀ Q ops l' k ((dd, .bool q) :: (c, .bool false) :: E) I L → A6 P f n I₀ Q ops l k ((c, .bool false) :: E) I L)
  (hT : b = true → A6 P f n I₀ Q ops l' k ((dd, .bool true) :: (c, .bool true) :: E) I L → A6 P f n I₀ Q ops l k ((c, .bool true) :: E) I L)
  (hk : A6 P f n I₀ Q ops l' k ((dd, .bool (b || q)) :: E) I L) : A6 P f n I₀ Q ops l k E I L := by
 cases b with
 | true => exact Sx hc (hT rfl (Sw hc hk))
 | false => exact Sx hc (hF rfl (Sw hc hk))

/- The same in a region that draws its order. -/
theorem F6 {S : World → Prop} {fuel : Nat} {listed : Array Bool} (m : Nat) {v : Value} {E' : Gj} (hE : E.drop m = E') (hf : Pn m E = true) (hk : Cn P f n I₀ Q ops S fuel listed k ((d, v) :: E') I L) : Cn P f n I₀ Q ops S fuel listed k ((d, v) :: E) I L := by
 subst hE; refine fun a w ha hd he hm => hk a w ha hd (fun t u hu => he t u ?_) hm
 rw [Ew] at hu ⊢
 by_cases e : d = t
 ·rwa [if_pos e] at hu ⊢
 ·rw [if_neg e] at hu ⊢; exact Q3 m E hf t u hu
theorem R2 {S : World → Prop} {fuel : Nat} {listed : Array Bool} {c dd : Nat} {b : Bool} {v : Value} (hc : Bu E c = some (.bool b)) (hk : Cn P f n I₀ Q ops S fuel listed k ((dd, v) :: E) I L) : Cn P f n I₀ Q ops S fuel listed k ((dd, v) :: (c, .bool b) :: E) I L := by
 refine fun a w ha hd he hm => hk a w ha hd (fun t u hu => he t u ?_) hm
 rw [Ew] at hu ⊢
 by_cases e : dd = t
 ·rwa [if_pos e] at hu ⊢
 ·rw [if_neg e] at hu ⊢; rw [Ew]
  by_cases e' : c = t
  ·subst e'; rw [if_pos rfl, ← hc, hu]
  ·rwa [if_neg e']
theorem R3 {S : World → Prop} {fuel : Nat} {listed : Array Bool} {c : Nat} {b : Bool} (hc : Bu E c = some (.bool b)) (h : Cn P f n I₀ Q ops S fuel listed k ((c, .bool b) :: E) I L) : Cn P f n I₀ Q ops S fuel listed k E I L := by
 refine fun a w ha hd he hm => h a w ha hd (fun t u hu => ?_) hm
 rw [Ew] at hu
 by_cases e : c = t
 ·subst e; rw [if_pos rfl] at hu; exact he _ _ (hc.trans hu)
 ·rw [if_neg e] at hu; exact he _ _ hu
theorem Pa {S : World → Prop} {fuel fuel' : Nat} {listed listed' : Array Bool} (c dd : Nat) {b q : Bool} (hc : Bu E c = some (.bool b))
  (hT : b = true → Cn P f n I₀ Q ops S fuel' listed' k ((dd, .bool q) :: (c, .bool true) :: E) I L → Cn P f n I₀ Q ops S fuel listed k ((c, .bool true) :: E) I L)
  (hF : b = false → Cn P f n I₀ Q ops S fuel' listed' k ((dd, .bool false) :: (c, .bool false) :: E) I L → Cn P f n I₀ Q ops S fuel listed k ((c, .bool false) :: E) I L)
  (hk : Cn P f n I₀ Q ops S fuel' listed' k ((dd, .bool (b && q)) :: E) I L) : Cn P f n I₀ Q ops S fuel listed k E I L := by
 cases b with
 | true => exact R3 hc (hT rfl (R2 hc hk))
 | false => exact R3 hc (hF rfl (R2 hc hk))
theorem X6 {S : World → Prop} {fuel fuel' : Nat} {listed listed' : Array Bool} (c dd : Nat) {b q : Bool} (hc : Bu E c = some (.bool b))
  (hF : b = false → Cn P f n I₀ Q ops S fuel' listed' k ((dd, .bool q) :: (c, .bool false) :: E) I L → Cn P f n I₀ Q ops S fuel listed k ((c, .bool false) :: E) I L)
  (hT : b = true → Cn P f n I₀ Q ops S fuel' listed' k ((dd, .bool true) :: (c, .bool true) :: E) I L → Cn P f n I₀ Q ops S fuel listed k ((c, .bool true) :: E) I L)
  (hk : Cn P f n I₀ Q ops S fuel' listed' k ((dd, .bool (b || q)) :: E) I L) : Cn P f n I₀ Q ops S fuel listed k E I L := by
 cases b with
 | true => exact R3 hc (hT rfl (R2 hc hk))
 | false => exact R3 hc (hF rfl (R2 hc hk))

end rules

def D1 (v : Value) (I : Heap) (L : Bc) : C3 := fun u I' L' => v = u ∧ I = I' ∧ L = L'
theorem Wr {I I₀ : Heap} {L L₀ : Bc} {v u : Value} (hI : I = I₀) (hm : ∀ w, Mem I L w → Mem I₀ L₀ w) (h : v = u) : ∃ I' L', HLe I₀ I' ∧ (∀ w, Mem I L w → Mem I' L' w) ∧ D1 u I₀ L₀ v I' L' := by
 subst hI; exact ⟨I, L₀, .refl _, hm, h.symm, rfl, rfl⟩

section
variable {P : Program} {E : Gj} {I : Heap} {L : Bc}
/- The same, with what is asked looked for. -/
theorem RetOk.c {t T : Nat} {a : Addr} {v : Value} {rs : List ResultVar} {vs : List Value} (h : Bu E t = some (.pointer (some a))) (r : RetOk P E I L rs vs)
  (hl : Fc P I L T a v := by first | exact C8 (by assumption) rfl | exact Gs (by repeat first | exact .head _ | apply List.Mem.tail | apply List.mem_append_right) (by rfl) | exact Dv (by repeat first | exact .head _ | apply List.Mem.tail | apply List.mem_append_right) (by rfl) rfl | exact Eh (by assumption) (by rfl) | exact Eg (by assumption) (by rfl) rfl) : RetOk P E I L (.cell t T :: rs) (v :: vs) := .cell h hl r
theorem Bt {I' : Heap} {L' : Bc} (hm : ∀ w, Mem I L w → Mem I' L' w := by intro _ h; first | exact h | exact dr1 h | exact dr2 h | exact dr3 h | exact dr4 h | exact dr5 h | exact Le h | exact Le h.drop | exact Le h.drop.drop | exact Le h.drop.drop.drop) : ∀ w, Mem I L w → Mem I' L' w := hm
theorem only {I₀ : Heap} {L₀ : Bc} {v u : Value} (hI : I = I₀) (h : v = u) (hm : ∀ w, Mem I L w → Mem I₀ L₀ w := by intro _ h; first | exact h | exact dr1 h | exact dr2 h | exact dr3 h | exact dr4 h | exact dr5 h | exact Le h | exact Le h.drop | exact Le h.drop.drop | exact Le h.drop.drop.drop) : ∃ I' L', HLe I₀ I' ∧ (∀ w, Mem I L w → Mem I' L' w) ∧ D1 u I₀ L₀ v I' L' := Wr hI hm h
end
/- The same rules, with what is asked of memory looked for. -/
section rules
variable {P : Program} {f : FuncId} {n : Nat} {I₀ : Heap} {Q : C3} {k : List Item} {E : Gj} {I : Heap} {L : Bc}
variable {ops : Array Oper} {d : Nat} {ty : TypeId} {pos : String} {af : Array Edge} {g : Option (Nat × Bool)} {l : List Oper}
theorem Cd {I' : Heap} {L' : Bc} {T : TypeId} {x : Operand} {ad : Addr} {v : Value} (hx : Bo E x = some (.pointer (some ad))) (hl : Fc P I' L' T ad v := by exact (Gs (by repeat first | exact .head _ | apply List.Mem.tail | apply List.mem_append_right) (by rfl))) : G1 P E (Mem I' L') ⟨some d, .load T x, ty, pos, af, g⟩ v := Ij hx hl
theorem Aw {T : TypeId} {x : Operand} {ad : Addr} {v : Value} (hx : Bo E x = some (.pointer (some ad))) (hg : Wants ops E g) (hdn : Nat.blt d n = true) (h : A6 P f n I₀ Q ops l k ((d, v) :: E) I L) (hl : Fc P I L T ad v := by exact (Gs (by repeat first | exact .head _ | apply List.Mem.tail | apply List.mem_append_right) (by rfl))) : A6 P f n I₀ Q ops (⟨some d, .load T x, ty, pos, af, g⟩ :: l) k E I L := Hf hx hl hg hdn h
theorem A7 {I' : Heap} {L' : Bc} {T : TypeId} {x : Operand} {ad : Addr} {v : Value} (hx : Bo E x = some (.pointer (some ad))) (hl : Fc P I' L' T ad v := by exact (Dv (by repeat first | exact .head _ | apply List.Mem.tail | apply List.mem_append_right) (by rfl) rfl)) : G1 P E (Mem I' L') ⟨some d, .load T x, ty, pos, af, g⟩ v := Ij hx hl
theorem Bg {T : TypeId} {x : Operand} {ad : Addr} {v : Value} (hx : Bo E x = some (.pointer (some ad))) (hg : Wants ops E g) (hdn : Nat.blt d n = true) (h : A6 P f n I₀ Q ops l k ((d, v) :: E) I L) (hl : Fc P I L T ad v := by exact (Dv (by repeat first | exact .head _ | apply List.Mem.tail | apply List.mem_append_right) (by rfl) rfl)) : A6 P f n I₀ Q ops (⟨some d, .load T x, ty, pos, af, g⟩ :: l) k E I L := Hf hx hl hg hdn h
theorem Bz {I' : Heap} {L' : Bc} {T : TypeId} {x : Operand} {ad : Addr} {v : Value} (hx : Bo E x = some (.pointer (some ad))) (hl : Fc P I' L' T ad v := by first | exact Eh (FormAt.st (by assumption) _ (by first | omega | decide | (simp; done) | exact Cb (by assumption) (by decide))) (by rfl) | exact Eh (by assumption) (by rfl) | exact Ud (Hh (by assumption) (by intro _ h; first | exact h | exact dr1 h | exact dr2 h | exact dr3 h | exact dr4 h | exact dr5 h | exact Le h | exact Le h.drop | exact Le h.drop.drop | exact Le h.drop.drop.drop)) (by rfl)) : G1 P E (Mem I' L') ⟨some d, .load T x, ty, pos, af, g⟩ v := Ij hx hl
theorem Em {T : TypeId} {x : Operand} {ad : Addr} {v : Value} (hx : Bo E x = some (.pointer (some ad))) (hg : Wants ops E g) (hdn : Nat.blt d n = true) (h : A6 P f n I₀ Q ops l k ((d, v) :: E) I L) (hl : Fc P I L T ad v := by first | exact Eh (FormAt.st (by assumption) _ (by first | omega | decide | (simp; done) | exact Cb (by assumption) (by decide))) (by rfl) | exact Eh (by assumption) (by rfl) | exact Ud (Hh (by assumption) (by intro _ h; first | exact h | exact dr1 h | exact dr2 h | exact dr3 h | exact dr4 h | exact dr5 h | exact Le h | exact Le h.drop | exact Le h.drop.drop | exact Le h.drop.drop.drop)) (by rfl)) : A6 P f n I₀ Q ops (⟨some d, .load T x, ty, pos, af, g⟩ :: l) k E I L := Hf hx hl hg hdn h
theorem Qc {I' : Heap} {L' : Bc} {T : TypeId} {x : Operand} {ad : Addr} {v : Value} (hx : Bo E x = some (.pointer (some ad))) (hl : Fc P I' L' T ad v := by first | exact Ep rfl (RStrs.st (by assumption) _ (by first | omega | decide | (simp; done) | exact Cb (by assumption) (by decide))) | exact Ep rfl (Hh (RStrs.st (by assumption) _ (by first | omega | decide | (simp; done) | exact Cb (by assumption) (by decide))) (by intro _ h; first | exact h | exact dr1 h | exact dr2 h | exact dr3 h | exact dr4 h | exact dr5 h | exact Le h | exact Le h.drop | exact Le h.drop.drop | exact Le h.drop.drop.drop)) | exact C8 (Nums.st (by assumption) _ (by first | omega | decide | (simp; done) | exact Cb (by assumption) (by decide))) rfl | exact C8 (Strs.st (by assumption) _ (by first | omega | decide | (simp; done) | exact Cb (by assumption) (by decide))) rfl | exact C8 (Raw.st (by assumption) _ (by first | omega | decide | (simp; done) | exact Cb (by assumption) (by decide))) rfl | exact C8 (by assumption) rfl | exact Ep rfl (by assumption)) : G1 P E (Mem I' L') ⟨some d, .load T x, ty, pos, af, g⟩ v := Ij hx hl
theorem Dl {T : TypeId} {x : Operand} {ad : Addr} {v : Value} (hx : Bo E x = some (.pointer (some ad))) (hg : Wants ops E g) (hdn : Nat.blt d n = true) (h : A6 P f n I₀ Q ops l k ((d, v) :: E) I L) (hl : Fc P I L T ad v := by first | exact Ep rfl (RStrs.st (by assumption) _ (by first | omega | decide | (simp; done) | exact Cb (by assumption) (by decide))) | exact Ep rfl (Hh (RStrs.st (by assumption) _ (by first | omega | decide | (simp; done) | exact Cb (by assumption) (by decide))) (by intro _ h; first | exact h | exact dr1 h | exact dr2 h | exact dr3 h | exact dr4 h | exact dr5 h | exact Le h | exact Le h.drop | exact Le h.drop.drop | exact Le h.drop.drop.drop)) | exact C8 (Nums.st (by assumption) _ (by first | omega | decide | (simp; done) | exact Cb (by assumption) (by decide))) rfl | exact C8 (Strs.st (by assumption) _ (by first | omega | decide | (simp; done) | exact Cb (by assumption) (by decide))) rfl | exact C8 (Raw.st (by assumption) _ (by first | omega | decide | (simp; done) | exact Cb (by assumption) (by decide))) rfl | exact C8 (by assumption) rfl | exact Ep rfl (by assumption)) : A6 P f n I₀ Q ops (⟨some d, .load T x, ty, pos, af, g⟩ :: l) k E I L := Hf hx hl hg hdn h
theorem Abx {I' : Heap} {L' : Bc} {T : TypeId} {x : Operand} {ad : Addr} {v : Value} (hx : Bo E x = some (.pointer (some ad))) (hl : Fc P I' L' T ad v := by first | exact Lh (FormAt.st (by assumption) _ (by first | omega | decide | (simp; done) | exact Cb (by assumption) (by decide))) (by rfl) | exact Lh (by assumption) (by rfl)) : G1 P E (Mem I' L') ⟨some d, .load T x, ty, pos, af, g⟩ v := Ij hx hl
theorem Ii {I' : Heap} {L' : Bc} {T : TypeId} {x : Operand} {ad : Addr} {v : Value} (hx : Bo E x = some (.pointer (some ad))) (hl : Fc P I' L' T ad v := by first | exact Eg (FormAt.st (by assumption) _ (by first | omega | decide | (simp; done) | exact Cb (by assumption) (by decide))) (by rfl) rfl | exact Eg (by assumption) (by rfl) rfl | exact Ra (Hh (by assumption) (by intro _ h; first | exact h | exact dr1 h | exact dr2 h | exact dr3 h | exact dr4 h | exact dr5 h | exact Le h | exact Le h.drop | exact Le h.drop.drop | exact Le h.drop.drop.drop)) (by rfl) rfl) : G1 P E (Mem I' L') ⟨some d, .load T x, ty, pos, af, g⟩ v := Ij hx hl
theorem Es {T : TypeId} {x : Operand} {ad : Addr} {v : Value} (hx : Bo E x = some (.pointer (some ad))) (hg : Wants ops E g) (hdn : Nat.blt d n = true) (h : A6 P f n I₀ Q ops l k ((d, v) :: E) I L) (hl : Fc P I L T ad v := by first | exact Eg (FormAt.st (by assumption) _ (by first | omega | decide | (simp; done) | exact Cb (by assumption) (by decide))) (by rfl) rfl | exact Eg (by assumption) (by rfl) rfl | exact Ra (Hh (by assumption) (by intro _ h; first | exact h | exact dr1 h | exact dr2 h | exact dr3 h | exact dr4 h | exact dr5 h | exact Le h | exact Le h.drop | exact Le h.drop.drop | exact Le h.drop.drop.drop)) (by rfl) rfl) : A6 P f n I₀ Q ops (⟨some d, .load T x, ty, pos, af, g⟩ :: l) k E I L := Hf hx hl hg hdn h
theorem Nn {I' : Heap} {L' : Bc} {T : TypeId} {x : Operand} {ad : Addr} {v : Value} (hx : Bo E x = some (.pointer (some ad))) (hl : Fc P I' L' T ad v := by first | exact Dv (by repeat first | exact .head _ | apply List.Mem.tail | apply List.mem_append_right) (by rfl) rfl | exact Gs (by repeat first | exact .head _ | apply List.Mem.tail | apply List.mem_append_right) (by rfl) | exact Eh (FormAt.st (by assumption) _ (by omega)) (by rfl) | exact Eg (FormAt.st (by assumption) _ (by omega)) (by rfl) rfl | exact C8 (Nums.st (by assumption) _ (by omega)) rfl | exact C8 (Strs.st (by assumption) _ (by omega)) rfl | exact C8 (by assumption) rfl | exact Eh (by assumption) (by rfl) | exact Eg (by assumption) (by rfl) rfl) : G1 P E (Mem I' L') ⟨some d, .load T x, ty, pos, af, g⟩ v := Ij hx hl
theorem Md {T : TypeId} {x : Operand} {ad : Addr} {v : Value} (hx : Bo E x = some (.pointer (some ad))) (hg : Wants ops E g) (hdn : Nat.blt d n = true) (h : A6 P f n I₀ Q ops l k ((d, v) :: E) I L) (hl : Fc P I L T ad v := by first | exact Dv (by repeat first | exact .head _ | apply List.Mem.tail | apply List.mem_append_right) (by rfl) rfl | exact Gs (by repeat first | exact .head _ | apply List.Mem.tail | apply List.mem_append_right) (by rfl) | exact Eh (FormAt.st (by assumption) _ (by omega)) (by rfl) | exact Eg (FormAt.st (by assumption) _ (by omega)) (by rfl) rfl | exact C8 (Nums.st (by assumption) _ (by omega)) rfl | exact C8 (Strs.st (by assumption) _ (by omega)) rfl | exact C8 (by assumption) rfl | exact Eh (by assumption) (by rfl) | exact Eg (by assumption) (by rfl) rfl) : A6 P f n I₀ Q ops (⟨some d, .load T x, ty, pos, af, g⟩ :: l) k E I L := Hf hx hl hg hdn h
theorem No {I' : Heap} {L' : Bc} {T : TypeId} {x : Operand} {ad : Addr} {v : Value} (hx : Bo E x = some (.pointer (some ad))) (hl : Fc P I' L' T ad v := by first | exact C8 (by assumption) rfl | exact Gs (by repeat first | exact .head _ | apply List.Mem.tail | apply List.mem_append_right) (by rfl) | exact Dv (by repeat first | exact .head _ | apply List.Mem.tail | apply List.mem_append_right) (by rfl) rfl | exact Eh (by assumption) (by rfl) | exact Eg (by assumption) (by rfl) rfl) : G1 P E (Mem I' L') ⟨some d, .load T x, ty, pos, af, g⟩ v := Ij hx hl
theorem Cp {T : TypeId} {x : Operand} {ad : Addr} {v : Value} (hx : Bo E x = some (.pointer (some ad))) (hg : Wants ops E g) (hdn : Nat.blt d n = true) (h : A6 P f n I₀ Q ops l k ((d, v) :: E) I L) (hl : Fc P I L T ad v := by first | exact C8 (by assumption) rfl | exact Gs (by repeat first | exact .head _ | apply List.Mem.tail | apply List.mem_append_right) (by rfl) | exact Dv (by repeat first | exact .head _ | apply List.Mem.tail | apply List.mem_append_right) (by rfl) rfl | exact Eh (by assumption) (by rfl) | exact Eg (by assumption) (by rfl) rfl) : A6 P f n I₀ Q ops (⟨some d, .load T x, ty, pos, af, g⟩ :: l) k E I L := Hf hx hl hg hdn h
theorem Bp {T U : TypeId} {x y : Operand} {b off : Nat} {v : Value} {vs cs us : List Value} {L' : Bc} {dd : TypeDesc} {sz bb : Nat} {z : List Value} [ht : Aq P T dd sz bb z]
  (hx : Bo E x = some (.pointer (some ⟨b, off, none⟩))) (hy : Bo E y = some v) (hv : Fg v = some vs) (hl : vs.length = sz) (hg : Wants ops E g) (h : A6 P f n I₀ Q ops l k E I L')
  (hp : vs.all Cs = true := by first | rfl | (simp only [List.toList_toArray, List.all_cons, List.all_nil, Gm, Bool.and_true, Bool.true_and] <;> rfl)) (hu : Upd b (.cells us.toArray U (0, 0)) (.cells cs.toArray U (0, 0)) L L' := by first | exact u0 | exact u1 | exact u2 | exact u3 | exact u4 | exact u5 | exact u6) (hus : Kc off vs cs = some us := by rfl) : A6 P f n I₀ Q ops (⟨none, .store T x y, ty, pos, af, g⟩ :: l) k E I L := Sy hx hy hv hl hp hu hus hg h
theorem Aa3 {S : World → Prop} {fuel : Nat} {listed listed' : Array Bool} (i : Nat) {T U : TypeId} {x y : Operand} {b off : Nat} {v : Value} {vs cs us : List Value} {L' : Bc} {dd : TypeDesc} {sz bb : Nat} {z : List Value} [ht : Aq P T dd sz bb z]
  (hi : ops[i]? = some ⟨none, .store T x y, ty, pos, af, g⟩) (hc : decide (Region.ready .any ops listed = [i]) = true) (hl' : listed' = listed.setIfInBounds i true)
  (hx : Bo E x = some (.pointer (some ⟨b, off, none⟩))) (hy : Bo E y = some v) (hv : Fg v = some vs) (hl : vs.length = sz) (hg : Wants ops E g) (hS : E4 ops listed' = true ∨ ∀ w, Mem I L' w → S w) (h : Cn P f n I₀ Q ops S fuel listed' k E I L')
  (hp : vs.all Cs = true := by first | rfl | (simp only [List.toList_toArray, List.all_cons, List.all_nil, Gm, Bool.and_true, Bool.true_and] <;> rfl)) (hu : Upd b (.cells us.toArray U (0, 0)) (.cells cs.toArray U (0, 0)) L L' := by first | exact u0 | exact u1 | exact u2 | exact u3 | exact u4 | exact u5 | exact u6) (hus : Kc off vs cs = some us := by rfl) : Cn P f n I₀ Q ops S (fuel + 1) listed k E I L := V7 i hi hc hl' hx hy hv hl hp hu hus hg hS h
theorem nb : (∀ a b : Bool, ((a && b) = true) = (a = true ∧ b = true)) ∧ (∀ a b : Bool, ((a || b) = true) = (a = true ∨ b = true)) ∧ (∀ a : Bool, ((!a) = true) = (a = false)) ∧ (∀ a : Bool, ((!a) = false) = (a = true)) ∧ (∀ a b : Bool, ((a && b) = false) = (a = false ∨ b = false)) ∧ (∀ a b : Bool, ((a || b) = false) = (a = false ∧ b = false)) ∧ (∀ (p : Prop) [Decidable p], (decide p = true) = p) ∧ (∀ (p : Prop) [Decidable p], (decide p = false) = ¬ p) := by
 exact ⟨fun a b => by cases a <;> cases b <;> simp, fun a b => by cases a <;> cases b <;> simp, fun a => by cases a <;> simp, fun a => by cases a <;> simp, fun a b => by cases a <;> cases b <;> simp, fun a b => by cases a <;> cases b <;> simp, fun p _ => by simp, fun p _ => by simp⟩
end rules

section
variable {P : Program} {f : FuncId} {n : Nat} {I₀ : Heap} {Q : C3} {k : List Item} {E : Gj} {I : Heap} {L : Bc} {ops : Array Oper} {d : Nat} {ty : TypeId} {pos : String} {af : Array Edge} {l : List Oper}
theorem Oc {op : BinOp} {T T' : TypeId} {x y : Operand} {kk : IntKind} {a b : Int} {r : Bool} (hx : Bo E x = some (.int kk a)) (hy : Bo E y = some (.int kk b)) (hr : O9 op a b = some r) (h : A6 P f n I₀ Q ops l k ((d, .bool r) :: E) I L) (hdn : Nat.blt d n = true := by rfl) : A6 P f n I₀ Q ops (⟨some d, .binOp op T x y T', ty, pos, af, none⟩ :: l) k E I L := C7 hx hy hr .free hdn h
theorem Od {op : BinOp} {T T' : TypeId} {x y : Operand} {a b : List UInt8} {r : Bool} (hx : Bo E x = some (.string (str a))) (hy : Bo E y = some (.string (str b))) (hr : R1 op a b = some r) (h : A6 P f n I₀ Q ops l k ((d, .bool r) :: E) I L) (hdn : Nat.blt d n = true := by rfl) : A6 P f n I₀ Q ops (⟨some d, .binOp op T x y T', ty, pos, af, none⟩ :: l) k E I L := Fn hx hy hr .free hdn h
theorem Of {c x y : Operand} {v : Value} (hc : Bo E c = some (.bool false)) (hx : Bo E y = some v) (h : A6 P f n I₀ Q ops l k ((d, v) :: E) I L) (hdn : Nat.blt d n = true := by rfl) : A6 P f n I₀ Q ops (⟨some d, .pick c x y, ty, pos, af, none⟩ :: l) k E I L := C1 hc hx .free hdn h
theorem Ot {c x y : Operand} {v : Value} (hc : Bo E c = some (.bool true)) (hx : Bo E x = some v) (h : A6 P f n I₀ Q ops l k ((d, v) :: E) I L) (hdn : Nat.blt d n = true := by rfl) : A6 P f n I₀ Q ops (⟨some d, .pick c x y, ty, pos, af, none⟩ :: l) k E I L := Dj hc hx .free hdn h
theorem Oe {x : Operand} {vs : List Value} {i : Nat} {v : Value} (hx : Bo E x = some (.tuple vs.toArray)) (hi : vs[i]? = some v) (h : A6 P f n I₀ Q ops l k ((d, v) :: E) I L) (hdn : Nat.blt d n = true := by rfl) : A6 P f n I₀ Q ops (⟨some d, .extract x i, ty, pos, af, none⟩ :: l) k E I L := Xe hx hi .free hdn h
theorem Or {op : BinOp} {T T' : TypeId} {x y : Operand} {a b m : Int} (hx : Bo E x = some (.int .i64 a)) (hy : Bo E y = some (.int .i64 b)) (hr : V5 op a b = some m) (h : A6 P f n I₀ Q ops l k ((d, .int .i64 m) :: E) I L) (hb : -9223372036854775808 ≤ m ∧ m ≤ 9223372036854775807 := by omega) (hdn : Nat.blt d n = true := by rfl) : A6 P f n I₀ Q ops (⟨some d, .binOp op T x y T', ty, pos, af, none⟩ :: l) k E I L := O1 hx hy hr hb .free hdn h
theorem Ok {T T' : TypeId} {x y : Operand} {a b : List UInt8} (hx : Bo E x = some (.string (str a))) (hy : Bo E y = some (.string (str b))) (h : A6 P f n I₀ Q ops l k ((d, .string (str (a ++ b))) :: E) I L) (hb : a.length + b.length ≤ 9223372036854775807 := by first | omega | (simp only [List.length_append, List.length_cons, List.length_nil]; omega) | (simp; omega)) (hdn : Nat.blt d n = true := by rfl) : A6 P f n I₀ Q ops (⟨some d, .binOp .add T x y T', ty, pos, af, none⟩ :: l) k E I L := Y8 hx hy hb .free hdn h
theorem Ol {T e : TypeId} {parts : Array (Nat × Operand)} {is : List Nat} {vs us : List Value} {m : Nat} {sz bb esz ebb : Nat} {z ez : List Value} {dd : TypeDesc} [ht : Aq P T (.slice e) sz bb z] [hte : Aq P e dd esz ebb ez] (hp : parts.toList.map (·.1) = is) (ho : G9 E (parts.toList.map (·.2)) = some vs)
  (h : ∀ b, A6 P f n I₀ Q ops l k ((d, .slice (some ⟨b, 0, none⟩) m m) :: E) I ((b, .cells us.toArray e (0, 0)) :: L)) (hr : is = List.range' 0 vs.length := by rfl) (hm : vs.length = m := by rfl) (hfl : L9 esz vs = some us := by rfl) (hm0 : m * esz ≠ 0 := by decide) (hm1 : m * esz ≤ 2 ^ 24 := by decide) (hez : ez.length = esz := by rfl) (hdn : Nat.blt d n = true := by rfl) :
  A6 P f n I₀ Q ops (⟨some d, .buildSlice T m parts, ty, pos, af, none⟩ :: l) k E I L := Abc hp ho hr hm hfl hm0 hm1 hez .free hdn h
theorem On {x : Operand} {ad : Option Addr} {m c : Nat} {e T : TypeId} {sz bb : Nat} {z : List Value} [ht : Aq P T (.slice e) sz bb z] (hx : Bo E x = some (.slice ad m c)) (h : A6 P f n I₀ Q ops l k ((d, .int .i64 (m : Nat)) :: E) I L) (hdn : Nat.blt d n = true := by rfl) : A6 P f n I₀ Q ops (⟨some d, .call ⟨.builtin .len, #[x], #[T]⟩, ty, pos, af, none⟩ :: l) k E I L := Iq hx .free hdn h
theorem Oh {T : TypeId} {i off : Nat} [hf : Az P T i off] {x : Operand} {b o : Nat} (hx : Bo E x = some (.pointer (some ⟨b, o, none⟩))) (h : A6 P f n I₀ Q ops l k ((d, .pointer (some ⟨b, o + off, none⟩)) :: E) I L) (hdn : Nat.blt d n = true := by rfl) : A6 P f n I₀ Q ops (⟨some d, .fieldAddr T x i, ty, pos, af, none⟩ :: l) k E I L := Bv hx .free hdn h
theorem Oj {T : TypeId} {i off : Nat} [hf : Az P T i off] {x : Operand} {ad : Addr} (hx : Bo E x = some (.pointer (some ad))) (h : A6 P f n I₀ Q ops l k ((d, .pointer (some (ad.add off))) :: E) I L) (hdn : Nat.blt d n = true := by rfl) : A6 P f n I₀ Q ops (⟨some d, .fieldAddr T x i, ty, pos, af, none⟩ :: l) k E I L := A3 hx .free hdn h
theorem Ow {x : Operand} {v : Value} {g : Option (Nat × Bool)} (hx : Bo E x = some v) (h : A6 P f n I₀ Q ops l k ((d, v) :: E) I L) (hg : Wants ops E g := by exact .met rfl rfl) (hdn : Nat.blt d n = true := by rfl) : A6 P f n I₀ Q ops (⟨some d, .move x, ty, pos, af, g⟩ :: l) k E I L := Zc hx hg hdn h
class Cnd (b : Bool) (p q : outParam Prop) : Prop where
 pos : b = true → p
 neg : b = false → q
 tru : p → b = true
 fls : q → b = false
instance (priority := low) (b : Bool) : Cnd b (b = true) (b = false) := ⟨id, id, id, id⟩
instance (p : Prop) [Decidable p] : Cnd (decide p) p (¬ p) := ⟨of_decide_eq_true, of_decide_eq_false, decide_eq_true, decide_eq_false⟩
instance (p : Prop) [Decidable p] : Cnd (!decide p) (¬ p) p := ⟨fun h => by simpa using h, fun h => by simpa using h, fun h => by simpa using h, fun h => by simpa using h⟩
theorem Si {c : Operand} {x y : Code} {b : Bool} {p q : Prop} [hb : Cnd b p q] (hc : Bo E c = some (.bool b)) (ht : p → RunS P f n I₀ Q (.code x :: k) E I L) (hf : q → RunS P f n I₀ Q (.code y :: k) E I L) : RunS P f n I₀ Q (.code (.cond c x y) :: k) E I L := Av hc (fun h => ht (hb.pos h)) (fun h => hf (hb.neg h))
theorem Ca {kf : FuncId} {args : Array Operand} {tys : Array TypeId} {vs : List Value} {Q' : C3} {c : Code} {m : Nat} {rs : List ResultVar} [hf : Bw P kf c m rs] (ha : G9 E args.toList = some vs) (hF : Fun P kf vs I L Q') (h : ∀ v I' L', HLe I I' → Q' v I' L' → A6 P f n I₀ Q ops l k ((d, v) :: E) I' L') (hdn : Nat.blt d n = true := by rfl) : A6 P f n I₀ Q ops (⟨some d, .call ⟨.value (.func kf), args, tys⟩, ty, pos, af, none⟩ :: l) k E I L := B6 ha .free hdn hF h
theorem Dc {S : World → Prop} {fuel : Nat} {listed : Array Bool} (i : Nat) {kf : FuncId} {args : Array Operand} {tys : Array TypeId} {vs : List Value} {Q' : C3} {c : Code} {m : Nat} {rs : List ResultVar} [hf : Bw P kf c m rs] (hi : ops[i]? = some ⟨some d, .call ⟨.value (.func kf), args, tys⟩, ty, pos, af, none⟩) (ha : G9 E args.toList = some vs) (hF : Fun P kf vs I L Q')
  (h : ∀ v I' L', HLe I I' → Q' v I' L' → (E4 ops (listed.setIfInBounds i true) = true ∨ ∀ w, Mem I' L' w → S w) ∧ Cn P f n I₀ Q ops S fuel (listed.setIfInBounds i true) k ((d, v) :: E) I' L') (hc : decide (Region.ready .any ops listed = [i]) = true := by kernel_rfl) (hdn : Nat.blt d n = true := by rfl) : Cn P f n I₀ Q ops S (fuel + 1) listed k E I L := Hq i hi hc rfl ha .free hdn hF h
theorem Dx {S : World → Prop} {fuel : Nat} {listed : Array Bool} (i : Nat) {T U : TypeId} {x y : Operand} {b off : Nat} {v : Value} {vs cs us : List Value} {L' : Bc} {dd : TypeDesc} {sz bb : Nat} {z : List Value} [ht : Aq P T dd sz bb z] (hi : ops[i]? = some ⟨none, .store T x y, ty, pos, af, none⟩) (hx : Bo E x = some (.pointer (some ⟨b, off, none⟩))) (hy : Bo E y = some v) (hv : Fg v = some vs)
  (h : Cn P f n I₀ Q ops S fuel (listed.setIfInBounds i true) k E I L') (hc : decide (Region.ready .any ops listed = [i]) = true := by kernel_rfl) (hl : vs.length = sz := by rfl) (hS : E4 ops (listed.setIfInBounds i true) = true := by kernel_rfl) (hp : vs.all Cs = true := by first | rfl | (simp only [List.toList_toArray, List.all_cons, List.all_nil, Gm, Bool.and_true, Bool.true_and] <;> rfl)) (hu : Upd b (.cells us.toArray U (0, 0)) (.cells cs.toArray U (0, 0)) L L' := by first | exact u0 | exact u1 | exact u2 | exact u3 | exact u4 | exact u5 | exact u6) (hus : Kc off vs cs = some us := by rfl) : Cn P f n I₀ Q ops S (fuel + 1) listed k E I L := V7 i hi hc rfl hx hy hv hl hp hu hus .free (.inl hS) h
theorem Db {S : World → Prop} {fuel : Nat} {listed : Array Bool} (i : Nat) {op : Op} {v : Value} (hi : ops[i]? = some ⟨some d, op, ty, pos, af, none⟩) (hx : G1 P E (fun _ => True) ⟨some d, op, ty, pos, af, none⟩ v)
  (h : Cn P f n I₀ Q ops S fuel (listed.setIfInBounds i true) k ((d, v) :: E) I L) (hc : Hg ops listed i = true := by kernel_rfl) (hS : E4 ops listed = true := by kernel_rfl) (hdn : Nat.blt d n = true := by rfl) : Cn P f n I₀ Q ops S (fuel + 1) listed k E I L := Fs i hi hc rfl (.inl hS) hx .free hdn h
theorem Dm {S : World → Prop} {fuel : Nat} {listed : Array Bool} (i : Nat) {op : Op} {v : Value} {g : Option (Nat × Bool)} (hi : ops[i]? = some ⟨some d, op, ty, pos, af, g⟩) (hx : G1 P E (fun _ => True) ⟨some d, op, ty, pos, af, g⟩ v)
  (h : Cn P f n I₀ Q ops S fuel (listed.setIfInBounds i true) k ((d, v) :: E) I L) (hc : Hg ops listed i = true := by kernel_rfl) (hS : E4 ops listed = true ∨ ∀ w, Mem I L w → S w := by exact .inr Al) (hg : Wants ops E g := by exact .met rfl rfl) (hdn : Nat.blt d n = true := by rfl) : Cn P f n I₀ Q ops S (fuel + 1) listed k E I L := Fs i hi hc rfl hS hx hg hdn h
theorem Yk {S : World → Prop} {g : Option (Nat × Bool)} {T T' : TypeId} {x y : Operand} {a b : List UInt8} (hx : Bo E x = some (.string (str a))) (hy : Bo E y = some (.string (str b))) (hb : a.length + b.length ≤ 9223372036854775807 := by first | omega | (simp only [List.length_append, List.length_cons, List.length_nil]; omega) | (simp; omega)) : G1 P E S ⟨some d, .binOp .add T x y T', ty, pos, af, g⟩ (.string (str (a ++ b))) := U1 hx hy hb
theorem Hx {p : Prop} {I : Heap} {L : Bc} {S : World → Prop} {B : Prop} (h : p) (hS : B ∨ ∀ w, Mem I L w → S w := by exact .inr Al) : (B ∨ ∀ w, Mem I L w → S w) ∧ p := ⟨hS, h⟩
theorem Sf {c : Operand} {x y : Code} {b : Bool} {p q : Prop} [hb : Cnd b p q] (hc : Bo E c = some (.bool b)) (hq : q) (h : RunS P f n I₀ Q (.code y :: k) E I L) : RunS P f n I₀ Q (.code (.cond c x y) :: k) E I L := A8 (by rw [hc, hb.fls hq]) h
theorem St {c : Operand} {x y : Code} {b : Bool} {p q : Prop} [hb : Cnd b p q] (hc : Bo E c = some (.bool b)) (hp : p) (h : RunS P f n I₀ Q (.code x :: k) E I L) : RunS P f n I₀ Q (.code (.cond c x y) :: k) E I L := Cm (by rw [hc, hb.tru hp]) h
theorem Ms {L' : Bc} (hs : L'.Sublist L := by repeat (first | exact List.Sublist.refl _ | apply List.Sublist.cons_cons | apply List.Sublist.cons)) : ∀ w, Mem I L w → Mem I L' w := fun _ h => Mem.sub hs h
end
set_option maxRecDepth 100000
def Ao (P : Program) (T : TypeId) : Array Field := match P.underlying T with
 | some (.struct fs) => fs
 | _ => #[]
theorem Fi {P : Program} {f : FuncId} {n : Nat} {rs : List ResultVar} {fn : Func} (h : P.funcs[f]? = some fn) (h1 : fn.body = some (fn.body.getD .skip) := by kernel_rfl) (h2 : fn.ntmps = n := by kernel_rfl) (h3 : fn.results = rs.toArray := by kernel_rfl) (h4 : (fn.name == "runtime.NumGoroutine") = false := by kernel_rfl) : Bw P f (fn.body.getD .skip) n rs := ⟨fn, h, h1, h2, h3, h4⟩
theorem Ti {P : Program} {T : TypeId} {d : TypeDesc} {s b : Nat} {z : List Value} (h1 : P.underlying T = some d := by kernel_rfl) (h2 : (P.info? T).map (fun i => (i.size, i.bytes, i.zero.map fun v => v.cells.toList)) = some (s, b, some z) := by kernel_rfl) : Aq P T d s b z := ⟨h1, by
 cases hi : P.info? T with
 | none => rw [hi] at h2; cases h2
 | some i =>
  rw [hi] at h2
  simp only [Option.map_some, Option.some.injEq, Prod.mk.injEq] at h2
  obtain ⟨h3, h4, h5⟩ := h2; obtain ⟨v, hv, hz⟩ := Option.map_eq_some_iff.1 h5
  exact ⟨i, v, rfl, h3, h4, hv, hz⟩⟩
theorem Di {P : Program} {S : TypeId} {i off : Nat} {fld : Field} {inf : TypeInfo} (h1 : (Ao P S)[i]? = some fld) (h2 : P.info? fld.type = some inf) (h3 : inf.size ≠ 0) (h4 : fld.offset = off) (h : P.underlying S = some (.struct (Ao P S)) := by kernel_rfl) : Az P S i off := ⟨Ao P S, fld, inf, h, h1, h2, h3, h4⟩
instance : Bw Tryz.prog 3 (Tryz.f3.body.getD .skip) 46 [.tmp 2] := Fi Tryz.func3
instance : Bw Tryz.prog 4 (Tryz.f4.body.getD .skip) 6 [.tmp 2] := Fi Tryz.func4
instance : Bw Tryz.prog 5 (Tryz.f5.body.getD .skip) 15 [.tmp 2] := Fi Tryz.func5
instance : Bw Tryz.prog 6 (Tryz.f6.body.getD .skip) 15 [.tmp 2] := Fi Tryz.func6
instance : Bw Tryz.prog 7 (Tryz.f7.body.getD .skip) 23 [.tmp 2, .tmp 3] := Fi Tryz.func7
instance : Bw Tryz.prog 8 (Tryz.f8.body.getD .skip) 28 [.tmp 4] := Fi Tryz.func8
instance : Bw Tryz.prog 9 (Tryz.f9.body.getD .skip) 14 [.tmp 2] := Fi Tryz.func9
instance : Bw Tryz.prog 10 (Tryz.f10.body.getD .skip) 21 [.tmp 2] := Fi Tryz.func10
instance : Bw Tryz.prog 11 (Tryz.f11.body.getD .skip) 11 [.tmp 2] := Fi Tryz.func11
instance : Bw Tryz.prog 12 (Tryz.f12.body.getD .skip) 17 [.cell 2 35, .tmp 3] := Fi Tryz.func12
instance : Bw Tryz.prog 13 (Tryz.f13.body.getD .skip) 18 [.tmp 2] := Fi Tryz.func13
instance : Bw Tryz.prog 14 (Tryz.f14.body.getD .skip) 22 [.cell 2 41, .tmp 3] := Fi Tryz.func14
instance : Bw Tryz.prog 15 (Tryz.f15.body.getD .skip) 18 [.tmp 2] := Fi Tryz.func15
instance : Bw Tryz.prog 16 (Tryz.f16.body.getD .skip) 35 [.cell 2 35, .tmp 3] := Fi Tryz.func16
instance : Bw Tryz.prog 17 (Tryz.f17.body.getD .skip) 7 [.tmp 2] := Fi Tryz.func17
instance : Bw Tryz.prog 18 (Tryz.f18.body.getD .skip) 122 [.tmp 8] := Fi Tryz.func18
instance : Bw Tryz.prog 19 (Tryz.f19.body.getD .skip) 17 [.cell 2 35, .tmp 3] := Fi Tryz.func19
instance : Bw Tryz.prog 20 (Tryz.f20.body.getD .skip) 26 [.tmp 2] := Fi Tryz.func20
instance : Bw Tryz.prog 21 (Tryz.f21.body.getD .skip) 49 [.tmp 2] := Fi Tryz.func21
instance : Bw Tryz.prog 22 (Tryz.f22.body.getD .skip) 30 [.tmp 2, .tmp 3] := Fi Tryz.func22
instance : Bw Tryz.prog 23 (Tryz.f23.body.getD .skip) 99 [.tmp 4] := Fi Tryz.func23
instance : Bw Tryz.prog 24 (Tryz.f24.body.getD .skip) 23 [.cell 2 35, .tmp 3] := Fi Tryz.func24
instance : Bw Tryz.prog 25 (Tryz.f25.body.getD .skip) 14 [.tmp 2] := Fi Tryz.func25
instance : Bw Tryz.prog 26 (Tryz.f26.body.getD .skip) 10 [.tmp 2] := Fi Tryz.func26
instance : Bw Tryz.prog 27 (Tryz.f27.body.getD .skip) 54 [.tmp 2] := Fi Tryz.func27
instance : Bw Tryz.prog 28 (Tryz.f28.body.getD .skip) 20 [.cell 2 41, .tmp 3] := Fi Tryz.func28
instance : Bw Tryz.prog 29 (Tryz.f29.body.getD .skip) 105 [.tmp 2] := Fi Tryz.func29
instance : Bw Tryz.prog 30 (Tryz.f30.body.getD .skip) 24 [.tmp 2] := Fi Tryz.func30
instance : Bw Tryz.prog 31 (Tryz.f31.body.getD .skip) 17 [.tmp 2] := Fi Tryz.func31
instance : Bw Tryz.prog 32 (Tryz.f32.body.getD .skip) 53 [.tmp 2] := Fi Tryz.func32
instance : Bw Tryz.prog 33 (Tryz.f33.body.getD .skip) 23 [.cell 2 35, .tmp 3] := Fi Tryz.func33
instance : Bw Tryz.prog 34 (Tryz.f34.body.getD .skip) 23 [] := Fi Tryz.func34
instance : Bw Tryz.prog 35 (Tryz.f35.body.getD .skip) 8 [] := Fi Tryz.func35
instance : Bw Tryz.prog 36 (Tryz.f36.body.getD .skip) 13 [.cell 4 35] := Fi Tryz.func36
instance : Bw Tryz.prog 37 (Tryz.f37.body.getD .skip) 32 [] := Fi Tryz.func37
instance : Bw Tryz.prog 38 (Tryz.f38.body.getD .skip) 14 [.tmp 2] := Fi Tryz.func38
instance : Bw Tryz.prog 39 (Tryz.f39.body.getD .skip) 7 [.tmp 2] := Fi Tryz.func39
instance : Bw Tryz.prog 40 (Tryz.f40.body.getD .skip) 20 [.tmp 4] := Fi Tryz.func40
instance : Bw Tryz.prog 41 (Tryz.f41.body.getD .skip) 17 [.tmp 4] := Fi Tryz.func41
instance : Bw Tryz.prog 42 (Tryz.f42.body.getD .skip) 45 [.tmp 2] := Fi Tryz.func42
instance : Bw Tryz.prog 43 (Tryz.f43.body.getD .skip) 36 [.tmp 2] := Fi Tryz.func43
instance : Bw Tryz.prog 44 (Tryz.f44.body.getD .skip) 38 [.tmp 4] := Fi Tryz.func44
instance : Bw Tryz.prog 45 (Tryz.f45.body.getD .skip) 28 [.tmp 2] := Fi Tryz.func45
instance : Bw Tryz.prog 46 (Tryz.f46.body.getD .skip) 17 [.tmp 2, .tmp 3] := Fi Tryz.func46
instance : Bw Tryz.prog 47 (Tryz.f47.body.getD .skip) 54 [.tmp 6, .tmp 7] := Fi Tryz.func47
instance : Bw Tryz.prog 48 (Tryz.f48.body.getD .skip) 12 [.tmp 4] := Fi Tryz.func48
instance : Bw Tryz.prog 49 (Tryz.f49.body.getD .skip) 32 [.cell 2 41, .tmp 3] := Fi Tryz.func49
instance : Bw Tryz.prog 50 (Tryz.f50.body.getD .skip) 11 [.tmp 2] := Fi Tryz.func50
instance : Bw Tryz.prog 51 (Tryz.f51.body.getD .skip) 31 [.tmp 2] := Fi Tryz.func51
instance : Bw Tryz.prog 52 (Tryz.f52.body.getD .skip) 78 [.cell 4 35, .tmp 5, .tmp 6] := Fi Tryz.func52
instance : Bw Tryz.prog 53 (Tryz.f53.body.getD .skip) 21 [.tmp 2] := Fi Tryz.func53
instance : Bw Tryz.prog 54 (Tryz.f54.body.getD .skip) 11 [.tmp 2] := Fi Tryz.func54
instance : Bw Tryz.prog 55 (Tryz.f55.body.getD .skip) 78 [.tmp 2] := Fi Tryz.func55
instance : Bw Tryz.prog 56 (Tryz.f56.body.getD .skip) 15 [.tmp 2] := Fi Tryz.func56
instance : Bw Tryz.prog 57 (Tryz.f57.body.getD .skip) 87 [.cell 6 41, .tmp 7] := Fi Tryz.func57
instance : Bw Tryz.prog 58 (Tryz.f58.body.getD .skip) 57 [.tmp 2, .tmp 3] := Fi Tryz.func58
instance : Bw Tryz.prog 59 (Tryz.f59.body.getD .skip) 34 [.tmp 2] := Fi Tryz.func59
instance : Bw Tryz.prog 60 (Tryz.f60.body.getD .skip) 20 [.tmp 2, .tmp 3] := Fi Tryz.func60
instance : Bw Tryz.prog 61 (Tryz.f61.body.getD .skip) 10 [.tmp 2] := Fi Tryz.func61
instance : Bw Tryz.prog 62 (Tryz.f62.body.getD .skip) 8 [.tmp 2] := Fi Tryz.func62
instance : Bw Tryz.prog 63 (Tryz.f63.body.getD .skip) 108 [.cell 8 35] := Fi Tryz.func63
instance : Bw Tryz.prog 64 (Tryz.f64.body.getD .skip) 93 [.cell 6 35] := Fi Tryz.func64
instance : Bw Tryz.prog 65 (Tryz.f65.body.getD .skip) 28 [.cell 4 35] := Fi Tryz.func65
instance : Bw Tryz.prog 66 (Tryz.f66.body.getD .skip) 19 [.tmp 4, .tmp 5] := Fi Tryz.func66
instance : Bw Tryz.prog 67 (Tryz.f67.body.getD .skip) 17 [.tmp 4] := Fi Tryz.func67
instance : Bw Tryz.prog 68 (Tryz.f68.body.getD .skip) 32 [.tmp 6] := Fi Tryz.func68
instance : Bw Tryz.prog 69 (Tryz.f69.body.getD .skip) 27 [.tmp 4] := Fi Tryz.func69
instance : Bw Tryz.prog 70 (Tryz.f70.body.getD .skip) 29 [.tmp 4] := Fi Tryz.func70
instance : Bw Tryz.prog 71 (Tryz.f71.body.getD .skip) 130 [.tmp 8] := Fi Tryz.func71
instance : Bw Tryz.prog 72 (Tryz.f72.body.getD .skip) 34 [.tmp 4] := Fi Tryz.func72
instance : Bw Tryz.prog 73 (Tryz.f73.body.getD .skip) 44 [.cell 6 41] := Fi Tryz.func73
instance : Bw Tryz.prog 74 (Tryz.f74.body.getD .skip) 11 [.tmp 2] := Fi Tryz.func74
instance : Bw Tryz.prog 75 (Tryz.f75.body.getD .skip) 23 [.cell 2 41, .tmp 3] := Fi Tryz.func75
instance : Bw Tryz.prog 76 (Tryz.f76.body.getD .skip) 66 [.cell 4 41] := Fi Tryz.func76
instance : Bw Tryz.prog 77 (Tryz.f77.body.getD .skip) 8 [.tmp 4] := Fi Tryz.func77
instance : Bw Tryz.prog 78 (Tryz.f78.body.getD .skip) 33 [.tmp 2] := Fi Tryz.func78
instance : Bw Tryz.prog 79 (Tryz.f79.body.getD .skip) 22 [.tmp 2] := Fi Tryz.func79
instance : Bw Tryz.prog 80 (Tryz.f80.body.getD .skip) 25 [.tmp 2] := Fi Tryz.func80
instance : Bw Tryz.prog 81 (Tryz.f81.body.getD .skip) 21 [.tmp 2] := Fi Tryz.func81
instance : Bw Tryz.prog 82 (Tryz.f82.body.getD .skip) 10 [.tmp 2] := Fi Tryz.func82
instance : Bw Tryz.prog 83 (Tryz.f83.body.getD .skip) 22 [.tmp 2] := Fi Tryz.func83
instance : Bw Tryz.prog 84 (Tryz.f84.body.getD .skip) 33 [.tmp 2] := Fi Tryz.func84
instance : Bw Tryz.prog 85 (Tryz.f85.body.getD .skip) 15 [.tmp 6] := Fi Tryz.func85
instance : Bw Tryz.prog 86 (Tryz.f86.body.getD .skip) 41 [.tmp 2] := Fi Tryz.func86
instance : Bw Tryz.prog 87 (Tryz.f87.body.getD .skip) 45 [] := Fi Tryz.func87
instance : Bw Tryz.prog 88 (Tryz.f88.body.getD .skip) 11 [] := Fi Tryz.func88
instance : Bw Tryz.prog 89 (Tryz.f89.body.getD .skip) 9 [.tmp 4] := Fi Tryz.func89
instance : Bw Tryz.prog 90 (Tryz.f90.body.getD .skip) 5 [.cell 2 35] := Fi Tryz.func90
instance : Bw Tryz.prog 91 (Tryz.f91.body.getD .skip) 8 [.tmp 2] := Fi Tryz.func91
instance : Bw Tryz.prog 92 (Tryz.f92.body.getD .skip) 32 [.tmp 2] := Fi Tryz.func92
instance : Bw Tryz.prog 93 (Tryz.f93.body.getD .skip) 30 [.cell 6 35] := Fi Tryz.func93
instance : Bw Tryz.prog 94 (Tryz.f94.body.getD .skip) 11 [.cell 4 35] := Fi Tryz.func94
instance : Bw Tryz.prog 95 (Tryz.f95.body.getD .skip) 20 [] := Fi Tryz.func95
instance : Bw Tryz.prog 96 (Tryz.f96.body.getD .skip) 67 [.tmp 6] := Fi Tryz.func96
instance : Bw Tryz.prog 97 (Tryz.f97.body.getD .skip) 18 [.cell 6 107] := Fi Tryz.func97
instance : Bw Tryz.prog 98 (Tryz.f98.body.getD .skip) 20 [.tmp 2] := Fi Tryz.func98
instance : Bw Tryz.prog 99 (Tryz.f99.body.getD .skip) 119 [.tmp 8] := Fi Tryz.func99
instance : Bw Tryz.prog 100 (Tryz.f100.body.getD .skip) 18 [.tmp 4] := Fi Tryz.func100
instance : Bw Tryz.prog 101 (Tryz.f101.body.getD .skip) 65 [.tmp 6] := Fi Tryz.func101
instance : Bw Tryz.prog 102 (Tryz.f102.body.getD .skip) 155 [.cell 8 41] := Fi Tryz.func102
instance : Bw Tryz.prog 103 (Tryz.f103.body.getD .skip) 114 [.cell 4 41] := Fi Tryz.func103
instance : Bw Tryz.prog 104 (Tryz.f104.body.getD .skip) 5 [.cell 2 41] := Fi Tryz.func104
instance : Bw Tryz.prog 105 (Tryz.f105.body.getD .skip) 5 [.cell 2 41] := Fi Tryz.func105
instance : Bw Tryz.prog 106 (Tryz.f106.body.getD .skip) 18 [.tmp 4] := Fi Tryz.func106
instance : Bw Tryz.prog 107 (Tryz.f107.body.getD .skip) 15 [.tmp 6] := Fi Tryz.func107
instance : Bw Tryz.prog 108 (Tryz.f108.body.getD .skip) 20 [.tmp 2] := Fi Tryz.func108
instance : Bw Tryz.prog 109 (Tryz.f109.body.getD .skip) 28 [.tmp 2] := Fi Tryz.func109
instance : Bw Tryz.prog 110 (Tryz.f110.body.getD .skip) 8 [.tmp 4] := Fi Tryz.func110
instance : Bw Tryz.prog 111 (Tryz.f111.body.getD .skip) 19 [.tmp 4] := Fi Tryz.func111
instance : Bw Tryz.prog 112 (Tryz.f112.body.getD .skip) 5 [.tmp 2] := Fi Tryz.func112
instance : Bw Tryz.prog 113 (Tryz.f113.body.getD .skip) 32 [.tmp 2] := Fi Tryz.func113
instance : Bw Tryz.prog 115 (Tryz.f115.body.getD .skip) 25 [.tmp 6] := Fi Tryz.func115
instance : Bw Tryz.prog 116 (Tryz.f116.body.getD .skip) 26 [.tmp 2, .tmp 3] := Fi Tryz.func116
instance : Bw Tryz.prog 117 (Tryz.f117.body.getD .skip) 10 [.tmp 4] := Fi Tryz.func117
instance : Bw Tryz.prog 118 (Tryz.f118.body.getD .skip) 28 [.tmp 2] := Fi Tryz.func118
instance : Bw Tryz.prog 119 (Tryz.f119.body.getD .skip) 10 [.tmp 2, .tmp 3, .tmp 4] := Fi Tryz.func119
instance : Bw Tryz.prog 120 (Tryz.f120.body.getD .skip) 10 [.tmp 2, .tmp 3, .tmp 4] := Fi Tryz.func120
instance : Bw Tryz.prog 121 (Tryz.f121.body.getD .skip) 41 [.tmp 4] := Fi Tryz.func121
instance : Bw Tryz.prog 122 (Tryz.f122.body.getD .skip) 26 [.tmp 6] := Fi Tryz.func122
instance : Bw Tryz.prog 123 (Tryz.f123.body.getD .skip) 26 [.tmp 2] := Fi Tryz.func123
instance : Bw Tryz.prog 124 (Tryz.f124.body.getD .skip) 39 [.cell 4 41] := Fi Tryz.func124
instance : Bw Tryz.prog 125 (Tryz.f125.body.getD .skip) 18 [.tmp 6] := Fi Tryz.func125
instance : Bw Tryz.prog 126 (Tryz.f126.body.getD .skip) 13 [.tmp 4] := Fi Tryz.func126
instance : Bw Tryz.prog 128 (Tryz.f128.body.getD .skip) 47 [.tmp 2] := Fi Tryz.func128
instance : Bw Tryz.prog 129 (Tryz.f129.body.getD .skip) 45 [.tmp 4, .tmp 5, .tmp 6] := Fi Tryz.func129
instance : Bw Tryz.prog 130 (Tryz.f130.body.getD .skip) 26 [.tmp 2] := Fi Tryz.func130
instance : Aq Tryz.prog 1 (.func #[] #[] false) 1 8 [.nilFunc] := Ti
instance : Aq Tryz.prog 2 (.int .i64) 1 8 [.int .i64 0] := Ti
instance : Aq Tryz.prog 3 (.int .i64) 1 8 [.int .i64 0] := Ti
instance : Aq Tryz.prog 4 .bool 1 1 [.bool false] := Ti
instance : Aq Tryz.prog 5 (.int .u8) 1 1 [.int .u8 0] := Ti
instance : Aq Tryz.prog 6 (.int .u8) 1 1 [.int .u8 0] := Ti
instance : Aq Tryz.prog 7 (.struct (Ao Tryz.prog 7)) 4 24 [.int .i64 0, .int .i64 0, .bool false, .int .u8 0] := Ti
instance : Aq Tryz.prog 8 (.struct (Ao Tryz.prog 8)) 4 24 [.int .i64 0, .int .i64 0, .bool false, .int .u8 0] := Ti
instance : Aq Tryz.prog 9 .string 1 16 [.string (str [])] := Ti
instance : Aq Tryz.prog 10 .string 1 16 [.string (str [])] := Ti
instance : Aq Tryz.prog 11 .string 1 16 [.string (str [])] := Ti
instance : Aq Tryz.prog 12 (.int .u64) 1 8 [.int .u64 0] := Ti
instance : Aq Tryz.prog 13 (.struct (Ao Tryz.prog 13)) 2 24 [.string (str []), .int .u64 0] := Ti
instance : Aq Tryz.prog 14 (.struct (Ao Tryz.prog 14)) 2 24 [.string (str []), .int .u64 0] := Ti
instance : Aq Tryz.prog 15 (.pointer 163) 1 8 [.pointer none] := Ti
instance : Aq Tryz.prog 16 (.pointer 166) 1 8 [.pointer none] := Ti
instance : Aq Tryz.prog 17 (.pointer 173) 1 8 [.pointer none] := Ti
instance : Aq Tryz.prog 18 (.struct (Ao Tryz.prog 18)) 1 8 [.pointer none] := Ti
instance : Aq Tryz.prog 19 (.struct (Ao Tryz.prog 19)) 1 8 [.pointer none] := Ti
instance : Aq Tryz.prog 21 (.int .i32) 1 4 [.int .i32 0] := Ti
instance : Aq Tryz.prog 22 (.slice 5) 1 24 [.slice none 0 0] := Ti
instance : Aq Tryz.prog 23 (.func #[22] #[9] false) 1 8 [.nilFunc] := Ti
instance : Aq Tryz.prog 24 (.func #[9] #[4] false) 1 8 [.nilFunc] := Ti
instance : Aq Tryz.prog 26 (.func #[9] #[9, 4] false) 1 8 [.nilFunc] := Ti
instance : Aq Tryz.prog 27 (.func #[9, 9] #[4] false) 1 8 [.nilFunc] := Ti
instance : Aq Tryz.prog 28 (.func #[9] #[3] false) 1 8 [.nilFunc] := Ti
instance : Aq Tryz.prog 29 (.func #[22] #[4] false) 1 8 [.nilFunc] := Ti
instance : Aq Tryz.prog 30 (.func #[31] #[9] false) 1 8 [.nilFunc] := Ti
instance : Aq Tryz.prog 31 (.pointer 51) 1 8 [.pointer none] := Ti
instance : Aq Tryz.prog 32 (.func #[22] #[31] false) 1 8 [.nilFunc] := Ti
instance : Aq Tryz.prog 33 (.slice 35) 1 24 [.slice none 0 0] := Ti
instance : Aq Tryz.prog 34 (.struct (Ao Tryz.prog 34)) 2 40 [.string (str []), .slice none 0 0] := Ti
instance : Aq Tryz.prog 35 (.struct (Ao Tryz.prog 35)) 2 40 [.string (str []), .slice none 0 0] := Ti
instance : Aq Tryz.prog 37 (.func #[9] #[35, 4] false) 1 8 [.nilFunc] := Ti
instance : Aq Tryz.prog 38 (.func #[] #[4] false) 1 8 [.nilFunc] := Ti
instance : Aq Tryz.prog 39 (.slice 41) 1 24 [.slice none 0 0] := Ti
instance : Aq Tryz.prog 40 (.struct (Ao Tryz.prog 40)) 2 40 [.string (str []), .slice none 0 0] := Ti
instance : Aq Tryz.prog 41 (.struct (Ao Tryz.prog 41)) 2 40 [.string (str []), .slice none 0 0] := Ti
instance : Aq Tryz.prog 43 (.func #[9] #[41, 4] false) 1 8 [.nilFunc] := Ti
instance : Aq Tryz.prog 44 (.func #[41] #[4] false) 1 8 [.nilFunc] := Ti
instance : Aq Tryz.prog 45 (.func #[] #[35, 4] false) 1 8 [.nilFunc] := Ti
instance : Aq Tryz.prog 46 (.func #[] #[9] false) 1 8 [.nilFunc] := Ti
instance : Aq Tryz.prog 47 (.func #[35, 35, 65, 65] #[4] false) 1 8 [.nilFunc] := Ti
instance : Aq Tryz.prog 48 (.func #[] #[3] false) 1 8 [.nilFunc] := Ti
instance : Aq Tryz.prog 49 (.func #[3] #[3] false) 1 8 [.nilFunc] := Ti
instance : Aq Tryz.prog 50 (.struct (Ao Tryz.prog 50)) 2 32 [.slice none 0 0, .int .i64 0] := Ti
instance : Aq Tryz.prog 51 (.struct (Ao Tryz.prog 51)) 2 32 [.slice none 0 0, .int .i64 0] := Ti
instance : Aq Tryz.prog 52 (.func #[41] #[3] false) 1 8 [.nilFunc] := Ti
instance : Aq Tryz.prog 53 (.func #[41] #[9] false) 1 8 [.nilFunc] := Ti
instance : Aq Tryz.prog 54 (.pointer 57) 1 8 [.pointer none] := Ti
instance : Aq Tryz.prog 55 (.map 9 4) 1 8 [.map none] := Ti
instance : Aq Tryz.prog 56 (.struct (Ao Tryz.prog 56)) 3 24 [.map none, .int .i64 0, .int .i64 0] := Ti
instance : Aq Tryz.prog 57 (.struct (Ao Tryz.prog 57)) 3 24 [.map none, .int .i64 0, .int .i64 0] := Ti
instance : Aq Tryz.prog 58 (.func #[59] #[] false) 1 8 [.nilFunc] := Ti
instance : Aq Tryz.prog 59 (.func #[9] #[] false) 1 8 [.nilFunc] := Ti
instance : Aq Tryz.prog 60 (.func #[35] #[35] false) 1 8 [.nilFunc] := Ti
instance : Aq Tryz.prog 61 (.pointer 63) 1 8 [.pointer none] := Ti
instance : Aq Tryz.prog 62 (.struct (Ao Tryz.prog 62)) 2 32 [.pointer none, .slice none 0 0] := Ti
instance : Aq Tryz.prog 63 (.struct (Ao Tryz.prog 63)) 2 32 [.pointer none, .slice none 0 0] := Ti
instance : Aq Tryz.prog 64 (.func #[61] #[] false) 1 8 [.nilFunc] := Ti
instance : Aq Tryz.prog 65 (.slice 9) 1 24 [.slice none 0 0] := Ti
instance : Aq Tryz.prog 66 (.func #[65, 9] #[3] false) 1 8 [.nilFunc] := Ti
instance : Aq Tryz.prog 67 (.func #[35] #[4] false) 1 8 [.nilFunc] := Ti
instance : Aq Tryz.prog 68 (.slice 3) 1 24 [.slice none 0 0] := Ti
instance : Aq Tryz.prog 69 (.func #[] #[68] false) 1 8 [.nilFunc] := Ti
instance : Aq Tryz.prog 70 (.func #[102] #[65] true) 1 8 [.nilFunc] := Ti
instance : Aq Tryz.prog 71 (.func #[3] #[65] false) 1 8 [.nilFunc] := Ti
instance : Aq Tryz.prog 73 (.func #[9] #[65, 4] false) 1 8 [.nilFunc] := Ti
instance : Aq Tryz.prog 74 (.func #[9, 9, 9] #[9, 4] false) 1 8 [.nilFunc] := Ti
instance : Aq Tryz.prog 75 (.func #[65] #[9] false) 1 8 [.nilFunc] := Ti
instance : Aq Tryz.prog 76 (.func #[41] #[41, 4] false) 1 8 [.nilFunc] := Ti
instance : Aq Tryz.prog 78 (.func #[9, 3] #[35, 9, 4] false) 1 8 [.nilFunc] := Ti
instance : Aq Tryz.prog 80 (.func #[9, 3, 3] #[41, 3] false) 1 8 [.nilFunc] := Ti
instance : Aq Tryz.prog 82 (.func #[9] #[3, 4] false) 1 8 [.nilFunc] := Ti
instance : Aq Tryz.prog 84 (.func #[9] #[3, 3] false) 1 8 [.nilFunc] := Ti
instance : Aq Tryz.prog 85 (.pointer 88) 1 8 [.pointer none] := Ti
instance : Aq Tryz.prog 86 (.func #[] #[65] false) 1 8 [.nilFunc] := Ti
instance : Aq Tryz.prog 87 (.struct (Ao Tryz.prog 87)) 3 40 [.slice none 0 0, .int .i64 0, .int .i64 0] := Ti
instance : Aq Tryz.prog 88 (.struct (Ao Tryz.prog 88)) 3 40 [.slice none 0 0, .int .i64 0, .int .i64 0] := Ti
instance : Aq Tryz.prog 89 (.func #[35, 65, 65] #[35] false) 1 8 [.nilFunc] := Ti
instance : Aq Tryz.prog 90 (.slice 121) 1 24 [.slice none 0 0] := Ti
instance : Aq Tryz.prog 91 (.func #[35, 92] #[35] false) 1 8 [.nilFunc] := Ti
instance : Aq Tryz.prog 92 (.pointer 90) 1 8 [.pointer none] := Ti
instance : Aq Tryz.prog 93 (.func #[90, 35] #[35] false) 1 8 [.nilFunc] := Ti
instance : Aq Tryz.prog 97 (.func #[9] #[3, 95] false) 1 8 [.nilFunc] := Ti
instance : Aq Tryz.prog 98 (.func #[5] #[95] false) 1 8 [.nilFunc] := Ti
instance : Aq Tryz.prog 99 (.pointer 5) 1 8 [.pointer none] := Ti
instance : Aq Tryz.prog 100 (.func #[33, 33, 101] #[4] false) 1 8 [.nilFunc] := Ti
instance : Aq Tryz.prog 101 (.func #[35, 35] #[4] false) 1 8 [.nilFunc] := Ti
instance : Aq Tryz.prog 102 (.slice 65) 1 24 [.slice none 0 0] := Ti
instance : Aq Tryz.prog 103 (.func #[65, 3] #[65] false) 1 8 [.nilFunc] := Ti
instance : Aq Tryz.prog 104 (.func #[31, 3] #[9] false) 1 8 [.nilFunc] := Ti
instance : Aq Tryz.prog 105 (.func #[31, 107, 9, 3] #[9] false) 1 8 [.nilFunc] := Ti
instance : Aq Tryz.prog 106 (.struct (Ao Tryz.prog 106)) 2 48 [.slice none 0 0, .slice none 0 0] := Ti
instance : Aq Tryz.prog 107 (.struct (Ao Tryz.prog 107)) 2 48 [.slice none 0 0, .slice none 0 0] := Ti
instance : Aq Tryz.prog 108 (.func #[41, 65] #[65] false) 1 8 [.nilFunc] := Ti
instance : Aq Tryz.prog 109 (.func #[41, 9, 41] #[41] false) 1 8 [.nilFunc] := Ti
instance : Aq Tryz.prog 110 (.pointer 112) 1 8 [.pointer none] := Ti
instance : Aq Tryz.prog 111 (.struct (Ao Tryz.prog 111)) 4 80 [.slice none 0 0, .int .i64 0, .slice none 0 0, .slice none 0 0] := Ti
instance : Aq Tryz.prog 112 (.struct (Ao Tryz.prog 112)) 4 80 [.slice none 0 0, .int .i64 0, .slice none 0 0, .slice none 0 0] := Ti
instance : Aq Tryz.prog 113 (.func #[110, 41] #[41] false) 1 8 [.nilFunc] := Ti
instance : Aq Tryz.prog 114 (.func #[5] #[4] false) 1 8 [.nilFunc] := Ti
instance : Aq Tryz.prog 115 (.func #[3, 3, 3] #[4] false) 1 8 [.nilFunc] := Ti
instance : Aq Tryz.prog 116 (.func #[65, 59] #[] false) 1 8 [.nilFunc] := Ti
instance : Aq Tryz.prog 117 (.func #[65, 9] #[4] false) 1 8 [.nilFunc] := Ti
instance : Aq Tryz.prog 118 (.func #[9] #[35] false) 1 8 [.nilFunc] := Ti
instance : Aq Tryz.prog 119 (.func #[33] #[33] false) 1 8 [.nilFunc] := Ti
instance : Aq Tryz.prog 120 (.struct (Ao Tryz.prog 120)) 3 56 [.string (str []), .string (str []), .slice none 0 0] := Ti
instance : Aq Tryz.prog 121 (.struct (Ao Tryz.prog 121)) 3 56 [.string (str []), .string (str []), .slice none 0 0] := Ti
instance : Aq Tryz.prog 122 (.func #[9, 33] #[35] true) 1 8 [.nilFunc] := Ti
instance : Aq Tryz.prog 123 (.func #[31, 107, 9] #[9] false) 1 8 [.nilFunc] := Ti
instance : Aq Tryz.prog 124 (.func #[107, 9, 9] #[107] false) 1 8 [.nilFunc] := Ti
instance : Aq Tryz.prog 125 (.pointer 128) 1 8 [.pointer none] := Ti
instance : Aq Tryz.prog 126 (.func #[41, 65, 65] #[65] false) 1 8 [.nilFunc] := Ti
instance : Aq Tryz.prog 127 (.struct (Ao Tryz.prog 127)) 2 32 [.slice none 0 0, .int .i64 0] := Ti
instance : Aq Tryz.prog 128 (.struct (Ao Tryz.prog 128)) 2 32 [.slice none 0 0, .int .i64 0] := Ti
instance : Aq Tryz.prog 129 (.func #[41, 65, 65, 125] #[41] false) 1 8 [.nilFunc] := Ti
instance : Aq Tryz.prog 130 (.func #[39] #[41] true) 1 8 [.nilFunc] := Ti
instance : Aq Tryz.prog 131 (.func #[9] #[41] false) 1 8 [.nilFunc] := Ti
instance : Aq Tryz.prog 132 (.func #[9, 9] #[9] false) 1 8 [.nilFunc] := Ti
instance : Aq Tryz.prog 133 (.func #[3] #[9] false) 1 8 [.nilFunc] := Ti
instance : Aq Tryz.prog 134 .unsafePointer 1 8 [.pointer none] := Ti
instance : Aq Tryz.prog 135 (.func #[134] #[134] false) 1 8 [.nilFunc] := Ti
instance : Aq Tryz.prog 136 (.func #[65, 65, 9] #[9] false) 1 8 [.nilFunc] := Ti
instance : Aq Tryz.prog 137 (.func #[65, 65] #[65] true) 1 8 [.nilFunc] := Ti
instance : Aq Tryz.prog 139 (.func #[9] #[9, 9, 4] false) 1 8 [.nilFunc] := Ti
instance : Aq Tryz.prog 140 (.func #[41, 3] #[65] false) 1 8 [.nilFunc] := Ti
instance : Aq Tryz.prog 141 (.func #[125] #[9] false) 1 8 [.nilFunc] := Ti
instance : Aq Tryz.prog 142 (.func #[9, 3] #[4] false) 1 8 [.nilFunc] := Ti
instance : Aq Tryz.prog 143 (.func #[9, 9] #[9, 9, 4] false) 1 8 [.nilFunc] := Ti
instance : Aq Tryz.prog 144 (.func #[110] #[9] false) 1 8 [.nilFunc] := Ti
instance : Aq Tryz.prog 145 (.func #[2, 3] #[9] false) 1 8 [.nilFunc] := Ti
instance : Aq Tryz.prog 146 (.array 24 5) 24 24 [.int .u8 0, .int .u8 0, .int .u8 0, .int .u8 0, .int .u8 0, .int .u8 0, .int .u8 0, .int .u8 0, .int .u8 0, .int .u8 0, .int .u8 0, .int .u8 0, .int .u8 0, .int .u8 0, .int .u8 0, .int .u8 0, .int .u8 0, .int .u8 0, .int .u8 0, .int .u8 0, .int .u8 0, .int .u8 0, .int .u8 0, .int .u8 0] := Ti
instance : Aq Tryz.prog 147 (.int .u64) 1 8 [.int .u64 0] := Ti
instance : Aq Tryz.prog 148 (.func #[147] #[3] false) 1 8 [.nilFunc] := Ti
instance : Aq Tryz.prog 149 (.func #[22, 147] #[] false) 1 8 [.nilFunc] := Ti
instance : Aq Tryz.prog 151 (.func #[22, 147, 3, 4, 4] #[22, 9] false) 1 8 [.nilFunc] := Ti
instance : Aq Tryz.prog 152 (.func #[4] #[3] false) 1 8 [.nilFunc] := Ti
instance : Aq Tryz.prog 153 (.array 20 147) 20 160 [.int .u64 0, .int .u64 0, .int .u64 0, .int .u64 0, .int .u64 0, .int .u64 0, .int .u64 0, .int .u64 0, .int .u64 0, .int .u64 0, .int .u64 0, .int .u64 0, .int .u64 0, .int .u64 0, .int .u64 0, .int .u64 0, .int .u64 0, .int .u64 0, .int .u64 0, .int .u64 0] := Ti
instance : Aq Tryz.prog 154 (.int .u32) 1 4 [.int .u32 0] := Ti
instance : Aq Tryz.prog 156 (.func #[3] #[4] false) 1 8 [.nilFunc] := Ti
instance : Aq Tryz.prog 157 (.int .u64) 1 8 [.int .u64 0] := Ti
instance : Aq Tryz.prog 158 (.func #[157] #[3] false) 1 8 [.nilFunc] := Ti
instance : Aq Tryz.prog 159 (.func #[154] #[3] false) 1 8 [.nilFunc] := Ti
instance : Aq Tryz.prog 160 (.array 32 5) 32 32 [.int .u8 0, .int .u8 0, .int .u8 0, .int .u8 0, .int .u8 0, .int .u8 0, .int .u8 0, .int .u8 0, .int .u8 0, .int .u8 0, .int .u8 0, .int .u8 0, .int .u8 0, .int .u8 0, .int .u8 0, .int .u8 0, .int .u8 0, .int .u8 0, .int .u8 0, .int .u8 0, .int .u8 0, .int .u8 0, .int .u8 0, .int .u8 0, .int .u8 0, .int .u8 0, .int .u8 0, .int .u8 0, .int .u8 0, .int .u8 0, .int .u8 0, .int .u8 0] := Ti
instance : Aq Tryz.prog 161 (.array 64 5) 64 64 [.int .u8 0, .int .u8 0, .int .u8 0, .int .u8 0, .int .u8 0, .int .u8 0, .int .u8 0, .int .u8 0, .int .u8 0, .int .u8 0, .int .u8 0, .int .u8 0, .int .u8 0, .int .u8 0, .int .u8 0, .int .u8 0, .int .u8 0, .int .u8 0, .int .u8 0, .int .u8 0, .int .u8 0, .int .u8 0, .int .u8 0, .int .u8 0, .int .u8 0, .int .u8 0, .int .u8 0, .int .u8 0, .int .u8 0, .int .u8 0, .int .u8 0, .int .u8 0, .int .u8 0, .int .u8 0, .int .u8 0, .int .u8 0, .int .u8 0, .int .u8 0, .int .u8 0, .int .u8 0, .int .u8 0, .int .u8 0, .int .u8 0, .int .u8 0, .int .u8 0, .int .u8 0, .int .u8 0, .int .u8 0, .int .u8 0, .int .u8 0, .int .u8 0, .int .u8 0, .int .u8 0, .int .u8 0, .int .u8 0, .int .u8 0, .int .u8 0, .int .u8 0, .int .u8 0, .int .u8 0, .int .u8 0, .int .u8 0, .int .u8 0, .int .u8 0] := Ti
instance : Aq Tryz.prog 162 (.struct (Ao Tryz.prog 162)) 4 40 [.pointer none, .pointer none, .pointer none, .string (str [])] := Ti
instance : Aq Tryz.prog 163 (.struct (Ao Tryz.prog 163)) 4 40 [.pointer none, .pointer none, .pointer none, .string (str [])] := Ti
instance : Aq Tryz.prog 164 (.array 0 16) 0 0 [] := Ti
instance : Aq Tryz.prog 165 (.struct (Ao Tryz.prog 165)) 0 0 [] := Ti
instance : Aq Tryz.prog 166 (.struct (Ao Tryz.prog 166)) 0 0 [] := Ti
instance : Aq Tryz.prog 167 (.int .u8) 1 1 [.int .u8 0] := Ti
instance : Aq Tryz.prog 168 (.int .u8) 1 1 [.int .u8 0] := Ti
instance : Aq Tryz.prog 169 (.func #[134, 134] #[4] false) 1 8 [.nilFunc] := Ti
instance : Aq Tryz.prog 170 (.int .i32) 1 4 [.int .i32 0] := Ti
instance : Aq Tryz.prog 171 (.int .i32) 1 4 [.int .i32 0] := Ti
instance : Aq Tryz.prog 172 (.struct (Ao Tryz.prog 172)) 11 48 [.int .u64 0, .int .u64 0, .int .u32 0, .int .u8 0, .int .u8 0, .int .u8 0, .int .u8 0, .nilFunc, .pointer none, .int .i32 0, .int .i32 0] := Ti
instance : Aq Tryz.prog 173 (.struct (Ao Tryz.prog 173)) 11 48 [.int .u64 0, .int .u64 0, .int .u32 0, .int .u8 0, .int .u8 0, .int .u8 0, .int .u8 0, .nilFunc, .pointer none, .int .i32 0, .int .i32 0] := Ti
instance : Cl Tryz.prog 7 [(0, 1), (1, 1), (2, 1), (3, 1)] := ⟨Ao Tryz.prog 7, by kernel_rfl, fun _ => by kernel_rfl⟩
instance : Az Tryz.prog 7 0 0 := Di rfl rfl (by decide) (by kernel_rfl)
instance : Az Tryz.prog 7 1 1 := Di rfl rfl (by decide) (by kernel_rfl)
instance : Az Tryz.prog 7 2 2 := Di rfl rfl (by decide) (by kernel_rfl)
instance : Az Tryz.prog 7 3 3 := Di rfl rfl (by decide) (by kernel_rfl)
instance : Cl Tryz.prog 8 [(0, 1), (1, 1), (2, 1), (3, 1)] := ⟨Ao Tryz.prog 8, by kernel_rfl, fun _ => by kernel_rfl⟩
instance : Az Tryz.prog 8 0 0 := Di rfl rfl (by decide) (by kernel_rfl)
instance : Az Tryz.prog 8 1 1 := Di rfl rfl (by decide) (by kernel_rfl)
instance : Az Tryz.prog 8 2 2 := Di rfl rfl (by decide) (by kernel_rfl)
instance : Az Tryz.prog 8 3 3 := Di rfl rfl (by decide) (by kernel_rfl)
instance : Cl Tryz.prog 13 [(0, 1), (1, 1)] := ⟨Ao Tryz.prog 13, by kernel_rfl, fun _ => by kernel_rfl⟩
instance : Az Tryz.prog 13 0 0 := Di rfl rfl (by decide) (by kernel_rfl)
instance : Az Tryz.prog 13 1 1 := Di rfl rfl (by decide) (by kernel_rfl)
instance : Cl Tryz.prog 14 [(0, 1), (1, 1)] := ⟨Ao Tryz.prog 14, by kernel_rfl, fun _ => by kernel_rfl⟩
instance : Az Tryz.prog 14 0 0 := Di rfl rfl (by decide) (by kernel_rfl)
instance : Az Tryz.prog 14 1 1 := Di rfl rfl (by decide) (by kernel_rfl)
instance : Cl Tryz.prog 18 [(0, 1)] := ⟨Ao Tryz.prog 18, by kernel_rfl, fun _ => by kernel_rfl⟩
instance : Az Tryz.prog 18 0 0 := Di rfl rfl (by decide) (by kernel_rfl)
instance : Cl Tryz.prog 19 [(0, 1)] := ⟨Ao Tryz.prog 19, by kernel_rfl, fun _ => by kernel_rfl⟩
instance : Az Tryz.prog 19 0 0 := Di rfl rfl (by decide) (by kernel_rfl)
instance : Cl Tryz.prog 34 [(0, 1), (1, 1)] := ⟨Ao Tryz.prog 34, by kernel_rfl, fun _ => by kernel_rfl⟩
instance : Az Tryz.prog 34 0 0 := Di rfl rfl (by decide) (by kernel_rfl)
instance : Az Tryz.prog 34 1 1 := Di rfl rfl (by decide) (by kernel_rfl)
instance : Cl Tryz.prog 35 [(0, 1), (1, 1)] := ⟨Ao Tryz.prog 35, by kernel_rfl, fun _ => by kernel_rfl⟩
instance : Az Tryz.prog 35 0 0 := Di rfl rfl (by decide) (by kernel_rfl)
instance : Az Tryz.prog 35 1 1 := Di rfl rfl (by decide) (by kernel_rfl)
instance : Cl Tryz.prog 40 [(0, 1), (1, 1)] := ⟨Ao Tryz.prog 40, by kernel_rfl, fun _ => by kernel_rfl⟩
instance : Az Tryz.prog 40 0 0 := Di rfl rfl (by decide) (by kernel_rfl)
instance : Az Tryz.prog 40 1 1 := Di rfl rfl (by decide) (by kernel_rfl)
instance : Cl Tryz.prog 41 [(0, 1), (1, 1)] := ⟨Ao Tryz.prog 41, by kernel_rfl, fun _ => by kernel_rfl⟩
instance : Az Tryz.prog 41 0 0 := Di rfl rfl (by decide) (by kernel_rfl)
instance : Az Tryz.prog 41 1 1 := Di rfl rfl (by decide) (by kernel_rfl)
instance : Cl Tryz.prog 50 [(0, 1), (1, 1)] := ⟨Ao Tryz.prog 50, by kernel_rfl, fun _ => by kernel_rfl⟩
instance : Az Tryz.prog 50 0 0 := Di rfl rfl (by decide) (by kernel_rfl)
instance : Az Tryz.prog 50 1 1 := Di rfl rfl (by decide) (by kernel_rfl)
instance : Cl Tryz.prog 51 [(0, 1), (1, 1)] := ⟨Ao Tryz.prog 51, by kernel_rfl, fun _ => by kernel_rfl⟩
instance : Az Tryz.prog 51 0 0 := Di rfl rfl (by decide) (by kernel_rfl)
instance : Az Tryz.prog 51 1 1 := Di rfl rfl (by decide) (by kernel_rfl)
instance : Cl Tryz.prog 56 [(0, 1), (1, 1), (2, 1)] := ⟨Ao Tryz.prog 56, by kernel_rfl, fun _ => by kernel_rfl⟩
instance : Az Tryz.prog 56 0 0 := Di rfl rfl (by decide) (by kernel_rfl)
instance : Az Tryz.prog 56 1 1 := Di rfl rfl (by decide) (by kernel_rfl)
instance : Az Tryz.prog 56 2 2 := Di rfl rfl (by decide) (by kernel_rfl)
instance : Cl Tryz.prog 57 [(0, 1), (1, 1), (2, 1)] := ⟨Ao Tryz.prog 57, by kernel_rfl, fun _ => by kernel_rfl⟩
instance : Az Tryz.prog 57 0 0 := Di rfl rfl (by decide) (by kernel_rfl)
instance : Az Tryz.prog 57 1 1 := Di rfl rfl (by decide) (by kernel_rfl)
instance : Az Tryz.prog 57 2 2 := Di rfl rfl (by decide) (by kernel_rfl)
instance : Cl Tryz.prog 62 [(0, 1), (1, 1)] := ⟨Ao Tryz.prog 62, by kernel_rfl, fun _ => by kernel_rfl⟩
instance : Az Tryz.prog 62 0 0 := Di rfl rfl (by decide) (by kernel_rfl)
instance : Az Tryz.prog 62 1 1 := Di rfl rfl (by decide) (by kernel_rfl)
instance : Cl Tryz.prog 63 [(0, 1), (1, 1)] := ⟨Ao Tryz.prog 63, by kernel_rfl, fun _ => by kernel_rfl⟩
instance : Az Tryz.prog 63 0 0 := Di rfl rfl (by decide) (by kernel_rfl)
instance : Az Tryz.prog 63 1 1 := Di rfl rfl (by decide) (by kernel_rfl)
instance : Cl Tryz.prog 87 [(0, 1), (1, 1), (2, 1)] := ⟨Ao Tryz.prog 87, by kernel_rfl, fun _ => by kernel_rfl⟩
instance : Az Tryz.prog 87 0 0 := Di rfl rfl (by decide) (by kernel_rfl)
instance : Az Tryz.prog 87 1 1 := Di rfl rfl (by decide) (by kernel_rfl)
instance : Az Tryz.prog 87 2 2 := Di rfl rfl (by decide) (by kernel_rfl)
instance : Cl Tryz.prog 88 [(0, 1), (1, 1), (2, 1)] := ⟨Ao Tryz.prog 88, by kernel_rfl, fun _ => by kernel_rfl⟩
instance : Az Tryz.prog 88 0 0 := Di rfl rfl (by decide) (by kernel_rfl)
instance : Az Tryz.prog 88 1 1 := Di rfl rfl (by decide) (by kernel_rfl)
instance : Az Tryz.prog 88 2 2 := Di rfl rfl (by decide) (by kernel_rfl)
instance : Cl Tryz.prog 106 [(0, 1), (1, 1)] := ⟨Ao Tryz.prog 106, by kernel_rfl, fun _ => by kernel_rfl⟩
instance : Az Tryz.prog 106 0 0 := Di rfl rfl (by decide) (by kernel_rfl)
instance : Az Tryz.prog 106 1 1 := Di rfl rfl (by decide) (by kernel_rfl)
instance : Cl Tryz.prog 107 [(0, 1), (1, 1)] := ⟨Ao Tryz.prog 107, by kernel_rfl, fun _ => by kernel_rfl⟩
instance : Az Tryz.prog 107 0 0 := Di rfl rfl (by decide) (by kernel_rfl)
instance : Az Tryz.prog 107 1 1 := Di rfl rfl (by decide) (by kernel_rfl)
instance : Cl Tryz.prog 111 [(0, 1), (1, 1), (2, 1), (3, 1)] := ⟨Ao Tryz.prog 111, by kernel_rfl, fun _ => by kernel_rfl⟩
instance : Az Tryz.prog 111 0 0 := Di rfl rfl (by decide) (by kernel_rfl)
instance : Az Tryz.prog 111 1 1 := Di rfl rfl (by decide) (by kernel_rfl)
instance : Az Tryz.prog 111 2 2 := Di rfl rfl (by decide) (by kernel_rfl)
instance : Az Tryz.prog 111 3 3 := Di rfl rfl (by decide) (by kernel_rfl)
instance : Cl Tryz.prog 112 [(0, 1), (1, 1), (2, 1), (3, 1)] := ⟨Ao Tryz.prog 112, by kernel_rfl, fun _ => by kernel_rfl⟩
instance : Az Tryz.prog 112 0 0 := Di rfl rfl (by decide) (by kernel_rfl)
instance : Az Tryz.prog 112 1 1 := Di rfl rfl (by decide) (by kernel_rfl)
instance : Az Tryz.prog 112 2 2 := Di rfl rfl (by decide) (by kernel_rfl)
instance : Az Tryz.prog 112 3 3 := Di rfl rfl (by decide) (by kernel_rfl)
instance : Cl Tryz.prog 120 [(0, 1), (1, 2)] := ⟨Ao Tryz.prog 120, by kernel_rfl, fun _ => by kernel_rfl⟩
instance : Az Tryz.prog 120 0 0 := Di rfl rfl (by decide) (by kernel_rfl)
instance : Az Tryz.prog 120 1 1 := Di rfl rfl (by decide) (by kernel_rfl)
instance : Cl Tryz.prog 121 [(0, 1), (1, 2)] := ⟨Ao Tryz.prog 121, by kernel_rfl, fun _ => by kernel_rfl⟩
instance : Az Tryz.prog 121 0 0 := Di rfl rfl (by decide) (by kernel_rfl)
instance : Az Tryz.prog 121 1 1 := Di rfl rfl (by decide) (by kernel_rfl)
instance : Cl Tryz.prog 127 [(0, 1), (1, 1)] := ⟨Ao Tryz.prog 127, by kernel_rfl, fun _ => by kernel_rfl⟩
instance : Az Tryz.prog 127 0 0 := Di rfl rfl (by decide) (by kernel_rfl)
instance : Az Tryz.prog 127 1 1 := Di rfl rfl (by decide) (by kernel_rfl)
instance : Cl Tryz.prog 128 [(0, 1), (1, 1)] := ⟨Ao Tryz.prog 128, by kernel_rfl, fun _ => by kernel_rfl⟩
instance : Az Tryz.prog 128 0 0 := Di rfl rfl (by decide) (by kernel_rfl)
instance : Az Tryz.prog 128 1 1 := Di rfl rfl (by decide) (by kernel_rfl)
instance : Cl Tryz.prog 162 [(0, 1), (1, 1), (2, 1), (3, 1)] := ⟨Ao Tryz.prog 162, by kernel_rfl, fun _ => by kernel_rfl⟩
instance : Az Tryz.prog 162 0 0 := Di rfl rfl (by decide) (by kernel_rfl)
instance : Az Tryz.prog 162 1 1 := Di rfl rfl (by decide) (by kernel_rfl)
instance : Az Tryz.prog 162 2 2 := Di rfl rfl (by decide) (by kernel_rfl)
instance : Az Tryz.prog 162 3 3 := Di rfl rfl (by decide) (by kernel_rfl)
instance : Cl Tryz.prog 163 [(0, 1), (1, 1), (2, 1), (3, 1)] := ⟨Ao Tryz.prog 163, by kernel_rfl, fun _ => by kernel_rfl⟩
instance : Az Tryz.prog 163 0 0 := Di rfl rfl (by decide) (by kernel_rfl)
instance : Az Tryz.prog 163 1 1 := Di rfl rfl (by decide) (by kernel_rfl)
instance : Az Tryz.prog 163 2 2 := Di rfl rfl (by decide) (by kernel_rfl)
instance : Az Tryz.prog 163 3 3 := Di rfl rfl (by decide) (by kernel_rfl)
instance : Cl Tryz.prog 165 [(0, 0)] := ⟨Ao Tryz.prog 165, by kernel_rfl, fun _ => by kernel_rfl⟩
instance : Cl Tryz.prog 166 [(0, 0)] := ⟨Ao Tryz.prog 166, by kernel_rfl, fun _ => by kernel_rfl⟩
instance : Cl Tryz.prog 172 [(0, 1), (1, 1), (2, 1), (3, 1), (4, 1), (5, 1), (6, 1), (7, 1), (8, 1), (9, 1), (10, 1)] := ⟨Ao Tryz.prog 172, by kernel_rfl, fun _ => by kernel_rfl⟩
instance : Az Tryz.prog 172 0 0 := Di rfl rfl (by decide) (by kernel_rfl)
instance : Az Tryz.prog 172 1 1 := Di rfl rfl (by decide) (by kernel_rfl)
instance : Az Tryz.prog 172 2 2 := Di rfl rfl (by decide) (by kernel_rfl)
instance : Az Tryz.prog 172 3 3 := Di rfl rfl (by decide) (by kernel_rfl)
instance : Az Tryz.prog 172 4 4 := Di rfl rfl (by decide) (by kernel_rfl)
instance : Az Tryz.prog 172 5 5 := Di rfl rfl (by decide) (by kernel_rfl)
instance : Az Tryz.prog 172 6 6 := Di rfl rfl (by decide) (by kernel_rfl)
instance : Az Tryz.prog 172 7 7 := Di rfl rfl (by decide) (by kernel_rfl)
instance : Az Tryz.prog 172 8 8 := Di rfl rfl (by decide) (by kernel_rfl)
instance : Az Tryz.prog 172 9 9 := Di rfl rfl (by decide) (by kernel_rfl)
instance : Az Tryz.prog 172 10 10 := Di rfl rfl (by decide) (by kernel_rfl)
instance : Cl Tryz.prog 173 [(0, 1), (1, 1), (2, 1), (3, 1), (4, 1), (5, 1), (6, 1), (7, 1), (8, 1), (9, 1), (10, 1)] := ⟨Ao Tryz.prog 173, by kernel_rfl, fun _ => by kernel_rfl⟩
instance : Az Tryz.prog 173 0 0 := Di rfl rfl (by decide) (by kernel_rfl)
instance : Az Tryz.prog 173 1 1 := Di rfl rfl (by decide) (by kernel_rfl)
instance : Az Tryz.prog 173 2 2 := Di rfl rfl (by decide) (by kernel_rfl)
instance : Az Tryz.prog 173 3 3 := Di rfl rfl (by decide) (by kernel_rfl)
instance : Az Tryz.prog 173 4 4 := Di rfl rfl (by decide) (by kernel_rfl)
instance : Az Tryz.prog 173 5 5 := Di rfl rfl (by decide) (by kernel_rfl)
instance : Az Tryz.prog 173 6 6 := Di rfl rfl (by decide) (by kernel_rfl)
instance : Az Tryz.prog 173 7 7 := Di rfl rfl (by decide) (by kernel_rfl)
instance : Az Tryz.prog 173 8 8 := Di rfl rfl (by decide) (by kernel_rfl)
instance : Az Tryz.prog 173 9 9 := Di rfl rfl (by decide) (by kernel_rfl)
instance : Az Tryz.prog 173 10 10 := Di rfl rfl (by decide) (by kernel_rfl)
end Go.Proofs.YtbohngcdgmjfaaaGreatDoor
