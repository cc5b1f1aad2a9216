/- The rules of single operations: numbers, strings, variables in memory, slices, calls. No conditions. -/
import Derived.Test.YtmfagaajiakgoaaGreatDoorG1
import Derived.Laws.Strings
import Derived.Test.YtmfagaajiakgoaaGreatDoorRows

namespace Go.Proofs.YtmfagaajiakgoaaGreatDoor
set_option linter.unusedVariables false
set_option linter.unusedSimpArgs false

@[reducible] def str (l : List UInt8) : ByteArray := ⟨l.toArray⟩

class At (P : Program) (T : TypeId) (d : outParam TypeDesc) (size bytes : outParam Nat) (zero : outParam (List Value)) : Prop where
 und : P.underlying T = some d
 info : ∃ i z, P.info? T = some i ∧ i.size = size ∧ i.bytes = bytes ∧ i.zero = some z ∧ z.cells.toList = zero

class Aq (P : Program) (S : TypeId) (i : Nat) (off : outParam Nat) : Prop where
 get : ∃ fs fld inf, P.underlying S = some (.struct fs) ∧ fs[i]? = some fld ∧ P.info? fld.type = some inf ∧ inf.size ≠ 0 ∧ fld.offset = off

section
variable {P : Program}
theorem Bc {T : TypeId} {d : TypeDesc} (h : P.underlying T = some d) (w : World) : (underlying T).run P w = .ok d w := by
 simp only [underlying, program]; show (match P.underlying T with | some d => pure d | none => stuck "no such type" : Sem TypeDesc).run P w = _; rw [h]; rfl
theorem Hk {T : TypeId} {i : TypeInfo} (h : P.info? T = some i) (w : World) : (typeInfo T).run P w = .ok i w := by
 simp only [typeInfo, program]; show (match P.info? T with | some d => pure d | none => stuck "no such type" : Sem TypeInfo).run P w = _; rw [h]; rfl
theorem Fm {T : TypeId} {d : TypeDesc} {s b : Nat} {z : List Value} (h : At P T d s b z) (w : World) : (sizeOf T).run P w = .ok s w := by
 obtain ⟨i, z, hi, hs, _⟩ := h.info
 unfold sizeOf
 rw [Ac (Hk hi w), ← hs]; rfl
theorem Jh {T : TypeId} {d : TypeDesc} {s b : Nat} {z : List Value} (h : At P T d s b z) (w : World) : ∃ i, (typeInfo T).run P w = .ok i w ∧ i.bytes = b := by
 obtain ⟨i, z, hi, hs, hb, _⟩ := h.info
 exact ⟨i, Hk hi w, hb⟩
theorem H9 {T : TypeId} {d : TypeDesc} {s b : Nat} {z : List Value} (h : At P T d s b z) (w : World) : ∃ v, (zeroValue T).run P w = .ok v w ∧ v.cells.toList = z := by
 obtain ⟨i, v, hi, _, _, hz, hv⟩ := h.info; refine ⟨v, ?_, hv⟩
 unfold zeroValue
 rw [Ac (Hk hi w), hz]; rfl

def Ml : TypeDesc → Bool
 | .struct _ | .array _ _ => false
 | _ => true
theorem Tn {T : TypeId} {d : TypeDesc} (h : P.underlying T = some d) (hs : Ml d = true) (w : World) : (isAgg T).run P w = .ok false w := by
 unfold isAgg
 rw [Ac (Bc h w)]
 cases d <;> first | rfl | simp [Ml] at hs
theorem N3 {T : TypeId} {fs : Array Field} (h : P.underlying T = some (.struct fs)) (w : World) : (isAgg T).run P w = .ok true w := by
 unfold isAgg; rw [Ac (Bc h w)]; rfl
def Gd (I : Heap) (L : Bl) (a : Addr) (vs : List Value) : Prop := ∀ w, Mem I L w → ∀ i (h : i < vs.length), w.cell? (a.add i) = some vs[i]

theorem L8 {w : World} {a : Addr} {v : Value} (h : w.cell? a = some v) : (load a).run P w = .ok v w := by
 simp [load, Sem.run, h]

theorem M7 {w : World} {a : Addr} : ∀ (vs : List Value) (i : Nat) (acc : Array Value), (∀ j (h : j < vs.length), w.cell? (a.add (i + j)) = some vs[j]) →
  (loadCellsFrom a i vs.length acc).run P w = .ok (acc ++ vs.toArray) w := by
 intro vs
 induction vs with
 | nil => intro i acc h; simp [loadCellsFrom, F6]
 | cons v vs ih =>
  intro i acc h
  simp only [List.length_cons, loadCellsFrom]
  rw [Ac (L8 (show w.cell? (a.add i) = some v from h 0 (by simp)))]
  rw [ih (i + 1) (acc.push v) (fun j hj => by
   have := h (j + 1) (by simp; omega)
   rw [show i + 1 + j = i + (j + 1) by omega]; simpa using this)]
  simp
theorem Jo {w : World} {a : Addr} (vs : List Value) (h : ∀ j (h : j < vs.length), w.cell? (a.add j) = some vs[j]) :
  (loadCells a vs.length).run P w = .ok vs.toArray w := by
 unfold loadCells
 rw [M7 vs 0 #[] (by simpa using h)]; simp

theorem E2 {I : Heap} {L : Bl} {T : TypeId} {a : Addr} {v : Value} {d : TypeDesc} {s b : Nat} {z : List Value} [ht : At P T d s b z] (hd : Ml d = true)
  (h : Gd I L a [v]) : Ft P I L T a v := by
 intro w hm
 unfold loadVar
 rw [Ac (Tn ht.und hd w)]
 have := h w hm 0 (by simp)
 exact L8 (by simpa [Addr.add] using this)
theorem Kj {I : Heap} {L : Bl} {T : TypeId} {a : Addr} {vs : List Value} {fs : Array Field} {s b : Nat} {z : List Value} [ht : At P T (.struct fs) s b z]
  (hl : vs.length = s) (h : Gd I L a vs) : Ft P I L T a (.agg vs.toArray) := by
 intro w hm
 unfold loadVar
 rw [Ac (N3 ht.und w)]
 show (do pure (.agg (← loadCells a (← sizeOf T))) : Sem Value).run P w = _
 rw [Ac (Fm ht w), ← hl, Ac (Jo vs (h w hm))]; rfl
/- A stretch of a list of cells, forced. -/
def Ql : Nat → List Value → Option (List Value)
 | 0, _ => some []
 | k + 1, v :: cs => match Ql k cs with
  | some vs => some (v :: vs)
  | none => none
 | _ + 1, [] => none
def Mo : Nat → Nat → List Value → Option (List Value)
 | 0, k, cs => Ql k cs
 | o + 1, k, _ :: cs => Mo o k cs
 | _ + 1, _, [] => none
theorem Ze : ∀ {k : Nat} {cs vs : List Value}, Ql k cs = some vs → vs.length = k ∧ ∀ i, i < k → cs[i]? = vs[i]? := by
 intro k
 induction k with
 | zero => intro cs vs h; simp [Ql] at h; subst h; simp
 | succ k ih =>
  intro cs vs h
  cases cs with
  | nil => simp [Ql] at h
  | cons c cs =>
   simp only [Ql] at h
   cases ht : Ql k cs with
   | none => simp [ht] at h
   | some us =>
    simp [ht] at h
    subst h; obtain ⟨h1, h2⟩ := ih ht; refine ⟨by simp [h1], fun i hi => ?_⟩
    cases i with
    | zero => rfl
    | succ i => simpa using h2 i (by omega)
theorem Mp : ∀ {o k : Nat} {cs vs : List Value}, Mo o k cs = some vs → vs.length = k ∧ ∀ i, i < k → cs[o + i]? = vs[i]? := by
 intro o
 induction o with
 | zero => intro k cs vs h; simpa [Mo] using Ze (by simpa [Mo] using h)
 | succ o ih =>
  intro k cs vs h
  cases cs with
  | nil => simp [Mo] at h
  | cons c cs =>
   obtain ⟨h1, h2⟩ := ih (by simpa [Mo] using h)
   exact ⟨h1, fun i hi => by rw [show o + 1 + i = o + i + 1 by omega]; simpa using h2 i hi⟩

theorem Lo {w : World} {b off i : Nat} {c : Array Value} {T : TypeId} {fr : Nat × Nat} (h : w.heap[b]? = some (.cells c T fr)) :
  w.cell? (Addr.add ⟨b, off, none⟩ i) = c[off + i]? := by
 unfold Addr.add
 by_cases e : i = 0
 ·subst e; simp [World.cell?, h]
 ·simp [e, World.cell?, h]

theorem N1 {I : Heap} {L : Bl} {b off k : Nat} {cs vs : List Value} {T : TypeId} {fr : Nat × Nat} (hm : (b, Obj.cells cs.toArray T fr) ∈ L) (hc : Mo off k cs = some vs) :
  Gd I L ⟨b, off, none⟩ vs := by
 intro w hw i hi; rw [Lo (hw.2.1 _ hm).1]; obtain ⟨h1, h2⟩ := Mp hc
 have := h2 i (by omega)
 simpa [hi] using this

theorem Br {I : Heap} {L : Bl} {b off : Nat} {cs vs : List Value} {T : TypeId} {fr : Nat × Nat} (hm : (b, Obj.cells cs.toArray T fr) ∈ L) (hc : Mo off vs.length cs = some vs) : Gd I L ⟨b, off, none⟩ vs := N1 hm hc

def Still (I : Heap) (a : Addr) (vs : List Value) : Prop :=
 vs = [] ∨ ∃ c T fr, I a.block = some (.cells c T fr) ∧ a.spot = none ∧ ∀ i (h : i < vs.length), c[a.off + i]? = some vs[i]
theorem Still.mono {I I' : Heap} (hle : HLe I I') {a : Addr} {vs : List Value} (h : Still I a vs) : Still I' a vs := by
 rcases h with h | ⟨c, T, fr, hb, hs, hc⟩
 ·exact .inl h
 ·exact .inr ⟨c, T, fr, hle.le _ _ hb, hs, hc⟩
theorem Still.reads {I : Heap} {L : Bl} {a : Addr} {vs : List Value} (h : Still I a vs) : Gd I L a vs := by
 intro w hw i hi
 rcases h with h | ⟨c, T, fr, hb, hs, hc⟩
 ·subst h; simp at hi
 ·obtain ⟨b, off, sp⟩ := a
  simp at hs
  subst hs; rw [Lo (hw.1.1 _ _ hb)]
  exact hc i hi
theorem Still.part {I : Heap} {a : Addr} {vs us : List Value} (h : Still I a vs) (off : Nat) (hu : ∀ i (hi : i < us.length), vs[off + i]? = some us[i]) : Still I (a.add off) us := by
 rcases Nat.eq_zero_or_pos us.length with e | e
 ·exact .inl (List.length_eq_zero_iff.1 e)
 ·rcases h with h | ⟨c, T, fr, hb, hs, hc⟩
  ·subst h; have := hu 0 e; simp at this
  ·refine .inr ⟨c, T, fr, ?_, ?_, ?_⟩
   ·unfold Addr.add; split <;> exact hb
   ·unfold Addr.add; split <;> first | exact hs | rfl
   ·intro i hi
    have h1 := hu i hi
    have h2 : off + i < vs.length := by
     rcases Nat.lt_or_ge (off + i) vs.length with g | g
     ·exact g
     ·simp [List.getElem?_eq_none g] at h1
    have h3 := hc (off + i) h2
    have h4 : vs[off + i] = us[i] := by simpa [h2] using h1
    rw [h4] at h3
    have : (a.add off).off + i = a.off + (off + i) := by
     unfold Addr.add; split
     ·subst_vars; omega
     ·simp; omega
    rw [this]; exact h3

theorem Still.cut {I : Heap} {a : Addr} {vs us : List Value} {o k : Nat} (h : Still I a vs) (hc : Mo o k vs = some us) : Still I (a.add o) us := by
 obtain ⟨h1, h2⟩ := Mp hc
 exact h.part o fun i hi => by rw [h2 i (by omega)]; simp [hi]

theorem Fq {I : Heap} {L : Bl} {T : TypeId} {b off : Nat} {v : Value} {cs : List Value} {U : TypeId} {fr : Nat × Nat} {d : TypeDesc} {s bb : Nat} {z : List Value} [ht : At P T d s bb z]
  (hm : (b, Obj.cells cs.toArray U fr) ∈ L) (hc : Mo off 1 cs = some [v]) (hd : Ml d = true) : Ft P I L T ⟨b, off, none⟩ v := E2 hd (N1 hm hc)
theorem G3 {I : Heap} {L : Bl} {T : TypeId} {b off : Nat} {vs : List Value} {cs : List Value} {U : TypeId} {fr : Nat × Nat} {fs : Array Field} {s bb : Nat} {z : List Value} [ht : At P T (.struct fs) s bb z]
  (hm : (b, Obj.cells cs.toArray U fr) ∈ L) (hc : Mo off s cs = some vs) : Ft P I L T ⟨b, off, none⟩ (.agg vs.toArray) := Kj (Mp hc).1 (N1 hm hc)
theorem Bf {I : Heap} {L : Bl} {T : TypeId} {a : Addr} {v : Value} {d : TypeDesc} {s bb : Nat} {z : List Value} [ht : At P T d s bb z] (h : Still I a [v]) (hd : Ml d = true) : Ft P I L T a v := E2 hd h.reads
theorem Ea {I : Heap} {L : Bl} {T : TypeId} {a : Addr} {vs : List Value} {fs : Array Field} {s bb : Nat} {z : List Value} [ht : At P T (.struct fs) s bb z] (h : Still I a vs) (hl : vs.length = s) : Ft P I L T a (.agg vs.toArray) := Kj hl h.reads
theorem Bp {I : Heap} {L : Bl} {T : TypeId} {a : Addr} {v : Value} {vs : List Value} {o : Nat} {d : TypeDesc} {s bb : Nat} {z : List Value} [ht : At P T d s bb z] (h : Still I a vs) (hc : Mo o 1 vs = some [v]) (hd : Ml d = true) :
  Ft P I L T (a.add o) v := E2 hd (h.cut hc).reads

/- Values by their cells. -/
def Fn : Value → Option (List Value)
 | .agg c => some c.toList
 | .tuple _ => none
 | v => some [v]
theorem Ic {v : Value} {vs : List Value} (h : Fn v = some vs) : v.cells = vs.toArray := by
 cases v <;> simp [Fn] at h <;> subst h <;> rfl

def Cx : Value → Bool
 | .agg _ | .tuple _ => false
 | _ => true
end

section rules
variable {P : Program} {f : FuncId} {n : Nat} {I₀ : Heap} {Q : C1} {k : List Item} {E : G7} {I : Heap} {L : Bl}
variable {ops : Array Oper} {d : Nat} {ty : TypeId} {pos : String} {af : Array Edge} {g : Option (Nat × Bool)} {l : List Oper}

theorem Dg {S : World → Prop} {c x y : Operand} {v : Value} (hc : Ba E c = some (.bool true)) (hx : Ba E x = some v) : Gz P E S ⟨some d, .pick c x y, ty, pos, af, g⟩ (v) := fun a w he _ => by simp [execOp, he.eval hc, he.eval hx, asBool]
theorem Fp {c x y : Operand} {v : Value} (hc : Ba E c = some (.bool true)) (hx : Ba E x = some v) (hg : Wants ops E g) (hdn : Nat.blt d n = true)
  (h : A7 P f n I₀ Q ops l k ((d, v) :: E) I L) : A7 P f n I₀ Q ops (⟨some d, .pick c x y, ty, pos, af, g⟩ :: l) k E I L := D4 (Dg hc hx) hg hdn h
theorem C7 {S : World → Prop} {c x y : Operand} {v : Value} (hc : Ba E c = some (.bool false)) (hy : Ba E y = some v) : Gz P E S ⟨some d, .pick c x y, ty, pos, af, g⟩ (v) := fun a w he _ => by simp [execOp, he.eval hc, he.eval hy, asBool]
theorem E4 {c x y : Operand} {v : Value} (hc : Ba E c = some (.bool false)) (hy : Ba E y = some v) (hg : Wants ops E g) (hdn : Nat.blt d n = true)
  (h : A7 P f n I₀ Q ops l k ((d, v) :: E) I L) : A7 P f n I₀ Q ops (⟨some d, .pick c x y, ty, pos, af, g⟩ :: l) k E I L := D4 (C7 hc hy) hg hdn h

theorem Lk {S : World → Prop} {x : Operand} {b : Bool} {T : TypeId} (hx : Ba E x = some (.bool b)) : Gz P E S ⟨some d, .unOp .not T x, ty, pos, af, g⟩ (.bool (!b)) := fun a w he _ => by simp [execOp, he.eval hx, Op.unary]
theorem Ck {x : Operand} {b : Bool} {T : TypeId} (hx : Ba E x = some (.bool b)) (hg : Wants ops E g) (hdn : Nat.blt d n = true)
  (h : A7 P f n I₀ Q ops l k ((d, .bool (!b)) :: E) I L) : A7 P f n I₀ Q ops (⟨some d, .unOp .not T x, ty, pos, af, g⟩ :: l) k E I L := D4 (Lk hx) hg hdn h
theorem Ad5 {S : World → Prop} {x : Operand} {m : Int} {T : TypeId} (hx : Ba E x = some (.int .i64 m)) (hr : -9223372036854775807 ≤ m ∧ m ≤ 9223372036854775807) : Gz P E S ⟨some d, .unOp .neg T x, ty, pos, af, g⟩ (.int .i64 (-m)) := fun a w he _ => by
  have e : IntKind.i64.wrap (0 - m) = -m := by simp [IntKind.wrap, IntKind.bits, IntKind.signed]; omega
  simp [execOp, he.eval hx, Op.unary, Op.intArith] at e ⊢
  exact e
theorem Ad1 {x : Operand} {m : Int} {T : TypeId} (hx : Ba E x = some (.int .i64 m)) (hr : -9223372036854775807 ≤ m ∧ m ≤ 9223372036854775807) (hg : Wants ops E g) (hdn : Nat.blt d n = true)
  (h : A7 P f n I₀ Q ops l k ((d, .int .i64 (-m)) :: E) I L) : A7 P f n I₀ Q ops (⟨some d, .unOp .neg T x, ty, pos, af, g⟩ :: l) k E I L := D4 (Ad5 hx hr) hg hdn h

theorem Bh {S : World → Prop} {x : Operand} {vs : List Value} {i : Nat} {v : Value} (hx : Ba E x = some (.tuple vs.toArray)) (hi : vs[i]? = some v) : Gz P E S ⟨some d, .extract x i, ty, pos, af, g⟩ (v) := fun a w he _ => by simp [execOp, he.eval hx, Instr.extract, hi]
theorem Y3 {x : Operand} {vs : List Value} {i : Nat} {v : Value} (hx : Ba E x = some (.tuple vs.toArray)) (hi : vs[i]? = some v) (hg : Wants ops E g) (hdn : Nat.blt d n = true)
  (h : A7 P f n I₀ Q ops l k ((d, v) :: E) I L) : A7 P f n I₀ Q ops (⟨some d, .extract x i, ty, pos, af, g⟩ :: l) k E I L := D4 (Bh hx hi) hg hdn h

def Pp : BinOp → Int → Int → Option Bool
 | .eql, a, b => some (decide (a = b))
 | .neq, a, b => some (!decide (a = b))
 | .lss, a, b => some (decide (a < b))
 | .leq, a, b => some (decide (a ≤ b))
 | .gtr, a, b => some (decide (b < a))
 | .geq, a, b => some (decide (b ≤ a))
 | _, _, _ => none
theorem Wx {op : BinOp} {T : TypeId} {kk : IntKind} {a b : Int} {r : Bool} (h : Pp op a b = some r) (w : World) : (binOp op T (.int kk a) (.int kk b)).run P w = .ok (.bool r) w := by
 cases op <;> simp only [Pp, Option.some.injEq, reduceCtorEq] at h <;> subst h <;> simp [binOp, Op.intCmp, bne, decide_not] <;> rfl
theorem Fa {op : BinOp} {T : TypeId} {x y : Operand} {kk kk' : IntKind} {a b : Int} (w : World) : (eqGuard op T x y (.int kk a) (.int kk' b)).run P w = .ok () w := by
 unfold eqGuard; split <;> rfl
theorem Ja {op : BinOp} {T : TypeId} {x y : Operand} {a b : ByteArray} (w : World) : (eqGuard op T x y (.string a) (.string b)).run P w = .ok () w := by
 unfold eqGuard; split <;> rfl

theorem O6 {S : World → Prop} {op : BinOp} {T T' : TypeId} {x y : Operand} {kk : IntKind} {a b : Int} {r : Bool} (hx : Ba E x = some (.int kk a)) (hy : Ba E y = some (.int kk b)) (hr : Pp op a b = some r)
  : Gz P E S ⟨some d, .binOp op T x y T', ty, pos, af, g⟩ (.bool r) := fun a w he _ => by
  simp only [execOp, he.eval hx, he.eval hy]
  refine Ac (a := _) (w' := w) ?_ |>.trans rfl
  rw [Ac (Fa w)]
  exact Wx hr w
theorem Dr {op : BinOp} {T T' : TypeId} {x y : Operand} {kk : IntKind} {a b : Int} {r : Bool} (hx : Ba E x = some (.int kk a)) (hy : Ba E y = some (.int kk b)) (hr : Pp op a b = some r)
  (hg : Wants ops E g) (hdn : Nat.blt d n = true)
  (h : A7 P f n I₀ Q ops l k ((d, .bool r) :: E) I L) : A7 P f n I₀ Q ops (⟨some d, .binOp op T x y T', ty, pos, af, g⟩ :: l) k E I L := D4 (O6 hx hy hr) hg hdn h

def Xe : BinOp → Int → Int → Option Int
 | .add, a, b => some (a + b)
 | .sub, a, b => some (a - b)
 | .mul, a, b => some (a * b)
 | _, _, _ => none
theorem Nd {m : Int} (h : -9223372036854775808 ≤ m ∧ m ≤ 9223372036854775807) : IntKind.i64.wrap m = m := by
 simp [IntKind.wrap, IntKind.bits, IntKind.signed]; omega
theorem Hl {S : World → Prop} {op : BinOp} {T T' : TypeId} {x y : Operand} {a b m : Int} (hx : Ba E x = some (.int .i64 a)) (hy : Ba E y = some (.int .i64 b)) (hr : Xe op a b = some m)
  (hb : -9223372036854775808 ≤ m ∧ m ≤ 9223372036854775807) : Gz P E S ⟨some d, .binOp op T x y T', ty, pos, af, g⟩ (.int .i64 m) := fun a' w he _ => by
  simp only [execOp, he.eval hx, he.eval hy]
  refine Ac (a := _) (w' := w) ?_ |>.trans rfl
  rw [Ac (Fa w)]
  have := Nd hb
  cases op <;> simp [Xe] at hr <;> subst hr <;> simp [binOp, Op.intArith] <;> (simp only [this])
theorem Jg {op : BinOp} {T T' : TypeId} {x y : Operand} {a b m : Int} (hx : Ba E x = some (.int .i64 a)) (hy : Ba E y = some (.int .i64 b)) (hr : Xe op a b = some m)
  (hb : -9223372036854775808 ≤ m ∧ m ≤ 9223372036854775807) (hg : Wants ops E g) (hdn : Nat.blt d n = true)
  (h : A7 P f n I₀ Q ops l k ((d, .int .i64 m) :: E) I L) : A7 P f n I₀ Q ops (⟨some d, .binOp op T x y T', ty, pos, af, g⟩ :: l) k E I L := D4 (Hl hx hy hr hb) hg hdn h

theorem W0 (l : List UInt8) : (str l).toList = l := ByteArray.toList_mk l
def Sh : BinOp → List UInt8 → List UInt8 → Option Bool
 | .eql, a, b => some (decide (a = b))
 | .neq, a, b => some (!decide (a = b))
 | _, _, _ => none
theorem W8 {S : World → Prop} {op : BinOp} {T T' : TypeId} {x y : Operand} {a b : List UInt8} {r : Bool} (hx : Ba E x = some (.string (str a))) (hy : Ba E y = some (.string (str b))) (hr : Sh op a b = some r)
  : Gz P E S ⟨some d, .binOp op T x y T', ty, pos, af, g⟩ (.bool r) := fun a' w he _ => by
  simp only [execOp, he.eval hx, he.eval hy]
  refine Ac (a := _) (w' := w) ?_ |>.trans rfl
  rw [Ac (Ja w)]
  cases op <;> simp only [Sh, Option.some.injEq, reduceCtorEq] at hr <;> subst hr <;> simp [binOp, Op.stringOp, W0, Bool.beq_eq_decide_eq] <;> rfl
theorem Hw {op : BinOp} {T T' : TypeId} {x y : Operand} {a b : List UInt8} {r : Bool} (hx : Ba E x = some (.string (str a))) (hy : Ba E y = some (.string (str b))) (hr : Sh op a b = some r)
  (hg : Wants ops E g) (hdn : Nat.blt d n = true)
  (h : A7 P f n I₀ Q ops l k ((d, .bool r) :: E) I L) : A7 P f n I₀ Q ops (⟨some d, .binOp op T x y T', ty, pos, af, g⟩ :: l) k E I L := D4 (W8 hx hy hr) hg hdn h
theorem Vw {S : World → Prop} {T T' : TypeId} {x y : Operand} {a b : List UInt8} (hx : Ba E x = some (.string (str a))) (hy : Ba E y = some (.string (str b)))
  (hb : a.length + b.length ≤ 9223372036854775807)
  : Gz P E S ⟨some d, .binOp .add T x y T', ty, pos, af, g⟩ (.string (str (a ++ b))) := fun a' w he _ => by
  simp only [execOp, he.eval hx, he.eval hy]
  refine Ac (a := _) (w' := w) ?_ |>.trans rfl
  rw [Ac (Ja w)]
  have h1 : (str a).size = a.length := by simp [str, ByteArray.size]
  have h2 : (str b).size = b.length := by simp [str, ByteArray.size]
  have h3 : str a ++ str b = str (a ++ b) := by
   apply ByteArray.ext; simp [str]
  have h4 : ¬ ((((str a).size + (str b).size : Nat) : Int) > IntKind.i64.max) := by rw [h1, h2]; simp [IntKind.max, IntKind.bits, IntKind.signed]; omega
  simp only [binOp, Op.stringOp, if_neg h4, h3]; rfl
theorem Aa6 {T T' : TypeId} {x y : Operand} {a b : List UInt8} (hx : Ba E x = some (.string (str a))) (hy : Ba E y = some (.string (str b)))
  (hb : a.length + b.length ≤ 9223372036854775807)
  (hg : Wants ops E g) (hdn : Nat.blt d n = true)
  (h : A7 P f n I₀ Q ops l k ((d, .string (str (a ++ b))) :: E) I L) : A7 P f n I₀ Q ops (⟨some d, .binOp .add T x y T', ty, pos, af, g⟩ :: l) k E I L := D4 (Vw hx hy hb) hg hdn h

theorem Zi {S : World → Prop} {x : Operand} {s : List UInt8} {T : TypeId} {sz bb : Nat} {z : List Value} [ht : At P T .string sz bb z] (hx : Ba E x = some (.string (str s))) :
  Gz P E S ⟨some d, .call ⟨.builtin .len, #[x], #[T]⟩, ty, pos, af, g⟩ (.int .i64 (s.length : Nat)) := fun a w he _ => by
  simp only [execOp, resolve, List.map_toArray, List.map, he.eval hx]
  simp only [pure_bind, invoke, builtin, Builtin.len_]
  refine Ac (a := _) (w' := w) ?_ |>.trans rfl
  simp only [List.getElem?_toArray, List.getElem?_cons_zero]
  rw [Ac (Bc ht.und w)]
  simp [goInt, F6, str, ByteArray.size]
theorem Cz {x : Operand} {s : List UInt8} {T : TypeId} {sz bb : Nat} {z : List Value} [ht : At P T .string sz bb z] (hx : Ba E x = some (.string (str s))) (hg : Wants ops E g) (hdn : Nat.blt d n = true)
  (h : A7 P f n I₀ Q ops l k ((d, .int .i64 (s.length : Nat)) :: E) I L) : A7 P f n I₀ Q ops (⟨some d, .call ⟨.builtin .len, #[x], #[T]⟩, ty, pos, af, g⟩ :: l) k E I L := D4 (Zi hx) hg hdn h

theorem Fy {S : World → Prop} {x : Operand} {ad : Option Addr} {m c : Nat} {e T : TypeId} {sz bb : Nat} {z : List Value} [ht : At P T (.slice e) sz bb z] (hx : Ba E x = some (.slice ad m c)) : Gz P E S ⟨some d, .call ⟨.builtin .len, #[x], #[T]⟩, ty, pos, af, g⟩ (.int .i64 (m : Nat)) := fun a w he _ => by
  simp only [execOp, resolve, List.map_toArray, List.map, he.eval hx]
  simp only [pure_bind, invoke, builtin, Builtin.len_]
  refine Ac (a := _) (w' := w) ?_ |>.trans rfl
  simp only [List.getElem?_toArray, List.getElem?_cons_zero]
  rw [Ac (Bc ht.und w)]
  rfl
theorem Gg {x : Operand} {ad : Option Addr} {m c : Nat} {e T : TypeId} {sz bb : Nat} {z : List Value} [ht : At P T (.slice e) sz bb z] (hx : Ba E x = some (.slice ad m c)) (hg : Wants ops E g) (hdn : Nat.blt d n = true)
  (h : A7 P f n I₀ Q ops l k ((d, .int .i64 (m : Nat)) :: E) I L) : A7 P f n I₀ Q ops (⟨some d, .call ⟨.builtin .len, #[x], #[T]⟩, ty, pos, af, g⟩ :: l) k E I L := D4 (Fy hx) hg hdn h

theorem Vx {S : World → Prop} {x y : Operand} {s : List UInt8} {i : Nat} {b : UInt8} {T : TypeId} {sz bb : Nat} {z : List Value} [ht : At P T .string sz bb z] (hx : Ba E x = some (.string (str s)))
  (hy : Ba E y = some (.int .i64 ((i : Nat) : Int))) (hi : s[i]? = some b) : Gz P E S ⟨some d, .index T x y, ty, pos, af, g⟩ (.int .u8 (b.toNat : Nat)) := fun a w he _ => by
  simp only [execOp, he.eval hx, he.eval hy, Instr.index, asIntOf, pure_bind]
  refine Ac (a := _) (w' := w) ?_ |>.trans rfl
  rw [Ac (Bc ht.und w)]
  have hlt : i < s.length := by
   rcases Nat.lt_or_ge i s.length with gg | gg
   ·exact gg
   ·simp [List.getElem?_eq_none gg] at hi
  have : (str s)[i]? = some b := by
   have h1 : i < (str s).size := by simpa [str, ByteArray.size] using hlt
   rw [getElem?_pos (str s) i h1]
   simp [hlt] at hi
   rw [← hi]; rfl
  simp [this, F6]
theorem U8 {x y : Operand} {s : List UInt8} {i : Nat} {b : UInt8} {T : TypeId} {sz bb : Nat} {z : List Value} [ht : At P T .string sz bb z] (hx : Ba E x = some (.string (str s)))
  (hy : Ba E y = some (.int .i64 ((i : Nat) : Int))) (hi : s[i]? = some b) (hg : Wants ops E g) (hdn : Nat.blt d n = true)
  (h : A7 P f n I₀ Q ops l k ((d, .int .u8 (b.toNat : Nat)) :: E) I L) : A7 P f n I₀ Q ops (⟨some d, .index T x y, ty, pos, af, g⟩ :: l) k E I L := D4 (Vx hx hy hi) hg hdn h


/- Parts of strings. -/
theorem Lu {v : Int} {kk : IntKind} {y : Nat} {c : BoundsCode} {r : Nat} (hr : v = (r : Int)) (hb : r ≤ y) (w : World) : (Instr.sliceBound (.int kk v) y c).run P w = .ok r w := by
 simp only [Instr.sliceBound, asIntOf, pure_bind]
 subst hr; rw [if_pos (by omega)]; rfl
theorem Ub {s : List UInt8} {a b : Nat} (hb : b ≤ s.length) : (str s).extract a b = str ((s.take b).drop a) := by
 apply ByteArray.ext
 simp [str, ByteArray.data_extract]
 rw [List.drop_take]

def L3 (E : G7) : Option Operand → Option Int
 | none => some 0
 | some x => match Ba E x with | some (.int .i64 m) => some m | _ => none
def L2 (E : G7) (top : Int) : Option Operand → Option Int
 | none => some top
 | some x => match Ba E x with | some (.int .i64 m) => some m | _ => none
theorem Ll {S : World → Prop} {x : Operand} {s : List UInt8} {lo hi : Option Operand} {a b : Int} {T : TypeId} {sz bb : Nat} {z : List Value} [ht : At P T .string sz bb z] (hx : Ba E x = some (.string (str s)))
  (hlo : L3 E lo = some a) (hhi : L2 E s.length hi = some b) (a' b' : Nat) (ha : a = a') (hb : b = b') (hab : a' ≤ b' ∧ b' ≤ s.length) : Gz P E S ⟨some d, .slice T x lo hi none, ty, pos, af, g⟩ (.string (str ((s.take b').drop a'))) := fun ac w he _ => by
  simp only [execOp, he.eval hx, Instr.sliceAt]
  refine Ac (a := _) (w' := w) ?_ |>.trans rfl
  rw [Ac (Bc ht.und w)]
  simp only [Instr.slice]
  rw [Ac (Bc ht.und w)]
  have hsz : (str s).size = s.length := by simp [str, ByteArray.size]
  have key : (Instr.sliceBounds false (str s).size (str s).size (lo.map ac.eval) (hi.map ac.eval) none).run P w = .ok (a', b', s.length) w := by
   rw [hsz]
   unfold Instr.sliceBounds
   simp only [pure_bind]
   have hlo' : lo = none ∧ a' = 0 ∨ ∃ y, lo = some y ∧ ac.eval y = .int .i64 a := by
    cases lo with
    | none => simp [L3] at hlo; exact .inl ⟨rfl, by omega⟩
    | some y =>
     simp only [L3] at hlo
     split at hlo
     ·rename_i m hm
      simp at hlo; subst hlo
      exact .inr ⟨y, rfl, he.eval hm⟩
     ·simp at hlo
   have tail : ∀ h' : Nat, h' = b' → (match lo.map ac.eval with
     | some v => do
      let l ← Instr.sliceBound v h' (if (none : Option Value).isSome = true then .slice3C else .sliceB)
      pure (l, h', s.length)
     | none => pure (0, h', s.length) : Sem (Nat × Nat × Nat)).run P w = .ok (a', b', s.length) w := by
    intro h' e; subst e
    rcases hlo' with ⟨e, e'⟩ | ⟨y, e, hy⟩
    ·subst e e'; rfl
    ·subst e
     simp only [Option.map_some, hy]
     rw [Ac (Lu ha hab.1 w)]; rfl
   cases hi with
   | none =>
    simp [L2] at hhi
    simp only [Option.map_none]
    exact tail s.length (by omega)
   | some y =>
    simp only [L2] at hhi
    split at hhi
    ·rename_i m hm
     simp at hhi; subst hhi
     simp only [Option.map_some, he.eval hm]
     rw [Ac (Lu hb hab.2 w)]
     exact tail b' rfl
    ·simp at hhi
  show (do let x ← Instr.sliceBounds false (str s).size (str s).size (lo.map ac.eval) (hi.map ac.eval) none; pure (.string ((str s).extract x.1 x.2.1)) : Sem Value).run P w = _
  rw [Ac key, Ub hab.2]; rfl
theorem O2 {x : Operand} {s : List UInt8} {lo hi : Option Operand} {a b : Int} {T : TypeId} {sz bb : Nat} {z : List Value} [ht : At P T .string sz bb z] (hx : Ba E x = some (.string (str s)))
  (hlo : L3 E lo = some a) (hhi : L2 E s.length hi = some b) (a' b' : Nat) (ha : a = a') (hb : b = b') (hab : a' ≤ b' ∧ b' ≤ s.length) (hg : Wants ops E g) (hdn : Nat.blt d n = true)
  (h : A7 P f n I₀ Q ops l k ((d, .string (str ((s.take b').drop a'))) :: E) I L) : A7 P f n I₀ Q ops (⟨some d, .slice T x lo hi none, ty, pos, af, g⟩ :: l) k E I L := D4 (Ll hx hlo hhi a' b' ha hb hab) hg hdn h

/- Variables in memory. -/
theorem F3 {S : World → Prop} {x : Operand} {s : List UInt8} {lo : Option Operand} {a : Int} {T : TypeId} {sz bb : Nat} {z : List Value} [ht : At P T .string sz bb z] (hx : Ba E x = some (.string (str s)))
  (hlo : L3 E lo = some a) (a' : Nat) (ha : a = a') (hab : a' ≤ s.length) : Gz P E S ⟨some d, .slice T x lo none none, ty, pos, af, g⟩ (.string (str (s.drop a'))) := by
 have := Ll (P := P) (S := S) (d := d) (ty := ty) (pos := pos) (af := af) (g := g) (T := T) (hi := none) hx hlo (b := s.length) rfl a' s.length ha rfl ⟨hab, Nat.le_refl _⟩
 rwa [List.take_length] at this
theorem Jd {S : World → Prop} {x : Operand} {s : List UInt8} {hi : Option Operand} {b : Int} {T : TypeId} {sz bb : Nat} {z : List Value} [ht : At P T .string sz bb z] (hx : Ba E x = some (.string (str s)))
  (hhi : L2 E s.length hi = some b) (b' : Nat) (hb : b = b') (hab : b' ≤ s.length) : Gz P E S ⟨some d, .slice T x none hi none, ty, pos, af, g⟩ (.string (str (s.take b'))) :=
 Ll (P := P) (S := S) (d := d) (ty := ty) (pos := pos) (af := af) (g := g) (T := T) (lo := none) hx (a := 0) rfl hhi 0 b' rfl hb ⟨Nat.zero_le _, hab⟩
theorem Ip {x : Operand} {s : List UInt8} {lo : Option Operand} {a : Int} {T : TypeId} {sz bb : Nat} {z : List Value} [ht : At P T .string sz bb z] (hx : Ba E x = some (.string (str s)))
  (hlo : L3 E lo = some a) (a' : Nat) (ha : a = a') (hab : a' ≤ s.length) (hg : Wants ops E g) (hdn : Nat.blt d n = true)
  (h : A7 P f n I₀ Q ops l k ((d, .string (str (s.drop a'))) :: E) I L) : A7 P f n I₀ Q ops (⟨some d, .slice T x lo none none, ty, pos, af, g⟩ :: l) k E I L := D4 (F3 hx hlo a' ha hab) hg hdn h
theorem Wr {x : Operand} {s : List UInt8} {hi : Option Operand} {b : Int} {T : TypeId} {sz bb : Nat} {z : List Value} [ht : At P T .string sz bb z] (hx : Ba E x = some (.string (str s)))
  (hhi : L2 E s.length hi = some b) (b' : Nat) (hb : b = b') (hab : b' ≤ s.length) (hg : Wants ops E g) (hdn : Nat.blt d n = true)
  (h : A7 P f n I₀ Q ops l k ((d, .string (str (s.take b'))) :: E) I L) : A7 P f n I₀ Q ops (⟨some d, .slice T x none hi none, ty, pos, af, g⟩ :: l) k E I L := D4 (Jd hx hhi b' hb hab) hg hdn h

theorem Ax {T : TypeId} {dd : TypeDesc} {sz bb : Nat} {z : List Value} [ht : At P T dd sz bb z] (hg : Wants ops E g) (hdn : Nat.blt d n = true)
  (h : ∀ b, A7 P f n I₀ Q ops l k ((d, .pointer (some ⟨b, 0, none⟩)) :: E) I ((b, .cells z.toArray T (0, 0)) :: L)) : A7 P f n I₀ Q ops (⟨some d, .alloc T, ty, pos, af, g⟩ :: l) k E I L := by
 refine Iq rfl hdn (fun a he => hg.wanted a he) fun a w he hm => ?_
 obtain ⟨v, hv, hz⟩ := H9 ht w; refine ⟨_, _, I, (w.heap.size, .cells z.toArray T (0, 0)) :: L, ?_, hm.alloc _, h _⟩
 simp only [execOp, Instr.alloc]
 refine Ac (a := .pointer (some ⟨w.heap.size, 0, none⟩)) (w' := { w with heap := w.heap.push (.cells z.toArray T (0, 0)) }) ?_ |>.trans rfl
 rw [Ac hv]
 have : v.cells = z.toArray := by rw [← hz]
 simp only [newVar, newRow, newObj, this]
 rfl
theorem Cd {T : TypeId} {x : Operand} {v : Value} {vs : List Value} (hx : Ba E x = some v) (hv : Fn v = some vs) (hg : Wants ops E g) (hdn : Nat.blt d n = true)
  (h : ∀ b, A7 P f n I₀ Q ops l k ((d, .pointer (some ⟨b, 0, none⟩)) :: E) I ((b, .cells vs.toArray T (0, 0)) :: L)) : A7 P f n I₀ Q ops (⟨some d, .box T x, ty, pos, af, g⟩ :: l) k E I L := by
 refine Iq rfl hdn (fun a he => hg.wanted a he) fun a w he hm => ?_
 refine ⟨_, _, I, (w.heap.size, .cells vs.toArray T (0, 0)) :: L, ?_, hm.alloc _, h _⟩
 simp only [execOp, Instr.box, he.eval hx, newVar, newRow, newObj, Ic hv]
 rfl

theorem Fo {I' : Heap} {L' : Bl} {T : TypeId} {x : Operand} {ad : Addr} {v : Value} (hx : Ba E x = some (.pointer (some ad))) (hl : Ft P I' L' T ad v) : Gz P E (Mem I' L') ⟨some d, .load T x, ty, pos, af, g⟩ v := by
 intro a w he hm
 simp only [execOp, Instr.loadAt, he.eval hx, Instr.sureAddr, pure_bind]
 exact Ac (hl w hm) |>.trans rfl
theorem Dd {T : TypeId} {x : Operand} {ad : Addr} {v : Value} (hx : Ba E x = some (.pointer (some ad))) (hl : Ft P I L T ad v) (hg : Wants ops E g) (hdn : Nat.blt d n = true)
  (h : A7 P f n I₀ Q ops l k ((d, v) :: E) I L) : A7 P f n I₀ Q ops (⟨some d, .load T x, ty, pos, af, g⟩ :: l) k E I L := D4 (Fo hx hl) hg hdn h

def Qf : List Value → List Value → Option (List Value)
 | [], cs => some cs
 | v :: vs, _ :: cs => match Qf vs cs with
  | some us => some (v :: us)
  | none => none
 | _ :: _, [] => none
def Mi : Nat → List Value → List Value → Option (List Value)
 | 0, vs, cs => Qf vs cs
 | o + 1, vs, c :: cs => match Mi o vs cs with
  | some us => some (c :: us)
  | none => none
 | _ + 1, _, [] => none
theorem Abe : ∀ {vs cs us : List Value}, Qf vs cs = some us → vs.length ≤ cs.length ∧ us = vs ++ cs.drop vs.length := by
 intro vs
 induction vs with
 | nil => intro cs us h; simp [Qf] at h; simp [h]
 | cons v vs ih =>
  intro cs us h
  cases cs with
  | nil => simp [Qf] at h
  | cons c cs =>
   simp only [Qf] at h
   cases hu : Qf vs cs with
   | none => simp [hu] at h
   | some xs =>
    simp [hu] at h
    obtain ⟨h1, h2⟩ := ih hu; subst h
    exact ⟨by simpa using h1, by simp [h2]⟩
theorem Xs : ∀ {o : Nat} {vs cs us : List Value}, Mi o vs cs = some us → o + vs.length ≤ cs.length ∧ us = cs.take o ++ vs ++ cs.drop (o + vs.length) := by
 intro o
 induction o with
 | zero => intro vs cs us h; obtain ⟨h1, h2⟩ := Abe (by simpa [Mi] using h); exact ⟨by omega, by simp [h2]⟩
 | succ o ih =>
  intro vs cs us h
  cases cs with
  | nil => simp [Mi] at h
  | cons c cs =>
   simp only [Mi] at h
   cases hu : Mi o vs cs with
   | none => simp [hu] at h
   | some xs =>
    simp [hu] at h
    obtain ⟨h1, h2⟩ := ih hu; subst h; refine ⟨by simp; omega, ?_⟩; rw [h2, show o + 1 + vs.length = o + vs.length + 1 by omega]; simp

theorem Wy {w : World} {b off : Nat} {c : Array Value} {T : TypeId} {v : Value} (hb : w.heap[b]? = some (.cells c T (0, 0))) (ho : off < c.size) (hv : Cx v = true) :
  (store ⟨b, off, none⟩ v).run P w = .ok () { w with heap := w.heap.setIfInBounds b (.cells (c.setIfInBounds off v) T (0, 0)) } := by
 have hc : w.cell? ⟨b, off, none⟩ = some c[off] := by simp [World.cell?, hb, ho]
 have hf : w.frozen? ⟨b, off, none⟩ = false := by simp [World.frozen?, hb]
 have hs : w.setCell ⟨b, off, none⟩ v = { w with heap := w.heap.setIfInBounds b (.cells (c.setIfInBounds off v) T (0, 0)) } := by
  unfold World.setCell
  congr 1
  apply Array.ext_getElem?
  intro i
  have lt : b < w.heap.size := by
   rcases Nat.lt_or_ge b w.heap.size with gg | gg
   ·exact gg
   ·simp [Array.getElem?_eq_none gg] at hb
  by_cases e : b = i
  ·subst e; rw [Array.getElem?_setIfInBounds_self, if_pos lt, Array.getElem?_modify, if_pos rfl, hb]; rfl
  ·simp [Array.getElem?_modify, e, Array.getElem?_setIfInBounds_ne e]
 cases v <;> simp [Cx] at hv <;> simp [store, Sem.run, hc, hf, hs]

theorem Vi {l : List Value} {p : Nat} {v : Value} (h : p < l.length) : (l.set p v).take (p + 1) = l.take p ++ [v] := by
 rw [List.set_eq_take_append_cons_drop, if_pos h, List.take_append]
 simp [Nat.min_eq_left (Nat.le_of_lt h), List.take_take]
theorem Yu {w : World} {b : Nat} {o : Obj} (hb : w.heap[b]? = some o) : w.heap.setIfInBounds b o = w.heap := by
 apply Array.ext_getElem?
 intro j
 by_cases e : b = j
 ·subst e
  rcases Nat.lt_or_ge b w.heap.size with lt | gg
  ·rw [Array.getElem?_setIfInBounds_self, if_pos lt, hb]
  ·simp [Array.getElem?_eq_none gg] at hb
 ·rw [Array.getElem?_setIfInBounds_ne e]

theorem Lh {b : Nat} {T : TypeId} {off : Nat} : ∀ (vs : List Value) (i : Nat) (w : World) (c : Array Value), w.heap[b]? = some (.cells c T (0, 0)) → off + i + vs.length ≤ c.size → (vs.all Cx = true) →
  ∃ c' : Array Value, (storeCells ⟨b, off, none⟩ vs i).run P w = .ok () { w with heap := w.heap.setIfInBounds b (.cells c' T (0, 0)) } ∧
   c'.toList = c.toList.take (off + i) ++ vs ++ c.toList.drop (off + i + vs.length) := by
 intro vs
 induction vs with
 | nil =>
  intro i w c hb hn _
  exact ⟨c, by simp only [storeCells, F6, Yu hb], by simp⟩
 | cons v vs ih =>
  intro i w c hb hn hp
  simp only [List.all_cons, Bool.and_eq_true] at hp
  simp only [List.length_cons] at hn
  have lt : b < w.heap.size := by
   rcases Nat.lt_or_ge b w.heap.size with gg | gg
   ·exact gg
   ·simp [Array.getElem?_eq_none gg] at hb
  have ha : (Addr.add ⟨b, off, none⟩ i) = ⟨b, off + i, none⟩ := by unfold Addr.add; split <;> simp_all
  simp only [storeCells, ha]
  rw [Ac (Wy hb (by omega) hp.1)]; obtain ⟨c', h1, h2⟩ := ih (i + 1) { w with heap := w.heap.setIfInBounds b (.cells (c.setIfInBounds (off + i) v) T (0, 0)) } (c.setIfInBounds (off + i) v)
   (by simp [Array.getElem?_setIfInBounds_self, lt]) (by simp; omega) hp.2
  refine ⟨c', ?_, ?_⟩
  ·rw [h1]; simp
  ·rw [h2]
   simp only [Array.toList_setIfInBounds]
   rw [show off + (i + 1) = off + i + 1 by omega, Vi (by simpa using (by omega : off + i < c.size)), List.drop_set_of_lt (by omega)]; rw [show off + i + 1 + vs.length = off + i + (v :: vs).length by simp; omega]
   simp

theorem To {b off : Nat} {T U : TypeId} {dd : TypeDesc} {sz bb : Nat} {z : List Value} (ht : At P T dd sz bb z) {v : Value} {vs cs us : List Value} {w : World}
  (hb : w.heap[b]? = some (.cells cs.toArray U (0, 0))) (hv : v.cells = vs.toArray) (hl : vs.length = sz) (hp : vs.all Cx = true) (hu : off + vs.length ≤ cs.length)
  (hus : us = cs.take off ++ vs ++ cs.drop (off + vs.length)) :
  (storeVar T ⟨b, off, none⟩ v).run P w = .ok () { w with heap := w.heap.setIfInBounds b (.cells us.toArray U (0, 0)) } := by
 unfold storeVar
 rw [Ac (Fm ht w)]; rw [if_neg (by rw [hv]; simp [hl])]
 have := Lh (P := P) (off := off) vs 0 w cs.toArray hb (by simpa using hu) hp
 obtain ⟨c', h1, h2⟩ := this; rw [hv]; rw [show (List.toArray vs).toList = vs from rfl]
 have h3 : c' = us.toArray := by
  apply Array.ext'
  rw [h2, hus]; simp
 rw [← h3]
 exact h1

theorem Tu {T U : TypeId} {x y : Operand} {b off : Nat} {v : Value} {vs cs us : List Value} {L' : Bl} {dd : TypeDesc} {sz bb : Nat} {z : List Value} [ht : At P T dd sz bb z]
  (hx : Ba E x = some (.pointer (some ⟨b, off, none⟩))) (hy : Ba E y = some v) (hv : Fn v = some vs) (hl : vs.length = sz) (hp : vs.all Cx = true)
  (hu : Upd b (.cells us.toArray U (0, 0)) (.cells cs.toArray U (0, 0)) L L') (hus : Mi off vs cs = some us) (a : Act) (w : World) (he : EnvOk E a) (hm : Mem I L w) :
  ∃ w', ((execOp a.eval ⟨none, .store T x y, ty, pos, af, g⟩).run P w = .ok .skip w' ∨ ∃ v, (execOp a.eval ⟨none, .store T x y, ty, pos, af, g⟩).run P w = .ok (.value v) w') ∧ Mem I L' w' := by
 refine ⟨{ w with heap := w.heap.setIfInBounds b (.cells us.toArray U (0, 0)) }, .inl ?_, hm.upd hu⟩
 simp only [execOp, Instr.storeAt, he.eval hx, he.eval hy, Instr.sureAddr, pure_bind]
 obtain ⟨h1, h2⟩ := Xs hus
 exact Ac (To ht (hm.2.1 _ hu.mem.1).1 (Ic hv) hl hp h1 h2) |>.trans rfl
theorem Tg {T U : TypeId} {x y : Operand} {b off : Nat} {v : Value} {vs cs us : List Value} {L' : Bl} {dd : TypeDesc} {sz bb : Nat} {z : List Value} [ht : At P T dd sz bb z]
  (hx : Ba E x = some (.pointer (some ⟨b, off, none⟩))) (hy : Ba E y = some v) (hv : Fn v = some vs) (hl : vs.length = sz) (hp : vs.all Cx = true)
  (hu : Upd b (.cells us.toArray U (0, 0)) (.cells cs.toArray U (0, 0)) L L') (hus : Mi off vs cs = some us) (hg : Wants ops E g)
  (h : A7 P f n I₀ Q ops l k E I L') : A7 P f n I₀ Q ops (⟨none, .store T x y, ty, pos, af, g⟩ :: l) k E I L :=
 U9 rfl (fun a he => hg.wanted a he) (Tu hx hy hv hl hp hu hus) h
theorem Xi {S : World → Prop} {fuel : Nat} {listed listed' : Array Bool} (i : Nat) {T U : TypeId} {x y : Operand} {b off : Nat} {v : Value} {vs cs us : List Value} {L' : Bl} {dd : TypeDesc} {sz bb : Nat} {z : List Value} [ht : At P T dd sz bb z]
  (hi : ops[i]? = some ⟨none, .store T x y, ty, pos, af, g⟩) (hc : decide (Region.ready .any ops listed = [i]) = true) (hl' : listed' = listed.setIfInBounds i true)
  (hx : Ba E x = some (.pointer (some ⟨b, off, none⟩))) (hy : Ba E y = some v) (hv : Fn v = some vs) (hl : vs.length = sz) (hp : vs.all Cx = true)
  (hu : Upd b (.cells us.toArray U (0, 0)) (.cells cs.toArray U (0, 0)) L L') (hus : Mi off vs cs = some us) (hg : Wants ops E g) (hS : Fe ops listed' = true ∨ ∀ w, Mem I L' w → S w)
  (h : Ct P f n I₀ Q ops S fuel listed' k E I L') : Ct P f n I₀ Q ops S (fuel + 1) listed k E I L :=
 T5 i hi hc hl' rfl (fun a he => hg.wanted a he) (Tu hx hy hv hl hp hu hus) hS h

end rules
section rules
variable {P : Program} {f : FuncId} {n : Nat} {I₀ : Heap} {Q : C1} {k : List Item} {E : G7} {I : Heap} {L : Bl}
variable {ops : Array Oper} {d : Nat} {ty : TypeId} {pos : String} {af : Array Edge} {g : Option (Nat × Bool)} {l : List Oper}

theorem Ag {S : World → Prop} {T : TypeId} {i off : Nat} [hf : Aq P T i off] {x : Operand} {b o : Nat} (hx : Ba E x = some (.pointer (some ⟨b, o, none⟩))) :
  Gz P E S ⟨some d, .fieldAddr T x i, ty, pos, af, g⟩ (.pointer (some ⟨b, o + off, none⟩)) := by
 obtain ⟨fs, fld, inf, hu, hi, hin, hsz, ho⟩ := hf.get; intro a w he _
 simp only [execOp, Instr.fieldAt, he.eval hx]
 refine Ac (a := _) (w' := w) ?_ |>.trans rfl
 rw [Ac (Bc hu w)]
 simp only [hi, Instr.sureAddr, pure_bind, fieldPlace]
 have h1 : (sizeOf fld.type).run P w = .ok inf.size w := by unfold sizeOf; rw [Ac (Hk hin w)]; rfl
 refine Ac (a := (⟨b, o + off, none⟩ : Addr)) (w' := w) ?_ |>.trans rfl
 rw [Ac h1, if_neg (by simpa using hsz), ho]
 have : Addr.add ⟨b, o, none⟩ off = ⟨b, o + off, none⟩ := by unfold Addr.add; split <;> simp_all
 rw [this]; rfl
theorem A9 {S : World → Prop} {T : TypeId} {i off : Nat} [hf : Aq P T i off] {x : Operand} {ad : Addr} (hx : Ba E x = some (.pointer (some ad))) :
  Gz P E S ⟨some d, .fieldAddr T x i, ty, pos, af, g⟩ (.pointer (some (ad.add off))) := by
 obtain ⟨fs, fld, inf, hu, hi, hin, hsz, ho⟩ := hf.get; intro a w he _
 simp only [execOp, Instr.fieldAt, he.eval hx]
 refine Ac (a := _) (w' := w) ?_ |>.trans rfl
 rw [Ac (Bc hu w)]
 simp only [hi, Instr.sureAddr, pure_bind, fieldPlace]
 have h1 : (sizeOf fld.type).run P w = .ok inf.size w := by unfold sizeOf; rw [Ac (Hk hin w)]; rfl
 refine Ac (a := ad.add off) (w' := w) ?_ |>.trans rfl
 rw [Ac h1, if_neg (by simpa using hsz), ho]
 rfl
theorem Av {T : TypeId} {i off : Nat} [hf : Aq P T i off] {x : Operand} {ad : Addr} (hx : Ba E x = some (.pointer (some ad))) (hg : Wants ops E g) (hdn : Nat.blt d n = true)
  (h : A7 P f n I₀ Q ops l k ((d, .pointer (some (ad.add off))) :: E) I L) : A7 P f n I₀ Q ops (⟨some d, .fieldAddr T x i, ty, pos, af, g⟩ :: l) k E I L := D4 (A9 hx) hg hdn h
theorem Bz {T : TypeId} {i off : Nat} [hf : Aq P T i off] {x : Operand} {b o : Nat} (hx : Ba E x = some (.pointer (some ⟨b, o, none⟩))) (hg : Wants ops E g) (hdn : Nat.blt d n = true)
  (h : A7 P f n I₀ Q ops l k ((d, .pointer (some ⟨b, o + off, none⟩)) :: E) I L) : A7 P f n I₀ Q ops (⟨some d, .fieldAddr T x i, ty, pos, af, g⟩ :: l) k E I L := D4 (Ag hx) hg hdn h

theorem O7 {S : World → Prop} {T e : TypeId} {sz bb esz ebb : Nat} {z ez : List Value} {dd : TypeDesc} [ht : At P T (.slice e) sz bb z] [hte : At P e dd esz ebb ez] {x y : Operand} {ad : Addr} {m c : Nat} {i : Int}
  (hx : Ba E x = some (.slice (some ad) m c)) (hy : Ba E y = some (.int .i64 i)) (i' : Nat) (hi : i = i') (him : i' < m) : Gz P E S ⟨some d, .indexAddr T x y, ty, pos, af, g⟩ (.pointer (some (ad.add (i' * esz)))) := fun a w he _ => by
  subst hi
  simp only [execOp, he.eval hx, he.eval hy, Instr.indexAt, asIntOf, pure_bind]
  refine Ac (a := _) (w' := w) ?_ |>.trans rfl
  rw [Ac (Bc ht.und w)]
  simp only [pure_bind]
  rw [Ac (Bc ht.und w)]; rw [if_pos ⟨by omega, by omega⟩]; rw [Ac (Fm hte w)]
  simp [F6]
theorem U7 {T e : TypeId} {sz bb esz ebb : Nat} {z ez : List Value} {dd : TypeDesc} [ht : At P T (.slice e) sz bb z] [hte : At P e dd esz ebb ez] {x y : Operand} {ad : Addr} {m c : Nat} {i : Int}
  (hx : Ba E x = some (.slice (some ad) m c)) (hy : Ba E y = some (.int .i64 i)) (i' : Nat) (hi : i = i') (him : i' < m) (hg : Wants ops E g) (hdn : Nat.blt d n = true)
  (h : A7 P f n I₀ Q ops l k ((d, .pointer (some (ad.add (i' * esz)))) :: E) I L) : A7 P f n I₀ Q ops (⟨some d, .indexAddr T x y, ty, pos, af, g⟩ :: l) k E I L := D4 (O7 hx hy i' hi him) hg hdn h

theorem Q2 {S : World → Prop} {T e : TypeId} {sz bb esz ebb : Nat} {z ez : List Value} {dd : TypeDesc} [ht : At P T (.slice e) sz bb z] [hte : At P e dd esz ebb ez] {x : Operand} {ad : Option Addr} {m c : Nat}
  {lo hi : Option Operand} {a b : Int} (hx : Ba E x = some (.slice ad m c))
  (hlo : L3 E lo = some a) (hhi : L2 E m hi = some b) (a' b' : Nat) (ha : a = a') (hb : b = b') (hab : a' ≤ b' ∧ b' ≤ c) : Gz P E S ⟨some d, .slice T x lo hi none, ty, pos, af, g⟩ (.slice (if c = a' then ad else ad.map (·.add (a' * esz))) (b' - a') (c - a')) := fun ac w he _ => by
  simp only [execOp, he.eval hx, Instr.sliceAt]
  refine Ac (a := _) (w' := w) ?_ |>.trans rfl
  rw [Ac (Bc ht.und w)]
  simp only [Instr.slice]
  rw [Ac (Bc ht.und w)]
  have key : (Instr.sliceBounds true m c (lo.map ac.eval) (hi.map ac.eval) none).run P w = .ok (a', b', c) w := by
   unfold Instr.sliceBounds
   simp only [pure_bind]
   have hlo' : lo = none ∧ a' = 0 ∨ ∃ y, lo = some y ∧ ac.eval y = .int .i64 a := by
    cases lo with
    | none => simp [L3] at hlo; exact .inl ⟨rfl, by omega⟩
    | some y =>
     simp only [L3] at hlo
     split at hlo
     ·rename_i m hm
      simp at hlo; subst hlo
      exact .inr ⟨y, rfl, he.eval hm⟩
     ·simp at hlo
   have tail : ∀ h' : Nat, h' = b' → (match lo.map ac.eval with
     | some v => do
      let l ← Instr.sliceBound v h' (if (none : Option Value).isSome = true then .slice3C else .sliceB)
      pure (l, h', c)
     | none => pure (0, h', c) : Sem (Nat × Nat × Nat)).run P w = .ok (a', b', c) w := by
    intro h' e; subst e
    rcases hlo' with ⟨e, e'⟩ | ⟨y, e, hy⟩
    ·subst e e'; rfl
    ·subst e
     simp only [Option.map_some, hy]
     rw [Ac (Lu ha hab.1 w)]; rfl
   cases hi with
   | none =>
    simp [L2] at hhi
    simp only [Option.map_none]
    exact tail m (by omega)
   | some y =>
    simp only [L2] at hhi
    split at hhi
    ·rename_i m' hm
     simp at hhi; subst hhi
     simp only [Option.map_some, he.eval hm]
     rw [Ac (Lu hb hab.2 w)]
     exact tail b' rfl
    ·simp at hhi
  show (do let x ← Instr.sliceBounds true m c (lo.map ac.eval) (hi.map ac.eval) none; let size ← sizeOf e; pure (.slice (if x.2.2 = x.1 then ad else ad.map (·.add (x.1 * size))) (x.2.1 - x.1) (x.2.2 - x.1)) : Sem Value).run P w = _
  rw [Ac key]; rw [Ac (Fm hte w)]; rfl
theorem Jn {T e : TypeId} {sz bb esz ebb : Nat} {z ez : List Value} {dd : TypeDesc} [ht : At P T (.slice e) sz bb z] [hte : At P e dd esz ebb ez] {x : Operand} {ad : Option Addr} {m c : Nat}
  {lo hi : Option Operand} {a b : Int} (hx : Ba E x = some (.slice ad m c))
  (hlo : L3 E lo = some a) (hhi : L2 E m hi = some b) (a' b' : Nat) (ha : a = a') (hb : b = b') (hab : a' ≤ b' ∧ b' ≤ c) (hg : Wants ops E g) (hdn : Nat.blt d n = true)
  (h : A7 P f n I₀ Q ops l k ((d, .slice (if c = a' then ad else ad.map (·.add (a' * esz))) (b' - a') (c - a')) :: E) I L) : A7 P f n I₀ Q ops (⟨some d, .slice T x lo hi none, ty, pos, af, g⟩ :: l) k E I L := D4 (Q2 hx hlo hhi a' b' ha hb hab) hg hdn h

theorem Acl {S : World → Prop} {T : TypeId} {parts : Array (Nat × Operand)} {is : List Nat} {vs : List Value} {v : Value} (hp : parts.toList.map (·.1) = is) (ho : Ho E (parts.toList.map (·.2)) = some vs)
  (hb : ∀ w, (Instr.build T (is.zip vs).toArray).run P w = .ok v w) : Gz P E S ⟨some d, .build T parts, ty, pos, af, g⟩ (v) := fun a w he _ => by
  have h1 : parts.map (fun (i, x) => (i, a.eval x)) = (is.zip vs).toArray := by
   apply Array.ext'
   have := he.evals ho
   rw [← hp, ← this]
   simp [List.zip_map', Function.comp_def]
  simp only [execOp]
  rw [h1]
  exact Ac (hb w) |>.trans rfl
theorem Acd {T : TypeId} {parts : Array (Nat × Operand)} {is : List Nat} {vs : List Value} {v : Value} (hp : parts.toList.map (·.1) = is) (ho : Ho E (parts.toList.map (·.2)) = some vs)
  (hb : ∀ w, (Instr.build T (is.zip vs).toArray).run P w = .ok v w) (hg : Wants ops E g) (hdn : Nat.blt d n = true)
  (h : A7 P f n I₀ Q ops l k ((d, v) :: E) I L) : A7 P f n I₀ Q ops (⟨some d, .build T parts, ty, pos, af, g⟩ :: l) k E I L := D4 (Acl hp ho hb) hg hdn h

theorem Ta {T e : TypeId} {parts : Array (Nat × Operand)} {is : List Nat} {vs cs : List Value} {m : Nat} {sz bb esz ebb : Nat} {z ez : List Value} {dd : TypeDesc} [ht : At P T (.slice e) sz bb z] [hte : At P e dd esz ebb ez]
  (hp : parts.toList.map (·.1) = is) (ho : Ho E (parts.toList.map (·.2)) = some vs) (hm0 : m * esz ≠ 0) (hm1 : m * esz ≤ 2 ^ 24)
  (hfill : Instr.fill (fun i => some (i * esz, esz)) ((Array.range (m * esz)).map (ez.toArray[· % ez.toArray.size]!)) (is.zip vs) = some cs.toArray) (hg : Wants ops E g) (hdn : Nat.blt d n = true)
  (h : ∀ b, A7 P f n I₀ Q ops l k ((d, .slice (some ⟨b, 0, none⟩) m m) :: E) I ((b, .cells cs.toArray e (0, 0)) :: L)) :
  A7 P f n I₀ Q ops (⟨some d, .buildSlice T m parts, ty, pos, af, g⟩ :: l) k E I L := by
 refine Iq rfl hdn (fun a he => hg.wanted a he) fun a w he hm => ?_
 refine ⟨_, _, I, (w.heap.size, .cells cs.toArray e (0, 0)) :: L, ?_, hm.alloc _, h _⟩
 have h1 : parts.map (fun (i, x) => (i, a.eval x)) = (is.zip vs).toArray := by
  apply Array.ext'
  have := he.evals ho
  rw [← hp, ← this]
  simp [List.zip_map', Function.comp_def]
 simp only [execOp]
 rw [h1]; refine Ac (a := .slice (some ⟨w.heap.size, 0, none⟩) m m) (w' := { w with heap := w.heap.push (.cells cs.toArray e (0, 0)) }) ?_ |>.trans rfl
 unfold Instr.buildSlice
 rw [Ac (Bc ht.und w)]
 simp only []
 rw [Ac (Fm hte w)]; rw [if_neg (by omega), if_neg hm0]; obtain ⟨zv, hz1, hz2⟩ := H9 hte w
 have hz3 : zv.cells = ez.toArray := by rw [← hz2]
 simp only [bind_assoc, pure_bind]
 rw [Ac hz1, hz3]; rw [hfill]
 rfl

/- 'append' onto a slice of the call's own. -/
theorem Qb (need c : Nat) (h : c < need) : Builtin.nextslicecap need c ≤ 2 * need + 1000 := by
 unfold Builtin.nextslicecap
 split
 ·omega
 ·split
  ·omega
  ·have gen : ∀ r c : Nat, c < need + (need + 768) / 4 + 1 → Builtin.growBy need r c ≤ need + (need + 768) / 4 := by
    intro r
    induction r with
    | zero => intro c hc; simp [Builtin.growBy]; omega
    | succ r ih =>
     intro c hc
     simp only [Builtin.growBy]
     split
     ·omega
     ·exact ih _ (by omega)
   have := gen 4 c (by omega)
   omega

theorem Gi {I : Heap} {L : Bl} {w : World} (hm : Mem I L w) {ad : Option Addr} {m c sz : Nat} {xs : List Value} (hl : xs.length = m * sz)
  (hr : ∀ a, ad = some a → Gd I L a xs) (hn : ad = none → xs = []) : (Builtin.firstCells sz m (.slice ad m c)).run P w = .ok xs.toArray w := by
 cases ad with
 | none => simp [Builtin.firstCells, hn rfl, F6]
 | some a =>
  simp only [Builtin.firstCells]
  rw [← hl]
  exact Jo xs (hr a rfl w hm)

abbrev Kd := Option (Nat × List Value)
def Ch (e : TypeId) (xs : List Value) : Kd → Bl
 | none => []
 | some (b, sp) => [(b, .cells (xs ++ sp).toArray e (0, 0))]
def Cb (m : Nat) (c : Nat) : Kd → Value
 | none => .slice none 0 0
 | some (b, sp) => .slice (some ⟨b, 0, none⟩) m c
theorem Gw {m c : Nat} {B : Kd} : Cx (Cb m c B) = true := by cases B <;> rfl
def Em (esz m c : Nat) (xs : List Value) : Kd → Prop
 | none => xs = [] ∧ m = 0 ∧ c = 0
 | some (_, sp) => xs.length = m * esz ∧ m ≤ c ∧ sp.length = (c - m) * esz

theorem Mem.perm {I : Heap} {L L' : Bl} {w : World} (hp : L.Perm L') (h : Mem I L w) : Mem I L' w :=
 ⟨h.1, fun r hr => h.2.1 r (hp.mem_iff.2 hr), (hp.map _).nodup_iff.1 h.2.2⟩
theorem Mem.perm2 {I : Heap} {p q : Nat × Obj} {L : Bl} {w : World} (h : Mem I (p :: q :: L) w) : Mem I (q :: p :: L) w := h.perm (List.Perm.swap ..)
theorem Mem.sub {I : Heap} {L L' : Bl} {w : World} (hs : L'.Sublist L) (h : Mem I L w) : Mem I L' w :=
 ⟨h.1, fun r hr => h.2.1 r (hs.subset hr), h.2.2.sublist (hs.map _)⟩

theorem Mem.f1 {I : Heap} {a p : Nat × Obj} {L : Bl} {w : World} (h : Mem I (a :: p :: L) w) : Mem I (p :: a :: L) w := h.perm2
theorem Mem.f2 {I : Heap} {a b p : Nat × Obj} {L : Bl} {w : World} (h : Mem I (a :: b :: p :: L) w) : Mem I (p :: a :: b :: L) w := h.perm (List.perm_middle (l₁ := [a, b]))
theorem Mem.f3 {I : Heap} {a b c p : Nat × Obj} {L : Bl} {w : World} (h : Mem I (a :: b :: c :: p :: L) w) : Mem I (p :: a :: b :: c :: L) w := h.perm (List.perm_middle (l₁ := [a, b, c]))
theorem Mem.f4 {I : Heap} {a b c d p : Nat × Obj} {L : Bl} {w : World} (h : Mem I (a :: b :: c :: d :: p :: L) w) : Mem I (p :: a :: b :: c :: d :: L) w := h.perm (List.perm_middle (l₁ := [a, b, c, d]))
theorem Mem.f6 {I : Heap} {a b c d e g p : Nat × Obj} {L : Bl} {w : World} (h : Mem I (a :: b :: c :: d :: e :: g :: p :: L) w) : Mem I (p :: a :: b :: c :: d :: e :: g :: L) w := h.perm (List.perm_middle (l₁ := [a, b, c, d, e, g]))
theorem Mem.u1 {I : Heap} {a : Nat × Obj} {X L : Bl} {w : World} (h : Mem I (a :: (X ++ L)) w) : Mem I (X ++ a :: L) w := h.perm (List.perm_append_comm_assoc [a] X L)
theorem Mem.u2 {I : Heap} {a b : Nat × Obj} {X L : Bl} {w : World} (h : Mem I (a :: b :: (X ++ L)) w) : Mem I (X ++ a :: b :: L) w := h.perm (List.perm_append_comm_assoc [a, b] X L)
theorem Mem.u3 {I : Heap} {a b c : Nat × Obj} {X L : Bl} {w : World} (h : Mem I (a :: b :: c :: (X ++ L)) w) : Mem I (X ++ a :: b :: c :: L) w := h.perm (List.perm_append_comm_assoc [a, b, c] X L)
theorem Mem.u4 {I : Heap} {a b c d : Nat × Obj} {X L : Bl} {w : World} (h : Mem I (a :: b :: c :: d :: (X ++ L)) w) : Mem I (X ++ a :: b :: c :: d :: L) w := h.perm (List.perm_append_comm_assoc [a, b, c, d] X L)
theorem Mem.u5 {I : Heap} {a b c d e : Nat × Obj} {X L : Bl} {w : World} (h : Mem I (a :: b :: c :: d :: e :: (X ++ L)) w) : Mem I (X ++ a :: b :: c :: d :: e :: L) w := h.perm (List.perm_append_comm_assoc [a, b, c, d, e] X L)

theorem Lm (z : Array Value) (m : Nat) : (Builtin.zeroCells z m).size = m * z.size := by simp [Builtin.zeroCells]

theorem Mk {T e : TypeId} {sz bb esz ebb : Nat} {z ez : List Value} {dd : TypeDesc} (ht : At P T (.slice e) sz bb z) (hte : At P e dd esz ebb ez) (hez : ez.length = esz)
  {I : Heap} {L : Bl} {w : World} {B : Kd} {xs ys : List Value} {m c : Nat} {T2 : TypeId} {x : Value} {m2 : Nat} {dd2 : TypeDesc} (hu2 : P.underlying T2 = some dd2) (hni : ∀ kk, dd2 ≠ .int kk)
  (hB : Em esz m c xs B) (hm : Mem I (Ch e xs B ++ L) w) (hyl : ys.length = m2 * esz) (hxl : ∀ w, (Builtin.lenOf x).run P w = .ok m2 w) (hxf : ∀ w, Mem I L w → (Builtin.firstCells esz m2 x).run P w = .ok ys.toArray w) (hyp : ys.all Cx = true) (hm2 : 0 < m2) (hesz : 0 < esz)
  (hsize : (m + m2) ≤ 4294967296) (hbytes : ebb ≤ 1024) :
  ∃ w' B' c', (Builtin.append_ #[T, T2] T #[Cb m c B, x]).run P w = .ok (Cb (m + m2) c' B') w' ∧ B' ≠ none ∧
   Em esz (m + m2) c' (xs ++ ys) B' ∧ Mem I (Ch e (xs ++ ys) B' ++ L) w' := by
 have hmL : Mem I L w := hm.sub (List.sublist_append_right _ _)
 obtain ⟨einf, hein, hebb⟩ := Jh hte w
 have hval : ∃ base cc, Cb m c B = .slice base m cc ∧ c = cc ∧ (base = none → xs = [] ∧ B = none ∧ m = 0 ∧ c = 0) ∧ (∀ a, base = some a → ∃ b sp, B = some (b, sp) ∧ a = ⟨b, 0, none⟩) := by
  cases B with
  | none => obtain ⟨h1, h2, h3⟩ := hB; exact ⟨none, 0, by simp [Cb, h2], h3, fun _ => ⟨h1, rfl, h2, h3⟩, by simp⟩
  | some p => obtain ⟨b, sp⟩ := p; exact ⟨some ⟨b, 0, none⟩, c, rfl, rfl, by simp, fun a ha => ⟨b, sp, rfl, by simpa using ha.symm⟩⟩
 obtain ⟨base, cc, hbv, rfl, hbn, hbs⟩ := hval; rw [hbv]
 unfold Builtin.append_
 simp only [List.getElem?_toArray, List.getElem?_cons_zero, List.getElem?_cons_succ]
 rw [Ac (Bc ht.und w)]
 simp only []
 rw [Ac (Fm hte w)]; rw [Ac (Bc hu2 w)]
 have hz : (match dd2 with | .int _ => true | _ => false) = false := by
  cases dd2 <;> first | rfl | exact absurd rfl (hni _)
 simp only [hz, pure_bind, Bool.false_eq_true, if_false, Bool.not_false, if_true, false_or]
 rw [Ac (hxl w)]
 have hxl : xs.length = m * esz ∧ m ≤ c := by
  cases B with
  | none => obtain ⟨h1, h2, h3⟩ := hB; subst h1 h2; simp
  | some p => exact ⟨hB.1, hB.2.1⟩
 have hfy := hxf w hmL
 by_cases hfit : m + m2 ≤ c
 ·simp only [if_pos hfit]
  rw [Ac hfy]
  have : base ≠ none := fun e => by have := hbn e; omega
  cases hbb : base with
  | none => exact absurd hbb this
  | some a =>
   obtain ⟨b, sp, rfl, rfl⟩ := hbs a hbb; obtain ⟨h1, h2, h3⟩ := hB
   have hown := (hm.2.1 _ (List.mem_append_left _ (List.mem_singleton.2 rfl))).1
   have hsp : ys.length ≤ sp.length := by rw [hyl, h3]; exact Nat.mul_le_mul_right _ (by omega)
   have hadd : (Addr.add ⟨b, 0, none⟩ (m * esz)) = ⟨b, m * esz, none⟩ := by unfold Addr.add; split <;> simp_all
   obtain ⟨c', hs1, hs2⟩ := Lh (P := P) (off := m * esz) ys 0 w _ hown (by simp; omega) hyp
   have hc' : c' = (xs ++ ys ++ sp.drop ys.length).toArray := by
    apply Array.ext'
    rw [hs2]
    simp only [List.toList_toArray, Nat.add_zero, ← h1]
    rw [List.take_left', List.drop_append]
    ·simp [List.drop_eq_nil_of_le]
    ·rfl
   refine ⟨{ w with heap := w.heap.setIfInBounds b (.cells c' e (0, 0)) }, some (b, sp.drop ys.length), c, ?_, by simp, ?_, ?_⟩
   ·simp only [hadd, Cb]
    rw [Ac hs1]; rfl
   ·refine ⟨by simp [h1, hyl, Nat.add_mul], hfit, ?_⟩
    simp only [List.length_drop, h3, hyl]
    rw [← Nat.sub_mul]; congr 1; omega
   ·rw [hc']
    exact hm.upd (Upd.here)
 ·simp only [if_neg hfit]
  have hmax : ¬ (((m + m2 : Nat) : Int) > IntKind.i64.max) := by
   simp [IntKind.max, IntKind.bits, IntKind.signed]; omega
  rw [Ac hein]
  simp only [if_neg (fun h : (((m + m2 : Nat) : Int) > IntKind.i64.max) ∧ _ => hmax h.1)]
  rw [Ac hein]
  have hcap : ¬ (Builtin.nextslicecap (m + m2) c * einf.bytes > 2 ^ 48) := by
   have h1 := Qb (m + m2) c (by omega)
   have h2 : Builtin.nextslicecap (m + m2) c * einf.bytes ≤ (2 * (m + m2) + 1000) * 1024 := Nat.mul_le_mul h1 (by omega)
   omega
  simp only [if_neg hcap]
  obtain ⟨zv, hz1, hz2⟩ := H9 hte w
  have hcut : ∀ t, m + m2 ≤ (Question.appendCap (m + m2) c e).cut t := fun t => by simp [Question.cut]
  let NC := (Question.appendCap (m + m2) c e).cut (w.tape w.drawn (.appendCap (m + m2) c e))
  let w1 : World := { w with drawn := w.drawn + 1 }
  have hch : (choose (.appendCap (m + m2) c e)).run P w = .ok NC w1 := by simp [choose, Sem.run, Question.forced, NC, w1]
  have hNC : m + m2 ≤ NC := hcut _
  rw [Ac hch]
  have hm1 : Mem I (Ch e xs B ++ L) w1 := hm
  have hmL1 : Mem I L w1 := hmL
  obtain ⟨einf1, hein1, _⟩ := Jh hte w1; rw [Ac hein1]
  have hroom : (askRoom (NC * einf1.bytes)).run P w1 = .ok () w1 := by unfold askRoom; split <;> rfl
  rw [Ac hroom]
  have hfx : (Builtin.firstCells esz m (.slice base m c)).run P w1 = .ok xs.toArray w1 := by
   refine Gi hm1 hxl.1 ?_ (fun e => (hbn e).1); intro a ha; obtain ⟨b, sp, rfl, rfl⟩ := hbs a ha; intro ww hw i hi; rw [Lo (hw.2.1 _ (List.mem_append_left _ (List.mem_singleton.2 rfl))).1]
   simp [List.getElem?_append_left hi, hi]
  rw [Ac hfx, Ac (hxf w1 hmL1)]; obtain ⟨zv1, hz1, hz2⟩ := H9 hte w1; rw [Ac hz1]
  refine ⟨{ w1 with heap := w1.heap.push (.cells (xs ++ ys ++ (Builtin.zeroCells zv1.cells (NC - (m + m2))).toList).toArray e (0, 0)) },
   some (w.heap.size, (Builtin.zeroCells zv1.cells (NC - (m + m2))).toList), NC, ?_, by simp, ?_, ?_⟩
  ·have : (xs.toArray ++ ys.toArray ++ Builtin.zeroCells zv1.cells (NC - (m + m2))) = (xs ++ ys ++ (Builtin.zeroCells zv1.cells (NC - (m + m2))).toList).toArray := by
    apply Array.ext'; simp
   rw [this]
   rfl
  ·refine ⟨by simp [hxl.1, hyl, Nat.add_mul], hNC, ?_⟩
   have hzs : zv1.cells.size = esz := by rw [← hez, ← hz2]; simp
   simp [Lm, hzs]
  ·exact hmL1.alloc _

theorem C2 {T T2 e : TypeId} {sz bb esz ebb sz2 bb2 : Nat} {z ez z2 : List Value} {dd dd2 : TypeDesc} [ht : At P T (.slice e) sz bb z] [hte : At P e dd esz ebb ez] [ht2 : At P T2 dd2 sz2 bb2 z2]
  {x y : Operand} {B : Kd} {xs ys : List Value} {m c : Nat} {ad2 : Option Addr} {m2 c2 : Nat} {L₀ : Bl} (hni : ∀ kk, dd2 ≠ .int kk) (hez : ez.length = esz)
  (hx : Ba E x = some (Cb m c B)) (hy : Ba E y = some (.slice ad2 m2 c2)) (hB : Em esz m c xs B) (hL : ∀ w, Mem I L w → Mem I (Ch e xs B ++ L₀) w)
  (hyl : ys.length = m2 * esz) (hyr : ∀ a, ad2 = some a → Gd I L₀ a ys) (hyn : ad2 = none → ys = []) (hyp : ys.all Cx = true) (hm2 : 0 < m2) (hesz : 0 < esz)
  (hsize : (m + m2) ≤ 4294967296) (hbytes : ebb ≤ 1024) (hg : Wants ops E g) (hdn : Nat.blt d n = true)
  (h : ∀ b sp c', Em esz (m + m2) c' (xs ++ ys) (some (b, sp)) → A7 P f n I₀ Q ops l k ((d, .slice (some ⟨b, 0, none⟩) (m + m2) c') :: E) I ((b, .cells (xs ++ ys ++ sp).toArray e (0, 0)) :: L₀)) :
  A7 P f n I₀ Q ops (⟨some d, .call ⟨.builtin .append, #[x, y], #[T, T2]⟩, T, pos, af, g⟩ :: l) k E I L := by
 refine Iq rfl hdn (fun a he => hg.wanted a he) fun a w he hm => ?_
 obtain ⟨w', B', c', hr, hne, hB', hm'⟩ := Mk (x := .slice ad2 m2 c2) ht hte hez ht2.und hni hB (hL w hm) hyl (fun _ => rfl) (fun w hw => Gi hw hyl hyr hyn) hyp hm2 hesz hsize hbytes
 cases B' with
 | none => exact absurd rfl hne
 | some p =>
  obtain ⟨b, sp⟩ := p; refine ⟨_, w', I, _, ?_, hm', h b sp c' hB'⟩
  simp only [execOp, resolve, List.map_toArray, List.map, he.eval hx, he.eval hy, pure_bind, invoke, builtin]
  exact Ac hr |>.trans rfl


/- Tests that split the way, and tests that are decided. -/
theorem EnvOk.shadow {E : G7} {a : Act} {t : Nat} {v : Value} (h : EnvOk E a) (hv : look E t = some v) : EnvOk ((t, v) :: E) a := by
 intro u x hx; rw [E7] at hx
 by_cases e : t = u
 ·subst e; simp at hx; subst hx; exact h _ _ hv
 ·simp [e] at hx; exact h _ _ hx

theorem Ks {c : Operand} {x y : Code} {p : Prop} [Decidable p] (hc : Ba E c = some (.bool (decide p))) (hp : p) (h : RunS P f n I₀ Q (.code x :: k) E I L) : RunS P f n I₀ Q (.code (.cond c x y) :: k) E I L :=
 Bj (by rw [hc, decide_eq_true hp]) h
theorem Lz {c : Operand} {x y : Code} {p : Prop} [Decidable p] (hc : Ba E c = some (.bool (decide p))) (hp : ¬ p) (h : RunS P f n I₀ Q (.code y :: k) E I L) : RunS P f n I₀ Q (.code (.cond c x y) :: k) E I L :=
 Ap (by rw [hc, decide_eq_false hp]) h
theorem Kr {c : Operand} {x y : Code} {p : Prop} [Decidable p] (hc : Ba E c = some (.bool (!decide p))) (hp : ¬ p) (h : RunS P f n I₀ Q (.code x :: k) E I L) : RunS P f n I₀ Q (.code (.cond c x y) :: k) E I L :=
 Bj (by rw [hc, decide_eq_false hp]; rfl) h
theorem Ly {c : Operand} {x y : Code} {p : Prop} [Decidable p] (hc : Ba E c = some (.bool (!decide p))) (hp : p) (h : RunS P f n I₀ Q (.code y :: k) E I L) : RunS P f n I₀ Q (.code (.cond c x y) :: k) E I L :=
 Ap (by rw [hc, decide_eq_true hp]; rfl) h
section guards
variable {od : Option Tmp} {op : Op} {j dj : Nat} {b : Bool}
theorem C3 {t : Nat} {v v' : Value} (ht : look E t = some v) (he : v = v') (h : A7 P f n I₀ Q ops l k ((t, v') :: E) I L) : A7 P f n I₀ Q ops l k E I L := by
 subst he
 exact fun a w ha hd he hm => h a w ha hd (he.shadow ht) hm
theorem Kc {t : Nat} {v v' : Value} {todo : List Item} (ht : look E t = some v) (he : v = v') (h : RunS P f n I₀ Q todo ((t, v') :: E) I L) : RunS P f n I₀ Q todo E I L := by
 subst he
 exact fun a w ha hd he hm => h a w ha hd (he.shadow ht) hm
theorem Ada {p : Prop} [Decidable p] (hdj : (ops[j]?).bind (·.dst) = some dj) (hb : look E dj = some (.bool (decide p))) (hp : p)
  (h : A7 P f n I₀ Q ops (⟨od, op, ty, pos, af, some (j, b)⟩ :: l) k ((dj, .bool true) :: E) I L) : A7 P f n I₀ Q ops (⟨od, op, ty, pos, af, some (j, b)⟩ :: l) k E I L :=
 C3 hb (by rw [decide_eq_true hp]) h
theorem Ac8 {p : Prop} [Decidable p] (hdj : (ops[j]?).bind (·.dst) = some dj) (hb : look E dj = some (.bool (decide p))) (hp : ¬ p)
  (h : A7 P f n I₀ Q ops (⟨od, op, ty, pos, af, some (j, b)⟩ :: l) k ((dj, .bool false) :: E) I L) : A7 P f n I₀ Q ops (⟨od, op, ty, pos, af, some (j, b)⟩ :: l) k E I L :=
 C3 hb (by rw [decide_eq_false hp]) h
theorem Ac9 {p : Prop} [Decidable p] (hdj : (ops[j]?).bind (·.dst) = some dj) (hb : look E dj = some (.bool (!decide p))) (hp : ¬ p)
  (h : A7 P f n I₀ Q ops (⟨od, op, ty, pos, af, some (j, b)⟩ :: l) k ((dj, .bool true) :: E) I L) : A7 P f n I₀ Q ops (⟨od, op, ty, pos, af, some (j, b)⟩ :: l) k E I L :=
 C3 hb (by rw [decide_eq_false hp]; rfl) h
theorem Ac7 {p : Prop} [Decidable p] (hdj : (ops[j]?).bind (·.dst) = some dj) (hb : look E dj = some (.bool (!decide p))) (hp : p)
  (h : A7 P f n I₀ Q ops (⟨od, op, ty, pos, af, some (j, b)⟩ :: l) k ((dj, .bool false) :: E) I L) : A7 P f n I₀ Q ops (⟨od, op, ty, pos, af, some (j, b)⟩ :: l) k E I L :=
 C3 hb (by rw [decide_eq_true hp]; rfl) h
theorem Gb {p : Prop} [Decidable p] (hdj : (ops[j]?).bind (·.dst) = some dj) (hb : look E dj = some (.bool (decide p)))
  (ht : p → A7 P f n I₀ Q ops (⟨od, op, ty, pos, af, some (j, b)⟩ :: l) k ((dj, .bool true) :: E) I L) (hf : ¬ p → A7 P f n I₀ Q ops (⟨od, op, ty, pos, af, some (j, b)⟩ :: l) k ((dj, .bool false) :: E) I L) :
  A7 P f n I₀ Q ops (⟨od, op, ty, pos, af, some (j, b)⟩ :: l) k E I L := by
 by_cases hp : p
 ·exact Ada hdj hb hp (ht hp)
 ·exact Ac8 hdj hb hp (hf hp)
theorem Ev {p : Prop} [Decidable p] (hdj : (ops[j]?).bind (·.dst) = some dj) (hb : look E dj = some (.bool (!decide p)))
  (ht : ¬ p → A7 P f n I₀ Q ops (⟨od, op, ty, pos, af, some (j, b)⟩ :: l) k ((dj, .bool true) :: E) I L) (hf : p → A7 P f n I₀ Q ops (⟨od, op, ty, pos, af, some (j, b)⟩ :: l) k ((dj, .bool false) :: E) I L) :
  A7 P f n I₀ Q ops (⟨od, op, ty, pos, af, some (j, b)⟩ :: l) k E I L := by
 by_cases hp : p
 ·exact Ac7 hdj hb hp (hf hp)
 ·exact Ac9 hdj hb hp (ht hp)
theorem K0 {c : Bool} (hdj : (ops[j]?).bind (·.dst) = some dj) (hb : look E dj = some (.bool c))
  (ht : c = true → A7 P f n I₀ Q ops (⟨od, op, ty, pos, af, some (j, b)⟩ :: l) k ((dj, .bool true) :: E) I L) (hf : c = false → A7 P f n I₀ Q ops (⟨od, op, ty, pos, af, some (j, b)⟩ :: l) k ((dj, .bool false) :: E) I L) :
  A7 P f n I₀ Q ops (⟨od, op, ty, pos, af, some (j, b)⟩ :: l) k E I L := by
 cases c
 ·exact C3 hb rfl (hf rfl)
 ·exact C3 hb rfl (ht rfl)
end guards


theorem Dn {x y : Operand} {s : List UInt8} {i : Nat} {ii : Int} {T : TypeId} {sz bb : Nat} {z : List Value} [ht : At P T .string sz bb z] (hx : Ba E x = some (.string (str s)))
  (hy : Ba E y = some (.int .i64 ii)) (hii : ii = ((i : Nat) : Int)) (hi : i < s.length) (hg : Wants ops E g) (hdn : Nat.blt d n = true)
  (h : A7 P f n I₀ Q ops l k ((d, .int .u8 ((s.getD i 0).toNat : Nat)) :: E) I L) : A7 P f n I₀ Q ops (⟨some d, .index T x y, ty, pos, af, g⟩ :: l) k E I L :=
 U8 hx (hii ▸ hy) (b := s.getD i 0) (by simp [hi]) hg hdn h

theorem Cl {T e : TypeId} {sz bb esz ebb : Nat} {z ez : List Value} {dd : TypeDesc} [ht : At P T (.slice e) sz bb z] [hte : At P e dd esz ebb ez] {x y : Operand} {oa : Option Addr} {ad : Addr} {m c : Nat} {i : Int}
  (hx : Ba E x = some (.slice oa m c)) (hy : Ba E y = some (.int .i64 i)) (i' : Nat) (hi : i = i') (him : i' < m) (hoa : oa = some ad) (hg : Wants ops E g) (hdn : Nat.blt d n = true)
  (h : A7 P f n I₀ Q ops l k ((d, .pointer (some (ad.add (i' * esz)))) :: E) I L) : A7 P f n I₀ Q ops (⟨some d, .indexAddr T x y, ty, pos, af, g⟩ :: l) k E I L :=
 U7 (hoa ▸ hx) hy i' hi him hg hdn h

/- Literals of struct types: each part lies in its place. -/
class Bv (P : Program) (T : TypeId) (places : outParam (List (Nat × Nat))) : Prop where
 get : ∃ fs, P.underlying T = some (.struct fs) ∧ ∀ w, (fs.mapM fun f => do pure (f.offset, ← sizeOf f.type) : Sem (Array (Nat × Nat))).run P w = .ok places.toArray w

def Py (places : List (Nat × Nat)) : List (Nat × Value) → List Value → Option (List Value)
 | [], cs => some cs
 | (i, v) :: r, cs => match places[i]? with
  | some (off, size) => match Fn v with
   | some vs => match Mi off vs cs with
    | some us => bif Nat.beq vs.length size then Py places r us else none
    | none => none
   | none => none
  | none => none
theorem Rf : ∀ (vs : List Value) (off j : Nat) (c : Array Value), off + j + vs.length ≤ c.size →
  ((vs.zipIdx j).foldl (fun (cs : Array Value) (x : Value × Nat) => cs.setIfInBounds (off + x.2) x.1) c).toList = c.toList.take (off + j) ++ vs ++ c.toList.drop (off + j + vs.length) := by
 intro vs
 induction vs with
 | nil => intro off j c h; simp
 | cons v vs ih =>
  intro off j c h
  simp only [List.length_cons] at h
  simp only [List.zipIdx_cons, List.foldl_cons]
  rw [ih off (j + 1) _ (by simp; omega)]
  simp only [Array.toList_setIfInBounds]
  rw [show off + (j + 1) = off + j + 1 by omega, Vi (by simpa using (by omega : off + j < c.size)), List.drop_set_of_lt (by omega)]; rw [show off + j + 1 + vs.length = off + j + (v :: vs).length by simp; omega]
  simp
theorem Ab2 {places : List (Nat × Nat)} : ∀ {ps : List (Nat × Value)} {cs us : List Value}, Py places ps cs = some us → Instr.fill (places.toArray[·]?) cs.toArray ps = some us.toArray := by
 intro ps
 induction ps with
 | nil => intro cs us h; simp [Py] at h; simp [Instr.fill, h]
 | cons p ps ih =>
  obtain ⟨i, v⟩ := p; intro cs us h
  simp only [Py] at h
  split at h
  ·rename_i off size hp
   split at h
   ·rename_i vs hv
    split at h
    ·rename_i us' hu
     cases hb : Nat.beq vs.length size with
     | false => simp [hb] at h
     | true =>
      have hb' := Nat.eq_of_beq_eq_true hb
      simp [hb] at h
      obtain ⟨h1, h2⟩ := Xs hu
      have hvc := Ic hv
      have hf := Rf vs off 0 cs.toArray (by simpa using h1)
      have hc : ((vs.zipIdx 0).foldl (fun (cs : Array Value) (x : Value × Nat) => cs.setIfInBounds (off + x.2) x.1) cs.toArray) = us'.toArray := by
       apply Array.ext'
       rw [hf, h2]; simp
      simp only [Instr.fill, List.getElem?_toArray, hp, hvc]
      rw [if_neg (by simp [hb']; omega)]; rw [← ih h, ← hc, ← Array.foldl_toList, Array.toList_zipIdx]
      simp
    ·simp at h
   ·simp at h
  ·simp at h

theorem Ry {T : TypeId} {places : List (Nat × Nat)} {sz bb : Nat} {z : List Value} {fs : Array Field} [hs : Bv P T places] [ht : At P T (.struct fs) sz bb z] {ps : List (Nat × Value)} {us : List Value}
  (h : Py places ps z = some us) (w : World) : (Instr.build T ps.toArray).run P w = .ok (.agg us.toArray) w := by
 obtain ⟨fs', hf, hp⟩ := hs.get; obtain ⟨v, hv, hz⟩ := H9 ht w
 unfold Instr.build
 rw [Ac hv]; rw [Ac (Bc hf w)]
 simp only []
 rw [Ac (hp w)]
 have hvz : v.cells = z.toArray := by rw [← hz]
 rw [hvz, Ab2 h]; rfl

theorem Eh {S : World → Prop} {T : TypeId} {places : List (Nat × Nat)} {sz bb : Nat} {z : List Value} {fs : Array Field} [hs : Bv P T places] [ht : At P T (.struct fs) sz bb z] {parts : Array (Nat × Operand)} {is : List Nat} {vs us : List Value}
  (hp : parts.toList.map (·.1) = is) (ho : Ho E (parts.toList.map (·.2)) = some vs)
  (hb : Py places (is.zip vs) z = some us) : Gz P E S ⟨some d, .build T parts, ty, pos, af, g⟩ (.agg us.toArray) := fun a w he _ => by
  have h1 : parts.map (fun (i, x) => (i, a.eval x)) = (is.zip vs).toArray := by
   apply Array.ext'
   have := he.evals ho
   rw [← hp, ← this]
   simp [List.zip_map', Function.comp_def]
  simp only [execOp]
  rw [h1]
  exact Ac (Ry hb w) |>.trans rfl
theorem Bn {T : TypeId} {places : List (Nat × Nat)} {sz bb : Nat} {z : List Value} {fs : Array Field} [hs : Bv P T places] [ht : At P T (.struct fs) sz bb z] {parts : Array (Nat × Operand)} {is : List Nat} {vs us : List Value}
  (hp : parts.toList.map (·.1) = is) (ho : Ho E (parts.toList.map (·.2)) = some vs)
  (hb : Py places (is.zip vs) z = some us) (hg : Wants ops E g) (hdn : Nat.blt d n = true)
  (h : A7 P f n I₀ Q ops l k ((d, .agg us.toArray) :: E) I L) : A7 P f n I₀ Q ops (⟨some d, .build T parts, ty, pos, af, g⟩ :: l) k E I L :=
 Acd hp ho (fun w => Ry hb w) hg hdn h

/- '[]T{x, y, ..}'. -/
def Mz : Nat → List Value → Option (List Value)
 | _, [] => some []
 | esz, v :: vs => match Fn v with
  | some cs => match Mz esz vs with
   | some us => bif Nat.beq cs.length esz then some (cs ++ us) else none
   | none => none
  | none => none
theorem Re {esz : Nat} : ∀ {vs us : List Value} (k : Nat) (hd tl : List Value), Mz esz vs = some us → hd.length = k * esz → tl.length = vs.length * esz →
  Instr.fill (fun i => some (i * esz, esz)) (hd ++ tl).toArray ((List.range' k vs.length).zip vs) = some (hd ++ us).toArray := by
 intro vs
 induction vs with
 | nil => intro us k hd tl h hh ht; simp [Mz] at h; subst h; simp at ht; subst ht; simp [Instr.fill]
 | cons v vs ih =>
  intro us k hd tl h hh ht
  simp only [Mz] at h
  split at h
  ·rename_i cs hv
   split at h
   ·rename_i us' hu
    cases hb : Nat.beq cs.length esz with
    | false => simp [hb] at h
    | true =>
     have hb' := Nat.eq_of_beq_eq_true hb
     simp [hb] at h
     subst h
     simp only [List.length_cons, List.range'_succ, List.zip_cons_cons, Instr.fill]
     have hvc := Ic hv
     simp only [List.length_cons, Nat.add_mul, Nat.one_mul] at ht
     rw [hvc, if_neg (by simp [hb', hh]; omega)]
     have hf := Rf cs (k * esz) 0 (hd ++ tl).toArray (by simp; omega)
     have hc : ((cs.zipIdx 0).foldl (fun (c : Array Value) (x : Value × Nat) => c.setIfInBounds (k * esz + x.2) x.1) (hd ++ tl).toArray) = ((hd ++ cs) ++ tl.drop esz).toArray := by
      apply Array.ext'
      rw [hf]
      simp only [List.toList_toArray, Nat.add_zero, ← hh]
      rw [List.take_left', List.drop_append]
      ·simp [List.drop_eq_nil_of_le, hb']
      ·rfl
     have := ih (k + 1) (hd ++ cs) (tl.drop esz) hu (by simp [hh, hb', Nat.add_mul]) (by simp; omega)
     rw [← List.append_assoc hd cs us', ← this, ← hc, ← Array.foldl_toList, Array.toList_zipIdx]
   ·simp at h
  ·simp at h
theorem Adf {T e : TypeId} {parts : Array (Nat × Operand)} {is : List Nat} {vs us : List Value} {m : Nat} {sz bb esz ebb : Nat} {z ez : List Value} {dd : TypeDesc} [ht : At P T (.slice e) sz bb z] [hte : At P e dd esz ebb ez]
  (hp : parts.toList.map (·.1) = is) (ho : Ho E (parts.toList.map (·.2)) = some vs) (hr : is = List.range' 0 vs.length) (hm : vs.length = m) (hfl : Mz esz vs = some us) (hm0 : m * esz ≠ 0) (hm1 : m * esz ≤ 2 ^ 24) (hez : ez.length = esz)
  (hg : Wants ops E g) (hdn : Nat.blt d n = true)
  (h : ∀ b, A7 P f n I₀ Q ops l k ((d, .slice (some ⟨b, 0, none⟩) m m) :: E) I ((b, .cells us.toArray e (0, 0)) :: L)) :
  A7 P f n I₀ Q ops (⟨some d, .buildSlice T m parts, ty, pos, af, g⟩ :: l) k E I L := by
 refine Ta hp ho hm0 hm1 ?_ hg hdn h; rw [hr]
 have := Re (esz := esz) 0 [] (((Array.range (m * esz)).map (ez.toArray[· % ez.toArray.size]!)).toList) hfl (by simp) (by simp [hm])
 rw [List.nil_append, List.nil_append, Array.toArray_toList] at this
 exact this

/- Where two ways meet again. -/
def P1 : Nat → G7 → Bool
 | 0, _ => true
 | _ + 1, [] => true
 | m + 1, (x, _) :: E => (match look (E.drop m) x with | none => true | some _ => false) && P1 m E
theorem Rh : ∀ (m : Nat) (E : G7), P1 m E = true → ∀ t v, look (E.drop m) t = some v → look E t = some v := by
 intro m
 induction m with
 | zero => intro E _ t v h; simpa using h
 | succ m ih =>
  intro E hf t v h
  cases E with
  | nil => simp [look] at h
  | cons p E =>
   simp only [P1, Bool.and_eq_true] at hf
   have h1 := ih E hf.2 t v (by simpa using h)
   rw [E7]
   by_cases e : p.1 = t
   ·rw [List.drop_succ_cons] at h
    have h2 := hf.1
    rw [e, h] at h2; cases h2
   ·rw [if_neg e]; exact h1
theorem Bb (m : Nat) {v : Value} {E' : G7} (hE : E.drop m = E') (hf : P1 m E = true) (hk : A7 P f n I₀ Q ops l k ((d, v) :: E') I L) : A7 P f n I₀ Q ops l k ((d, v) :: E) I L := by
 subst hE; refine fun a w ha hd he hm => hk a w ha hd (fun t u hu => he t u ?_) hm
 rw [E7] at hu ⊢
 by_cases e : d = t
 ·rwa [if_pos e] at hu ⊢
 ·rw [if_neg e] at hu ⊢; exact Rh m E hf t u hu
def O4 (ops : Array Oper) (n : Nat) : Nat → List Oper → G7 → Option (List Oper × G7)
 | 0, l, E => some (l, E)
 | m + 1, ⟨some d, _, _, _, _, some (j, b)⟩ :: l, E => match (ops[j]?).bind (·.dst) with
  | some dj => match look E dj with
   | some (.bool b') => bif (Bool.xor b' b) && Nat.blt d n then O4 ops n m l ((d, undef) :: E) else none
   | some (.tuple a) => bif a.isEmpty && Nat.blt d n then O4 ops n m l ((d, undef) :: E) else none
   | _ => none
  | none => none
 | _ + 1, _, _ => none
theorem Bm (m : Nat) {l' : List Oper} {E' : G7} (h : O4 ops n m l E = some (l', E')) (hk : A7 P f n I₀ Q ops l' k E' I L) : A7 P f n I₀ Q ops l k E I L := by
 induction m generalizing l E with
 | zero => simp only [O4, Option.some.injEq, Prod.mk.injEq] at h; obtain ⟨rfl, rfl⟩ := h; exact hk
 | succ m ih =>
  cases l with
  | nil => simp [O4] at h
  | cons o l =>
   obtain ⟨dst, op, ty, pos, af, g⟩ := o
   cases dst with
   | none => simp [O4] at h
   | some d =>
    cases g with
    | none => simp [O4] at h
    | some g =>
     obtain ⟨j, b⟩ := g
     simp only [O4] at h
     cases hdj : (ops[j]?).bind (·.dst) with
     | none => rw [hdj] at h; cases h
     | some dj =>
      rw [hdj] at h
      simp only at h
      split at h
      ·rename_i b' hl
       cases hx : ((Bool.xor b' b) && Nat.blt d n) with
       | false => rw [hx] at h; cases h
       | true =>
        rw [hx] at h
        simp only [Bool.and_eq_true] at hx
        have e : b' = !b := by have := hx.1; revert this; cases b' <;> cases b <;> decide
        subst e
        exact Ci hdj hl hx.2 (ih h)
      ·rename_i a hl
       cases hx : (a.isEmpty && Nat.blt d n) with
       | false => rw [hx] at h; cases h
       | true =>
        rw [hx] at h
        simp only [Bool.and_eq_true] at hx
        have e : a = #[] := by have := hx.1; simpa using this
        subst e
        exact Kl hdj hl hx.2 (ih h)
      ·cases h
theorem Td {c dd : Nat} {b : Bool} {v : Value} {l' : List Oper} (hc : look E c = some (.bool b)) (hk : A7 P f n I₀ Q ops l' k ((dd, v) :: E) I L) : A7 P f n I₀ Q ops l' k ((dd, v) :: (c, .bool b) :: E) I L := by
 refine fun a w ha hd he hm => hk a w ha hd (fun t u hu => he t u ?_) hm
 rw [E7] at hu ⊢
 by_cases e : dd = t
 ·rwa [if_pos e] at hu ⊢
 ·rw [if_neg e] at hu ⊢; rw [E7]
  by_cases e' : c = t
  ·subst e'; rw [if_pos rfl, ← hc, hu]
  ·rwa [if_neg e']
theorem Tf {c : Nat} {b : Bool} (hc : look E c = some (.bool b)) (h : A7 P f n I₀ Q ops l k ((c, .bool b) :: E) I L) : A7 P f n I₀ Q ops l k E I L := by
 refine fun a w ha hd he hm => h a w ha hd (fun t u hu => ?_) hm
 rw [E7] at hu
 by_cases e : c = t
 ·subst e; rw [if_pos rfl] at hu; exact he _ _ (hc.trans hu)
 ·rw [if_neg e] at hu; exact he _ _ hu
theorem Ee (c dd : Nat) {b q : Bool} {l' : List Oper} (hc : look E c = some (.bool b))
  (hT : b = true → A7 P f n I₀ Q ops l' k ((dd, .bool q) :: (c, .bool true) :: E) I L → A7 P f n I₀ Q ops l k ((c, .bool true) :: E) I L)
  (hF : b = false → A7 P f n I₀ Q ops l' k ((dd, .bool false) :: (c, .bool false) :: E) I L → A7 P f n I₀ Q ops l k ((c, .bool false) :: E) I L)
  (hk : A7 P f n I₀ Q ops l' k ((dd, .bool (b && q)) :: E) I L) : A7 P f n I₀ Q ops l k E I L := by
 cases b with
 | true => exact Tf hc (hT rfl (Td hc hk))
 | false => exact Tf hc (hF rfl (Td hc hk))
theorem G4 (c dd : Nat) {b q : Bool} {l' : List Oper} (hc : look E c = some (.bool b))
  (hF : b = false → A7 P f n I₀ Q ops l' k ((dd, .bool q) :: (c, .bool false) :: E) I L → A7 P f n I₀ Q ops l k ((c, .bool false) :: E) I L)
  (hT : b = true → A7 P f n I₀ Q ops l' k ((dd, .bool true) :: (c, .bool true) :: E) I L → A7 P f n I₀ Q ops l k ((c, .bool true) :: E) I L)
  (hk : A7 P f n I₀ Q ops l' k ((dd, .bool (b || q)) :: E) I L) : A7 P f n I₀ Q ops l k E I L := by
 cases b with
 | true => exact Tf hc (hT rfl (Td hc hk))
 | false => exact Tf hc (hF rfl (Td hc hk))

/- The same in a region that draws its order. -/
theorem Fx {S : World → Prop} {fuel : Nat} {listed : Array Bool} (m : Nat) {v : Value} {E' : G7} (hE : E.drop m = E') (hf : P1 m E = true) (hk : Ct P f n I₀ Q ops S fuel listed k ((d, v) :: E') I L) : Ct P f n I₀ Q ops S fuel listed k ((d, v) :: E) I L := by
 subst hE; refine fun a w ha hd he hm => hk a w ha hd (fun t u hu => he t u ?_) hm
 rw [E7] at hu ⊢
 by_cases e : d = t
 ·rwa [if_pos e] at hu ⊢
 ·rw [if_neg e] at hu ⊢; exact Rh m E hf t u hu
theorem Sl {S : World → Prop} {fuel : Nat} {listed : Array Bool} {c dd : Nat} {b : Bool} {v : Value} (hc : look E c = some (.bool b)) (hk : Ct P f n I₀ Q ops S fuel listed k ((dd, v) :: E) I L) : Ct P f n I₀ Q ops S fuel listed k ((dd, v) :: (c, .bool b) :: E) I L := by
 refine fun a w ha hd he hm => hk a w ha hd (fun t u hu => he t u ?_) hm
 rw [E7] at hu ⊢
 by_cases e : dd = t
 ·rwa [if_pos e] at hu ⊢
 ·rw [if_neg e] at hu ⊢; rw [E7]
  by_cases e' : c = t
  ·subst e'; rw [if_pos rfl, ← hc, hu]
  ·rwa [if_neg e']
theorem Sm {S : World → Prop} {fuel : Nat} {listed : Array Bool} {c : Nat} {b : Bool} (hc : look E c = some (.bool b)) (h : Ct P f n I₀ Q ops S fuel listed k ((c, .bool b) :: E) I L) : Ct P f n I₀ Q ops S fuel listed k E I L := by
 refine fun a w ha hd he hm => h a w ha hd (fun t u hu => ?_) hm
 rw [E7] at hu
 by_cases e : c = t
 ·subst e; rw [if_pos rfl] at hu; exact he _ _ (hc.trans hu)
 ·rw [if_neg e] at hu; exact he _ _ hu
theorem Mq {S : World → Prop} {fuel fuel' : Nat} {listed listed' : Array Bool} (c dd : Nat) {b q : Bool} (hc : look E c = some (.bool b))
  (hT : b = true → Ct P f n I₀ Q ops S fuel' listed' k ((dd, .bool q) :: (c, .bool true) :: E) I L → Ct P f n I₀ Q ops S fuel listed k ((c, .bool true) :: E) I L)
  (hF : b = false → Ct P f n I₀ Q ops S fuel' listed' k ((dd, .bool false) :: (c, .bool false) :: E) I L → Ct P f n I₀ Q ops S fuel listed k ((c, .bool false) :: E) I L)
  (hk : Ct P f n I₀ Q ops S fuel' listed' k ((dd, .bool (b && q)) :: E) I L) : Ct P f n I₀ Q ops S fuel listed k E I L := by
 cases b with
 | true => exact Sm hc (hT rfl (Sl hc hk))
 | false => exact Sm hc (hF rfl (Sl hc hk))
theorem Abx {S : World → Prop} {fuel fuel' : Nat} {listed listed' : Array Bool} (c dd : Nat) {b q : Bool} (hc : look E c = some (.bool b))
  (hF : b = false → Ct P f n I₀ Q ops S fuel' listed' k ((dd, .bool q) :: (c, .bool false) :: E) I L → Ct P f n I₀ Q ops S fuel listed k ((c, .bool false) :: E) I L)
  (hT : b = true → Ct P f n I₀ Q ops S fuel' listed' k ((dd, .bool true) :: (c, .bool true) :: E) I L → Ct P f n I₀ Q ops S fuel listed k ((c, .bool true) :: E) I L)
  (hk : Ct P f n I₀ Q ops S fuel' listed' k ((dd, .bool (b || q)) :: E) I L) : Ct P f n I₀ Q ops S fuel listed k E I L := by
 cases b with
 | true => exact Sm hc (hT rfl (Sl hc hk))
 | false => exact Sm hc (hF rfl (Sl hc hk))

end rules

def D2 (v : Value) (I : Heap) (L : Bl) : C1 := fun u I' L' => v = u ∧ I = I' ∧ L = L'
theorem X2 {I I₀ : Heap} {L L₀ : Bl} {v u : Value} (hI : I = I₀) (hm : ∀ w, Mem I L w → Mem I₀ L₀ w) (h : v = u) : ∃ I' L', HLe I₀ I' ∧ (∀ w, Mem I L w → Mem I' L' w) ∧ D2 u I₀ L₀ v I' L' := by
 subst hI; exact ⟨I, L₀, .refl _, hm, h.symm, rfl, rfl⟩

section
variable {P : Program} {E : G7} {I : Heap} {L : Bl}
/- The same, with what is asked looked for. -/
theorem RetOk.c {t T : Nat} {a : Addr} {v : Value} {rs : List ResultVar} {vs : List Value} (h : look E t = some (.pointer (some a))) (r : RetOk P E I L rs vs)
  (hl : Ft P I L T a v := by first | exact Bf (by assumption) rfl | exact G3 (by repeat first | exact .head _ | apply List.Mem.tail | apply List.mem_append_right) (by rfl) | exact Fq (by repeat first | exact .head _ | apply List.Mem.tail | apply List.mem_append_right) (by rfl) rfl | exact Ea (by assumption) (by rfl) | exact Bp (by assumption) (by rfl) rfl) : RetOk P E I L (.cell t T :: rs) (v :: vs) := .cell h hl r
theorem Ay {I' : Heap} {L' : Bl} (hm : ∀ w, Mem I L w → Mem I' L' w := by intro _ h; first | exact h | exact dr1 h | exact dr2 h | exact dr3 h | exact dr4 h | exact dr5 h | exact L6 h | exact L6 h.drop | exact L6 h.drop.drop | exact L6 h.drop.drop.drop) : ∀ w, Mem I L w → Mem I' L' w := hm
theorem only {I₀ : Heap} {L₀ : Bl} {v u : Value} (hI : I = I₀) (h : v = u) (hm : ∀ w, Mem I L w → Mem I₀ L₀ w := by intro _ h; first | exact h | exact dr1 h | exact dr2 h | exact dr3 h | exact dr4 h | exact dr5 h | exact L6 h | exact L6 h.drop | exact L6 h.drop.drop | exact L6 h.drop.drop.drop) : ∃ I' L', HLe I₀ I' ∧ (∀ w, Mem I L w → Mem I' L' w) ∧ D2 u I₀ L₀ v I' L' := X2 hI hm h
end
/- The same rules, with what is asked of memory looked for. -/
section rules
variable {P : Program} {f : FuncId} {n : Nat} {I₀ : Heap} {Q : C1} {k : List Item} {E : G7} {I : Heap} {L : Bl}
variable {ops : Array Oper} {d : Nat} {ty : TypeId} {pos : String} {af : Array Edge} {g : Option (Nat × Bool)} {l : List Oper}
theorem Bx {I' : Heap} {L' : Bl} {T : TypeId} {x : Operand} {ad : Addr} {v : Value} (hx : Ba E x = some (.pointer (some ad))) (hl : Ft P I' L' T ad v := by exact (G3 (by repeat first | exact .head _ | apply List.Mem.tail | apply List.mem_append_right) (by rfl))) : Gz P E (Mem I' L') ⟨some d, .load T x, ty, pos, af, g⟩ v := Fo hx hl
theorem Az {T : TypeId} {x : Operand} {ad : Addr} {v : Value} (hx : Ba E x = some (.pointer (some ad))) (hg : Wants ops E g) (hdn : Nat.blt d n = true) (h : A7 P f n I₀ Q ops l k ((d, v) :: E) I L) (hl : Ft P I L T ad v := by exact (G3 (by repeat first | exact .head _ | apply List.Mem.tail | apply List.mem_append_right) (by rfl))) : A7 P f n I₀ Q ops (⟨some d, .load T x, ty, pos, af, g⟩ :: l) k E I L := Dd hx hl hg hdn h
theorem Bd {I' : Heap} {L' : Bl} {T : TypeId} {x : Operand} {ad : Addr} {v : Value} (hx : Ba E x = some (.pointer (some ad))) (hl : Ft P I' L' T ad v := by exact (Fq (by repeat first | exact .head _ | apply List.Mem.tail | apply List.mem_append_right) (by rfl) rfl)) : Gz P E (Mem I' L') ⟨some d, .load T x, ty, pos, af, g⟩ v := Fo hx hl
theorem A6 {T : TypeId} {x : Operand} {ad : Addr} {v : Value} (hx : Ba E x = some (.pointer (some ad))) (hg : Wants ops E g) (hdn : Nat.blt d n = true) (h : A7 P f n I₀ Q ops l k ((d, v) :: E) I L) (hl : Ft P I L T ad v := by exact (Fq (by repeat first | exact .head _ | apply List.Mem.tail | apply List.mem_append_right) (by rfl) rfl)) : A7 P f n I₀ Q ops (⟨some d, .load T x, ty, pos, af, g⟩ :: l) k E I L := Dd hx hl hg hdn h
theorem A8 {I' : Heap} {L' : Bl} {T : TypeId} {x : Operand} {ad : Addr} {v : Value} (hx : Ba E x = some (.pointer (some ad))) (hl : Ft P I' L' T ad v := by first | exact Ea (FormAt.st (by assumption) _ (by first | omega | decide | (simp; done) | exact Cg (by assumption) (by decide))) (by rfl) | exact Ea (by assumption) (by rfl) | exact U0 (Hz (by assumption) (by intro _ h; first | exact h | exact dr1 h | exact dr2 h | exact dr3 h | exact dr4 h | exact dr5 h | exact L6 h | exact L6 h.drop | exact L6 h.drop.drop | exact L6 h.drop.drop.drop)) (by rfl)) : Gz P E (Mem I' L') ⟨some d, .load T x, ty, pos, af, g⟩ v := Fo hx hl
theorem Du {T : TypeId} {x : Operand} {ad : Addr} {v : Value} (hx : Ba E x = some (.pointer (some ad))) (hg : Wants ops E g) (hdn : Nat.blt d n = true) (h : A7 P f n I₀ Q ops l k ((d, v) :: E) I L) (hl : Ft P I L T ad v := by first | exact Ea (FormAt.st (by assumption) _ (by first | omega | decide | (simp; done) | exact Cg (by assumption) (by decide))) (by rfl) | exact Ea (by assumption) (by rfl) | exact U0 (Hz (by assumption) (by intro _ h; first | exact h | exact dr1 h | exact dr2 h | exact dr3 h | exact dr4 h | exact dr5 h | exact L6 h | exact L6 h.drop | exact L6 h.drop.drop | exact L6 h.drop.drop.drop)) (by rfl)) : A7 P f n I₀ Q ops (⟨some d, .load T x, ty, pos, af, g⟩ :: l) k E I L := Dd hx hl hg hdn h
theorem Gl {I' : Heap} {L' : Bl} {T : TypeId} {x : Operand} {ad : Addr} {v : Value} (hx : Ba E x = some (.pointer (some ad))) (hl : Ft P I' L' T ad v := by first | exact E2 rfl (RStrs.st (by assumption) _ (by first | omega | decide | (simp; done) | exact Cg (by assumption) (by decide))) | exact E2 rfl (Hz (RStrs.st (by assumption) _ (by first | omega | decide | (simp; done) | exact Cg (by assumption) (by decide))) (by intro _ h; first | exact h | exact dr1 h | exact dr2 h | exact dr3 h | exact dr4 h | exact dr5 h | exact L6 h | exact L6 h.drop | exact L6 h.drop.drop | exact L6 h.drop.drop.drop)) | exact Bf (Nums.st (by assumption) _ (by first | omega | decide | (simp; done) | exact Cg (by assumption) (by decide))) rfl | exact Bf (Strs.st (by assumption) _ (by first | omega | decide | (simp; done) | exact Cg (by assumption) (by decide))) rfl | exact Bf (Raw.st (by assumption) _ (by first | omega | decide | (simp; done) | exact Cg (by assumption) (by decide))) rfl | exact Bf (by assumption) rfl | exact E2 rfl (by assumption)) : Gz P E (Mem I' L') ⟨some d, .load T x, ty, pos, af, g⟩ v := Fo hx hl
theorem Ej {T : TypeId} {x : Operand} {ad : Addr} {v : Value} (hx : Ba E x = some (.pointer (some ad))) (hg : Wants ops E g) (hdn : Nat.blt d n = true) (h : A7 P f n I₀ Q ops l k ((d, v) :: E) I L) (hl : Ft P I L T ad v := by first | exact E2 rfl (RStrs.st (by assumption) _ (by first | omega | decide | (simp; done) | exact Cg (by assumption) (by decide))) | exact E2 rfl (Hz (RStrs.st (by assumption) _ (by first | omega | decide | (simp; done) | exact Cg (by assumption) (by decide))) (by intro _ h; first | exact h | exact dr1 h | exact dr2 h | exact dr3 h | exact dr4 h | exact dr5 h | exact L6 h | exact L6 h.drop | exact L6 h.drop.drop | exact L6 h.drop.drop.drop)) | exact Bf (Nums.st (by assumption) _ (by first | omega | decide | (simp; done) | exact Cg (by assumption) (by decide))) rfl | exact Bf (Strs.st (by assumption) _ (by first | omega | decide | (simp; done) | exact Cg (by assumption) (by decide))) rfl | exact Bf (Raw.st (by assumption) _ (by first | omega | decide | (simp; done) | exact Cg (by assumption) (by decide))) rfl | exact Bf (by assumption) rfl | exact E2 rfl (by assumption)) : A7 P f n I₀ Q ops (⟨some d, .load T x, ty, pos, af, g⟩ :: l) k E I L := Dd hx hl hg hdn h
theorem Hd {I' : Heap} {L' : Bl} {T : TypeId} {x : Operand} {ad : Addr} {v : Value} (hx : Ba E x = some (.pointer (some ad))) (hl : Ft P I' L' T ad v := by first | exact Bp (FormAt.st (by assumption) _ (by first | omega | decide | (simp; done) | exact Cg (by assumption) (by decide))) (by rfl) rfl | exact Bp (by assumption) (by rfl) rfl | exact Ro (Hz (by assumption) (by intro _ h; first | exact h | exact dr1 h | exact dr2 h | exact dr3 h | exact dr4 h | exact dr5 h | exact L6 h | exact L6 h.drop | exact L6 h.drop.drop | exact L6 h.drop.drop.drop)) (by rfl) rfl) : Gz P E (Mem I' L') ⟨some d, .load T x, ty, pos, af, g⟩ v := Fo hx hl
theorem Dk {T : TypeId} {x : Operand} {ad : Addr} {v : Value} (hx : Ba E x = some (.pointer (some ad))) (hg : Wants ops E g) (hdn : Nat.blt d n = true) (h : A7 P f n I₀ Q ops l k ((d, v) :: E) I L) (hl : Ft P I L T ad v := by first | exact Bp (FormAt.st (by assumption) _ (by first | omega | decide | (simp; done) | exact Cg (by assumption) (by decide))) (by rfl) rfl | exact Bp (by assumption) (by rfl) rfl | exact Ro (Hz (by assumption) (by intro _ h; first | exact h | exact dr1 h | exact dr2 h | exact dr3 h | exact dr4 h | exact dr5 h | exact L6 h | exact L6 h.drop | exact L6 h.drop.drop | exact L6 h.drop.drop.drop)) (by rfl) rfl) : A7 P f n I₀ Q ops (⟨some d, .load T x, ty, pos, af, g⟩ :: l) k E I L := Dd hx hl hg hdn h
theorem Vy {I' : Heap} {L' : Bl} {T : TypeId} {x : Operand} {ad : Addr} {v : Value} (hx : Ba E x = some (.pointer (some ad))) (hl : Ft P I' L' T ad v := by first | exact Fq (by repeat first | exact .head _ | apply List.Mem.tail | apply List.mem_append_right) (by rfl) rfl | exact G3 (by repeat first | exact .head _ | apply List.Mem.tail | apply List.mem_append_right) (by rfl) | exact Ea (FormAt.st (by assumption) _ (by omega)) (by rfl) | exact Bp (FormAt.st (by assumption) _ (by omega)) (by rfl) rfl | exact Bf (Nums.st (by assumption) _ (by omega)) rfl | exact Bf (Strs.st (by assumption) _ (by omega)) rfl | exact Bf (by assumption) rfl | exact Ea (by assumption) (by rfl) | exact Bp (by assumption) (by rfl) rfl) : Gz P E (Mem I' L') ⟨some d, .load T x, ty, pos, af, g⟩ v := Fo hx hl
theorem Nx {T : TypeId} {x : Operand} {ad : Addr} {v : Value} (hx : Ba E x = some (.pointer (some ad))) (hg : Wants ops E g) (hdn : Nat.blt d n = true) (h : A7 P f n I₀ Q ops l k ((d, v) :: E) I L) (hl : Ft P I L T ad v := by first | exact Fq (by repeat first | exact .head _ | apply List.Mem.tail | apply List.mem_append_right) (by rfl) rfl | exact G3 (by repeat first | exact .head _ | apply List.Mem.tail | apply List.mem_append_right) (by rfl) | exact Ea (FormAt.st (by assumption) _ (by omega)) (by rfl) | exact Bp (FormAt.st (by assumption) _ (by omega)) (by rfl) rfl | exact Bf (Nums.st (by assumption) _ (by omega)) rfl | exact Bf (Strs.st (by assumption) _ (by omega)) rfl | exact Bf (by assumption) rfl | exact Ea (by assumption) (by rfl) | exact Bp (by assumption) (by rfl) rfl) : A7 P f n I₀ Q ops (⟨some d, .load T x, ty, pos, af, g⟩ :: l) k E I L := Dd hx hl hg hdn h
theorem Mm {I' : Heap} {L' : Bl} {T : TypeId} {x : Operand} {ad : Addr} {v : Value} (hx : Ba E x = some (.pointer (some ad))) (hl : Ft P I' L' T ad v := by first | exact Bf (by assumption) rfl | exact G3 (by repeat first | exact .head _ | apply List.Mem.tail | apply List.mem_append_right) (by rfl) | exact Fq (by repeat first | exact .head _ | apply List.Mem.tail | apply List.mem_append_right) (by rfl) rfl | exact Ea (by assumption) (by rfl) | exact Bp (by assumption) (by rfl) rfl) : Gz P E (Mem I' L') ⟨some d, .load T x, ty, pos, af, g⟩ v := Fo hx hl
theorem Cs {T : TypeId} {x : Operand} {ad : Addr} {v : Value} (hx : Ba E x = some (.pointer (some ad))) (hg : Wants ops E g) (hdn : Nat.blt d n = true) (h : A7 P f n I₀ Q ops l k ((d, v) :: E) I L) (hl : Ft P I L T ad v := by first | exact Bf (by assumption) rfl | exact G3 (by repeat first | exact .head _ | apply List.Mem.tail | apply List.mem_append_right) (by rfl) | exact Fq (by repeat first | exact .head _ | apply List.Mem.tail | apply List.mem_append_right) (by rfl) rfl | exact Ea (by assumption) (by rfl) | exact Bp (by assumption) (by rfl) rfl) : A7 P f n I₀ Q ops (⟨some d, .load T x, ty, pos, af, g⟩ :: l) k E I L := Dd hx hl hg hdn h
theorem Bk {T U : TypeId} {x y : Operand} {b off : Nat} {v : Value} {vs cs us : List Value} {L' : Bl} {dd : TypeDesc} {sz bb : Nat} {z : List Value} [ht : At P T dd sz bb z]
  (hx : Ba E x = some (.pointer (some ⟨b, off, none⟩))) (hy : Ba E y = some v) (hv : Fn v = some vs) (hl : vs.length = sz) (hg : Wants ops E g) (h : A7 P f n I₀ Q ops l k E I L')
  (hp : vs.all Cx = true := by first | rfl | (simp only [List.toList_toArray, List.all_cons, List.all_nil, Gw, Bool.and_true, Bool.true_and] <;> rfl)) (hu : Upd b (.cells us.toArray U (0, 0)) (.cells cs.toArray U (0, 0)) L L' := by first | exact u0 | exact u1 | exact u2 | exact u3 | exact u4 | exact u5 | exact u6) (hus : Mi off vs cs = some us := by rfl) : A7 P f n I₀ Q ops (⟨none, .store T x y, ty, pos, af, g⟩ :: l) k E I L := Tg hx hy hv hl hp hu hus hg h
theorem Aek {S : World → Prop} {fuel : Nat} {listed listed' : Array Bool} (i : Nat) {T U : TypeId} {x y : Operand} {b off : Nat} {v : Value} {vs cs us : List Value} {L' : Bl} {dd : TypeDesc} {sz bb : Nat} {z : List Value} [ht : At P T dd sz bb z]
  (hi : ops[i]? = some ⟨none, .store T x y, ty, pos, af, g⟩) (hc : decide (Region.ready .any ops listed = [i]) = true) (hl' : listed' = listed.setIfInBounds i true)
  (hx : Ba E x = some (.pointer (some ⟨b, off, none⟩))) (hy : Ba E y = some v) (hv : Fn v = some vs) (hl : vs.length = sz) (hg : Wants ops E g) (hS : Fe ops listed' = true ∨ ∀ w, Mem I L' w → S w) (h : Ct P f n I₀ Q ops S fuel listed' k E I L')
  (hp : vs.all Cx = true := by first | rfl | (simp only [List.toList_toArray, List.all_cons, List.all_nil, Gw, Bool.and_true, Bool.true_and] <;> rfl)) (hu : Upd b (.cells us.toArray U (0, 0)) (.cells cs.toArray U (0, 0)) L L' := by first | exact u0 | exact u1 | exact u2 | exact u3 | exact u4 | exact u5 | exact u6) (hus : Mi off vs cs = some us := by rfl) : Ct P f n I₀ Q ops S (fuel + 1) listed k E I L := Xi i hi hc hl' hx hy hv hl hp hu hus hg hS h
theorem nb : (∀ a b : Bool, ((a && b) = true) = (a = true ∧ b = true)) ∧ (∀ a b : Bool, ((a || b) = true) = (a = true ∨ b = true)) ∧ (∀ a : Bool, ((!a) = true) = (a = false)) ∧ (∀ a : Bool, ((!a) = false) = (a = true)) ∧ (∀ a b : Bool, ((a && b) = false) = (a = false ∨ b = false)) ∧ (∀ a b : Bool, ((a || b) = false) = (a = false ∧ b = false)) ∧ (∀ (p : Prop) [Decidable p], (decide p = true) = p) ∧ (∀ (p : Prop) [Decidable p], (decide p = false) = ¬ p) := by
 exact ⟨fun a b => by cases a <;> cases b <;> simp, fun a b => by cases a <;> cases b <;> simp, fun a => by cases a <;> simp, fun a => by cases a <;> simp, fun a b => by cases a <;> cases b <;> simp, fun a b => by cases a <;> cases b <;> simp, fun p _ => by simp, fun p _ => by simp⟩
end rules

section
variable {P : Program} {f : FuncId} {n : Nat} {I₀ : Heap} {Q : C1} {k : List Item} {E : G7} {I : Heap} {L : Bl} {ops : Array Oper} {d : Nat} {ty : TypeId} {pos : String} {af : Array Edge} {l : List Oper}
theorem Oc {op : BinOp} {T T' : TypeId} {x y : Operand} {kk : IntKind} {a b : Int} {r : Bool} (hx : Ba E x = some (.int kk a)) (hy : Ba E y = some (.int kk b)) (hr : Pp op a b = some r) (h : A7 P f n I₀ Q ops l k ((d, .bool r) :: E) I L) (hdn : Nat.blt d n = true := by rfl) : A7 P f n I₀ Q ops (⟨some d, .binOp op T x y T', ty, pos, af, none⟩ :: l) k E I L := Dr hx hy hr .free hdn h
theorem Od {op : BinOp} {T T' : TypeId} {x y : Operand} {a b : List UInt8} {r : Bool} (hx : Ba E x = some (.string (str a))) (hy : Ba E y = some (.string (str b))) (hr : Sh op a b = some r) (h : A7 P f n I₀ Q ops l k ((d, .bool r) :: E) I L) (hdn : Nat.blt d n = true := by rfl) : A7 P f n I₀ Q ops (⟨some d, .binOp op T x y T', ty, pos, af, none⟩ :: l) k E I L := Hw hx hy hr .free hdn h
theorem Of {c x y : Operand} {v : Value} (hc : Ba E c = some (.bool false)) (hx : Ba E y = some v) (h : A7 P f n I₀ Q ops l k ((d, v) :: E) I L) (hdn : Nat.blt d n = true := by rfl) : A7 P f n I₀ Q ops (⟨some d, .pick c x y, ty, pos, af, none⟩ :: l) k E I L := E4 hc hx .free hdn h
theorem Ot {c x y : Operand} {v : Value} (hc : Ba E c = some (.bool true)) (hx : Ba E x = some v) (h : A7 P f n I₀ Q ops l k ((d, v) :: E) I L) (hdn : Nat.blt d n = true := by rfl) : A7 P f n I₀ Q ops (⟨some d, .pick c x y, ty, pos, af, none⟩ :: l) k E I L := Fp hc hx .free hdn h
theorem Oe {x : Operand} {vs : List Value} {i : Nat} {v : Value} (hx : Ba E x = some (.tuple vs.toArray)) (hi : vs[i]? = some v) (h : A7 P f n I₀ Q ops l k ((d, v) :: E) I L) (hdn : Nat.blt d n = true := by rfl) : A7 P f n I₀ Q ops (⟨some d, .extract x i, ty, pos, af, none⟩ :: l) k E I L := Y3 hx hi .free hdn h
theorem Or {op : BinOp} {T T' : TypeId} {x y : Operand} {a b m : Int} (hx : Ba E x = some (.int .i64 a)) (hy : Ba E y = some (.int .i64 b)) (hr : Xe op a b = some m) (h : A7 P f n I₀ Q ops l k ((d, .int .i64 m) :: E) I L) (hb : -9223372036854775808 ≤ m ∧ m ≤ 9223372036854775807 := by omega) (hdn : Nat.blt d n = true := by rfl) : A7 P f n I₀ Q ops (⟨some d, .binOp op T x y T', ty, pos, af, none⟩ :: l) k E I L := Jg hx hy hr hb .free hdn h
theorem Ok {T T' : TypeId} {x y : Operand} {a b : List UInt8} (hx : Ba E x = some (.string (str a))) (hy : Ba E y = some (.string (str b))) (h : A7 P f n I₀ Q ops l k ((d, .string (str (a ++ b))) :: E) I L) (hb : a.length + b.length ≤ 9223372036854775807 := by first | omega | (simp only [List.length_append, List.length_cons, List.length_nil]; omega) | (simp; omega)) (hdn : Nat.blt d n = true := by rfl) : A7 P f n I₀ Q ops (⟨some d, .binOp .add T x y T', ty, pos, af, none⟩ :: l) k E I L := Aa6 hx hy hb .free hdn h
theorem Ol {T e : TypeId} {parts : Array (Nat × Operand)} {is : List Nat} {vs us : List Value} {m : Nat} {sz bb esz ebb : Nat} {z ez : List Value} {dd : TypeDesc} [ht : At P T (.slice e) sz bb z] [hte : At P e dd esz ebb ez] (hp : parts.toList.map (·.1) = is) (ho : Ho E (parts.toList.map (·.2)) = some vs)
  (h : ∀ b, A7 P f n I₀ Q ops l k ((d, .slice (some ⟨b, 0, none⟩) m m) :: E) I ((b, .cells us.toArray e (0, 0)) :: L)) (hr : is = List.range' 0 vs.length := by rfl) (hm : vs.length = m := by rfl) (hfl : Mz esz vs = some us := by rfl) (hm0 : m * esz ≠ 0 := by decide) (hm1 : m * esz ≤ 2 ^ 24 := by decide) (hez : ez.length = esz := by rfl) (hdn : Nat.blt d n = true := by rfl) :
  A7 P f n I₀ Q ops (⟨some d, .buildSlice T m parts, ty, pos, af, none⟩ :: l) k E I L := Adf hp ho hr hm hfl hm0 hm1 hez .free hdn h
theorem On {x : Operand} {ad : Option Addr} {m c : Nat} {e T : TypeId} {sz bb : Nat} {z : List Value} [ht : At P T (.slice e) sz bb z] (hx : Ba E x = some (.slice ad m c)) (h : A7 P f n I₀ Q ops l k ((d, .int .i64 (m : Nat)) :: E) I L) (hdn : Nat.blt d n = true := by rfl) : A7 P f n I₀ Q ops (⟨some d, .call ⟨.builtin .len, #[x], #[T]⟩, ty, pos, af, none⟩ :: l) k E I L := Gg hx .free hdn h
theorem Oh {T : TypeId} {i off : Nat} [hf : Aq P T i off] {x : Operand} {b o : Nat} (hx : Ba E x = some (.pointer (some ⟨b, o, none⟩))) (h : A7 P f n I₀ Q ops l k ((d, .pointer (some ⟨b, o + off, none⟩)) :: E) I L) (hdn : Nat.blt d n = true := by rfl) : A7 P f n I₀ Q ops (⟨some d, .fieldAddr T x i, ty, pos, af, none⟩ :: l) k E I L := Bz hx .free hdn h
theorem Oj {T : TypeId} {i off : Nat} [hf : Aq P T i off] {x : Operand} {ad : Addr} (hx : Ba E x = some (.pointer (some ad))) (h : A7 P f n I₀ Q ops l k ((d, .pointer (some (ad.add off))) :: E) I L) (hdn : Nat.blt d n = true := by rfl) : A7 P f n I₀ Q ops (⟨some d, .fieldAddr T x i, ty, pos, af, none⟩ :: l) k E I L := Av hx .free hdn h
theorem Ow {x : Operand} {v : Value} {g : Option (Nat × Bool)} (hx : Ba E x = some v) (h : A7 P f n I₀ Q ops l k ((d, v) :: E) I L) (hg : Wants ops E g := by exact .met rfl rfl) (hdn : Nat.blt d n = true := by rfl) : A7 P f n I₀ Q ops (⟨some d, .move x, ty, pos, af, g⟩ :: l) k E I L := Aa9 hx hg hdn h
class Cnd (b : Bool) (p q : outParam Prop) : Prop where
 pos : b = true → p
 neg : b = false → q
 tru : p → b = true
 fls : q → b = false
instance (priority := low) (b : Bool) : Cnd b (b = true) (b = false) := ⟨id, id, id, id⟩
instance (p : Prop) [Decidable p] : Cnd (decide p) p (¬ p) := ⟨of_decide_eq_true, of_decide_eq_false, decide_eq_true, decide_eq_false⟩
instance (p : Prop) [Decidable p] : Cnd (!decide p) (¬ p) p := ⟨fun h => by simpa using h, fun h => by simpa using h, fun h => by simpa using h, fun h => by simpa using h⟩
theorem Si {c : Operand} {x y : Code} {b : Bool} {p q : Prop} [hb : Cnd b p q] (hc : Ba E c = some (.bool b)) (ht : p → RunS P f n I₀ Q (.code x :: k) E I L) (hf : q → RunS P f n I₀ Q (.code y :: k) E I L) : RunS P f n I₀ Q (.code (.cond c x y) :: k) E I L := Ar hc (fun h => ht (hb.pos h)) (fun h => hf (hb.neg h))
theorem Ca {kf : FuncId} {args : Array Operand} {tys : Array TypeId} {vs : List Value} {Q' : C1} {c : Code} {m : Nat} {rs : List ResultVar} [hf : Bq P kf c m rs] (ha : Ho E args.toList = some vs) (hF : Fun P kf vs I L Q') (h : ∀ v I' L', HLe I I' → Q' v I' L' → A7 P f n I₀ Q ops l k ((d, v) :: E) I' L') (hdn : Nat.blt d n = true := by rfl) : A7 P f n I₀ Q ops (⟨some d, .call ⟨.value (.func kf), args, tys⟩, ty, pos, af, none⟩ :: l) k E I L := Ce ha .free hdn hF h
theorem Dc {S : World → Prop} {fuel : Nat} {listed : Array Bool} (i : Nat) {kf : FuncId} {args : Array Operand} {tys : Array TypeId} {vs : List Value} {Q' : C1} {c : Code} {m : Nat} {rs : List ResultVar} [hf : Bq P kf c m rs] (hi : ops[i]? = some ⟨some d, .call ⟨.value (.func kf), args, tys⟩, ty, pos, af, none⟩) (ha : Ho E args.toList = some vs) (hF : Fun P kf vs I L Q')
  (h : ∀ v I' L', HLe I I' → Q' v I' L' → (Fe ops (listed.setIfInBounds i true) = true ∨ ∀ w, Mem I' L' w → S w) ∧ Ct P f n I₀ Q ops S fuel (listed.setIfInBounds i true) k ((d, v) :: E) I' L') (hc : decide (Region.ready .any ops listed = [i]) = true := by kernel_rfl) (hdn : Nat.blt d n = true := by rfl) : Ct P f n I₀ Q ops S (fuel + 1) listed k E I L := Ga i hi hc rfl ha .free hdn hF h
theorem Dx {S : World → Prop} {fuel : Nat} {listed : Array Bool} (i : Nat) {T U : TypeId} {x y : Operand} {b off : Nat} {v : Value} {vs cs us : List Value} {L' : Bl} {dd : TypeDesc} {sz bb : Nat} {z : List Value} [ht : At P T dd sz bb z] (hi : ops[i]? = some ⟨none, .store T x y, ty, pos, af, none⟩) (hx : Ba E x = some (.pointer (some ⟨b, off, none⟩))) (hy : Ba E y = some v) (hv : Fn v = some vs)
  (h : Ct P f n I₀ Q ops S fuel (listed.setIfInBounds i true) k E I L') (hc : decide (Region.ready .any ops listed = [i]) = true := by kernel_rfl) (hl : vs.length = sz := by rfl) (hS : Fe ops (listed.setIfInBounds i true) = true := by kernel_rfl) (hp : vs.all Cx = true := by first | rfl | (simp only [List.toList_toArray, List.all_cons, List.all_nil, Gw, Bool.and_true, Bool.true_and] <;> rfl)) (hu : Upd b (.cells us.toArray U (0, 0)) (.cells cs.toArray U (0, 0)) L L' := by first | exact u0 | exact u1 | exact u2 | exact u3 | exact u4 | exact u5 | exact u6) (hus : Mi off vs cs = some us := by rfl) : Ct P f n I₀ Q ops S (fuel + 1) listed k E I L := Xi i hi hc rfl hx hy hv hl hp hu hus .free (.inl hS) h
theorem Db {S : World → Prop} {fuel : Nat} {listed : Array Bool} (i : Nat) {op : Op} {v : Value} (hi : ops[i]? = some ⟨some d, op, ty, pos, af, none⟩) (hx : Gz P E (fun _ => True) ⟨some d, op, ty, pos, af, none⟩ v)
  (h : Ct P f n I₀ Q ops S fuel (listed.setIfInBounds i true) k ((d, v) :: E) I L) (hc : Hy ops listed i = true := by kernel_rfl) (hS : Fe ops listed = true := by kernel_rfl) (hdn : Nat.blt d n = true := by rfl) : Ct P f n I₀ Q ops S (fuel + 1) listed k E I L := F0 i hi hc rfl (.inl hS) hx .free hdn h
theorem Dm {S : World → Prop} {fuel : Nat} {listed : Array Bool} (i : Nat) {op : Op} {v : Value} {g : Option (Nat × Bool)} (hi : ops[i]? = some ⟨some d, op, ty, pos, af, g⟩) (hx : Gz P E (fun _ => True) ⟨some d, op, ty, pos, af, g⟩ v)
  (h : Ct P f n I₀ Q ops S fuel (listed.setIfInBounds i true) k ((d, v) :: E) I L) (hc : Hy ops listed i = true := by kernel_rfl) (hS : Fe ops listed = true ∨ ∀ w, Mem I L w → S w := by exact .inr Am) (hg : Wants ops E g := by exact .met rfl rfl) (hdn : Nat.blt d n = true := by rfl) : Ct P f n I₀ Q ops S (fuel + 1) listed k E I L := F0 i hi hc rfl hS hx hg hdn h
theorem Yk {S : World → Prop} {g : Option (Nat × Bool)} {T T' : TypeId} {x y : Operand} {a b : List UInt8} (hx : Ba E x = some (.string (str a))) (hy : Ba E y = some (.string (str b))) (hb : a.length + b.length ≤ 9223372036854775807 := by first | omega | (simp only [List.length_append, List.length_cons, List.length_nil]; omega) | (simp; omega)) : Gz P E S ⟨some d, .binOp .add T x y T', ty, pos, af, g⟩ (.string (str (a ++ b))) := Vw hx hy hb
theorem Hx {p : Prop} {I : Heap} {L : Bl} {S : World → Prop} {B : Prop} (h : p) (hS : B ∨ ∀ w, Mem I L w → S w := by exact .inr Am) : (B ∨ ∀ w, Mem I L w → S w) ∧ p := ⟨hS, h⟩
theorem Sf {c : Operand} {x y : Code} {b : Bool} {p q : Prop} [hb : Cnd b p q] (hc : Ba E c = some (.bool b)) (hq : q) (h : RunS P f n I₀ Q (.code y :: k) E I L) : RunS P f n I₀ Q (.code (.cond c x y) :: k) E I L := Ap (by rw [hc, hb.fls hq]) h
theorem St {c : Operand} {x y : Code} {b : Bool} {p q : Prop} [hb : Cnd b p q] (hc : Ba E c = some (.bool b)) (hp : p) (h : RunS P f n I₀ Q (.code x :: k) E I L) : RunS P f n I₀ Q (.code (.cond c x y) :: k) E I L := Bj (by rw [hc, hb.tru hp]) h
theorem Ms {L' : Bl} (hs : L'.Sublist L := by repeat (first | exact List.Sublist.refl _ | apply List.Sublist.cons_cons | apply List.Sublist.cons)) : ∀ w, Mem I L w → Mem I L' w := fun _ h => Mem.sub hs h
end
set_option maxRecDepth 100000
def Ak (P : Program) (T : TypeId) : Array Field := match P.underlying T with
 | some (.struct fs) => fs
 | _ => #[]
theorem Fi {P : Program} {f : FuncId} {n : Nat} {rs : List ResultVar} {fn : Func} (h : P.funcs[f]? = some fn) (h1 : fn.body = some (fn.body.getD .skip) := by kernel_rfl) (h2 : fn.ntmps = n := by kernel_rfl) (h3 : fn.results = rs.toArray := by kernel_rfl) (h4 : (fn.name == "runtime.NumGoroutine") = false := by kernel_rfl) : Bq P f (fn.body.getD .skip) n rs := ⟨fn, h, h1, h2, h3, h4⟩
theorem Ti {P : Program} {T : TypeId} {d : TypeDesc} {s b : Nat} {z : List Value} (h1 : P.underlying T = some d := by kernel_rfl) (h2 : (P.info? T).map (fun i => (i.size, i.bytes, i.zero.map fun v => v.cells.toList)) = some (s, b, some z) := by kernel_rfl) : At P T d s b z := ⟨h1, by
 cases hi : P.info? T with
 | none => rw [hi] at h2; cases h2
 | some i =>
  rw [hi] at h2
  simp only [Option.map_some, Option.some.injEq, Prod.mk.injEq] at h2
  obtain ⟨h3, h4, h5⟩ := h2; obtain ⟨v, hv, hz⟩ := Option.map_eq_some_iff.1 h5
  exact ⟨i, v, rfl, h3, h4, hv, hz⟩⟩
theorem Di {P : Program} {S : TypeId} {i off : Nat} {fld : Field} {inf : TypeInfo} (h1 : (Ak P S)[i]? = some fld) (h2 : P.info? fld.type = some inf) (h3 : inf.size ≠ 0) (h4 : fld.offset = off) (h : P.underlying S = some (.struct (Ak P S)) := by kernel_rfl) : Aq P S i off := ⟨Ak P S, fld, inf, h, h1, h2, h3, h4⟩
instance : Bq Tryz.prog 6 (Tryz.f6.body.getD .skip) 48 [.tmp 2] := Fi Tryz.func6
instance : Bq Tryz.prog 10 (Tryz.f10.body.getD .skip) 6 [.tmp 2] := Fi Tryz.func10
instance : Bq Tryz.prog 11 (Tryz.f11.body.getD .skip) 15 [.tmp 2] := Fi Tryz.func11
instance : Bq Tryz.prog 13 (Tryz.f13.body.getD .skip) 43 [.tmp 4, .tmp 5, .tmp 6] := Fi Tryz.func13
instance : Bq Tryz.prog 15 (Tryz.f15.body.getD .skip) 30 [.tmp 2, .tmp 3] := Fi Tryz.func15
instance : Bq Tryz.prog 17 (Tryz.f17.body.getD .skip) 40 [.tmp 4, .tmp 5, .tmp 6] := Fi Tryz.func17
instance : Bq Tryz.prog 18 (Tryz.f18.body.getD .skip) 21 [.tmp 2, .tmp 3] := Fi Tryz.func18
instance : Bq Tryz.prog 19 (Tryz.f19.body.getD .skip) 43 [.tmp 6, .tmp 7] := Fi Tryz.func19
instance : Bq Tryz.prog 22 (Tryz.f22.body.getD .skip) 16 [.tmp 2] := Fi Tryz.func22
instance : Bq Tryz.prog 23 (Tryz.f23.body.getD .skip) 23 [.tmp 2] := Fi Tryz.func23
instance : Bq Tryz.prog 24 (Tryz.f24.body.getD .skip) 30 [.tmp 2] := Fi Tryz.func24
instance : Bq Tryz.prog 25 (Tryz.f25.body.getD .skip) 23 [.tmp 2, .tmp 3] := Fi Tryz.func25
instance : Bq Tryz.prog 26 (Tryz.f26.body.getD .skip) 15 [.tmp 2] := Fi Tryz.func26
instance : Bq Tryz.prog 27 (Tryz.f27.body.getD .skip) 11 [.tmp 2] := Fi Tryz.func27
instance : Bq Tryz.prog 28 (Tryz.f28.body.getD .skip) 30 [.tmp 4] := Fi Tryz.func28
instance : Bq Tryz.prog 31 (Tryz.f31.body.getD .skip) 13 [.tmp 2] := Fi Tryz.func31
instance : Bq Tryz.prog 34 (Tryz.f34.body.getD .skip) 15 [.tmp 2, .tmp 3] := Fi Tryz.func34
instance : Bq Tryz.prog 38 (Tryz.f38.body.getD .skip) 11 [.tmp 2] := Fi Tryz.func38
instance : Bq Tryz.prog 39 (Tryz.f39.body.getD .skip) 49 [.tmp 2] := Fi Tryz.func39
instance : Bq Tryz.prog 40 (Tryz.f40.body.getD .skip) 11 [.tmp 2] := Fi Tryz.func40
instance : Bq Tryz.prog 41 (Tryz.f41.body.getD .skip) 19 [.cell 2 49, .tmp 3] := Fi Tryz.func41
instance : Bq Tryz.prog 42 (Tryz.f42.body.getD .skip) 15 [.tmp 6] := Fi Tryz.func42
instance : Bq Tryz.prog 43 (Tryz.f43.body.getD .skip) 156 [.tmp 6] := Fi Tryz.func43
instance : Bq Tryz.prog 44 (Tryz.f44.body.getD .skip) 50 [] := Fi Tryz.func44
instance : Bq Tryz.prog 45 (Tryz.f45.body.getD .skip) 8 [.tmp 2] := Fi Tryz.func45
instance : Bq Tryz.prog 46 (Tryz.f46.body.getD .skip) 14 [.tmp 2] := Fi Tryz.func46
instance : Bq Tryz.prog 47 (Tryz.f47.body.getD .skip) 17 [.cell 2 49, .tmp 3] := Fi Tryz.func47
instance : Bq Tryz.prog 49 (Tryz.f49.body.getD .skip) 7 [.tmp 2] := Fi Tryz.func49
instance : Bq Tryz.prog 50 (Tryz.f50.body.getD .skip) 99 [.tmp 4] := Fi Tryz.func50
instance : Bq Tryz.prog 51 (Tryz.f51.body.getD .skip) 22 [.cell 2 68, .tmp 3] := Fi Tryz.func51
instance : Bq Tryz.prog 52 (Tryz.f52.body.getD .skip) 16 [.tmp 2] := Fi Tryz.func52
instance : Bq Tryz.prog 53 (Tryz.f53.body.getD .skip) 15 [.tmp 6] := Fi Tryz.func53
instance : Bq Tryz.prog 57 (Tryz.f57.body.getD .skip) 20 [.cell 2 49, .tmp 3] := Fi Tryz.func57
instance : Bq Tryz.prog 58 (Tryz.f58.body.getD .skip) 29 [.tmp 2] := Fi Tryz.func58
instance : Bq Tryz.prog 59 (Tryz.f59.body.getD .skip) 23 [.cell 2 49] := Fi Tryz.func59
instance : Bq Tryz.prog 60 (Tryz.f60.body.getD .skip) 55 [.cell 4 84, .tmp 5] := Fi Tryz.func60
instance : Bq Tryz.prog 61 (Tryz.f61.body.getD .skip) 71 [.cell 4 49, .cell 5 49, .tmp 6] := Fi Tryz.func61
instance : Bq Tryz.prog 63 (Tryz.f63.body.getD .skip) 22 [.tmp 2] := Fi Tryz.func63
instance : Bq Tryz.prog 64 (Tryz.f64.body.getD .skip) 11 [.tmp 2] := Fi Tryz.func64
instance : Bq Tryz.prog 65 (Tryz.f65.body.getD .skip) 40 [.tmp 4] := Fi Tryz.func65
instance : Bq Tryz.prog 66 (Tryz.f66.body.getD .skip) 166 [.cell 2 49, .tmp 3] := Fi Tryz.func66
instance : Bq Tryz.prog 67 (Tryz.f67.body.getD .skip) 34 [.tmp 2] := Fi Tryz.func67
instance : Bq Tryz.prog 68 (Tryz.f68.body.getD .skip) 66 [.cell 2 68, .tmp 3] := Fi Tryz.func68
instance : Bq Tryz.prog 69 (Tryz.f69.body.getD .skip) 13 [.tmp 2] := Fi Tryz.func69
instance : Bq Tryz.prog 72 (Tryz.f72.body.getD .skip) 11 [.tmp 2] := Fi Tryz.func72
instance : Bq Tryz.prog 73 (Tryz.f73.body.getD .skip) 31 [.tmp 2] := Fi Tryz.func73
instance : Bq Tryz.prog 74 (Tryz.f74.body.getD .skip) 8 [.tmp 2] := Fi Tryz.func74
instance : Bq Tryz.prog 75 (Tryz.f75.body.getD .skip) 18 [.tmp 2] := Fi Tryz.func75
instance : Bq Tryz.prog 77 (Tryz.f77.body.getD .skip) 28 [.tmp 2] := Fi Tryz.func77
instance : Bq Tryz.prog 78 (Tryz.f78.body.getD .skip) 17 [.tmp 2, .tmp 3] := Fi Tryz.func78
instance : Bq Tryz.prog 79 (Tryz.f79.body.getD .skip) 54 [.tmp 6, .tmp 7] := Fi Tryz.func79
instance : Bq Tryz.prog 80 (Tryz.f80.body.getD .skip) 12 [.tmp 4] := Fi Tryz.func80
instance : Bq Tryz.prog 81 (Tryz.f81.body.getD .skip) 7 [.tmp 2] := Fi Tryz.func81
instance : Bq Tryz.prog 82 (Tryz.f82.body.getD .skip) 21 [.tmp 2] := Fi Tryz.func82
instance : Bq Tryz.prog 83 (Tryz.f83.body.getD .skip) 21 [.tmp 4] := Fi Tryz.func83
instance : Bq Tryz.prog 84 (Tryz.f84.body.getD .skip) 10 [.tmp 2] := Fi Tryz.func84
instance : Bq Tryz.prog 85 (Tryz.f85.body.getD .skip) 15 [.tmp 2] := Fi Tryz.func85
instance : Bq Tryz.prog 86 (Tryz.f86.body.getD .skip) 6 [.tmp 2] := Fi Tryz.func86
instance : Bq Tryz.prog 87 (Tryz.f87.body.getD .skip) 12 [.tmp 6] := Fi Tryz.func87
instance : Bq Tryz.prog 88 (Tryz.f88.body.getD .skip) 77 [.tmp 6] := Fi Tryz.func88
instance : Bq Tryz.prog 89 (Tryz.f89.body.getD .skip) 19 [.tmp 4, .tmp 5] := Fi Tryz.func89
instance : Bq Tryz.prog 90 (Tryz.f90.body.getD .skip) 23 [.cell 2 49, .tmp 3] := Fi Tryz.func90
instance : Bq Tryz.prog 91 (Tryz.f91.body.getD .skip) 14 [.tmp 2] := Fi Tryz.func91
instance : Bq Tryz.prog 93 (Tryz.f93.body.getD .skip) 32 [] := Fi Tryz.func93
instance : Bq Tryz.prog 94 (Tryz.f94.body.getD .skip) 20 [.cell 2 68, .tmp 3] := Fi Tryz.func94
instance : Bq Tryz.prog 95 (Tryz.f95.body.getD .skip) 105 [.tmp 2] := Fi Tryz.func95
instance : Bq Tryz.prog 96 (Tryz.f96.body.getD .skip) 24 [.tmp 2] := Fi Tryz.func96
instance : Bq Tryz.prog 97 (Tryz.f97.body.getD .skip) 18 [.tmp 2, .tmp 3] := Fi Tryz.func97
instance : Bq Tryz.prog 98 (Tryz.f98.body.getD .skip) 57 [.tmp 2, .tmp 3] := Fi Tryz.func98
instance : Bq Tryz.prog 99 (Tryz.f99.body.getD .skip) 16 [.tmp 2] := Fi Tryz.func99
instance : Bq Tryz.prog 101 (Tryz.f101.body.getD .skip) 28 [.tmp 2] := Fi Tryz.func101
instance : Bq Tryz.prog 102 (Tryz.f102.body.getD .skip) 18 [.tmp 6] := Fi Tryz.func102
instance : Bq Tryz.prog 103 (Tryz.f103.body.getD .skip) 11 [.cell 4 49] := Fi Tryz.func103
instance : Bq Tryz.prog 104 (Tryz.f104.body.getD .skip) 5 [.cell 2 49] := Fi Tryz.func104
instance : Bq Tryz.prog 105 (Tryz.f105.body.getD .skip) 17 [.cell 2 49, .tmp 3] := Fi Tryz.func105
instance : Bq Tryz.prog 106 (Tryz.f106.body.getD .skip) 13 [.cell 2 49] := Fi Tryz.func106
instance : Bq Tryz.prog 107 (Tryz.f107.body.getD .skip) 10 [.tmp 2] := Fi Tryz.func107
instance : Bq Tryz.prog 108 (Tryz.f108.body.getD .skip) 45 [.tmp 2] := Fi Tryz.func108
instance : Bq Tryz.prog 109 (Tryz.f109.body.getD .skip) 51 [.cell 8 84] := Fi Tryz.func109
instance : Bq Tryz.prog 110 (Tryz.f110.body.getD .skip) 135 [.cell 6 49, .tmp 7] := Fi Tryz.func110
instance : Bq Tryz.prog 111 (Tryz.f111.body.getD .skip) 8 [.tmp 4] := Fi Tryz.func111
instance : Bq Tryz.prog 112 (Tryz.f112.body.getD .skip) 20 [.tmp 2] := Fi Tryz.func112
instance : Bq Tryz.prog 113 (Tryz.f113.body.getD .skip) 18 [.tmp 2, .tmp 3] := Fi Tryz.func113
instance : Bq Tryz.prog 114 (Tryz.f114.body.getD .skip) 8 [.tmp 2] := Fi Tryz.func114
instance : Bq Tryz.prog 115 (Tryz.f115.body.getD .skip) 30 [.tmp 6] := Fi Tryz.func115
instance : Bq Tryz.prog 116 (Tryz.f116.body.getD .skip) 49 [.cell 6 49] := Fi Tryz.func116
instance : Bq Tryz.prog 117 (Tryz.f117.body.getD .skip) 34 [.tmp 2] := Fi Tryz.func117
instance : Bq Tryz.prog 118 (Tryz.f118.body.getD .skip) 131 [.cell 2 68, .tmp 3] := Fi Tryz.func118
instance : Bq Tryz.prog 119 (Tryz.f119.body.getD .skip) 130 [.tmp 8] := Fi Tryz.func119
instance : Bq Tryz.prog 123 (Tryz.f123.body.getD .skip) 23 [.cell 2 68, .tmp 3] := Fi Tryz.func123
instance : Bq Tryz.prog 124 (Tryz.f124.body.getD .skip) 34 [.tmp 4] := Fi Tryz.func124
instance : Bq Tryz.prog 126 (Tryz.f126.body.getD .skip) 45 [] := Fi Tryz.func126
instance : Bq Tryz.prog 127 (Tryz.f127.body.getD .skip) 11 [] := Fi Tryz.func127
instance : Bq Tryz.prog 128 (Tryz.f128.body.getD .skip) 9 [.tmp 4] := Fi Tryz.func128
instance : Bq Tryz.prog 129 (Tryz.f129.body.getD .skip) 54 [.tmp 2] := Fi Tryz.func129
instance : Bq Tryz.prog 130 (Tryz.f130.body.getD .skip) 20 [.tmp 4] := Fi Tryz.func130
instance : Bq Tryz.prog 131 (Tryz.f131.body.getD .skip) 17 [.tmp 4] := Fi Tryz.func131
instance : Bq Tryz.prog 132 (Tryz.f132.body.getD .skip) 36 [.tmp 2] := Fi Tryz.func132
instance : Bq Tryz.prog 133 (Tryz.f133.body.getD .skip) 38 [.tmp 4] := Fi Tryz.func133
instance : Bq Tryz.prog 134 (Tryz.f134.body.getD .skip) 29 [.tmp 4] := Fi Tryz.func134
instance : Bq Tryz.prog 135 (Tryz.f135.body.getD .skip) 44 [.cell 6 68] := Fi Tryz.func135
instance : Bq Tryz.prog 136 (Tryz.f136.body.getD .skip) 11 [.tmp 2] := Fi Tryz.func136
instance : Bq Tryz.prog 137 (Tryz.f137.body.getD .skip) 20 [] := Fi Tryz.func137
instance : Bq Tryz.prog 138 (Tryz.f138.body.getD .skip) 78 [.cell 4 49, .tmp 5, .tmp 6] := Fi Tryz.func138
instance : Bq Tryz.prog 139 (Tryz.f139.body.getD .skip) 21 [.tmp 2] := Fi Tryz.func139
instance : Bq Tryz.prog 140 (Tryz.f140.body.getD .skip) 11 [.tmp 2] := Fi Tryz.func140
instance : Bq Tryz.prog 141 (Tryz.f141.body.getD .skip) 78 [.tmp 2] := Fi Tryz.func141
instance : Bq Tryz.prog 143 (Tryz.f143.body.getD .skip) 17 [.tmp 4] := Fi Tryz.func143
instance : Bq Tryz.prog 144 (Tryz.f144.body.getD .skip) 87 [.cell 6 68, .tmp 7] := Fi Tryz.func144
instance : Bq Tryz.prog 145 (Tryz.f145.body.getD .skip) 20 [.tmp 2, .tmp 3] := Fi Tryz.func145
instance : Bq Tryz.prog 146 (Tryz.f146.body.getD .skip) 10 [.tmp 2] := Fi Tryz.func146
instance : Bq Tryz.prog 147 (Tryz.f147.body.getD .skip) 65 [.tmp 6] := Fi Tryz.func147
instance : Bq Tryz.prog 148 (Tryz.f148.body.getD .skip) 10 [.tmp 4] := Fi Tryz.func148
instance : Bq Tryz.prog 150 (Tryz.f150.body.getD .skip) 11 [.cell 6 68] := Fi Tryz.func150
instance : Bq Tryz.prog 151 (Tryz.f151.body.getD .skip) 24 [.tmp 6] := Fi Tryz.func151
instance : Bq Tryz.prog 152 (Tryz.f152.body.getD .skip) 28 [.tmp 2] := Fi Tryz.func152
instance : Bq Tryz.prog 153 (Tryz.f153.body.getD .skip) 20 [.cell 6 84] := Fi Tryz.func153
instance : Bq Tryz.prog 154 (Tryz.f154.body.getD .skip) 19 [.cell 4 49, .tmp 5] := Fi Tryz.func154
instance : Bq Tryz.prog 155 (Tryz.f155.body.getD .skip) 13 [.tmp 4] := Fi Tryz.func155
instance : Bq Tryz.prog 158 (Tryz.f158.body.getD .skip) 5 [.tmp 2] := Fi Tryz.func158
instance : Bq Tryz.prog 159 (Tryz.f159.body.getD .skip) 9 [.tmp 2] := Fi Tryz.func159
instance : Bq Tryz.prog 160 (Tryz.f160.body.getD .skip) 5 [.cell 2 68] := Fi Tryz.func160
instance : Bq Tryz.prog 161 (Tryz.f161.body.getD .skip) 59 [.cell 6 68] := Fi Tryz.func161
instance : Bq Tryz.prog 162 (Tryz.f162.body.getD .skip) 17 [.tmp 2] := Fi Tryz.func162
instance : Bq Tryz.prog 163 (Tryz.f163.body.getD .skip) 67 [.tmp 6] := Fi Tryz.func163
instance : Bq Tryz.prog 164 (Tryz.f164.body.getD .skip) 18 [.cell 6 134] := Fi Tryz.func164
instance : Bq Tryz.prog 165 (Tryz.f165.body.getD .skip) 20 [.tmp 2] := Fi Tryz.func165
instance : Bq Tryz.prog 166 (Tryz.f166.body.getD .skip) 119 [.tmp 8] := Fi Tryz.func166
instance : Bq Tryz.prog 168 (Tryz.f168.body.getD .skip) 28 [.cell 4 49] := Fi Tryz.func168
instance : Bq Tryz.prog 169 (Tryz.f169.body.getD .skip) 155 [.cell 8 68] := Fi Tryz.func169
instance : Bq Tryz.prog 170 (Tryz.f170.body.getD .skip) 18 [.tmp 4] := Fi Tryz.func170
instance : Bq Tryz.prog 173 (Tryz.f173.body.getD .skip) 19 [.tmp 4] := Fi Tryz.func173
instance : Bq Tryz.prog 174 (Tryz.f174.body.getD .skip) 15 [.tmp 2] := Fi Tryz.func174
instance : Bq Tryz.prog 175 (Tryz.f175.body.getD .skip) 32 [.tmp 6] := Fi Tryz.func175
instance : Bq Tryz.prog 176 (Tryz.f176.body.getD .skip) 27 [.tmp 4] := Fi Tryz.func176
instance : Bq Tryz.prog 178 (Tryz.f178.body.getD .skip) 8 [.tmp 4] := Fi Tryz.func178
instance : Bq Tryz.prog 179 (Tryz.f179.body.getD .skip) 33 [.tmp 2] := Fi Tryz.func179
instance : Bq Tryz.prog 180 (Tryz.f180.body.getD .skip) 22 [.tmp 2] := Fi Tryz.func180
instance : Bq Tryz.prog 181 (Tryz.f181.body.getD .skip) 25 [.tmp 2] := Fi Tryz.func181
instance : Bq Tryz.prog 182 (Tryz.f182.body.getD .skip) 33 [.tmp 2] := Fi Tryz.func182
instance : Bq Tryz.prog 183 (Tryz.f183.body.getD .skip) 41 [.tmp 2] := Fi Tryz.func183
instance : Bq Tryz.prog 184 (Tryz.f184.body.getD .skip) 41 [.tmp 4] := Fi Tryz.func184
instance : Bq Tryz.prog 185 (Tryz.f185.body.getD .skip) 9 [.tmp 2] := Fi Tryz.func185
instance : Bq Tryz.prog 186 (Tryz.f186.body.getD .skip) 8 [.tmp 2] := Fi Tryz.func186
instance : Bq Tryz.prog 187 (Tryz.f187.body.getD .skip) 18 [.tmp 4] := Fi Tryz.func187
instance : Bq Tryz.prog 194 (Tryz.f194.body.getD .skip) 25 [.tmp 6] := Fi Tryz.func194
instance : Bq Tryz.prog 195 (Tryz.f195.body.getD .skip) 26 [.tmp 2, .tmp 3] := Fi Tryz.func195
instance : Bq Tryz.prog 196 (Tryz.f196.body.getD .skip) 10 [.tmp 2, .tmp 3, .tmp 4] := Fi Tryz.func196
instance : Bq Tryz.prog 197 (Tryz.f197.body.getD .skip) 10 [.tmp 2, .tmp 3, .tmp 4] := Fi Tryz.func197
instance : Bq Tryz.prog 199 (Tryz.f199.body.getD .skip) 26 [.tmp 6] := Fi Tryz.func199
instance : Bq Tryz.prog 200 (Tryz.f200.body.getD .skip) 26 [.tmp 2] := Fi Tryz.func200
instance : Bq Tryz.prog 206 (Tryz.f206.body.getD .skip) 47 [.tmp 2] := Fi Tryz.func206
instance : Bq Tryz.prog 207 (Tryz.f207.body.getD .skip) 45 [.tmp 4, .tmp 5, .tmp 6] := Fi Tryz.func207
instance : At Tryz.prog 1 (.func #[] #[] false) 1 8 [.nilFunc] := Ti
instance : At Tryz.prog 2 (.int .i64) 1 8 [.int .i64 0] := Ti
instance : At Tryz.prog 3 (.int .i64) 1 8 [.int .i64 0] := Ti
instance : At Tryz.prog 4 .bool 1 1 [.bool false] := Ti
instance : At Tryz.prog 5 (.int .u8) 1 1 [.int .u8 0] := Ti
instance : At Tryz.prog 6 (.int .u8) 1 1 [.int .u8 0] := Ti
instance : At Tryz.prog 7 (.struct (Ak Tryz.prog 7)) 4 24 [.int .i64 0, .int .i64 0, .bool false, .int .u8 0] := Ti
instance : At Tryz.prog 8 (.struct (Ak Tryz.prog 8)) 4 24 [.int .i64 0, .int .i64 0, .bool false, .int .u8 0] := Ti
instance : At Tryz.prog 9 .string 1 16 [.string (str [])] := Ti
instance : At Tryz.prog 10 .string 1 16 [.string (str [])] := Ti
instance : At Tryz.prog 11 .string 1 16 [.string (str [])] := Ti
instance : At Tryz.prog 12 (.int .u64) 1 8 [.int .u64 0] := Ti
instance : At Tryz.prog 13 (.struct (Ak Tryz.prog 13)) 2 24 [.string (str []), .int .u64 0] := Ti
instance : At Tryz.prog 14 (.struct (Ak Tryz.prog 14)) 2 24 [.string (str []), .int .u64 0] := Ti
instance : At Tryz.prog 15 (.pointer 230) 1 8 [.pointer none] := Ti
instance : At Tryz.prog 16 (.pointer 233) 1 8 [.pointer none] := Ti
instance : At Tryz.prog 17 (.pointer 240) 1 8 [.pointer none] := Ti
instance : At Tryz.prog 18 (.struct (Ak Tryz.prog 18)) 1 8 [.pointer none] := Ti
instance : At Tryz.prog 19 (.struct (Ak Tryz.prog 19)) 1 8 [.pointer none] := Ti
instance : At Tryz.prog 21 (.int .i32) 1 4 [.int .i32 0] := Ti
instance : At Tryz.prog 22 (.slice 5) 1 24 [.slice none 0 0] := Ti
instance : At Tryz.prog 23 (.func #[22] #[9] false) 1 8 [.nilFunc] := Ti
instance : At Tryz.prog 24 (.func #[9] #[3] false) 1 8 [.nilFunc] := Ti
instance : At Tryz.prog 26 (.func #[9, 3] #[9, 3, 4] false) 1 8 [.nilFunc] := Ti
instance : At Tryz.prog 28 (.func #[9] #[9, 4] false) 1 8 [.nilFunc] := Ti
instance : At Tryz.prog 29 (.func #[22] #[4] false) 1 8 [.nilFunc] := Ti
instance : At Tryz.prog 31 (.func #[22] #[9, 3] false) 1 8 [.nilFunc] := Ti
instance : At Tryz.prog 32 (.func #[33, 33, 9] #[9, 4] false) 1 8 [.nilFunc] := Ti
instance : At Tryz.prog 33 (.slice 9) 1 24 [.slice none 0 0] := Ti
instance : At Tryz.prog 35 (.func #[9] #[9, 9, 4] false) 1 8 [.nilFunc] := Ti
instance : At Tryz.prog 37 (.func #[9] #[3, 4] false) 1 8 [.nilFunc] := Ti
instance : At Tryz.prog 38 (.func #[9] #[4] false) 1 8 [.nilFunc] := Ti
instance : At Tryz.prog 39 (.func #[9, 3] #[4] false) 1 8 [.nilFunc] := Ti
instance : At Tryz.prog 41 (.func #[9] #[33, 4] false) 1 8 [.nilFunc] := Ti
instance : At Tryz.prog 42 (.func #[33, 9] #[4] false) 1 8 [.nilFunc] := Ti
instance : At Tryz.prog 43 (.func #[9, 9] #[4] false) 1 8 [.nilFunc] := Ti
instance : At Tryz.prog 44 (.func #[45] #[9] false) 1 8 [.nilFunc] := Ti
instance : At Tryz.prog 45 (.pointer 94) 1 8 [.pointer none] := Ti
instance : At Tryz.prog 46 (.func #[22] #[45] false) 1 8 [.nilFunc] := Ti
instance : At Tryz.prog 47 (.slice 49) 1 24 [.slice none 0 0] := Ti
instance : At Tryz.prog 48 (.struct (Ak Tryz.prog 48)) 2 40 [.string (str []), .slice none 0 0] := Ti
instance : At Tryz.prog 49 (.struct (Ak Tryz.prog 49)) 2 40 [.string (str []), .slice none 0 0] := Ti
instance : At Tryz.prog 51 (.func #[9] #[49, 4] false) 1 8 [.nilFunc] := Ti
instance : At Tryz.prog 52 (.func #[3, 3, 3] #[4] false) 1 8 [.nilFunc] := Ti
instance : At Tryz.prog 53 (.pointer 55) 1 8 [.pointer none] := Ti
instance : At Tryz.prog 54 (.struct (Ak Tryz.prog 54)) 2 16 [.int .i64 0, .bool false] := Ti
instance : At Tryz.prog 55 (.struct (Ak Tryz.prog 55)) 2 16 [.int .i64 0, .bool false] := Ti
instance : At Tryz.prog 56 (.pointer 105) 1 8 [.pointer none] := Ti
instance : At Tryz.prog 57 (.func #[49, 100] #[56] false) 1 8 [.nilFunc] := Ti
instance : At Tryz.prog 58 (.pointer 60) 1 8 [.pointer none] := Ti
instance : At Tryz.prog 59 (.struct (Ak Tryz.prog 59)) 2 32 [.pointer none, .slice none 0 0] := Ti
instance : At Tryz.prog 60 (.struct (Ak Tryz.prog 60)) 2 32 [.pointer none, .slice none 0 0] := Ti
instance : At Tryz.prog 61 (.func #[58] #[] false) 1 8 [.nilFunc] := Ti
instance : At Tryz.prog 62 (.func #[] #[3] false) 1 8 [.nilFunc] := Ti
instance : At Tryz.prog 63 (.func #[] #[9] false) 1 8 [.nilFunc] := Ti
instance : At Tryz.prog 64 (.func #[] #[49, 4] false) 1 8 [.nilFunc] := Ti
instance : At Tryz.prog 65 (.func #[3] #[3] false) 1 8 [.nilFunc] := Ti
instance : At Tryz.prog 66 (.slice 68) 1 24 [.slice none 0 0] := Ti
instance : At Tryz.prog 67 (.struct (Ak Tryz.prog 67)) 2 40 [.string (str []), .slice none 0 0] := Ti
instance : At Tryz.prog 68 (.struct (Ak Tryz.prog 68)) 2 40 [.string (str []), .slice none 0 0] := Ti
instance : At Tryz.prog 70 (.func #[9] #[68, 4] false) 1 8 [.nilFunc] := Ti
instance : At Tryz.prog 71 (.pointer 73) 1 8 [.pointer none] := Ti
instance : At Tryz.prog 72 (.struct (Ak Tryz.prog 72)) 2 16 [.int .i64 0, .bool false] := Ti
instance : At Tryz.prog 73 (.struct (Ak Tryz.prog 73)) 2 16 [.int .i64 0, .bool false] := Ti
instance : At Tryz.prog 74 (.slice 76) 1 24 [.slice none 0 0] := Ti
instance : At Tryz.prog 75 (.struct (Ak Tryz.prog 75)) 7 136 [.string (str []), .int .i64 0, .slice none 0 0, .string (str []), .slice none 0 0, .slice none 0 0, .slice none 0 0] := Ti
instance : At Tryz.prog 76 (.struct (Ak Tryz.prog 76)) 7 136 [.string (str []), .int .i64 0, .slice none 0 0, .string (str []), .slice none 0 0, .slice none 0 0, .slice none 0 0] := Ti
instance : At Tryz.prog 78 (.func #[71, 68, 33, 74] #[76, 4] false) 1 8 [.nilFunc] := Ti
instance : At Tryz.prog 79 (.func #[76, 3] #[3] false) 1 8 [.nilFunc] := Ti
instance : At Tryz.prog 80 (.func #[76] #[9] false) 1 8 [.nilFunc] := Ti
instance : At Tryz.prog 81 (.func #[] #[4] false) 1 8 [.nilFunc] := Ti
instance : At Tryz.prog 82 (.func #[] #[49] false) 1 8 [.nilFunc] := Ti
instance : At Tryz.prog 83 (.struct (Ak Tryz.prog 83)) 2 48 [.slice none 0 0, .slice none 0 0] := Ti
instance : At Tryz.prog 84 (.struct (Ak Tryz.prog 84)) 2 48 [.slice none 0 0, .slice none 0 0] := Ti
instance : At Tryz.prog 86 (.func #[33, 33] #[84, 4] false) 1 8 [.nilFunc] := Ti
instance : At Tryz.prog 88 (.func #[49] #[49, 49, 4] false) 1 8 [.nilFunc] := Ti
instance : At Tryz.prog 89 (.func #[9, 9] #[9, 9, 4] false) 1 8 [.nilFunc] := Ti
instance : At Tryz.prog 90 (.func #[45, 9] #[9] false) 1 8 [.nilFunc] := Ti
instance : At Tryz.prog 91 (.func #[68] #[4] false) 1 8 [.nilFunc] := Ti
instance : At Tryz.prog 92 (.func #[68] #[68, 4] false) 1 8 [.nilFunc] := Ti
instance : At Tryz.prog 93 (.struct (Ak Tryz.prog 93)) 2 32 [.slice none 0 0, .int .i64 0] := Ti
instance : At Tryz.prog 94 (.struct (Ak Tryz.prog 94)) 2 32 [.slice none 0 0, .int .i64 0] := Ti
instance : At Tryz.prog 95 (.func #[68] #[9] false) 1 8 [.nilFunc] := Ti
instance : At Tryz.prog 96 (.func #[] #[33] false) 1 8 [.nilFunc] := Ti
instance : At Tryz.prog 97 (.func #[49, 49, 33, 33] #[4] false) 1 8 [.nilFunc] := Ti
instance : At Tryz.prog 98 (.func #[9, 9, 9] #[9, 4] false) 1 8 [.nilFunc] := Ti
instance : At Tryz.prog 99 (.func #[33] #[9] false) 1 8 [.nilFunc] := Ti
instance : At Tryz.prog 100 (.pointer 155) 1 8 [.pointer none] := Ti
instance : At Tryz.prog 101 (.func #[9] #[56] false) 1 8 [.nilFunc] := Ti
instance : At Tryz.prog 102 (.slice 56) 1 24 [.slice none 0 0] := Ti
instance : At Tryz.prog 103 (.pointer 49) 1 8 [.pointer none] := Ti
instance : At Tryz.prog 104 (.struct (Ak Tryz.prog 104)) 4 56 [.string (str []), .slice none 0 0, .pointer none, .pointer none] := Ti
instance : At Tryz.prog 105 (.struct (Ak Tryz.prog 105)) 4 56 [.string (str []), .slice none 0 0, .pointer none, .pointer none] := Ti
instance : At Tryz.prog 106 (.slice 3) 1 24 [.slice none 0 0] := Ti
instance : At Tryz.prog 107 (.func #[] #[106] false) 1 8 [.nilFunc] := Ti
instance : At Tryz.prog 108 (.func #[] #[56] false) 1 8 [.nilFunc] := Ti
instance : At Tryz.prog 109 (.func #[9, 56] #[100] false) 1 8 [.nilFunc] := Ti
instance : At Tryz.prog 110 (.func #[9, 102] #[56] false) 1 8 [.nilFunc] := Ti
instance : At Tryz.prog 114 (.func #[9] #[3, 112] false) 1 8 [.nilFunc] := Ti
instance : At Tryz.prog 115 (.pointer 5) 1 8 [.pointer none] := Ti
instance : At Tryz.prog 116 (.pointer 118) 1 8 [.pointer none] := Ti
instance : At Tryz.prog 117 (.struct (Ak Tryz.prog 117)) 3 40 [.slice none 0 0, .int .i64 0, .int .i64 0] := Ti
instance : At Tryz.prog 118 (.struct (Ak Tryz.prog 118)) 3 40 [.slice none 0 0, .int .i64 0, .int .i64 0] := Ti
instance : At Tryz.prog 119 (.func #[49, 33, 33] #[49] false) 1 8 [.nilFunc] := Ti
instance : At Tryz.prog 120 (.func #[68] #[3] false) 1 8 [.nilFunc] := Ti
instance : At Tryz.prog 121 (.func #[9] #[106] false) 1 8 [.nilFunc] := Ti
instance : At Tryz.prog 122 (.func #[71, 68, 74, 33, 74] #[76, 4] false) 1 8 [.nilFunc] := Ti
instance : At Tryz.prog 123 (.func #[3] #[9] false) 1 8 [.nilFunc] := Ti
instance : At Tryz.prog 124 (.func #[9, 47] #[49] true) 1 8 [.nilFunc] := Ti
instance : At Tryz.prog 125 (.func #[9] #[49] false) 1 8 [.nilFunc] := Ti
instance : At Tryz.prog 126 (.func #[49] #[49] false) 1 8 [.nilFunc] := Ti
instance : At Tryz.prog 127 (.func #[49, 3, 47] #[84] false) 1 8 [.nilFunc] := Ti
instance : At Tryz.prog 128 (.func #[49, 47] #[49, 4] false) 1 8 [.nilFunc] := Ti
instance : At Tryz.prog 129 (.func #[9, 9] #[9] false) 1 8 [.nilFunc] := Ti
instance : At Tryz.prog 130 (.func #[47] #[47] false) 1 8 [.nilFunc] := Ti
instance : At Tryz.prog 131 (.func #[9, 9, 9] #[9] false) 1 8 [.nilFunc] := Ti
instance : At Tryz.prog 132 (.func #[9, 49] #[49] false) 1 8 [.nilFunc] := Ti
instance : At Tryz.prog 133 (.struct (Ak Tryz.prog 133)) 2 48 [.slice none 0 0, .slice none 0 0] := Ti
instance : At Tryz.prog 134 (.struct (Ak Tryz.prog 134)) 2 48 [.slice none 0 0, .slice none 0 0] := Ti
instance : At Tryz.prog 135 (.func #[45, 134, 9, 3] #[9] false) 1 8 [.nilFunc] := Ti
instance : At Tryz.prog 136 (.pointer 139) 1 8 [.pointer none] := Ti
instance : At Tryz.prog 137 (.map 9 4) 1 8 [.map none] := Ti
instance : At Tryz.prog 138 (.struct (Ak Tryz.prog 138)) 3 24 [.map none, .int .i64 0, .int .i64 0] := Ti
instance : At Tryz.prog 139 (.struct (Ak Tryz.prog 139)) 3 24 [.map none, .int .i64 0, .int .i64 0] := Ti
instance : At Tryz.prog 140 (.func #[141] #[] false) 1 8 [.nilFunc] := Ti
instance : At Tryz.prog 141 (.func #[9] #[] false) 1 8 [.nilFunc] := Ti
instance : At Tryz.prog 142 (.pointer 145) 1 8 [.pointer none] := Ti
instance : At Tryz.prog 143 (.func #[68, 33] #[33] false) 1 8 [.nilFunc] := Ti
instance : At Tryz.prog 144 (.struct (Ak Tryz.prog 144)) 4 80 [.slice none 0 0, .int .i64 0, .slice none 0 0, .slice none 0 0] := Ti
instance : At Tryz.prog 145 (.struct (Ak Tryz.prog 145)) 4 80 [.slice none 0 0, .int .i64 0, .slice none 0 0, .slice none 0 0] := Ti
instance : At Tryz.prog 146 (.func #[142, 68] #[68] false) 1 8 [.nilFunc] := Ti
instance : At Tryz.prog 147 (.func #[33, 141] #[] false) 1 8 [.nilFunc] := Ti
instance : At Tryz.prog 148 (.func #[33, 9] #[3] false) 1 8 [.nilFunc] := Ti
instance : At Tryz.prog 149 (.func #[49] #[4] false) 1 8 [.nilFunc] := Ti
instance : At Tryz.prog 150 (.func #[184] #[33] true) 1 8 [.nilFunc] := Ti
instance : At Tryz.prog 151 (.func #[3] #[33] false) 1 8 [.nilFunc] := Ti
instance : At Tryz.prog 152 (.func #[45, 3] #[9] false) 1 8 [.nilFunc] := Ti
instance : At Tryz.prog 153 (.func #[68, 9, 68] #[68] false) 1 8 [.nilFunc] := Ti
instance : At Tryz.prog 154 (.struct (Ak Tryz.prog 154)) 3 32 [.string (str []), .pointer none, .pointer none] := Ti
instance : At Tryz.prog 155 (.struct (Ak Tryz.prog 155)) 3 32 [.string (str []), .pointer none, .pointer none] := Ti
instance : At Tryz.prog 157 (.func #[9, 3] #[49, 9, 4] false) 1 8 [.nilFunc] := Ti
instance : At Tryz.prog 158 (.func #[5] #[112] false) 1 8 [.nilFunc] := Ti
instance : At Tryz.prog 160 (.func #[9, 3, 3] #[68, 3] false) 1 8 [.nilFunc] := Ti
instance : At Tryz.prog 162 (.func #[9] #[3, 3] false) 1 8 [.nilFunc] := Ti
instance : At Tryz.prog 163 (.func #[68, 33, 33] #[33] false) 1 8 [.nilFunc] := Ti
instance : At Tryz.prog 164 (.func #[33, 33] #[33] true) 1 8 [.nilFunc] := Ti
instance : At Tryz.prog 165 (.func #[74, 76] #[74] false) 1 8 [.nilFunc] := Ti
instance : At Tryz.prog 166 (.func #[3, 68, 68] #[68] false) 1 8 [.nilFunc] := Ti
instance : At Tryz.prog 167 (.func #[9, 3, 3] #[3] false) 1 8 [.nilFunc] := Ti
instance : At Tryz.prog 168 (.func #[9, 49] #[84] false) 1 8 [.nilFunc] := Ti
instance : At Tryz.prog 169 (.func #[9, 9, 3, 3, 112] #[112] false) 1 8 [.nilFunc] := Ti
instance : At Tryz.prog 170 (.func #[9] #[68] false) 1 8 [.nilFunc] := Ti
instance : At Tryz.prog 171 (.func #[45, 134, 9] #[9] false) 1 8 [.nilFunc] := Ti
instance : At Tryz.prog 172 (.func #[134, 9, 9] #[134] false) 1 8 [.nilFunc] := Ti
instance : At Tryz.prog 173 (.slice 199) 1 24 [.slice none 0 0] := Ti
instance : At Tryz.prog 174 (.func #[49, 175] #[49] false) 1 8 [.nilFunc] := Ti
instance : At Tryz.prog 175 (.pointer 173) 1 8 [.pointer none] := Ti
instance : At Tryz.prog 176 (.func #[173, 49] #[49] false) 1 8 [.nilFunc] := Ti
instance : At Tryz.prog 177 (.pointer 179) 1 8 [.pointer none] := Ti
instance : At Tryz.prog 178 (.struct (Ak Tryz.prog 178)) 2 32 [.slice none 0 0, .int .i64 0] := Ti
instance : At Tryz.prog 179 (.struct (Ak Tryz.prog 179)) 2 32 [.slice none 0 0, .int .i64 0] := Ti
instance : At Tryz.prog 180 (.func #[68, 33, 33, 177] #[68] false) 1 8 [.nilFunc] := Ti
instance : At Tryz.prog 181 (.func #[66] #[68] true) 1 8 [.nilFunc] := Ti
instance : At Tryz.prog 182 (.func #[47, 47, 183] #[4] false) 1 8 [.nilFunc] := Ti
instance : At Tryz.prog 183 (.func #[49, 49] #[4] false) 1 8 [.nilFunc] := Ti
instance : At Tryz.prog 184 (.slice 33) 1 24 [.slice none 0 0] := Ti
instance : At Tryz.prog 185 (.func #[33, 3] #[33] false) 1 8 [.nilFunc] := Ti
instance : At Tryz.prog 186 .unsafePointer 1 8 [.pointer none] := Ti
instance : At Tryz.prog 187 (.func #[186] #[186] false) 1 8 [.nilFunc] := Ti
instance : At Tryz.prog 188 (.func #[5] #[4] false) 1 8 [.nilFunc] := Ti
instance : At Tryz.prog 189 (.func #[68, 3] #[33] false) 1 8 [.nilFunc] := Ti
instance : At Tryz.prog 190 (.func #[33] #[33] false) 1 8 [.nilFunc] := Ti
instance : At Tryz.prog 191 (.int .i64) 1 8 [.int .i64 0] := Ti
instance : At Tryz.prog 193 (.func #[9, 3, 3] #[2, 112] false) 1 8 [.nilFunc] := Ti
instance : At Tryz.prog 194 (.pointer 207) 1 8 [.pointer none] := Ti
instance : At Tryz.prog 195 (.func #[9, 9] #[194] false) 1 8 [.nilFunc] := Ti
instance : At Tryz.prog 196 (.func #[9, 9, 3] #[194] false) 1 8 [.nilFunc] := Ti
instance : At Tryz.prog 197 (.func #[33, 33, 9] #[9] false) 1 8 [.nilFunc] := Ti
instance : At Tryz.prog 198 (.struct (Ak Tryz.prog 198)) 3 56 [.string (str []), .string (str []), .slice none 0 0] := Ti
instance : At Tryz.prog 199 (.struct (Ak Tryz.prog 199)) 3 56 [.string (str []), .string (str []), .slice none 0 0] := Ti
instance : At Tryz.prog 200 (.func #[177] #[9] false) 1 8 [.nilFunc] := Ti
instance : At Tryz.prog 201 (.int .u64) 1 8 [.int .u64 0] := Ti
instance : At Tryz.prog 203 (.func #[9, 3, 3] #[201, 112] false) 1 8 [.nilFunc] := Ti
instance : At Tryz.prog 204 (.int .u64) 1 8 [.int .u64 0] := Ti
instance : At Tryz.prog 205 (.func #[9] #[9] false) 1 8 [.nilFunc] := Ti
instance : At Tryz.prog 206 (.struct (Ak Tryz.prog 206)) 3 48 [.string (str []), .string (str []), .nilIface] := Ti
instance : At Tryz.prog 207 (.struct (Ak Tryz.prog 207)) 3 48 [.string (str []), .string (str []), .nilIface] := Ti
instance : At Tryz.prog 208 (.func #[9] #[112] false) 1 8 [.nilFunc] := Ti
instance : At Tryz.prog 209 (.func #[2, 3] #[9] false) 1 8 [.nilFunc] := Ti
instance : At Tryz.prog 210 (.func #[142] #[9] false) 1 8 [.nilFunc] := Ti
instance : At Tryz.prog 211 (.func #[5] #[5] false) 1 8 [.nilFunc] := Ti
instance : At Tryz.prog 212 (.pointer 214) 1 8 [.pointer none] := Ti
instance : At Tryz.prog 213 (.struct (Ak Tryz.prog 213)) 1 16 [.string (str [])] := Ti
instance : At Tryz.prog 214 (.struct (Ak Tryz.prog 214)) 1 16 [.string (str [])] := Ti
instance : At Tryz.prog 215 (.array 24 5) 24 24 [.int .u8 0, .int .u8 0, .int .u8 0, .int .u8 0, .int .u8 0, .int .u8 0, .int .u8 0, .int .u8 0, .int .u8 0, .int .u8 0, .int .u8 0, .int .u8 0, .int .u8 0, .int .u8 0, .int .u8 0, .int .u8 0, .int .u8 0, .int .u8 0, .int .u8 0, .int .u8 0, .int .u8 0, .int .u8 0, .int .u8 0, .int .u8 0] := Ti
instance : At Tryz.prog 216 (.func #[201] #[3] false) 1 8 [.nilFunc] := Ti
instance : At Tryz.prog 217 (.func #[22, 201] #[] false) 1 8 [.nilFunc] := Ti
instance : At Tryz.prog 219 (.func #[22, 201, 3, 4, 4] #[22, 9] false) 1 8 [.nilFunc] := Ti
instance : At Tryz.prog 220 (.func #[4] #[3] false) 1 8 [.nilFunc] := Ti
instance : At Tryz.prog 221 (.array 20 201) 20 160 [.int .u64 0, .int .u64 0, .int .u64 0, .int .u64 0, .int .u64 0, .int .u64 0, .int .u64 0, .int .u64 0, .int .u64 0, .int .u64 0, .int .u64 0, .int .u64 0, .int .u64 0, .int .u64 0, .int .u64 0, .int .u64 0, .int .u64 0, .int .u64 0, .int .u64 0, .int .u64 0] := Ti
instance : At Tryz.prog 222 (.int .u32) 1 4 [.int .u32 0] := Ti
instance : At Tryz.prog 224 (.func #[3] #[4] false) 1 8 [.nilFunc] := Ti
instance : At Tryz.prog 225 (.func #[204] #[3] false) 1 8 [.nilFunc] := Ti
instance : At Tryz.prog 226 (.func #[222] #[3] false) 1 8 [.nilFunc] := Ti
instance : At Tryz.prog 227 (.array 32 5) 32 32 [.int .u8 0, .int .u8 0, .int .u8 0, .int .u8 0, .int .u8 0, .int .u8 0, .int .u8 0, .int .u8 0, .int .u8 0, .int .u8 0, .int .u8 0, .int .u8 0, .int .u8 0, .int .u8 0, .int .u8 0, .int .u8 0, .int .u8 0, .int .u8 0, .int .u8 0, .int .u8 0, .int .u8 0, .int .u8 0, .int .u8 0, .int .u8 0, .int .u8 0, .int .u8 0, .int .u8 0, .int .u8 0, .int .u8 0, .int .u8 0, .int .u8 0, .int .u8 0] := Ti
instance : At Tryz.prog 228 (.array 64 5) 64 64 [.int .u8 0, .int .u8 0, .int .u8 0, .int .u8 0, .int .u8 0, .int .u8 0, .int .u8 0, .int .u8 0, .int .u8 0, .int .u8 0, .int .u8 0, .int .u8 0, .int .u8 0, .int .u8 0, .int .u8 0, .int .u8 0, .int .u8 0, .int .u8 0, .int .u8 0, .int .u8 0, .int .u8 0, .int .u8 0, .int .u8 0, .int .u8 0, .int .u8 0, .int .u8 0, .int .u8 0, .int .u8 0, .int .u8 0, .int .u8 0, .int .u8 0, .int .u8 0, .int .u8 0, .int .u8 0, .int .u8 0, .int .u8 0, .int .u8 0, .int .u8 0, .int .u8 0, .int .u8 0, .int .u8 0, .int .u8 0, .int .u8 0, .int .u8 0, .int .u8 0, .int .u8 0, .int .u8 0, .int .u8 0, .int .u8 0, .int .u8 0, .int .u8 0, .int .u8 0, .int .u8 0, .int .u8 0, .int .u8 0, .int .u8 0, .int .u8 0, .int .u8 0, .int .u8 0, .int .u8 0, .int .u8 0, .int .u8 0, .int .u8 0, .int .u8 0] := Ti
instance : At Tryz.prog 229 (.struct (Ak Tryz.prog 229)) 4 40 [.pointer none, .pointer none, .pointer none, .string (str [])] := Ti
instance : At Tryz.prog 230 (.struct (Ak Tryz.prog 230)) 4 40 [.pointer none, .pointer none, .pointer none, .string (str [])] := Ti
instance : At Tryz.prog 231 (.array 0 16) 0 0 [] := Ti
instance : At Tryz.prog 232 (.struct (Ak Tryz.prog 232)) 0 0 [] := Ti
instance : At Tryz.prog 233 (.struct (Ak Tryz.prog 233)) 0 0 [] := Ti
instance : At Tryz.prog 234 (.int .u8) 1 1 [.int .u8 0] := Ti
instance : At Tryz.prog 235 (.int .u8) 1 1 [.int .u8 0] := Ti
instance : At Tryz.prog 236 (.func #[186, 186] #[4] false) 1 8 [.nilFunc] := Ti
instance : At Tryz.prog 237 (.int .i32) 1 4 [.int .i32 0] := Ti
instance : At Tryz.prog 238 (.int .i32) 1 4 [.int .i32 0] := Ti
instance : At Tryz.prog 239 (.struct (Ak Tryz.prog 239)) 11 48 [.int .u64 0, .int .u64 0, .int .u32 0, .int .u8 0, .int .u8 0, .int .u8 0, .int .u8 0, .nilFunc, .pointer none, .int .i32 0, .int .i32 0] := Ti
instance : At Tryz.prog 240 (.struct (Ak Tryz.prog 240)) 11 48 [.int .u64 0, .int .u64 0, .int .u32 0, .int .u8 0, .int .u8 0, .int .u8 0, .int .u8 0, .nilFunc, .pointer none, .int .i32 0, .int .i32 0] := Ti
instance : Bv Tryz.prog 7 [(0, 1), (1, 1), (2, 1), (3, 1)] := ⟨Ak Tryz.prog 7, by kernel_rfl, fun _ => by kernel_rfl⟩
instance : Aq Tryz.prog 7 0 0 := Di rfl rfl (by decide) (by kernel_rfl)
instance : Aq Tryz.prog 7 1 1 := Di rfl rfl (by decide) (by kernel_rfl)
instance : Aq Tryz.prog 7 2 2 := Di rfl rfl (by decide) (by kernel_rfl)
instance : Aq Tryz.prog 7 3 3 := Di rfl rfl (by decide) (by kernel_rfl)
instance : Bv Tryz.prog 8 [(0, 1), (1, 1), (2, 1), (3, 1)] := ⟨Ak Tryz.prog 8, by kernel_rfl, fun _ => by kernel_rfl⟩
instance : Aq Tryz.prog 8 0 0 := Di rfl rfl (by decide) (by kernel_rfl)
instance : Aq Tryz.prog 8 1 1 := Di rfl rfl (by decide) (by kernel_rfl)
instance : Aq Tryz.prog 8 2 2 := Di rfl rfl (by decide) (by kernel_rfl)
instance : Aq Tryz.prog 8 3 3 := Di rfl rfl (by decide) (by kernel_rfl)
instance : Bv Tryz.prog 13 [(0, 1), (1, 1)] := ⟨Ak Tryz.prog 13, by kernel_rfl, fun _ => by kernel_rfl⟩
instance : Aq Tryz.prog 13 0 0 := Di rfl rfl (by decide) (by kernel_rfl)
instance : Aq Tryz.prog 13 1 1 := Di rfl rfl (by decide) (by kernel_rfl)
instance : Bv Tryz.prog 14 [(0, 1), (1, 1)] := ⟨Ak Tryz.prog 14, by kernel_rfl, fun _ => by kernel_rfl⟩
instance : Aq Tryz.prog 14 0 0 := Di rfl rfl (by decide) (by kernel_rfl)
instance : Aq Tryz.prog 14 1 1 := Di rfl rfl (by decide) (by kernel_rfl)
instance : Bv Tryz.prog 18 [(0, 1)] := ⟨Ak Tryz.prog 18, by kernel_rfl, fun _ => by kernel_rfl⟩
instance : Aq Tryz.prog 18 0 0 := Di rfl rfl (by decide) (by kernel_rfl)
instance : Bv Tryz.prog 19 [(0, 1)] := ⟨Ak Tryz.prog 19, by kernel_rfl, fun _ => by kernel_rfl⟩
instance : Aq Tryz.prog 19 0 0 := Di rfl rfl (by decide) (by kernel_rfl)
instance : Bv Tryz.prog 48 [(0, 1), (1, 1)] := ⟨Ak Tryz.prog 48, by kernel_rfl, fun _ => by kernel_rfl⟩
instance : Aq Tryz.prog 48 0 0 := Di rfl rfl (by decide) (by kernel_rfl)
instance : Aq Tryz.prog 48 1 1 := Di rfl rfl (by decide) (by kernel_rfl)
instance : Bv Tryz.prog 49 [(0, 1), (1, 1)] := ⟨Ak Tryz.prog 49, by kernel_rfl, fun _ => by kernel_rfl⟩
instance : Aq Tryz.prog 49 0 0 := Di rfl rfl (by decide) (by kernel_rfl)
instance : Aq Tryz.prog 49 1 1 := Di rfl rfl (by decide) (by kernel_rfl)
instance : Bv Tryz.prog 54 [(0, 1), (1, 1)] := ⟨Ak Tryz.prog 54, by kernel_rfl, fun _ => by kernel_rfl⟩
instance : Aq Tryz.prog 54 0 0 := Di rfl rfl (by decide) (by kernel_rfl)
instance : Aq Tryz.prog 54 1 1 := Di rfl rfl (by decide) (by kernel_rfl)
instance : Bv Tryz.prog 55 [(0, 1), (1, 1)] := ⟨Ak Tryz.prog 55, by kernel_rfl, fun _ => by kernel_rfl⟩
instance : Aq Tryz.prog 55 0 0 := Di rfl rfl (by decide) (by kernel_rfl)
instance : Aq Tryz.prog 55 1 1 := Di rfl rfl (by decide) (by kernel_rfl)
instance : Bv Tryz.prog 59 [(0, 1), (1, 1)] := ⟨Ak Tryz.prog 59, by kernel_rfl, fun _ => by kernel_rfl⟩
instance : Aq Tryz.prog 59 0 0 := Di rfl rfl (by decide) (by kernel_rfl)
instance : Aq Tryz.prog 59 1 1 := Di rfl rfl (by decide) (by kernel_rfl)
instance : Bv Tryz.prog 60 [(0, 1), (1, 1)] := ⟨Ak Tryz.prog 60, by kernel_rfl, fun _ => by kernel_rfl⟩
instance : Aq Tryz.prog 60 0 0 := Di rfl rfl (by decide) (by kernel_rfl)
instance : Aq Tryz.prog 60 1 1 := Di rfl rfl (by decide) (by kernel_rfl)
instance : Bv Tryz.prog 67 [(0, 1), (1, 1)] := ⟨Ak Tryz.prog 67, by kernel_rfl, fun _ => by kernel_rfl⟩
instance : Aq Tryz.prog 67 0 0 := Di rfl rfl (by decide) (by kernel_rfl)
instance : Aq Tryz.prog 67 1 1 := Di rfl rfl (by decide) (by kernel_rfl)
instance : Bv Tryz.prog 68 [(0, 1), (1, 1)] := ⟨Ak Tryz.prog 68, by kernel_rfl, fun _ => by kernel_rfl⟩
instance : Aq Tryz.prog 68 0 0 := Di rfl rfl (by decide) (by kernel_rfl)
instance : Aq Tryz.prog 68 1 1 := Di rfl rfl (by decide) (by kernel_rfl)
instance : Bv Tryz.prog 72 [(0, 1), (1, 1)] := ⟨Ak Tryz.prog 72, by kernel_rfl, fun _ => by kernel_rfl⟩
instance : Aq Tryz.prog 72 0 0 := Di rfl rfl (by decide) (by kernel_rfl)
instance : Aq Tryz.prog 72 1 1 := Di rfl rfl (by decide) (by kernel_rfl)
instance : Bv Tryz.prog 73 [(0, 1), (1, 1)] := ⟨Ak Tryz.prog 73, by kernel_rfl, fun _ => by kernel_rfl⟩
instance : Aq Tryz.prog 73 0 0 := Di rfl rfl (by decide) (by kernel_rfl)
instance : Aq Tryz.prog 73 1 1 := Di rfl rfl (by decide) (by kernel_rfl)
instance : Bv Tryz.prog 75 [(0, 1), (1, 1), (2, 1), (3, 2), (5, 1), (6, 1)] := ⟨Ak Tryz.prog 75, by kernel_rfl, fun _ => by kernel_rfl⟩
instance : Aq Tryz.prog 75 0 0 := Di rfl rfl (by decide) (by kernel_rfl)
instance : Aq Tryz.prog 75 1 1 := Di rfl rfl (by decide) (by kernel_rfl)
instance : Aq Tryz.prog 75 2 2 := Di rfl rfl (by decide) (by kernel_rfl)
instance : Aq Tryz.prog 75 3 3 := Di rfl rfl (by decide) (by kernel_rfl)
instance : Aq Tryz.prog 75 4 5 := Di rfl rfl (by decide) (by kernel_rfl)
instance : Aq Tryz.prog 75 5 6 := Di rfl rfl (by decide) (by kernel_rfl)
instance : Bv Tryz.prog 76 [(0, 1), (1, 1), (2, 1), (3, 2), (5, 1), (6, 1)] := ⟨Ak Tryz.prog 76, by kernel_rfl, fun _ => by kernel_rfl⟩
instance : Aq Tryz.prog 76 0 0 := Di rfl rfl (by decide) (by kernel_rfl)
instance : Aq Tryz.prog 76 1 1 := Di rfl rfl (by decide) (by kernel_rfl)
instance : Aq Tryz.prog 76 2 2 := Di rfl rfl (by decide) (by kernel_rfl)
instance : Aq Tryz.prog 76 3 3 := Di rfl rfl (by decide) (by kernel_rfl)
instance : Aq Tryz.prog 76 4 5 := Di rfl rfl (by decide) (by kernel_rfl)
instance : Aq Tryz.prog 76 5 6 := Di rfl rfl (by decide) (by kernel_rfl)
instance : Bv Tryz.prog 83 [(0, 1), (1, 1)] := ⟨Ak Tryz.prog 83, by kernel_rfl, fun _ => by kernel_rfl⟩
instance : Aq Tryz.prog 83 0 0 := Di rfl rfl (by decide) (by kernel_rfl)
instance : Aq Tryz.prog 83 1 1 := Di rfl rfl (by decide) (by kernel_rfl)
instance : Bv Tryz.prog 84 [(0, 1), (1, 1)] := ⟨Ak Tryz.prog 84, by kernel_rfl, fun _ => by kernel_rfl⟩
instance : Aq Tryz.prog 84 0 0 := Di rfl rfl (by decide) (by kernel_rfl)
instance : Aq Tryz.prog 84 1 1 := Di rfl rfl (by decide) (by kernel_rfl)
instance : Bv Tryz.prog 93 [(0, 1), (1, 1)] := ⟨Ak Tryz.prog 93, by kernel_rfl, fun _ => by kernel_rfl⟩
instance : Aq Tryz.prog 93 0 0 := Di rfl rfl (by decide) (by kernel_rfl)
instance : Aq Tryz.prog 93 1 1 := Di rfl rfl (by decide) (by kernel_rfl)
instance : Bv Tryz.prog 94 [(0, 1), (1, 1)] := ⟨Ak Tryz.prog 94, by kernel_rfl, fun _ => by kernel_rfl⟩
instance : Aq Tryz.prog 94 0 0 := Di rfl rfl (by decide) (by kernel_rfl)
instance : Aq Tryz.prog 94 1 1 := Di rfl rfl (by decide) (by kernel_rfl)
instance : Bv Tryz.prog 104 [(0, 1), (1, 1), (2, 1), (3, 1)] := ⟨Ak Tryz.prog 104, by kernel_rfl, fun _ => by kernel_rfl⟩
instance : Aq Tryz.prog 104 0 0 := Di rfl rfl (by decide) (by kernel_rfl)
instance : Aq Tryz.prog 104 1 1 := Di rfl rfl (by decide) (by kernel_rfl)
instance : Aq Tryz.prog 104 2 2 := Di rfl rfl (by decide) (by kernel_rfl)
instance : Aq Tryz.prog 104 3 3 := Di rfl rfl (by decide) (by kernel_rfl)
instance : Bv Tryz.prog 105 [(0, 1), (1, 1), (2, 1), (3, 1)] := ⟨Ak Tryz.prog 105, by kernel_rfl, fun _ => by kernel_rfl⟩
instance : Aq Tryz.prog 105 0 0 := Di rfl rfl (by decide) (by kernel_rfl)
instance : Aq Tryz.prog 105 1 1 := Di rfl rfl (by decide) (by kernel_rfl)
instance : Aq Tryz.prog 105 2 2 := Di rfl rfl (by decide) (by kernel_rfl)
instance : Aq Tryz.prog 105 3 3 := Di rfl rfl (by decide) (by kernel_rfl)
instance : Bv Tryz.prog 117 [(0, 1), (1, 1), (2, 1)] := ⟨Ak Tryz.prog 117, by kernel_rfl, fun _ => by kernel_rfl⟩
instance : Aq Tryz.prog 117 0 0 := Di rfl rfl (by decide) (by kernel_rfl)
instance : Aq Tryz.prog 117 1 1 := Di rfl rfl (by decide) (by kernel_rfl)
instance : Aq Tryz.prog 117 2 2 := Di rfl rfl (by decide) (by kernel_rfl)
instance : Bv Tryz.prog 118 [(0, 1), (1, 1), (2, 1)] := ⟨Ak Tryz.prog 118, by kernel_rfl, fun _ => by kernel_rfl⟩
instance : Aq Tryz.prog 118 0 0 := Di rfl rfl (by decide) (by kernel_rfl)
instance : Aq Tryz.prog 118 1 1 := Di rfl rfl (by decide) (by kernel_rfl)
instance : Aq Tryz.prog 118 2 2 := Di rfl rfl (by decide) (by kernel_rfl)
instance : Bv Tryz.prog 133 [(0, 1), (1, 1)] := ⟨Ak Tryz.prog 133, by kernel_rfl, fun _ => by kernel_rfl⟩
instance : Aq Tryz.prog 133 0 0 := Di rfl rfl (by decide) (by kernel_rfl)
instance : Aq Tryz.prog 133 1 1 := Di rfl rfl (by decide) (by kernel_rfl)
instance : Bv Tryz.prog 134 [(0, 1), (1, 1)] := ⟨Ak Tryz.prog 134, by kernel_rfl, fun _ => by kernel_rfl⟩
instance : Aq Tryz.prog 134 0 0 := Di rfl rfl (by decide) (by kernel_rfl)
instance : Aq Tryz.prog 134 1 1 := Di rfl rfl (by decide) (by kernel_rfl)
instance : Bv Tryz.prog 138 [(0, 1), (1, 1), (2, 1)] := ⟨Ak Tryz.prog 138, by kernel_rfl, fun _ => by kernel_rfl⟩
instance : Aq Tryz.prog 138 0 0 := Di rfl rfl (by decide) (by kernel_rfl)
instance : Aq Tryz.prog 138 1 1 := Di rfl rfl (by decide) (by kernel_rfl)
instance : Aq Tryz.prog 138 2 2 := Di rfl rfl (by decide) (by kernel_rfl)
instance : Bv Tryz.prog 139 [(0, 1), (1, 1), (2, 1)] := ⟨Ak Tryz.prog 139, by kernel_rfl, fun _ => by kernel_rfl⟩
instance : Aq Tryz.prog 139 0 0 := Di rfl rfl (by decide) (by kernel_rfl)
instance : Aq Tryz.prog 139 1 1 := Di rfl rfl (by decide) (by kernel_rfl)
instance : Aq Tryz.prog 139 2 2 := Di rfl rfl (by decide) (by kernel_rfl)
instance : Bv Tryz.prog 144 [(0, 1), (1, 1), (2, 1), (3, 1)] := ⟨Ak Tryz.prog 144, by kernel_rfl, fun _ => by kernel_rfl⟩
instance : Aq Tryz.prog 144 0 0 := Di rfl rfl (by decide) (by kernel_rfl)
instance : Aq Tryz.prog 144 1 1 := Di rfl rfl (by decide) (by kernel_rfl)
instance : Aq Tryz.prog 144 2 2 := Di rfl rfl (by decide) (by kernel_rfl)
instance : Aq Tryz.prog 144 3 3 := Di rfl rfl (by decide) (by kernel_rfl)
instance : Bv Tryz.prog 145 [(0, 1), (1, 1), (2, 1), (3, 1)] := ⟨Ak Tryz.prog 145, by kernel_rfl, fun _ => by kernel_rfl⟩
instance : Aq Tryz.prog 145 0 0 := Di rfl rfl (by decide) (by kernel_rfl)
instance : Aq Tryz.prog 145 1 1 := Di rfl rfl (by decide) (by kernel_rfl)
instance : Aq Tryz.prog 145 2 2 := Di rfl rfl (by decide) (by kernel_rfl)
instance : Aq Tryz.prog 145 3 3 := Di rfl rfl (by decide) (by kernel_rfl)
instance : Bv Tryz.prog 154 [(0, 1), (1, 1), (2, 1)] := ⟨Ak Tryz.prog 154, by kernel_rfl, fun _ => by kernel_rfl⟩
instance : Aq Tryz.prog 154 0 0 := Di rfl rfl (by decide) (by kernel_rfl)
instance : Aq Tryz.prog 154 1 1 := Di rfl rfl (by decide) (by kernel_rfl)
instance : Aq Tryz.prog 154 2 2 := Di rfl rfl (by decide) (by kernel_rfl)
instance : Bv Tryz.prog 155 [(0, 1), (1, 1), (2, 1)] := ⟨Ak Tryz.prog 155, by kernel_rfl, fun _ => by kernel_rfl⟩
instance : Aq Tryz.prog 155 0 0 := Di rfl rfl (by decide) (by kernel_rfl)
instance : Aq Tryz.prog 155 1 1 := Di rfl rfl (by decide) (by kernel_rfl)
instance : Aq Tryz.prog 155 2 2 := Di rfl rfl (by decide) (by kernel_rfl)
instance : Bv Tryz.prog 178 [(0, 1), (1, 1)] := ⟨Ak Tryz.prog 178, by kernel_rfl, fun _ => by kernel_rfl⟩
instance : Aq Tryz.prog 178 0 0 := Di rfl rfl (by decide) (by kernel_rfl)
instance : Aq Tryz.prog 178 1 1 := Di rfl rfl (by decide) (by kernel_rfl)
instance : Bv Tryz.prog 179 [(0, 1), (1, 1)] := ⟨Ak Tryz.prog 179, by kernel_rfl, fun _ => by kernel_rfl⟩
instance : Aq Tryz.prog 179 0 0 := Di rfl rfl (by decide) (by kernel_rfl)
instance : Aq Tryz.prog 179 1 1 := Di rfl rfl (by decide) (by kernel_rfl)
instance : Bv Tryz.prog 198 [(0, 1), (1, 2)] := ⟨Ak Tryz.prog 198, by kernel_rfl, fun _ => by kernel_rfl⟩
instance : Aq Tryz.prog 198 0 0 := Di rfl rfl (by decide) (by kernel_rfl)
instance : Aq Tryz.prog 198 1 1 := Di rfl rfl (by decide) (by kernel_rfl)
instance : Bv Tryz.prog 199 [(0, 1), (1, 2)] := ⟨Ak Tryz.prog 199, by kernel_rfl, fun _ => by kernel_rfl⟩
instance : Aq Tryz.prog 199 0 0 := Di rfl rfl (by decide) (by kernel_rfl)
instance : Aq Tryz.prog 199 1 1 := Di rfl rfl (by decide) (by kernel_rfl)
instance : Bv Tryz.prog 206 [(0, 1), (1, 1), (2, 1)] := ⟨Ak Tryz.prog 206, by kernel_rfl, fun _ => by kernel_rfl⟩
instance : Aq Tryz.prog 206 0 0 := Di rfl rfl (by decide) (by kernel_rfl)
instance : Aq Tryz.prog 206 1 1 := Di rfl rfl (by decide) (by kernel_rfl)
instance : Aq Tryz.prog 206 2 2 := Di rfl rfl (by decide) (by kernel_rfl)
instance : Bv Tryz.prog 207 [(0, 1), (1, 1), (2, 1)] := ⟨Ak Tryz.prog 207, by kernel_rfl, fun _ => by kernel_rfl⟩
instance : Aq Tryz.prog 207 0 0 := Di rfl rfl (by decide) (by kernel_rfl)
instance : Aq Tryz.prog 207 1 1 := Di rfl rfl (by decide) (by kernel_rfl)
instance : Aq Tryz.prog 207 2 2 := Di rfl rfl (by decide) (by kernel_rfl)
instance : Bv Tryz.prog 213 [(0, 1)] := ⟨Ak Tryz.prog 213, by kernel_rfl, fun _ => by kernel_rfl⟩
instance : Aq Tryz.prog 213 0 0 := Di rfl rfl (by decide) (by kernel_rfl)
instance : Bv Tryz.prog 214 [(0, 1)] := ⟨Ak Tryz.prog 214, by kernel_rfl, fun _ => by kernel_rfl⟩
instance : Aq Tryz.prog 214 0 0 := Di rfl rfl (by decide) (by kernel_rfl)
instance : Bv Tryz.prog 229 [(0, 1), (1, 1), (2, 1), (3, 1)] := ⟨Ak Tryz.prog 229, by kernel_rfl, fun _ => by kernel_rfl⟩
instance : Aq Tryz.prog 229 0 0 := Di rfl rfl (by decide) (by kernel_rfl)
instance : Aq Tryz.prog 229 1 1 := Di rfl rfl (by decide) (by kernel_rfl)
instance : Aq Tryz.prog 229 2 2 := Di rfl rfl (by decide) (by kernel_rfl)
instance : Aq Tryz.prog 229 3 3 := Di rfl rfl (by decide) (by kernel_rfl)
instance : Bv Tryz.prog 230 [(0, 1), (1, 1), (2, 1), (3, 1)] := ⟨Ak Tryz.prog 230, by kernel_rfl, fun _ => by kernel_rfl⟩
instance : Aq Tryz.prog 230 0 0 := Di rfl rfl (by decide) (by kernel_rfl)
instance : Aq Tryz.prog 230 1 1 := Di rfl rfl (by decide) (by kernel_rfl)
instance : Aq Tryz.prog 230 2 2 := Di rfl rfl (by decide) (by kernel_rfl)
instance : Aq Tryz.prog 230 3 3 := Di rfl rfl (by decide) (by kernel_rfl)
instance : Bv Tryz.prog 232 [(0, 0)] := ⟨Ak Tryz.prog 232, by kernel_rfl, fun _ => by kernel_rfl⟩
instance : Bv Tryz.prog 233 [(0, 0)] := ⟨Ak Tryz.prog 233, by kernel_rfl, fun _ => by kernel_rfl⟩
instance : Bv Tryz.prog 239 [(0, 1), (1, 1), (2, 1), (3, 1), (4, 1), (5, 1), (6, 1), (7, 1), (8, 1), (9, 1), (10, 1)] := ⟨Ak Tryz.prog 239, by kernel_rfl, fun _ => by kernel_rfl⟩
instance : Aq Tryz.prog 239 0 0 := Di rfl rfl (by decide) (by kernel_rfl)
instance : Aq Tryz.prog 239 1 1 := Di rfl rfl (by decide) (by kernel_rfl)
instance : Aq Tryz.prog 239 2 2 := Di rfl rfl (by decide) (by kernel_rfl)
instance : Aq Tryz.prog 239 3 3 := Di rfl rfl (by decide) (by kernel_rfl)
instance : Aq Tryz.prog 239 4 4 := Di rfl rfl (by decide) (by kernel_rfl)
instance : Aq Tryz.prog 239 5 5 := Di rfl rfl (by decide) (by kernel_rfl)
instance : Aq Tryz.prog 239 6 6 := Di rfl rfl (by decide) (by kernel_rfl)
instance : Aq Tryz.prog 239 7 7 := Di rfl rfl (by decide) (by kernel_rfl)
instance : Aq Tryz.prog 239 8 8 := Di rfl rfl (by decide) (by kernel_rfl)
instance : Aq Tryz.prog 239 9 9 := Di rfl rfl (by decide) (by kernel_rfl)
instance : Aq Tryz.prog 239 10 10 := Di rfl rfl (by decide) (by kernel_rfl)
instance : Bv Tryz.prog 240 [(0, 1), (1, 1), (2, 1), (3, 1), (4, 1), (5, 1), (6, 1), (7, 1), (8, 1), (9, 1), (10, 1)] := ⟨Ak Tryz.prog 240, by kernel_rfl, fun _ => by kernel_rfl⟩
instance : Aq Tryz.prog 240 0 0 := Di rfl rfl (by decide) (by kernel_rfl)
instance : Aq Tryz.prog 240 1 1 := Di rfl rfl (by decide) (by kernel_rfl)
instance : Aq Tryz.prog 240 2 2 := Di rfl rfl (by decide) (by kernel_rfl)
instance : Aq Tryz.prog 240 3 3 := Di rfl rfl (by decide) (by kernel_rfl)
instance : Aq Tryz.prog 240 4 4 := Di rfl rfl (by decide) (by kernel_rfl)
instance : Aq Tryz.prog 240 5 5 := Di rfl rfl (by decide) (by kernel_rfl)
instance : Aq Tryz.prog 240 6 6 := Di rfl rfl (by decide) (by kernel_rfl)
instance : Aq Tryz.prog 240 7 7 := Di rfl rfl (by decide) (by kernel_rfl)
instance : Aq Tryz.prog 240 8 8 := Di rfl rfl (by decide) (by kernel_rfl)
instance : Aq Tryz.prog 240 9 9 := Di rfl rfl (by decide) (by kernel_rfl)
instance : Aq Tryz.prog 240 10 10 := Di rfl rfl (by decide) (by kernel_rfl)
end Go.Proofs.YtmfagaajiakgoaaGreatDoor
