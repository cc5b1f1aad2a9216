/- The rules of single operations: numbers, strings, variables in memory, slices, calls. No conditions. -/
import Derived.Test.YtbmgbhfeifgciaaDoorG1
import Derived.Laws.Strings
import Derived.Test.YtbmgbhfeifgciaaDoorRows

namespace Go.Proofs.YtbmgbhfeifgciaaDoor
set_option linter.unusedVariables false
set_option linter.unusedSimpArgs false

@[reducible] def str (l : List UInt8) : ByteArray := ⟨l.toArray⟩

class Ae (P : Program) (T : TypeId) (d : outParam TypeDesc) (size bytes : outParam Nat) (zero : outParam (List Value)) : Prop where
 und : P.underlying T = some d
 info : ∃ i z, P.info? T = some i ∧ i.size = size ∧ i.bytes = bytes ∧ i.zero = some z ∧ z.cells.toList = zero

class Ak (P : Program) (S : TypeId) (i : Nat) (off : outParam Nat) : Prop where
 get : ∃ fs fld inf, P.underlying S = some (.struct fs) ∧ fs[i]? = some fld ∧ P.info? fld.type = some inf ∧ inf.size ≠ 0 ∧ fld.offset = off

section
variable {P : Program}
theorem Ao {T : TypeId} {d : TypeDesc} (h : P.underlying T = some d) (w : World) : (underlying T).run P w = .ok d w := by
 simp only [underlying, program]; show (match P.underlying T with | some d => pure d | none => stuck "no such type" : Sem TypeDesc).run P w = _; rw [h]; rfl
theorem Dv {T : TypeId} {i : TypeInfo} (h : P.info? T = some i) (w : World) : (typeInfo T).run P w = .ok i w := by
 simp only [typeInfo, program]; show (match P.info? T with | some d => pure d | none => stuck "no such type" : Sem TypeInfo).run P w = _; rw [h]; rfl
theorem C4 {T : TypeId} {d : TypeDesc} {s b : Nat} {z : List Value} (h : Ae P T d s b z) (w : World) : (sizeOf T).run P w = .ok s w := by
 obtain ⟨i, z, hi, hs, _⟩ := h.info
 unfold sizeOf
 rw [Ab (Dv hi w), ← hs]; rfl
theorem Ia {T : TypeId} {d : TypeDesc} {s b : Nat} {z : List Value} (h : Ae P T d s b z) (w : World) : ∃ i, (typeInfo T).run P w = .ok i w ∧ i.bytes = b := by
 obtain ⟨i, z, hi, hs, hb, _⟩ := h.info
 exact ⟨i, Dv hi w, hb⟩
theorem Fj {T : TypeId} {d : TypeDesc} {s b : Nat} {z : List Value} (h : Ae P T d s b z) (w : World) : ∃ v, (zeroValue T).run P w = .ok v w ∧ v.cells.toList = z := by
 obtain ⟨i, v, hi, _, _, hz, hv⟩ := h.info; refine ⟨v, ?_, hv⟩
 unfold zeroValue
 rw [Ab (Dv hi w), hz]; rfl

def G2 : TypeDesc → Bool
 | .struct _ | .array _ _ => false
 | _ => true
theorem Ld {T : TypeId} {d : TypeDesc} (h : P.underlying T = some d) (hs : G2 d = true) (w : World) : (isAgg T).run P w = .ok false w := by
 unfold isAgg
 rw [Ab (Ao h w)]
 cases d <;> first | rfl | simp [G2] at hs
theorem Hv {T : TypeId} {fs : Array Field} (h : P.underlying T = some (.struct fs)) (w : World) : (isAgg T).run P w = .ok true w := by
 unfold isAgg; rw [Ab (Ao h w)]; rfl
def Do (I : Heap) (L : At) (a : Addr) (vs : List Value) : Prop := ∀ w, Mem I L w → ∀ i (h : i < vs.length), w.cell? (a.add i) = some vs[i]

theorem Gw {w : World} {a : Addr} {v : Value} (h : w.cell? a = some v) : (load a).run P w = .ok v w := by
 simp [load, Sem.run, h]

theorem Hf {w : World} {a : Addr} : ∀ (vs : List Value) (i : Nat) (acc : Array Value), (∀ j (h : j < vs.length), w.cell? (a.add (i + j)) = some vs[j]) →
  (loadCellsFrom a i vs.length acc).run P w = .ok (acc ++ vs.toArray) w := by
 intro vs
 induction vs with
 | nil => intro i acc h; simp [loadCellsFrom, Cz]
 | cons v vs ih =>
  intro i acc h
  simp only [List.length_cons, loadCellsFrom]
  rw [Ab (Gw (show w.cell? (a.add i) = some v from h 0 (by simp)))]
  rw [ih (i + 1) (acc.push v) (fun j hj => by
   have := h (j + 1) (by simp; omega)
   rw [show i + 1 + j = i + (j + 1) by omega]; simpa using this)]
  simp
theorem Fc {w : World} {a : Addr} (vs : List Value) (h : ∀ j (h : j < vs.length), w.cell? (a.add j) = some vs[j]) :
  (loadCells a vs.length).run P w = .ok vs.toArray w := by
 unfold loadCells
 rw [Hf vs 0 #[] (by simpa using h)]; simp

theorem Ct {I : Heap} {L : At} {T : TypeId} {a : Addr} {v : Value} {d : TypeDesc} {s b : Nat} {z : List Value} [ht : Ae P T d s b z] (hd : G2 d = true)
  (h : Do I L a [v]) : C1 P I L T a v := by
 intro w hm
 unfold loadVar
 rw [Ab (Ld ht.und hd w)]
 have := h w hm 0 (by simp)
 exact Gw (by simpa [Addr.add] using this)
theorem Fo {I : Heap} {L : At} {T : TypeId} {a : Addr} {vs : List Value} {fs : Array Field} {s b : Nat} {z : List Value} [ht : Ae P T (.struct fs) s b z]
  (hl : vs.length = s) (h : Do I L a vs) : C1 P I L T a (.agg vs.toArray) := by
 intro w hm
 unfold loadVar
 rw [Ab (Hv ht.und w)]
 show (do pure (.agg (← loadCells a (← sizeOf T))) : Sem Value).run P w = _
 rw [Ab (C4 ht w), ← hl, Ab (Fc vs (h w hm))]; rfl
/- A stretch of a list of cells, forced. -/
def Ji : Nat → List Value → Option (List Value)
 | 0, _ => some []
 | k + 1, v :: cs => match Ji k cs with
  | some vs => some (v :: vs)
  | none => none
 | _ + 1, [] => none
def G5 : Nat → Nat → List Value → Option (List Value)
 | 0, k, cs => Ji k cs
 | o + 1, k, _ :: cs => G5 o k cs
 | _ + 1, _, [] => none
theorem Ox : ∀ {k : Nat} {cs vs : List Value}, Ji k cs = some vs → vs.length = k ∧ ∀ i, i < k → cs[i]? = vs[i]? := by
 intro k
 induction k with
 | zero => intro cs vs h; simp [Ji] at h; subst h; simp
 | succ k ih =>
  intro cs vs h
  cases cs with
  | nil => simp [Ji] at h
  | cons c cs =>
   simp only [Ji] at h
   cases ht : Ji k cs with
   | none => simp [ht] at h
   | some us =>
    simp [ht] at h
    subst h; obtain ⟨h1, h2⟩ := ih ht; refine ⟨by simp [h1], fun i hi => ?_⟩
    cases i with
    | zero => rfl
    | succ i => simpa using h2 i (by omega)
theorem G6 : ∀ {o k : Nat} {cs vs : List Value}, G5 o k cs = some vs → vs.length = k ∧ ∀ i, i < k → cs[o + i]? = vs[i]? := by
 intro o
 induction o with
 | zero => intro k cs vs h; simpa [G5] using Ox (by simpa [G5] using h)
 | succ o ih =>
  intro k cs vs h
  cases cs with
  | nil => simp [G5] at h
  | cons c cs =>
   obtain ⟨h1, h2⟩ := ih (by simpa [G5] using h)
   exact ⟨h1, fun i hi => by rw [show o + 1 + i = o + i + 1 by omega]; simpa using h2 i hi⟩

theorem Im {w : World} {b off i : Nat} {c : Array Value} {T : TypeId} {fr : Nat × Nat} (h : w.heap[b]? = some (.cells c T fr)) :
  w.cell? (Addr.add ⟨b, off, none⟩ i) = c[off + i]? := by
 unfold Addr.add
 by_cases e : i = 0
 ·subst e; simp [World.cell?, h]
 ·simp [e, World.cell?, h]

theorem Ht {I : Heap} {L : At} {b off k : Nat} {cs vs : List Value} {T : TypeId} {fr : Nat × Nat} (hm : (b, Obj.cells cs.toArray T fr) ∈ L) (hc : G5 off k cs = some vs) :
  Do I L ⟨b, off, none⟩ vs := by
 intro w hw i hi; rw [Im (hw.2.1 _ hm).1]; obtain ⟨h1, h2⟩ := G6 hc
 have := h2 i (by omega)
 simpa [hi] using this

theorem Cv {I : Heap} {L : At} {b off : Nat} {cs vs : List Value} {T : TypeId} {fr : Nat × Nat} (hm : (b, Obj.cells cs.toArray T fr) ∈ L) (hc : G5 off vs.length cs = some vs) : Do I L ⟨b, off, none⟩ vs := Ht hm hc

def Still (I : Heap) (a : Addr) (vs : List Value) : Prop :=
 vs = [] ∨ ∃ c T fr, I a.block = some (.cells c T fr) ∧ a.spot = none ∧ ∀ i (h : i < vs.length), c[a.off + i]? = some vs[i]
theorem Still.mono {I I' : Heap} (hle : HLe I I') {a : Addr} {vs : List Value} (h : Still I a vs) : Still I' a vs := by
 rcases h with h | ⟨c, T, fr, hb, hs, hc⟩
 ·exact .inl h
 ·exact .inr ⟨c, T, fr, hle.le _ _ hb, hs, hc⟩
theorem Still.reads {I : Heap} {L : At} {a : Addr} {vs : List Value} (h : Still I a vs) : Do I L a vs := by
 intro w hw i hi
 rcases h with h | ⟨c, T, fr, hb, hs, hc⟩
 ·subst h; simp at hi
 ·obtain ⟨b, off, sp⟩ := a
  simp at hs
  subst hs; rw [Im (hw.1.1 _ _ hb)]
  exact hc i hi
theorem Still.part {I : Heap} {a : Addr} {vs us : List Value} (h : Still I a vs) (off : Nat) (hu : ∀ i (hi : i < us.length), vs[off + i]? = some us[i]) : Still I (a.add off) us := by
 rcases Nat.eq_zero_or_pos us.length with e | e
 ·exact .inl (List.length_eq_zero_iff.1 e)
 ·rcases h with h | ⟨c, T, fr, hb, hs, hc⟩
  ·subst h; have := hu 0 e; simp at this
  ·refine .inr ⟨c, T, fr, ?_, ?_, ?_⟩
   ·unfold Addr.add; split <;> exact hb
   ·unfold Addr.add; split <;> first | exact hs | rfl
   ·intro i hi
    have h1 := hu i hi
    have h2 : off + i < vs.length := by
     rcases Nat.lt_or_ge (off + i) vs.length with g | g
     ·exact g
     ·simp [List.getElem?_eq_none g] at h1
    have h3 := hc (off + i) h2
    have h4 : vs[off + i] = us[i] := by simpa [h2] using h1
    rw [h4] at h3
    have : (a.add off).off + i = a.off + (off + i) := by
     unfold Addr.add; split
     ·subst_vars; omega
     ·simp; omega
    rw [this]; exact h3

theorem Still.cut {I : Heap} {a : Addr} {vs us : List Value} {o k : Nat} (h : Still I a vs) (hc : G5 o k vs = some us) : Still I (a.add o) us := by
 obtain ⟨h1, h2⟩ := G6 hc
 exact h.part o fun i hi => by rw [h2 i (by omega)]; simp [hi]

theorem D4 {I : Heap} {L : At} {T : TypeId} {b off : Nat} {v : Value} {cs : List Value} {U : TypeId} {fr : Nat × Nat} {d : TypeDesc} {s bb : Nat} {z : List Value} [ht : Ae P T d s bb z]
  (hm : (b, Obj.cells cs.toArray U fr) ∈ L) (hc : G5 off 1 cs = some [v]) (hd : G2 d = true) : C1 P I L T ⟨b, off, none⟩ v := Ct hd (Ht hm hc)
theorem D5 {I : Heap} {L : At} {T : TypeId} {b off : Nat} {vs : List Value} {cs : List Value} {U : TypeId} {fr : Nat × Nat} {fs : Array Field} {s bb : Nat} {z : List Value} [ht : Ae P T (.struct fs) s bb z]
  (hm : (b, Obj.cells cs.toArray U fr) ∈ L) (hc : G5 off s cs = some vs) : C1 P I L T ⟨b, off, none⟩ (.agg vs.toArray) := Fo (G6 hc).1 (Ht hm hc)
theorem Bo {I : Heap} {L : At} {T : TypeId} {a : Addr} {v : Value} {d : TypeDesc} {s bb : Nat} {z : List Value} [ht : Ae P T d s bb z] (h : Still I a [v]) (hd : G2 d = true) : C1 P I L T a v := Ct hd h.reads
theorem By {I : Heap} {L : At} {T : TypeId} {a : Addr} {vs : List Value} {fs : Array Field} {s bb : Nat} {z : List Value} [ht : Ae P T (.struct fs) s bb z] (h : Still I a vs) (hl : vs.length = s) : C1 P I L T a (.agg vs.toArray) := Fo hl h.reads
theorem Cu {I : Heap} {L : At} {T : TypeId} {a : Addr} {v : Value} {vs : List Value} {o : Nat} {d : TypeDesc} {s bb : Nat} {z : List Value} [ht : Ae P T d s bb z] (h : Still I a vs) (hc : G5 o 1 vs = some [v]) (hd : G2 d = true) :
  C1 P I L T (a.add o) v := Ct hd (h.cut hc).reads

/- Values by their cells. -/
def C5 : Value → Option (List Value)
 | .agg c => some c.toList
 | .tuple _ => none
 | v => some [v]
theorem E5 {v : Value} {vs : List Value} (h : C5 v = some vs) : v.cells = vs.toArray := by
 cases v <;> simp [C5] at h <;> subst h <;> rfl

def Bc : Value → Bool
 | .agg _ | .tuple _ => false
 | _ => true
end

section rules
variable {P : Program} {f : FuncId} {n : Nat} {I₀ : Heap} {Q : A5} {k : List Item} {E : D3} {I : Heap} {L : At}
variable {ops : Array Oper} {d : Nat} {ty : TypeId} {pos : String} {af : Array Edge} {g : Option (Nat × Bool)} {l : List Oper}

theorem If {S : World → Prop} {c x y : Operand} {v : Value} (hc : Au E c = some (.bool true)) (hx : Au E x = some v) : Dz P E S ⟨some d, .pick c x y, ty, pos, af, g⟩ (v) := fun a w he _ => by simp [execOp, he.eval hc, he.eval hx, asBool]
theorem A7 {c x y : Operand} {v : Value} (hc : Au E c = some (.bool true)) (hx : Au E x = some v) (hg : Wants ops E g) (hdn : Nat.blt d n = true)
  (h : Ah P f n I₀ Q ops l k ((d, v) :: E) I L) : Ah P f n I₀ Q ops (⟨some d, .pick c x y, ty, pos, af, g⟩ :: l) k E I L := Bi (If hc hx) hg hdn h
theorem Hj {S : World → Prop} {c x y : Operand} {v : Value} (hc : Au E c = some (.bool false)) (hy : Au E y = some v) : Dz P E S ⟨some d, .pick c x y, ty, pos, af, g⟩ (v) := fun a w he _ => by simp [execOp, he.eval hc, he.eval hy, asBool]
theorem A0 {c x y : Operand} {v : Value} (hc : Au E c = some (.bool false)) (hy : Au E y = some v) (hg : Wants ops E g) (hdn : Nat.blt d n = true)
  (h : Ah P f n I₀ Q ops l k ((d, v) :: E) I L) : Ah P f n I₀ Q ops (⟨some d, .pick c x y, ty, pos, af, g⟩ :: l) k E I L := Bi (Hj hc hy) hg hdn h

theorem Rk {S : World → Prop} {x : Operand} {b : Bool} {T : TypeId} (hx : Au E x = some (.bool b)) : Dz P E S ⟨some d, .unOp .not T x, ty, pos, af, g⟩ (.bool (!b)) := fun a w he _ => by simp [execOp, he.eval hx, Op.unary]
theorem Ck {x : Operand} {b : Bool} {T : TypeId} (hx : Au E x = some (.bool b)) (hg : Wants ops E g) (hdn : Nat.blt d n = true)
  (h : Ah P f n I₀ Q ops l k ((d, .bool (!b)) :: E) I L) : Ah P f n I₀ Q ops (⟨some d, .unOp .not T x, ty, pos, af, g⟩ :: l) k E I L := Bi (Rk hx) hg hdn h
theorem Oz {S : World → Prop} {x : Operand} {vs : List Value} {i : Nat} {v : Value} (hx : Au E x = some (.tuple vs.toArray)) (hi : vs[i]? = some v) : Dz P E S ⟨some d, .extract x i, ty, pos, af, g⟩ (v) := fun a w he _ => by simp [execOp, he.eval hx, Instr.extract, hi]
theorem N8 {x : Operand} {vs : List Value} {i : Nat} {v : Value} (hx : Au E x = some (.tuple vs.toArray)) (hi : vs[i]? = some v) (hg : Wants ops E g) (hdn : Nat.blt d n = true)
  (h : Ah P f n I₀ Q ops l k ((d, v) :: E) I L) : Ah P f n I₀ Q ops (⟨some d, .extract x i, ty, pos, af, g⟩ :: l) k E I L := Bi (Oz hx hi) hg hdn h

def It : BinOp → Int → Int → Option Bool
 | .eql, a, b => some (decide (a = b))
 | .neq, a, b => some (!decide (a = b))
 | .lss, a, b => some (decide (a < b))
 | .leq, a, b => some (decide (a ≤ b))
 | .gtr, a, b => some (decide (b < a))
 | .geq, a, b => some (decide (b ≤ a))
 | _, _, _ => none
theorem M9 {op : BinOp} {T : TypeId} {kk : IntKind} {a b : Int} {r : Bool} (h : It op a b = some r) (w : World) : (binOp op T (.int kk a) (.int kk b)).run P w = .ok (.bool r) w := by
 cases op <;> simp only [It, Option.some.injEq, reduceCtorEq] at h <;> subst h <;> simp [binOp, Op.intCmp, bne, decide_not] <;> rfl
theorem B8 {op : BinOp} {T : TypeId} {x y : Operand} {kk kk' : IntKind} {a b : Int} (w : World) : (eqGuard op T x y (.int kk a) (.int kk' b)).run P w = .ok () w := by
 unfold eqGuard; split <;> rfl
theorem Ev {op : BinOp} {T : TypeId} {x y : Operand} {a b : ByteArray} (w : World) : (eqGuard op T x y (.string a) (.string b)).run P w = .ok () w := by
 unfold eqGuard; split <;> rfl

theorem Kk {S : World → Prop} {op : BinOp} {T T' : TypeId} {x y : Operand} {kk : IntKind} {a b : Int} {r : Bool} (hx : Au E x = some (.int kk a)) (hy : Au E y = some (.int kk b)) (hr : It op a b = some r)
  : Dz P E S ⟨some d, .binOp op T x y T', ty, pos, af, g⟩ (.bool r) := fun a w he _ => by
  simp only [execOp, he.eval hx, he.eval hy]
  refine Ab (a := _) (w' := w) ?_ |>.trans rfl
  rw [Ab (B8 w)]
  exact M9 hr w
theorem A6 {op : BinOp} {T T' : TypeId} {x y : Operand} {kk : IntKind} {a b : Int} {r : Bool} (hx : Au E x = some (.int kk a)) (hy : Au E y = some (.int kk b)) (hr : It op a b = some r)
  (hg : Wants ops E g) (hdn : Nat.blt d n = true)
  (h : Ah P f n I₀ Q ops l k ((d, .bool r) :: E) I L) : Ah P f n I₀ Q ops (⟨some d, .binOp op T x y T', ty, pos, af, g⟩ :: l) k E I L := Bi (Kk hx hy hr) hg hdn h

def Nh : BinOp → Int → Int → Option Int
 | .add, a, b => some (a + b)
 | .sub, a, b => some (a - b)
 | .mul, a, b => some (a * b)
 | _, _, _ => none
theorem Hh {m : Int} (h : -9223372036854775808 ≤ m ∧ m ≤ 9223372036854775807) : IntKind.i64.wrap m = m := by
 simp [IntKind.wrap, IntKind.bits, IntKind.signed]; omega
theorem Dj {S : World → Prop} {op : BinOp} {T T' : TypeId} {x y : Operand} {a b m : Int} (hx : Au E x = some (.int .i64 a)) (hy : Au E y = some (.int .i64 b)) (hr : Nh op a b = some m)
  (hb : -9223372036854775808 ≤ m ∧ m ≤ 9223372036854775807) : Dz P E S ⟨some d, .binOp op T x y T', ty, pos, af, g⟩ (.int .i64 m) := fun a' w he _ => by
  simp only [execOp, he.eval hx, he.eval hy]
  refine Ab (a := _) (w' := w) ?_ |>.trans rfl
  rw [Ab (B8 w)]
  have := Hh hb
  cases op <;> simp [Nh] at hr <;> subst hr <;> simp [binOp, Op.intArith] <;> (simp only [this])
theorem Gk {op : BinOp} {T T' : TypeId} {x y : Operand} {a b m : Int} (hx : Au E x = some (.int .i64 a)) (hy : Au E y = some (.int .i64 b)) (hr : Nh op a b = some m)
  (hb : -9223372036854775808 ≤ m ∧ m ≤ 9223372036854775807) (hg : Wants ops E g) (hdn : Nat.blt d n = true)
  (h : Ah P f n I₀ Q ops l k ((d, .int .i64 m) :: E) I L) : Ah P f n I₀ Q ops (⟨some d, .binOp op T x y T', ty, pos, af, g⟩ :: l) k E I L := Bi (Dj hx hy hr hb) hg hdn h

theorem Nc (l : List UInt8) : (str l).toList = l := ByteArray.toList_mk l
def Kr : BinOp → List UInt8 → List UInt8 → Option Bool
 | .eql, a, b => some (decide (a = b))
 | .neq, a, b => some (!decide (a = b))
 | _, _, _ => none
theorem R4 {S : World → Prop} {op : BinOp} {T T' : TypeId} {x y : Operand} {a b : List UInt8} {r : Bool} (hx : Au E x = some (.string (str a))) (hy : Au E y = some (.string (str b))) (hr : Kr op a b = some r)
  : Dz P E S ⟨some d, .binOp op T x y T', ty, pos, af, g⟩ (.bool r) := fun a' w he _ => by
  simp only [execOp, he.eval hx, he.eval hy]
  refine Ab (a := _) (w' := w) ?_ |>.trans rfl
  rw [Ab (Ev w)]
  cases op <;> simp only [Kr, Option.some.injEq, reduceCtorEq] at hr <;> subst hr <;> simp [binOp, Op.stringOp, Nc, Bool.beq_eq_decide_eq] <;> rfl
theorem Ef {op : BinOp} {T T' : TypeId} {x y : Operand} {a b : List UInt8} {r : Bool} (hx : Au E x = some (.string (str a))) (hy : Au E y = some (.string (str b))) (hr : Kr op a b = some r)
  (hg : Wants ops E g) (hdn : Nat.blt d n = true)
  (h : Ah P f n I₀ Q ops l k ((d, .bool r) :: E) I L) : Ah P f n I₀ Q ops (⟨some d, .binOp op T x y T', ty, pos, af, g⟩ :: l) k E I L := Bi (R4 hx hy hr) hg hdn h
theorem Mp {S : World → Prop} {T T' : TypeId} {x y : Operand} {a b : List UInt8} (hx : Au E x = some (.string (str a))) (hy : Au E y = some (.string (str b)))
  (hb : a.length + b.length ≤ 9223372036854775807)
  : Dz P E S ⟨some d, .binOp .add T x y T', ty, pos, af, g⟩ (.string (str (a ++ b))) := fun a' w he _ => by
  simp only [execOp, he.eval hx, he.eval hy]
  refine Ab (a := _) (w' := w) ?_ |>.trans rfl
  rw [Ab (Ev w)]
  have h1 : (str a).size = a.length := by simp [str, ByteArray.size]
  have h2 : (str b).size = b.length := by simp [str, ByteArray.size]
  have h3 : str a ++ str b = str (a ++ b) := by
   apply ByteArray.ext; simp [str]
  have h4 : ¬ ((((str a).size + (str b).size : Nat) : Int) > IntKind.i64.max) := by rw [h1, h2]; simp [IntKind.max, IntKind.bits, IntKind.signed]; omega
  simp only [binOp, Op.stringOp, if_neg h4, h3]; rfl
theorem Pn {T T' : TypeId} {x y : Operand} {a b : List UInt8} (hx : Au E x = some (.string (str a))) (hy : Au E y = some (.string (str b)))
  (hb : a.length + b.length ≤ 9223372036854775807)
  (hg : Wants ops E g) (hdn : Nat.blt d n = true)
  (h : Ah P f n I₀ Q ops l k ((d, .string (str (a ++ b))) :: E) I L) : Ah P f n I₀ Q ops (⟨some d, .binOp .add T x y T', ty, pos, af, g⟩ :: l) k E I L := Bi (Mp hx hy hb) hg hdn h

theorem Km {S : World → Prop} {x : Operand} {s : List UInt8} {T : TypeId} {sz bb : Nat} {z : List Value} [ht : Ae P T .string sz bb z] (hx : Au E x = some (.string (str s))) :
  Dz P E S ⟨some d, .call ⟨.builtin .len, #[x], #[T]⟩, ty, pos, af, g⟩ (.int .i64 (s.length : Nat)) := fun a w he _ => by
  simp only [execOp, resolve, List.map_toArray, List.map, he.eval hx]
  simp only [pure_bind, invoke, builtin, Builtin.len_]
  refine Ab (a := _) (w' := w) ?_ |>.trans rfl
  simp only [List.getElem?_toArray, List.getElem?_cons_zero]
  rw [Ab (Ao ht.und w)]
  simp [goInt, Cz, str, ByteArray.size]
theorem Aw {x : Operand} {s : List UInt8} {T : TypeId} {sz bb : Nat} {z : List Value} [ht : Ae P T .string sz bb z] (hx : Au E x = some (.string (str s))) (hg : Wants ops E g) (hdn : Nat.blt d n = true)
  (h : Ah P f n I₀ Q ops l k ((d, .int .i64 (s.length : Nat)) :: E) I L) : Ah P f n I₀ Q ops (⟨some d, .call ⟨.builtin .len, #[x], #[T]⟩, ty, pos, af, g⟩ :: l) k E I L := Bi (Km hx) hg hdn h

theorem Cq {S : World → Prop} {x : Operand} {ad : Option Addr} {m c : Nat} {e T : TypeId} {sz bb : Nat} {z : List Value} [ht : Ae P T (.slice e) sz bb z] (hx : Au E x = some (.slice ad m c)) : Dz P E S ⟨some d, .call ⟨.builtin .len, #[x], #[T]⟩, ty, pos, af, g⟩ (.int .i64 (m : Nat)) := fun a w he _ => by
  simp only [execOp, resolve, List.map_toArray, List.map, he.eval hx]
  simp only [pure_bind, invoke, builtin, Builtin.len_]
  refine Ab (a := _) (w' := w) ?_ |>.trans rfl
  simp only [List.getElem?_toArray, List.getElem?_cons_zero]
  rw [Ab (Ao ht.und w)]
  rfl
theorem Co {x : Operand} {ad : Option Addr} {m c : Nat} {e T : TypeId} {sz bb : Nat} {z : List Value} [ht : Ae P T (.slice e) sz bb z] (hx : Au E x = some (.slice ad m c)) (hg : Wants ops E g) (hdn : Nat.blt d n = true)
  (h : Ah P f n I₀ Q ops l k ((d, .int .i64 (m : Nat)) :: E) I L) : Ah P f n I₀ Q ops (⟨some d, .call ⟨.builtin .len, #[x], #[T]⟩, ty, pos, af, g⟩ :: l) k E I L := Bi (Cq hx) hg hdn h

theorem Ie {S : World → Prop} {x y : Operand} {s : List UInt8} {i : Nat} {b : UInt8} {T : TypeId} {sz bb : Nat} {z : List Value} [ht : Ae P T .string sz bb z] (hx : Au E x = some (.string (str s)))
  (hy : Au E y = some (.int .i64 ((i : Nat) : Int))) (hi : s[i]? = some b) : Dz P E S ⟨some d, .index T x y, ty, pos, af, g⟩ (.int .u8 (b.toNat : Nat)) := fun a w he _ => by
  simp only [execOp, he.eval hx, he.eval hy, Instr.index, asIntOf, pure_bind]
  refine Ab (a := _) (w' := w) ?_ |>.trans rfl
  rw [Ab (Ao ht.und w)]
  have hlt : i < s.length := by
   rcases Nat.lt_or_ge i s.length with gg | gg
   ·exact gg
   ·simp [List.getElem?_eq_none gg] at hi
  have : (str s)[i]? = some b := by
   have h1 : i < (str s).size := by simpa [str, ByteArray.size] using hlt
   rw [getElem?_pos (str s) i h1]
   simp [hlt] at hi
   rw [← hi]; rfl
  simp [this, Cz]
theorem L8 {x y : Operand} {s : List UInt8} {i : Nat} {b : UInt8} {T : TypeId} {sz bb : Nat} {z : List Value} [ht : Ae P T .string sz bb z] (hx : Au E x = some (.string (str s)))
  (hy : Au E y = some (.int .i64 ((i : Nat) : Int))) (hi : s[i]? = some b) (hg : Wants ops E g) (hdn : Nat.blt d n = true)
  (h : Ah P f n I₀ Q ops l k ((d, .int .u8 (b.toNat : Nat)) :: E) I L) : Ah P f n I₀ Q ops (⟨some d, .index T x y, ty, pos, af, g⟩ :: l) k E I L := Bi (Ie hx hy hi) hg hdn h


/- Parts of strings. -/
theorem Gq {v : Int} {kk : IntKind} {y : Nat} {c : BoundsCode} {r : Nat} (hr : v = (r : Int)) (hb : r ≤ y) (w : World) : (Instr.sliceBound (.int kk v) y c).run P w = .ok r w := by
 simp only [Instr.sliceBound, asIntOf, pure_bind]
 subst hr; rw [if_pos (by omega)]; rfl
theorem Lq {s : List UInt8} {a b : Nat} (hb : b ≤ s.length) : (str s).extract a b = str ((s.take b).drop a) := by
 apply ByteArray.ext
 simp [str, ByteArray.data_extract]
 rw [List.drop_take]

def Gt (E : D3) : Option Operand → Option Int
 | none => some 0
 | some x => match Au E x with | some (.int .i64 m) => some m | _ => none
def Gs (E : D3) (top : Int) : Option Operand → Option Int
 | none => some top
 | some x => match Au E x with | some (.int .i64 m) => some m | _ => none
theorem Gh {S : World → Prop} {x : Operand} {s : List UInt8} {lo hi : Option Operand} {a b : Int} {T : TypeId} {sz bb : Nat} {z : List Value} [ht : Ae P T .string sz bb z] (hx : Au E x = some (.string (str s)))
  (hlo : Gt E lo = some a) (hhi : Gs E s.length hi = some b) (a' b' : Nat) (ha : a = a') (hb : b = b') (hab : a' ≤ b' ∧ b' ≤ s.length) : Dz P E S ⟨some d, .slice T x lo hi none, ty, pos, af, g⟩ (.string (str ((s.take b').drop a'))) := fun ac w he _ => by
  simp only [execOp, he.eval hx, Instr.sliceAt]
  refine Ab (a := _) (w' := w) ?_ |>.trans rfl
  rw [Ab (Ao ht.und w)]
  simp only [Instr.slice]
  rw [Ab (Ao ht.und w)]
  have hsz : (str s).size = s.length := by simp [str, ByteArray.size]
  have key : (Instr.sliceBounds false (str s).size (str s).size (lo.map ac.eval) (hi.map ac.eval) none).run P w = .ok (a', b', s.length) w := by
   rw [hsz]
   unfold Instr.sliceBounds
   simp only [pure_bind]
   have hlo' : lo = none ∧ a' = 0 ∨ ∃ y, lo = some y ∧ ac.eval y = .int .i64 a := by
    cases lo with
    | none => simp [Gt] at hlo; exact .inl ⟨rfl, by omega⟩
    | some y =>
     simp only [Gt] at hlo
     split at hlo
     ·rename_i m hm
      simp at hlo; subst hlo
      exact .inr ⟨y, rfl, he.eval hm⟩
     ·simp at hlo
   have tail : ∀ h' : Nat, h' = b' → (match lo.map ac.eval with
     | some v => do
      let l ← Instr.sliceBound v h' (if (none : Option Value).isSome = true then .slice3C else .sliceB)
      pure (l, h', s.length)
     | none => pure (0, h', s.length) : Sem (Nat × Nat × Nat)).run P w = .ok (a', b', s.length) w := by
    intro h' e; subst e
    rcases hlo' with ⟨e, e'⟩ | ⟨y, e, hy⟩
    ·subst e e'; rfl
    ·subst e
     simp only [Option.map_some, hy]
     rw [Ab (Gq ha hab.1 w)]; rfl
   cases hi with
   | none =>
    simp [Gs] at hhi
    simp only [Option.map_none]
    exact tail s.length (by omega)
   | some y =>
    simp only [Gs] at hhi
    split at hhi
    ·rename_i m hm
     simp at hhi; subst hhi
     simp only [Option.map_some, he.eval hm]
     rw [Ab (Gq hb hab.2 w)]
     exact tail b' rfl
    ·simp at hhi
  show (do let x ← Instr.sliceBounds false (str s).size (str s).size (lo.map ac.eval) (hi.map ac.eval) none; pure (.string ((str s).extract x.1 x.2.1)) : Sem Value).run P w = _
  rw [Ab key, Lq hab.2]; rfl
theorem H9 {x : Operand} {s : List UInt8} {lo hi : Option Operand} {a b : Int} {T : TypeId} {sz bb : Nat} {z : List Value} [ht : Ae P T .string sz bb z] (hx : Au E x = some (.string (str s)))
  (hlo : Gt E lo = some a) (hhi : Gs E s.length hi = some b) (a' b' : Nat) (ha : a = a') (hb : b = b') (hab : a' ≤ b' ∧ b' ≤ s.length) (hg : Wants ops E g) (hdn : Nat.blt d n = true)
  (h : Ah P f n I₀ Q ops l k ((d, .string (str ((s.take b').drop a'))) :: E) I L) : Ah P f n I₀ Q ops (⟨some d, .slice T x lo hi none, ty, pos, af, g⟩ :: l) k E I L := Bi (Gh hx hlo hhi a' b' ha hb hab) hg hdn h

/- Variables in memory. -/
theorem Cx {S : World → Prop} {x : Operand} {s : List UInt8} {lo : Option Operand} {a : Int} {T : TypeId} {sz bb : Nat} {z : List Value} [ht : Ae P T .string sz bb z] (hx : Au E x = some (.string (str s)))
  (hlo : Gt E lo = some a) (a' : Nat) (ha : a = a') (hab : a' ≤ s.length) : Dz P E S ⟨some d, .slice T x lo none none, ty, pos, af, g⟩ (.string (str (s.drop a'))) := by
 have := Gh (P := P) (S := S) (d := d) (ty := ty) (pos := pos) (af := af) (g := g) (T := T) (hi := none) hx hlo (b := s.length) rfl a' s.length ha rfl ⟨hab, Nat.le_refl _⟩
 rwa [List.take_length] at this
theorem Ey {S : World → Prop} {x : Operand} {s : List UInt8} {hi : Option Operand} {b : Int} {T : TypeId} {sz bb : Nat} {z : List Value} [ht : Ae P T .string sz bb z] (hx : Au E x = some (.string (str s)))
  (hhi : Gs E s.length hi = some b) (b' : Nat) (hb : b = b') (hab : b' ≤ s.length) : Dz P E S ⟨some d, .slice T x none hi none, ty, pos, af, g⟩ (.string (str (s.take b'))) :=
 Gh (P := P) (S := S) (d := d) (ty := ty) (pos := pos) (af := af) (g := g) (T := T) (lo := none) hx (a := 0) rfl hhi 0 b' rfl hb ⟨Nat.zero_le _, hab⟩
theorem Fp {x : Operand} {s : List UInt8} {lo : Option Operand} {a : Int} {T : TypeId} {sz bb : Nat} {z : List Value} [ht : Ae P T .string sz bb z] (hx : Au E x = some (.string (str s)))
  (hlo : Gt E lo = some a) (a' : Nat) (ha : a = a') (hab : a' ≤ s.length) (hg : Wants ops E g) (hdn : Nat.blt d n = true)
  (h : Ah P f n I₀ Q ops l k ((d, .string (str (s.drop a'))) :: E) I L) : Ah P f n I₀ Q ops (⟨some d, .slice T x lo none none, ty, pos, af, g⟩ :: l) k E I L := Bi (Cx hx hlo a' ha hab) hg hdn h
theorem M2 {x : Operand} {s : List UInt8} {hi : Option Operand} {b : Int} {T : TypeId} {sz bb : Nat} {z : List Value} [ht : Ae P T .string sz bb z] (hx : Au E x = some (.string (str s)))
  (hhi : Gs E s.length hi = some b) (b' : Nat) (hb : b = b') (hab : b' ≤ s.length) (hg : Wants ops E g) (hdn : Nat.blt d n = true)
  (h : Ah P f n I₀ Q ops l k ((d, .string (str (s.take b'))) :: E) I L) : Ah P f n I₀ Q ops (⟨some d, .slice T x none hi none, ty, pos, af, g⟩ :: l) k E I L := Bi (Ey hx hhi b' hb hab) hg hdn h

theorem Bm {T : TypeId} {dd : TypeDesc} {sz bb : Nat} {z : List Value} [ht : Ae P T dd sz bb z] (hg : Wants ops E g) (hdn : Nat.blt d n = true)
  (h : ∀ b, Ah P f n I₀ Q ops l k ((d, .pointer (some ⟨b, 0, none⟩)) :: E) I ((b, .cells z.toArray T (0, 0)) :: L)) : Ah P f n I₀ Q ops (⟨some d, .alloc T, ty, pos, af, g⟩ :: l) k E I L := by
 refine Gn rfl hdn (fun a he => hg.wanted a he) fun a w he hm => ?_
 obtain ⟨v, hv, hz⟩ := Fj ht w; refine ⟨_, _, I, (w.heap.size, .cells z.toArray T (0, 0)) :: L, ?_, hm.alloc _, h _⟩
 simp only [execOp, Instr.alloc]
 refine Ab (a := .pointer (some ⟨w.heap.size, 0, none⟩)) (w' := { w with heap := w.heap.push (.cells z.toArray T (0, 0)) }) ?_ |>.trans rfl
 rw [Ab hv]
 have : v.cells = z.toArray := by rw [← hz]
 simp only [newVar, newRow, newObj, this]
 rfl
theorem D2 {T : TypeId} {x : Operand} {v : Value} {vs : List Value} (hx : Au E x = some v) (hv : C5 v = some vs) (hg : Wants ops E g) (hdn : Nat.blt d n = true)
  (h : ∀ b, Ah P f n I₀ Q ops l k ((d, .pointer (some ⟨b, 0, none⟩)) :: E) I ((b, .cells vs.toArray T (0, 0)) :: L)) : Ah P f n I₀ Q ops (⟨some d, .box T x, ty, pos, af, g⟩ :: l) k E I L := by
 refine Gn rfl hdn (fun a he => hg.wanted a he) fun a w he hm => ?_
 refine ⟨_, _, I, (w.heap.size, .cells vs.toArray T (0, 0)) :: L, ?_, hm.alloc _, h _⟩
 simp only [execOp, Instr.box, he.eval hx, newVar, newRow, newObj, E5 hv]
 rfl

theorem Jl {I' : Heap} {L' : At} {T : TypeId} {x : Operand} {ad : Addr} {v : Value} (hx : Au E x = some (.pointer (some ad))) (hl : C1 P I' L' T ad v) : Dz P E (Mem I' L') ⟨some d, .load T x, ty, pos, af, g⟩ v := by
 intro a w he hm
 simp only [execOp, Instr.loadAt, he.eval hx, Instr.sureAddr, pure_bind]
 exact Ab (hl w hm) |>.trans rfl
theorem G1 {T : TypeId} {x : Operand} {ad : Addr} {v : Value} (hx : Au E x = some (.pointer (some ad))) (hl : C1 P I L T ad v) (hg : Wants ops E g) (hdn : Nat.blt d n = true)
  (h : Ah P f n I₀ Q ops l k ((d, v) :: E) I L) : Ah P f n I₀ Q ops (⟨some d, .load T x, ty, pos, af, g⟩ :: l) k E I L := Bi (Jl hx hl) hg hdn h

def I9 : List Value → List Value → Option (List Value)
 | [], cs => some cs
 | v :: vs, _ :: cs => match I9 vs cs with
  | some us => some (v :: us)
  | none => none
 | _ :: _, [] => none
def Ii : Nat → List Value → List Value → Option (List Value)
 | 0, vs, cs => I9 vs cs
 | o + 1, vs, c :: cs => match Ii o vs cs with
  | some us => some (c :: us)
  | none => none
 | _ + 1, _, [] => none
theorem Pt : ∀ {vs cs us : List Value}, I9 vs cs = some us → vs.length ≤ cs.length ∧ us = vs ++ cs.drop vs.length := by
 intro vs
 induction vs with
 | nil => intro cs us h; simp [I9] at h; simp [h]
 | cons v vs ih =>
  intro cs us h
  cases cs with
  | nil => simp [I9] at h
  | cons c cs =>
   simp only [I9] at h
   cases hu : I9 vs cs with
   | none => simp [hu] at h
   | some xs =>
    simp [hu] at h
    obtain ⟨h1, h2⟩ := ih hu; subst h
    exact ⟨by simpa using h1, by simp [h2]⟩
theorem Nt : ∀ {o : Nat} {vs cs us : List Value}, Ii o vs cs = some us → o + vs.length ≤ cs.length ∧ us = cs.take o ++ vs ++ cs.drop (o + vs.length) := by
 intro o
 induction o with
 | zero => intro vs cs us h; obtain ⟨h1, h2⟩ := Pt (by simpa [Ii] using h); exact ⟨by omega, by simp [h2]⟩
 | succ o ih =>
  intro vs cs us h
  cases cs with
  | nil => simp [Ii] at h
  | cons c cs =>
   simp only [Ii] at h
   cases hu : Ii o vs cs with
   | none => simp [hu] at h
   | some xs =>
    simp [hu] at h
    obtain ⟨h1, h2⟩ := ih hu; subst h; refine ⟨by simp; omega, ?_⟩; rw [h2, show o + 1 + vs.length = o + vs.length + 1 by omega]; simp

theorem Na {w : World} {b off : Nat} {c : Array Value} {T : TypeId} {v : Value} (hb : w.heap[b]? = some (.cells c T (0, 0))) (ho : off < c.size) (hv : Bc v = true) :
  (store ⟨b, off, none⟩ v).run P w = .ok () { w with heap := w.heap.setIfInBounds b (.cells (c.setIfInBounds off v) T (0, 0)) } := by
 have hc : w.cell? ⟨b, off, none⟩ = some c[off] := by simp [World.cell?, hb, ho]
 have hf : w.frozen? ⟨b, off, none⟩ = false := by simp [World.frozen?, hb]
 have hs : w.setCell ⟨b, off, none⟩ v = { w with heap := w.heap.setIfInBounds b (.cells (c.setIfInBounds off v) T (0, 0)) } := by
  unfold World.setCell
  congr 1
  apply Array.ext_getElem?
  intro i
  have lt : b < w.heap.size := by
   rcases Nat.lt_or_ge b w.heap.size with gg | gg
   ·exact gg
   ·simp [Array.getElem?_eq_none gg] at hb
  by_cases e : b = i
  ·subst e; rw [Array.getElem?_setIfInBounds_self, if_pos lt, Array.getElem?_modify, if_pos rfl, hb]; rfl
  ·simp [Array.getElem?_modify, e, Array.getElem?_setIfInBounds_ne e]
 cases v <;> simp [Bc] at hv <;> simp [store, Sem.run, hc, hf, hs]

theorem Mg {l : List Value} {p : Nat} {v : Value} (h : p < l.length) : (l.set p v).take (p + 1) = l.take p ++ [v] := by
 rw [List.set_eq_take_append_cons_drop, if_pos h, List.take_append]
 simp [Nat.min_eq_left (Nat.le_of_lt h), List.take_take]
theorem N2 {w : World} {b : Nat} {o : Obj} (hb : w.heap[b]? = some o) : w.heap.setIfInBounds b o = w.heap := by
 apply Array.ext_getElem?
 intro j
 by_cases e : b = j
 ·subst e
  rcases Nat.lt_or_ge b w.heap.size with lt | gg
  ·rw [Array.getElem?_setIfInBounds_self, if_pos lt, hb]
  ·simp [Array.getElem?_eq_none gg] at hb
 ·rw [Array.getElem?_setIfInBounds_ne e]

theorem Gg {b : Nat} {T : TypeId} {off : Nat} : ∀ (vs : List Value) (i : Nat) (w : World) (c : Array Value), w.heap[b]? = some (.cells c T (0, 0)) → off + i + vs.length ≤ c.size → (vs.all Bc = true) →
  ∃ c' : Array Value, (storeCells ⟨b, off, none⟩ vs i).run P w = .ok () { w with heap := w.heap.setIfInBounds b (.cells c' T (0, 0)) } ∧
   c'.toList = c.toList.take (off + i) ++ vs ++ c.toList.drop (off + i + vs.length) := by
 intro vs
 induction vs with
 | nil =>
  intro i w c hb hn _
  exact ⟨c, by simp only [storeCells, Cz, N2 hb], by simp⟩
 | cons v vs ih =>
  intro i w c hb hn hp
  simp only [List.all_cons, Bool.and_eq_true] at hp
  simp only [List.length_cons] at hn
  have lt : b < w.heap.size := by
   rcases Nat.lt_or_ge b w.heap.size with gg | gg
   ·exact gg
   ·simp [Array.getElem?_eq_none gg] at hb
  have ha : (Addr.add ⟨b, off, none⟩ i) = ⟨b, off + i, none⟩ := by unfold Addr.add; split <;> simp_all
  simp only [storeCells, ha]
  rw [Ab (Na hb (by omega) hp.1)]; obtain ⟨c', h1, h2⟩ := ih (i + 1) { w with heap := w.heap.setIfInBounds b (.cells (c.setIfInBounds (off + i) v) T (0, 0)) } (c.setIfInBounds (off + i) v)
   (by simp [Array.getElem?_setIfInBounds_self, lt]) (by simp; omega) hp.2
  refine ⟨c', ?_, ?_⟩
  ·rw [h1]; simp
  ·rw [h2]
   simp only [Array.toList_setIfInBounds]
   rw [show off + (i + 1) = off + i + 1 by omega, Mg (by simpa using (by omega : off + i < c.size)), List.drop_set_of_lt (by omega)]; rw [show off + i + 1 + vs.length = off + i + (v :: vs).length by simp; omega]
   simp

theorem Le {b off : Nat} {T U : TypeId} {dd : TypeDesc} {sz bb : Nat} {z : List Value} (ht : Ae P T dd sz bb z) {v : Value} {vs cs us : List Value} {w : World}
  (hb : w.heap[b]? = some (.cells cs.toArray U (0, 0))) (hv : v.cells = vs.toArray) (hl : vs.length = sz) (hp : vs.all Bc = true) (hu : off + vs.length ≤ cs.length)
  (hus : us = cs.take off ++ vs ++ cs.drop (off + vs.length)) :
  (storeVar T ⟨b, off, none⟩ v).run P w = .ok () { w with heap := w.heap.setIfInBounds b (.cells us.toArray U (0, 0)) } := by
 unfold storeVar
 rw [Ab (C4 ht w)]; rw [if_neg (by rw [hv]; simp [hl])]
 have := Gg (P := P) (off := off) vs 0 w cs.toArray hb (by simpa using hu) hp
 obtain ⟨c', h1, h2⟩ := this; rw [hv]; rw [show (List.toArray vs).toList = vs from rfl]
 have h3 : c' = us.toArray := by
  apply Array.ext'
  rw [h2, hus]; simp
 rw [← h3]
 exact h1

theorem Nv {T U : TypeId} {x y : Operand} {b off : Nat} {v : Value} {vs cs us : List Value} {L' : At} {dd : TypeDesc} {sz bb : Nat} {z : List Value} [ht : Ae P T dd sz bb z]
  (hx : Au E x = some (.pointer (some ⟨b, off, none⟩))) (hy : Au E y = some v) (hv : C5 v = some vs) (hl : vs.length = sz) (hp : vs.all Bc = true)
  (hu : Upd b (.cells us.toArray U (0, 0)) (.cells cs.toArray U (0, 0)) L L') (hus : Ii off vs cs = some us) (a : Act) (w : World) (he : EnvOk E a) (hm : Mem I L w) :
  ∃ w', ((execOp a.eval ⟨none, .store T x y, ty, pos, af, g⟩).run P w = .ok .skip w' ∨ ∃ v, (execOp a.eval ⟨none, .store T x y, ty, pos, af, g⟩).run P w = .ok (.value v) w') ∧ Mem I L' w' := by
 refine ⟨{ w with heap := w.heap.setIfInBounds b (.cells us.toArray U (0, 0)) }, .inl ?_, hm.upd hu⟩
 simp only [execOp, Instr.storeAt, he.eval hx, he.eval hy, Instr.sureAddr, pure_bind]
 obtain ⟨h1, h2⟩ := Nt hus
 exact Ab (Le ht (hm.2.1 _ hu.mem.1).1 (E5 hv) hl hp h1 h2) |>.trans rfl
theorem Nr {T U : TypeId} {x y : Operand} {b off : Nat} {v : Value} {vs cs us : List Value} {L' : At} {dd : TypeDesc} {sz bb : Nat} {z : List Value} [ht : Ae P T dd sz bb z]
  (hx : Au E x = some (.pointer (some ⟨b, off, none⟩))) (hy : Au E y = some v) (hv : C5 v = some vs) (hl : vs.length = sz) (hp : vs.all Bc = true)
  (hu : Upd b (.cells us.toArray U (0, 0)) (.cells cs.toArray U (0, 0)) L L') (hus : Ii off vs cs = some us) (hg : Wants ops E g)
  (h : Ah P f n I₀ Q ops l k E I L') : Ah P f n I₀ Q ops (⟨none, .store T x y, ty, pos, af, g⟩ :: l) k E I L :=
 Ma rfl (fun a he => hg.wanted a he) (Nv hx hy hv hl hp hu hus) h
theorem Qi {S : World → Prop} {fuel : Nat} {listed listed' : Array Bool} (i : Nat) {T U : TypeId} {x y : Operand} {b off : Nat} {v : Value} {vs cs us : List Value} {L' : At} {dd : TypeDesc} {sz bb : Nat} {z : List Value} [ht : Ae P T dd sz bb z]
  (hi : ops[i]? = some ⟨none, .store T x y, ty, pos, af, g⟩) (hc : decide (Region.ready .any ops listed = [i]) = true) (hl' : listed' = listed.setIfInBounds i true)
  (hx : Au E x = some (.pointer (some ⟨b, off, none⟩))) (hy : Au E y = some v) (hv : C5 v = some vs) (hl : vs.length = sz) (hp : vs.all Bc = true)
  (hu : Upd b (.cells us.toArray U (0, 0)) (.cells cs.toArray U (0, 0)) L L') (hus : Ii off vs cs = some us) (hg : Wants ops E g) (hS : C9 ops listed' = true ∨ ∀ w, Mem I L' w → S w)
  (h : Be P f n I₀ Q ops S fuel listed' k E I L') : Be P f n I₀ Q ops S (fuel + 1) listed k E I L :=
 Lp i hi hc hl' rfl (fun a he => hg.wanted a he) (Nv hx hy hv hl hp hu hus) hS h

end rules
section rules
variable {P : Program} {f : FuncId} {n : Nat} {I₀ : Heap} {Q : A5} {k : List Item} {E : D3} {I : Heap} {L : At}
variable {ops : Array Oper} {d : Nat} {ty : TypeId} {pos : String} {af : Array Edge} {g : Option (Nat × Bool)} {l : List Oper}

theorem Bb {S : World → Prop} {T : TypeId} {i off : Nat} [hf : Ak P T i off] {x : Operand} {b o : Nat} (hx : Au E x = some (.pointer (some ⟨b, o, none⟩))) :
  Dz P E S ⟨some d, .fieldAddr T x i, ty, pos, af, g⟩ (.pointer (some ⟨b, o + off, none⟩)) := by
 obtain ⟨fs, fld, inf, hu, hi, hin, hsz, ho⟩ := hf.get; intro a w he _
 simp only [execOp, Instr.fieldAt, he.eval hx]
 refine Ab (a := _) (w' := w) ?_ |>.trans rfl
 rw [Ab (Ao hu w)]
 simp only [hi, Instr.sureAddr, pure_bind, fieldPlace]
 have h1 : (sizeOf fld.type).run P w = .ok inf.size w := by unfold sizeOf; rw [Ab (Dv hin w)]; rfl
 refine Ab (a := (⟨b, o + off, none⟩ : Addr)) (w' := w) ?_ |>.trans rfl
 rw [Ab h1, if_neg (by simpa using hsz), ho]
 have : Addr.add ⟨b, o, none⟩ off = ⟨b, o + off, none⟩ := by unfold Addr.add; split <;> simp_all
 rw [this]; rfl
theorem Bp {S : World → Prop} {T : TypeId} {i off : Nat} [hf : Ak P T i off] {x : Operand} {ad : Addr} (hx : Au E x = some (.pointer (some ad))) :
  Dz P E S ⟨some d, .fieldAddr T x i, ty, pos, af, g⟩ (.pointer (some (ad.add off))) := by
 obtain ⟨fs, fld, inf, hu, hi, hin, hsz, ho⟩ := hf.get; intro a w he _
 simp only [execOp, Instr.fieldAt, he.eval hx]
 refine Ab (a := _) (w' := w) ?_ |>.trans rfl
 rw [Ab (Ao hu w)]
 simp only [hi, Instr.sureAddr, pure_bind, fieldPlace]
 have h1 : (sizeOf fld.type).run P w = .ok inf.size w := by unfold sizeOf; rw [Ab (Dv hin w)]; rfl
 refine Ab (a := ad.add off) (w' := w) ?_ |>.trans rfl
 rw [Ab h1, if_neg (by simpa using hsz), ho]
 rfl
theorem B9 {T : TypeId} {i off : Nat} [hf : Ak P T i off] {x : Operand} {ad : Addr} (hx : Au E x = some (.pointer (some ad))) (hg : Wants ops E g) (hdn : Nat.blt d n = true)
  (h : Ah P f n I₀ Q ops l k ((d, .pointer (some (ad.add off))) :: E) I L) : Ah P f n I₀ Q ops (⟨some d, .fieldAddr T x i, ty, pos, af, g⟩ :: l) k E I L := Bi (Bp hx) hg hdn h
theorem Ba {T : TypeId} {i off : Nat} [hf : Ak P T i off] {x : Operand} {b o : Nat} (hx : Au E x = some (.pointer (some ⟨b, o, none⟩))) (hg : Wants ops E g) (hdn : Nat.blt d n = true)
  (h : Ah P f n I₀ Q ops l k ((d, .pointer (some ⟨b, o + off, none⟩)) :: E) I L) : Ah P f n I₀ Q ops (⟨some d, .fieldAddr T x i, ty, pos, af, g⟩ :: l) k E I L := Bi (Bb hx) hg hdn h

theorem Id {S : World → Prop} {T e : TypeId} {sz bb esz ebb : Nat} {z ez : List Value} {dd : TypeDesc} [ht : Ae P T (.slice e) sz bb z] [hte : Ae P e dd esz ebb ez] {x y : Operand} {ad : Addr} {m c : Nat} {i : Int}
  (hx : Au E x = some (.slice (some ad) m c)) (hy : Au E y = some (.int .i64 i)) (i' : Nat) (hi : i = i') (him : i' < m) : Dz P E S ⟨some d, .indexAddr T x y, ty, pos, af, g⟩ (.pointer (some (ad.add (i' * esz)))) := fun a w he _ => by
  subst hi
  simp only [execOp, he.eval hx, he.eval hy, Instr.indexAt, asIntOf, pure_bind]
  refine Ab (a := _) (w' := w) ?_ |>.trans rfl
  rw [Ab (Ao ht.und w)]
  simp only [pure_bind]
  rw [Ab (Ao ht.und w)]; rw [if_pos ⟨by omega, by omega⟩]; rw [Ab (C4 hte w)]
  simp [Cz]
theorem L7 {T e : TypeId} {sz bb esz ebb : Nat} {z ez : List Value} {dd : TypeDesc} [ht : Ae P T (.slice e) sz bb z] [hte : Ae P e dd esz ebb ez] {x y : Operand} {ad : Addr} {m c : Nat} {i : Int}
  (hx : Au E x = some (.slice (some ad) m c)) (hy : Au E y = some (.int .i64 i)) (i' : Nat) (hi : i = i') (him : i' < m) (hg : Wants ops E g) (hdn : Nat.blt d n = true)
  (h : Ah P f n I₀ Q ops l k ((d, .pointer (some (ad.add (i' * esz)))) :: E) I L) : Ah P f n I₀ Q ops (⟨some d, .indexAddr T x y, ty, pos, af, g⟩ :: l) k E I L := Bi (Id hx hy i' hi him) hg hdn h

theorem Js {S : World → Prop} {T e : TypeId} {sz bb esz ebb : Nat} {z ez : List Value} {dd : TypeDesc} [ht : Ae P T (.slice e) sz bb z] [hte : Ae P e dd esz ebb ez] {x : Operand} {ad : Option Addr} {m c : Nat}
  {lo hi : Option Operand} {a b : Int} (hx : Au E x = some (.slice ad m c))
  (hlo : Gt E lo = some a) (hhi : Gs E m hi = some b) (a' b' : Nat) (ha : a = a') (hb : b = b') (hab : a' ≤ b' ∧ b' ≤ c) : Dz P E S ⟨some d, .slice T x lo hi none, ty, pos, af, g⟩ (.slice (if c = a' then ad else ad.map (·.add (a' * esz))) (b' - a') (c - a')) := fun ac w he _ => by
  simp only [execOp, he.eval hx, Instr.sliceAt]
  refine Ab (a := _) (w' := w) ?_ |>.trans rfl
  rw [Ab (Ao ht.und w)]
  simp only [Instr.slice]
  rw [Ab (Ao ht.und w)]
  have key : (Instr.sliceBounds true m c (lo.map ac.eval) (hi.map ac.eval) none).run P w = .ok (a', b', c) w := by
   unfold Instr.sliceBounds
   simp only [pure_bind]
   have hlo' : lo = none ∧ a' = 0 ∨ ∃ y, lo = some y ∧ ac.eval y = .int .i64 a := by
    cases lo with
    | none => simp [Gt] at hlo; exact .inl ⟨rfl, by omega⟩
    | some y =>
     simp only [Gt] at hlo
     split at hlo
     ·rename_i m hm
      simp at hlo; subst hlo
      exact .inr ⟨y, rfl, he.eval hm⟩
     ·simp at hlo
   have tail : ∀ h' : Nat, h' = b' → (match lo.map ac.eval with
     | some v => do
      let l ← Instr.sliceBound v h' (if (none : Option Value).isSome = true then .slice3C else .sliceB)
      pure (l, h', c)
     | none => pure (0, h', c) : Sem (Nat × Nat × Nat)).run P w = .ok (a', b', c) w := by
    intro h' e; subst e
    rcases hlo' with ⟨e, e'⟩ | ⟨y, e, hy⟩
    ·subst e e'; rfl
    ·subst e
     simp only [Option.map_some, hy]
     rw [Ab (Gq ha hab.1 w)]; rfl
   cases hi with
   | none =>
    simp [Gs] at hhi
    simp only [Option.map_none]
    exact tail m (by omega)
   | some y =>
    simp only [Gs] at hhi
    split at hhi
    ·rename_i m' hm
     simp at hhi; subst hhi
     simp only [Option.map_some, he.eval hm]
     rw [Ab (Gq hb hab.2 w)]
     exact tail b' rfl
    ·simp at hhi
  show (do let x ← Instr.sliceBounds true m c (lo.map ac.eval) (hi.map ac.eval) none; let size ← sizeOf e; pure (.slice (if x.2.2 = x.1 then ad else ad.map (·.add (x.1 * size))) (x.2.1 - x.1) (x.2.2 - x.1)) : Sem Value).run P w = _
  rw [Ab key]; rw [Ab (C4 hte w)]; rfl
theorem D9 {T e : TypeId} {sz bb esz ebb : Nat} {z ez : List Value} {dd : TypeDesc} [ht : Ae P T (.slice e) sz bb z] [hte : Ae P e dd esz ebb ez] {x : Operand} {ad : Option Addr} {m c : Nat}
  {lo hi : Option Operand} {a b : Int} (hx : Au E x = some (.slice ad m c))
  (hlo : Gt E lo = some a) (hhi : Gs E m hi = some b) (a' b' : Nat) (ha : a = a') (hb : b = b') (hab : a' ≤ b' ∧ b' ≤ c) (hg : Wants ops E g) (hdn : Nat.blt d n = true)
  (h : Ah P f n I₀ Q ops l k ((d, .slice (if c = a' then ad else ad.map (·.add (a' * esz))) (b' - a') (c - a')) :: E) I L) : Ah P f n I₀ Q ops (⟨some d, .slice T x lo hi none, ty, pos, af, g⟩ :: l) k E I L := Bi (Js hx hlo hhi a' b' ha hb hab) hg hdn h

theorem Q7 {S : World → Prop} {T : TypeId} {parts : Array (Nat × Operand)} {is : List Nat} {vs : List Value} {v : Value} (hp : parts.toList.map (·.1) = is) (ho : Dy E (parts.toList.map (·.2)) = some vs)
  (hb : ∀ w, (Instr.build T (is.zip vs).toArray).run P w = .ok v w) : Dz P E S ⟨some d, .build T parts, ty, pos, af, g⟩ (v) := fun a w he _ => by
  have h1 : parts.map (fun (i, x) => (i, a.eval x)) = (is.zip vs).toArray := by
   apply Array.ext'
   have := he.evals ho
   rw [← hp, ← this]
   simp [List.zip_map', Function.comp_def]
  simp only [execOp]
  rw [h1]
  exact Ab (hb w) |>.trans rfl
theorem Qs {T : TypeId} {parts : Array (Nat × Operand)} {is : List Nat} {vs : List Value} {v : Value} (hp : parts.toList.map (·.1) = is) (ho : Dy E (parts.toList.map (·.2)) = some vs)
  (hb : ∀ w, (Instr.build T (is.zip vs).toArray).run P w = .ok v w) (hg : Wants ops E g) (hdn : Nat.blt d n = true)
  (h : Ah P f n I₀ Q ops l k ((d, v) :: E) I L) : Ah P f n I₀ Q ops (⟨some d, .build T parts, ty, pos, af, g⟩ :: l) k E I L := Bi (Q7 hp ho hb) hg hdn h

theorem K3 {T e : TypeId} {parts : Array (Nat × Operand)} {is : List Nat} {vs cs : List Value} {m : Nat} {sz bb esz ebb : Nat} {z ez : List Value} {dd : TypeDesc} [ht : Ae P T (.slice e) sz bb z] [hte : Ae P e dd esz ebb ez]
  (hp : parts.toList.map (·.1) = is) (ho : Dy E (parts.toList.map (·.2)) = some vs) (hm0 : m * esz ≠ 0) (hm1 : m * esz ≤ 2 ^ 24)
  (hfill : Instr.fill (fun i => some (i * esz, esz)) ((Array.range (m * esz)).map (ez.toArray[· % ez.toArray.size]!)) (is.zip vs) = some cs.toArray) (hg : Wants ops E g) (hdn : Nat.blt d n = true)
  (h : ∀ b, Ah P f n I₀ Q ops l k ((d, .slice (some ⟨b, 0, none⟩) m m) :: E) I ((b, .cells cs.toArray e (0, 0)) :: L)) :
  Ah P f n I₀ Q ops (⟨some d, .buildSlice T m parts, ty, pos, af, g⟩ :: l) k E I L := by
 refine Gn rfl hdn (fun a he => hg.wanted a he) fun a w he hm => ?_
 refine ⟨_, _, I, (w.heap.size, .cells cs.toArray e (0, 0)) :: L, ?_, hm.alloc _, h _⟩
 have h1 : parts.map (fun (i, x) => (i, a.eval x)) = (is.zip vs).toArray := by
  apply Array.ext'
  have := he.evals ho
  rw [← hp, ← this]
  simp [List.zip_map', Function.comp_def]
 simp only [execOp]
 rw [h1]; refine Ab (a := .slice (some ⟨w.heap.size, 0, none⟩) m m) (w' := { w with heap := w.heap.push (.cells cs.toArray e (0, 0)) }) ?_ |>.trans rfl
 unfold Instr.buildSlice
 rw [Ab (Ao ht.und w)]
 simp only []
 rw [Ab (C4 hte w)]; rw [if_neg (by omega), if_neg hm0]; obtain ⟨zv, hz1, hz2⟩ := Fj hte w
 have hz3 : zv.cells = ez.toArray := by rw [← hz2]
 simp only [bind_assoc, pure_bind]
 rw [Ab hz1, hz3]; rw [hfill]
 rfl

/- 'append' onto a slice of the call's own. -/
theorem M1 (need c : Nat) (h : c < need) : Builtin.nextslicecap need c ≤ 2 * need + 1000 := by
 unfold Builtin.nextslicecap
 split
 ·omega
 ·split
  ·omega
  ·have gen : ∀ r c : Nat, c < need + (need + 768) / 4 + 1 → Builtin.growBy need r c ≤ need + (need + 768) / 4 := by
    intro r
    induction r with
    | zero => intro c hc; simp [Builtin.growBy]; omega
    | succ r ih =>
     intro c hc
     simp only [Builtin.growBy]
     split
     ·omega
     ·exact ih _ (by omega)
   have := gen 4 c (by omega)
   omega

theorem Gf {I : Heap} {L : At} {w : World} (hm : Mem I L w) {ad : Option Addr} {m c sz : Nat} {xs : List Value} (hl : xs.length = m * sz)
  (hr : ∀ a, ad = some a → Do I L a xs) (hn : ad = none → xs = []) : (Builtin.firstCells sz m (.slice ad m c)).run P w = .ok xs.toArray w := by
 cases ad with
 | none => simp [Builtin.firstCells, hn rfl, Cz]
 | some a =>
  simp only [Builtin.firstCells]
  rw [← hl]
  exact Fc xs (hr a rfl w hm)

abbrev Hl := Option (Nat × List Value)
def C3 (e : TypeId) (xs : List Value) : Hl → At
 | none => []
 | some (b, sp) => [(b, .cells (xs ++ sp).toArray e (0, 0))]
def Bw (m : Nat) (c : Nat) : Hl → Value
 | none => .slice none 0 0
 | some (b, sp) => .slice (some ⟨b, 0, none⟩) m c
theorem Fb {m c : Nat} {B : Hl} : Bc (Bw m c B) = true := by cases B <;> rfl
def Eh (esz m c : Nat) (xs : List Value) : Hl → Prop
 | none => xs = [] ∧ m = 0 ∧ c = 0
 | some (_, sp) => xs.length = m * esz ∧ m ≤ c ∧ sp.length = (c - m) * esz

theorem Mem.perm {I : Heap} {L L' : At} {w : World} (hp : L.Perm L') (h : Mem I L w) : Mem I L' w :=
 ⟨h.1, fun r hr => h.2.1 r (hp.mem_iff.2 hr), (hp.map _).nodup_iff.1 h.2.2⟩
theorem Mem.perm2 {I : Heap} {p q : Nat × Obj} {L : At} {w : World} (h : Mem I (p :: q :: L) w) : Mem I (q :: p :: L) w := h.perm (List.Perm.swap ..)
theorem Mem.sub {I : Heap} {L L' : At} {w : World} (hs : L'.Sublist L) (h : Mem I L w) : Mem I L' w :=
 ⟨h.1, fun r hr => h.2.1 r (hs.subset hr), h.2.2.sublist (hs.map _)⟩

theorem Mem.f1 {I : Heap} {a p : Nat × Obj} {L : At} {w : World} (h : Mem I (a :: p :: L) w) : Mem I (p :: a :: L) w := h.perm2
theorem Mem.f2 {I : Heap} {a b p : Nat × Obj} {L : At} {w : World} (h : Mem I (a :: b :: p :: L) w) : Mem I (p :: a :: b :: L) w := h.perm (List.perm_middle (l₁ := [a, b]))
theorem Mem.f3 {I : Heap} {a b c p : Nat × Obj} {L : At} {w : World} (h : Mem I (a :: b :: c :: p :: L) w) : Mem I (p :: a :: b :: c :: L) w := h.perm (List.perm_middle (l₁ := [a, b, c]))
theorem Mem.f4 {I : Heap} {a b c d p : Nat × Obj} {L : At} {w : World} (h : Mem I (a :: b :: c :: d :: p :: L) w) : Mem I (p :: a :: b :: c :: d :: L) w := h.perm (List.perm_middle (l₁ := [a, b, c, d]))
theorem Mem.f5 {I : Heap} {a b c d e p : Nat × Obj} {L : At} {w : World} (h : Mem I (a :: b :: c :: d :: e :: p :: L) w) : Mem I (p :: a :: b :: c :: d :: e :: L) w := h.perm (List.perm_middle (l₁ := [a, b, c, d, e]))
theorem Mem.f6 {I : Heap} {a b c d e g p : Nat × Obj} {L : At} {w : World} (h : Mem I (a :: b :: c :: d :: e :: g :: p :: L) w) : Mem I (p :: a :: b :: c :: d :: e :: g :: L) w := h.perm (List.perm_middle (l₁ := [a, b, c, d, e, g]))
theorem Mem.u1 {I : Heap} {a : Nat × Obj} {X L : At} {w : World} (h : Mem I (a :: (X ++ L)) w) : Mem I (X ++ a :: L) w := h.perm (List.perm_append_comm_assoc [a] X L)
theorem Mem.u2 {I : Heap} {a b : Nat × Obj} {X L : At} {w : World} (h : Mem I (a :: b :: (X ++ L)) w) : Mem I (X ++ a :: b :: L) w := h.perm (List.perm_append_comm_assoc [a, b] X L)
theorem Mem.u3 {I : Heap} {a b c : Nat × Obj} {X L : At} {w : World} (h : Mem I (a :: b :: c :: (X ++ L)) w) : Mem I (X ++ a :: b :: c :: L) w := h.perm (List.perm_append_comm_assoc [a, b, c] X L)
theorem Mem.u4 {I : Heap} {a b c d : Nat × Obj} {X L : At} {w : World} (h : Mem I (a :: b :: c :: d :: (X ++ L)) w) : Mem I (X ++ a :: b :: c :: d :: L) w := h.perm (List.perm_append_comm_assoc [a, b, c, d] X L)
theorem Mem.u5 {I : Heap} {a b c d e : Nat × Obj} {X L : At} {w : World} (h : Mem I (a :: b :: c :: d :: e :: (X ++ L)) w) : Mem I (X ++ a :: b :: c :: d :: e :: L) w := h.perm (List.perm_append_comm_assoc [a, b, c, d, e] X L)

theorem Jm (z : Array Value) (m : Nat) : (Builtin.zeroCells z m).size = m * z.size := by simp [Builtin.zeroCells]

theorem Jf {T e : TypeId} {sz bb esz ebb : Nat} {z ez : List Value} {dd : TypeDesc} (ht : Ae P T (.slice e) sz bb z) (hte : Ae P e dd esz ebb ez) (hez : ez.length = esz)
  {I : Heap} {L : At} {w : World} {B : Hl} {xs ys : List Value} {m c : Nat} {T2 : TypeId} {x : Value} {m2 : Nat} {dd2 : TypeDesc} (hu2 : P.underlying T2 = some dd2) (hni : ∀ kk, dd2 ≠ .int kk)
  (hB : Eh esz m c xs B) (hm : Mem I (C3 e xs B ++ L) w) (hyl : ys.length = m2 * esz) (hxl : ∀ w, (Builtin.lenOf x).run P w = .ok m2 w) (hxf : ∀ w, Mem I L w → (Builtin.firstCells esz m2 x).run P w = .ok ys.toArray w) (hyp : ys.all Bc = true) (hm2 : 0 < m2) (hesz : 0 < esz)
  (hsize : (m + m2) ≤ 4294967296) (hbytes : ebb ≤ 1024) :
  ∃ w' B' c', (Builtin.append_ #[T, T2] T #[Bw m c B, x]).run P w = .ok (Bw (m + m2) c' B') w' ∧ B' ≠ none ∧
   Eh esz (m + m2) c' (xs ++ ys) B' ∧ Mem I (C3 e (xs ++ ys) B' ++ L) w' := by
 have hmL : Mem I L w := hm.sub (List.sublist_append_right _ _)
 obtain ⟨einf, hein, hebb⟩ := Ia hte w
 have hval : ∃ base cc, Bw m c B = .slice base m cc ∧ c = cc ∧ (base = none → xs = [] ∧ B = none ∧ m = 0 ∧ c = 0) ∧ (∀ a, base = some a → ∃ b sp, B = some (b, sp) ∧ a = ⟨b, 0, none⟩) := by
  cases B with
  | none => obtain ⟨h1, h2, h3⟩ := hB; exact ⟨none, 0, by simp [Bw, h2], h3, fun _ => ⟨h1, rfl, h2, h3⟩, by simp⟩
  | some p => obtain ⟨b, sp⟩ := p; exact ⟨some ⟨b, 0, none⟩, c, rfl, rfl, by simp, fun a ha => ⟨b, sp, rfl, by simpa using ha.symm⟩⟩
 obtain ⟨base, cc, hbv, rfl, hbn, hbs⟩ := hval; rw [hbv]
 unfold Builtin.append_
 simp only [List.getElem?_toArray, List.getElem?_cons_zero, List.getElem?_cons_succ]
 rw [Ab (Ao ht.und w)]
 simp only []
 rw [Ab (C4 hte w)]; rw [Ab (Ao hu2 w)]
 have hz : (match dd2 with | .int _ => true | _ => false) = false := by
  cases dd2 <;> first | rfl | exact absurd rfl (hni _)
 simp only [hz, pure_bind, Bool.false_eq_true, if_false, Bool.not_false, if_true, false_or]
 rw [Ab (hxl w)]
 have hxl : xs.length = m * esz ∧ m ≤ c := by
  cases B with
  | none => obtain ⟨h1, h2, h3⟩ := hB; subst h1 h2; simp
  | some p => exact ⟨hB.1, hB.2.1⟩
 have hfy := hxf w hmL
 by_cases hfit : m + m2 ≤ c
 ·simp only [if_pos hfit]
  rw [Ab hfy]
  have : base ≠ none := fun e => by have := hbn e; omega
  cases hbb : base with
  | none => exact absurd hbb this
  | some a =>
   obtain ⟨b, sp, rfl, rfl⟩ := hbs a hbb; obtain ⟨h1, h2, h3⟩ := hB
   have hown := (hm.2.1 _ (List.mem_append_left _ (List.mem_singleton.2 rfl))).1
   have hsp : ys.length ≤ sp.length := by rw [hyl, h3]; exact Nat.mul_le_mul_right _ (by omega)
   have hadd : (Addr.add ⟨b, 0, none⟩ (m * esz)) = ⟨b, m * esz, none⟩ := by unfold Addr.add; split <;> simp_all
   obtain ⟨c', hs1, hs2⟩ := Gg (P := P) (off := m * esz) ys 0 w _ hown (by simp; omega) hyp
   have hc' : c' = (xs ++ ys ++ sp.drop ys.length).toArray := by
    apply Array.ext'
    rw [hs2]
    simp only [List.toList_toArray, Nat.add_zero, ← h1]
    rw [List.take_left', List.drop_append]
    ·simp [List.drop_eq_nil_of_le]
    ·rfl
   refine ⟨{ w with heap := w.heap.setIfInBounds b (.cells c' e (0, 0)) }, some (b, sp.drop ys.length), c, ?_, by simp, ?_, ?_⟩
   ·simp only [hadd, Bw]
    rw [Ab hs1]; rfl
   ·refine ⟨by simp [h1, hyl, Nat.add_mul], hfit, ?_⟩
    simp only [List.length_drop, h3, hyl]
    rw [← Nat.sub_mul]; congr 1; omega
   ·rw [hc']
    exact hm.upd (Upd.here)
 ·simp only [if_neg hfit]
  have hmax : ¬ (((m + m2 : Nat) : Int) > IntKind.i64.max) := by
   simp [IntKind.max, IntKind.bits, IntKind.signed]; omega
  rw [Ab hein]
  simp only [if_neg (fun h : (((m + m2 : Nat) : Int) > IntKind.i64.max) ∧ _ => hmax h.1)]
  rw [Ab hein]
  have hcap : ¬ (Builtin.nextslicecap (m + m2) c * einf.bytes > 2 ^ 48) := by
   have h1 := M1 (m + m2) c (by omega)
   have h2 : Builtin.nextslicecap (m + m2) c * einf.bytes ≤ (2 * (m + m2) + 1000) * 1024 := Nat.mul_le_mul h1 (by omega)
   omega
  simp only [if_neg hcap]
  obtain ⟨zv, hz1, hz2⟩ := Fj hte w
  have hcut : ∀ t, m + m2 ≤ (Question.appendCap (m + m2) c e).cut t := fun t => by simp [Question.cut]
  let NC := (Question.appendCap (m + m2) c e).cut (w.tape w.drawn (.appendCap (m + m2) c e))
  let w1 : World := { w with drawn := w.drawn + 1 }
  have hch : (choose (.appendCap (m + m2) c e)).run P w = .ok NC w1 := by simp [choose, Sem.run, Question.forced, NC, w1]
  have hNC : m + m2 ≤ NC := hcut _
  rw [Ab hch]
  have hm1 : Mem I (C3 e xs B ++ L) w1 := hm
  have hmL1 : Mem I L w1 := hmL
  obtain ⟨einf1, hein1, _⟩ := Ia hte w1; rw [Ab hein1]
  have hroom : (askRoom (NC * einf1.bytes)).run P w1 = .ok () w1 := by unfold askRoom; split <;> rfl
  rw [Ab hroom]
  have hfx : (Builtin.firstCells esz m (.slice base m c)).run P w1 = .ok xs.toArray w1 := by
   refine Gf hm1 hxl.1 ?_ (fun e => (hbn e).1); intro a ha; obtain ⟨b, sp, rfl, rfl⟩ := hbs a ha; intro ww hw i hi; rw [Im (hw.2.1 _ (List.mem_append_left _ (List.mem_singleton.2 rfl))).1]
   simp [List.getElem?_append_left hi, hi]
  rw [Ab hfx, Ab (hxf w1 hmL1)]; obtain ⟨zv1, hz1, hz2⟩ := Fj hte w1; rw [Ab hz1]
  refine ⟨{ w1 with heap := w1.heap.push (.cells (xs ++ ys ++ (Builtin.zeroCells zv1.cells (NC - (m + m2))).toList).toArray e (0, 0)) },
   some (w.heap.size, (Builtin.zeroCells zv1.cells (NC - (m + m2))).toList), NC, ?_, by simp, ?_, ?_⟩
  ·have : (xs.toArray ++ ys.toArray ++ Builtin.zeroCells zv1.cells (NC - (m + m2))) = (xs ++ ys ++ (Builtin.zeroCells zv1.cells (NC - (m + m2))).toList).toArray := by
    apply Array.ext'; simp
   rw [this]
   rfl
  ·refine ⟨by simp [hxl.1, hyl, Nat.add_mul], hNC, ?_⟩
   have hzs : zv1.cells.size = esz := by rw [← hez, ← hz2]; simp
   simp [Jm, hzs]
  ·exact hmL1.alloc _

theorem Ge {T T2 e : TypeId} {sz bb esz ebb sz2 bb2 : Nat} {z ez z2 : List Value} {dd dd2 : TypeDesc} [ht : Ae P T (.slice e) sz bb z] [hte : Ae P e dd esz ebb ez] [ht2 : Ae P T2 dd2 sz2 bb2 z2]
  {x y : Operand} {B : Hl} {xs ys : List Value} {m c : Nat} {ad2 : Option Addr} {m2 c2 : Nat} {L₀ : At} (hni : ∀ kk, dd2 ≠ .int kk) (hez : ez.length = esz)
  (hx : Au E x = some (Bw m c B)) (hy : Au E y = some (.slice ad2 m2 c2)) (hB : Eh esz m c xs B) (hL : ∀ w, Mem I L w → Mem I (C3 e xs B ++ L₀) w)
  (hyl : ys.length = m2 * esz) (hyr : ∀ a, ad2 = some a → Do I L₀ a ys) (hyn : ad2 = none → ys = []) (hyp : ys.all Bc = true) (hm2 : 0 < m2) (hesz : 0 < esz)
  (hsize : (m + m2) ≤ 4294967296) (hbytes : ebb ≤ 1024) (hg : Wants ops E g) (hdn : Nat.blt d n = true)
  (h : ∀ b sp c', Eh esz (m + m2) c' (xs ++ ys) (some (b, sp)) → Ah P f n I₀ Q ops l k ((d, .slice (some ⟨b, 0, none⟩) (m + m2) c') :: E) I ((b, .cells (xs ++ ys ++ sp).toArray e (0, 0)) :: L₀)) :
  Ah P f n I₀ Q ops (⟨some d, .call ⟨.builtin .append, #[x, y], #[T, T2]⟩, T, pos, af, g⟩ :: l) k E I L := by
 refine Gn rfl hdn (fun a he => hg.wanted a he) fun a w he hm => ?_
 obtain ⟨w', B', c', hr, hne, hB', hm'⟩ := Jf (x := .slice ad2 m2 c2) ht hte hez ht2.und hni hB (hL w hm) hyl (fun _ => rfl) (fun w hw => Gf hw hyl hyr hyn) hyp hm2 hesz hsize hbytes
 cases B' with
 | none => exact absurd rfl hne
 | some p =>
  obtain ⟨b, sp⟩ := p; refine ⟨_, w', I, _, ?_, hm', h b sp c' hB'⟩
  simp only [execOp, resolve, List.map_toArray, List.map, he.eval hx, he.eval hy, pure_bind, invoke, builtin]
  exact Ab hr |>.trans rfl


/- Tests that split the way, and tests that are decided. -/
theorem EnvOk.shadow {E : D3} {a : Act} {t : Nat} {v : Value} (h : EnvOk E a) (hv : A8 E t = some v) : EnvOk ((t, v) :: E) a := by
 intro u x hx; rw [Bu] at hx
 by_cases e : t = u
 ·subst e; simp at hx; subst hx; exact h _ _ hv
 ·simp [e] at hx; exact h _ _ hx

theorem Tw {c : Operand} {x y : Code} {p : Prop} [Decidable p] (hc : Au E c = some (.bool (decide p))) (hp : ¬ p) (h : RunS P f n I₀ Q (.code y :: k) E I L) : RunS P f n I₀ Q (.code (.cond c x y) :: k) E I L :=
 Cw (by rw [hc, decide_eq_false hp]) h
theorem Tv {c : Operand} {x y : Code} {p : Prop} [Decidable p] (hc : Au E c = some (.bool (!decide p))) (hp : p) (h : RunS P f n I₀ Q (.code y :: k) E I L) : RunS P f n I₀ Q (.code (.cond c x y) :: k) E I L :=
 Cw (by rw [hc, decide_eq_true hp]; rfl) h
section guards
variable {od : Option Tmp} {op : Op} {j dj : Nat} {b : Bool}
theorem I8 {t : Nat} {v v' : Value} (ht : A8 E t = some v) (he : v = v') (h : Ah P f n I₀ Q ops l k ((t, v') :: E) I L) : Ah P f n I₀ Q ops l k E I L := by
 subst he
 exact fun a w ha hd he hm => h a w ha hd (he.shadow ht) hm
theorem P1 {t : Nat} {v v' : Value} {todo : List Item} (ht : A8 E t = some v) (he : v = v') (h : RunS P f n I₀ Q todo ((t, v') :: E) I L) : RunS P f n I₀ Q todo E I L := by
 subst he
 exact fun a w ha hd he hm => h a w ha hd (he.shadow ht) hm
theorem Sq {p : Prop} [Decidable p] (hdj : (ops[j]?).bind (·.dst) = some dj) (hb : A8 E dj = some (.bool (decide p))) (hp : p)
  (h : Ah P f n I₀ Q ops (⟨od, op, ty, pos, af, some (j, b)⟩ :: l) k ((dj, .bool true) :: E) I L) : Ah P f n I₀ Q ops (⟨od, op, ty, pos, af, some (j, b)⟩ :: l) k E I L :=
 I8 hb (by rw [decide_eq_true hp]) h
theorem So {p : Prop} [Decidable p] (hdj : (ops[j]?).bind (·.dst) = some dj) (hb : A8 E dj = some (.bool (decide p))) (hp : ¬ p)
  (h : Ah P f n I₀ Q ops (⟨od, op, ty, pos, af, some (j, b)⟩ :: l) k ((dj, .bool false) :: E) I L) : Ah P f n I₀ Q ops (⟨od, op, ty, pos, af, some (j, b)⟩ :: l) k E I L :=
 I8 hb (by rw [decide_eq_false hp]) h
theorem Sp {p : Prop} [Decidable p] (hdj : (ops[j]?).bind (·.dst) = some dj) (hb : A8 E dj = some (.bool (!decide p))) (hp : ¬ p)
  (h : Ah P f n I₀ Q ops (⟨od, op, ty, pos, af, some (j, b)⟩ :: l) k ((dj, .bool true) :: E) I L) : Ah P f n I₀ Q ops (⟨od, op, ty, pos, af, some (j, b)⟩ :: l) k E I L :=
 I8 hb (by rw [decide_eq_false hp]; rfl) h
theorem Sn {p : Prop} [Decidable p] (hdj : (ops[j]?).bind (·.dst) = some dj) (hb : A8 E dj = some (.bool (!decide p))) (hp : p)
  (h : Ah P f n I₀ Q ops (⟨od, op, ty, pos, af, some (j, b)⟩ :: l) k ((dj, .bool false) :: E) I L) : Ah P f n I₀ Q ops (⟨od, op, ty, pos, af, some (j, b)⟩ :: l) k E I L :=
 I8 hb (by rw [decide_eq_true hp]; rfl) h
theorem Fa {p : Prop} [Decidable p] (hdj : (ops[j]?).bind (·.dst) = some dj) (hb : A8 E dj = some (.bool (decide p)))
  (ht : p → Ah P f n I₀ Q ops (⟨od, op, ty, pos, af, some (j, b)⟩ :: l) k ((dj, .bool true) :: E) I L) (hf : ¬ p → Ah P f n I₀ Q ops (⟨od, op, ty, pos, af, some (j, b)⟩ :: l) k ((dj, .bool false) :: E) I L) :
  Ah P f n I₀ Q ops (⟨od, op, ty, pos, af, some (j, b)⟩ :: l) k E I L := by
 by_cases hp : p
 ·exact Sq hdj hb hp (ht hp)
 ·exact So hdj hb hp (hf hp)
theorem De {p : Prop} [Decidable p] (hdj : (ops[j]?).bind (·.dst) = some dj) (hb : A8 E dj = some (.bool (!decide p)))
  (ht : ¬ p → Ah P f n I₀ Q ops (⟨od, op, ty, pos, af, some (j, b)⟩ :: l) k ((dj, .bool true) :: E) I L) (hf : p → Ah P f n I₀ Q ops (⟨od, op, ty, pos, af, some (j, b)⟩ :: l) k ((dj, .bool false) :: E) I L) :
  Ah P f n I₀ Q ops (⟨od, op, ty, pos, af, some (j, b)⟩ :: l) k E I L := by
 by_cases hp : p
 ·exact Sn hdj hb hp (hf hp)
 ·exact Sp hdj hb hp (ht hp)
theorem Jq {c : Bool} (hdj : (ops[j]?).bind (·.dst) = some dj) (hb : A8 E dj = some (.bool c))
  (ht : c = true → Ah P f n I₀ Q ops (⟨od, op, ty, pos, af, some (j, b)⟩ :: l) k ((dj, .bool true) :: E) I L) (hf : c = false → Ah P f n I₀ Q ops (⟨od, op, ty, pos, af, some (j, b)⟩ :: l) k ((dj, .bool false) :: E) I L) :
  Ah P f n I₀ Q ops (⟨od, op, ty, pos, af, some (j, b)⟩ :: l) k E I L := by
 cases c
 ·exact I8 hb rfl (hf rfl)
 ·exact I8 hb rfl (ht rfl)
end guards


theorem A2 {x y : Operand} {s : List UInt8} {i : Nat} {ii : Int} {T : TypeId} {sz bb : Nat} {z : List Value} [ht : Ae P T .string sz bb z] (hx : Au E x = some (.string (str s)))
  (hy : Au E y = some (.int .i64 ii)) (hii : ii = ((i : Nat) : Int)) (hi : i < s.length) (hg : Wants ops E g) (hdn : Nat.blt d n = true)
  (h : Ah P f n I₀ Q ops l k ((d, .int .u8 ((s.getD i 0).toNat : Nat)) :: E) I L) : Ah P f n I₀ Q ops (⟨some d, .index T x y, ty, pos, af, g⟩ :: l) k E I L :=
 L8 hx (hii ▸ hy) (b := s.getD i 0) (by simp [hi]) hg hdn h

theorem Em {T e : TypeId} {sz bb esz ebb : Nat} {z ez : List Value} {dd : TypeDesc} [ht : Ae P T (.slice e) sz bb z] [hte : Ae P e dd esz ebb ez] {x y : Operand} {oa : Option Addr} {ad : Addr} {m c : Nat} {i : Int}
  (hx : Au E x = some (.slice oa m c)) (hy : Au E y = some (.int .i64 i)) (i' : Nat) (hi : i = i') (him : i' < m) (hoa : oa = some ad) (hg : Wants ops E g) (hdn : Nat.blt d n = true)
  (h : Ah P f n I₀ Q ops l k ((d, .pointer (some (ad.add (i' * esz)))) :: E) I L) : Ah P f n I₀ Q ops (⟨some d, .indexAddr T x y, ty, pos, af, g⟩ :: l) k E I L :=
 L7 (hoa ▸ hx) hy i' hi him hg hdn h

/- Literals of struct types: each part lies in its place. -/
class A1 (P : Program) (T : TypeId) (places : outParam (List (Nat × Nat))) : Prop where
 get : ∃ fs, P.underlying T = some (.struct fs) ∧ ∀ w, (fs.mapM fun f => do pure (f.offset, ← sizeOf f.type) : Sem (Array (Nat × Nat))).run P w = .ok places.toArray w

def Iz (places : List (Nat × Nat)) : List (Nat × Value) → List Value → Option (List Value)
 | [], cs => some cs
 | (i, v) :: r, cs => match places[i]? with
  | some (off, size) => match C5 v with
   | some vs => match Ii off vs cs with
    | some us => bif Nat.beq vs.length size then Iz places r us else none
    | none => none
   | none => none
  | none => none
theorem Jx : ∀ (vs : List Value) (off j : Nat) (c : Array Value), off + j + vs.length ≤ c.size →
  ((vs.zipIdx j).foldl (fun (cs : Array Value) (x : Value × Nat) => cs.setIfInBounds (off + x.2) x.1) c).toList = c.toList.take (off + j) ++ vs ++ c.toList.drop (off + j + vs.length) := by
 intro vs
 induction vs with
 | nil => intro off j c h; simp
 | cons v vs ih =>
  intro off j c h
  simp only [List.length_cons] at h
  simp only [List.zipIdx_cons, List.foldl_cons]
  rw [ih off (j + 1) _ (by simp; omega)]
  simp only [Array.toList_setIfInBounds]
  rw [show off + (j + 1) = off + j + 1 by omega, Mg (by simpa using (by omega : off + j < c.size)), List.drop_set_of_lt (by omega)]; rw [show off + j + 1 + vs.length = off + j + (v :: vs).length by simp; omega]
  simp
theorem Ql {places : List (Nat × Nat)} : ∀ {ps : List (Nat × Value)} {cs us : List Value}, Iz places ps cs = some us → Instr.fill (places.toArray[·]?) cs.toArray ps = some us.toArray := by
 intro ps
 induction ps with
 | nil => intro cs us h; simp [Iz] at h; simp [Instr.fill, h]
 | cons p ps ih =>
  obtain ⟨i, v⟩ := p; intro cs us h
  simp only [Iz] at h
  split at h
  ·rename_i off size hp
   split at h
   ·rename_i vs hv
    split at h
    ·rename_i us' hu
     cases hb : Nat.beq vs.length size with
     | false => simp [hb] at h
     | true =>
      have hb' := Nat.eq_of_beq_eq_true hb
      simp [hb] at h
      obtain ⟨h1, h2⟩ := Nt hu
      have hvc := E5 hv
      have hf := Jx vs off 0 cs.toArray (by simpa using h1)
      have hc : ((vs.zipIdx 0).foldl (fun (cs : Array Value) (x : Value × Nat) => cs.setIfInBounds (off + x.2) x.1) cs.toArray) = us'.toArray := by
       apply Array.ext'
       rw [hf, h2]; simp
      simp only [Instr.fill, List.getElem?_toArray, hp, hvc]
      rw [if_neg (by simp [hb']; omega)]; rw [← ih h, ← hc, ← Array.foldl_toList, Array.toList_zipIdx]
      simp
    ·simp at h
   ·simp at h
  ·simp at h

theorem Kg {T : TypeId} {places : List (Nat × Nat)} {sz bb : Nat} {z : List Value} {fs : Array Field} [hs : A1 P T places] [ht : Ae P T (.struct fs) sz bb z] {ps : List (Nat × Value)} {us : List Value}
  (h : Iz places ps z = some us) (w : World) : (Instr.build T ps.toArray).run P w = .ok (.agg us.toArray) w := by
 obtain ⟨fs', hf, hp⟩ := hs.get; obtain ⟨v, hv, hz⟩ := Fj ht w
 unfold Instr.build
 rw [Ab hv]; rw [Ab (Ao hf w)]
 simp only []
 rw [Ab (hp w)]
 have hvz : v.cells = z.toArray := by rw [← hz]
 rw [hvz, Ql h]; rfl

theorem Hk {S : World → Prop} {T : TypeId} {places : List (Nat × Nat)} {sz bb : Nat} {z : List Value} {fs : Array Field} [hs : A1 P T places] [ht : Ae P T (.struct fs) sz bb z] {parts : Array (Nat × Operand)} {is : List Nat} {vs us : List Value}
  (hp : parts.toList.map (·.1) = is) (ho : Dy E (parts.toList.map (·.2)) = some vs)
  (hb : Iz places (is.zip vs) z = some us) : Dz P E S ⟨some d, .build T parts, ty, pos, af, g⟩ (.agg us.toArray) := fun a w he _ => by
  have h1 : parts.map (fun (i, x) => (i, a.eval x)) = (is.zip vs).toArray := by
   apply Array.ext'
   have := he.evals ho
   rw [← hp, ← this]
   simp [List.zip_map', Function.comp_def]
  simp only [execOp]
  rw [h1]
  exact Ab (Kg hb w) |>.trans rfl
theorem Dh {T : TypeId} {places : List (Nat × Nat)} {sz bb : Nat} {z : List Value} {fs : Array Field} [hs : A1 P T places] [ht : Ae P T (.struct fs) sz bb z] {parts : Array (Nat × Operand)} {is : List Nat} {vs us : List Value}
  (hp : parts.toList.map (·.1) = is) (ho : Dy E (parts.toList.map (·.2)) = some vs)
  (hb : Iz places (is.zip vs) z = some us) (hg : Wants ops E g) (hdn : Nat.blt d n = true)
  (h : Ah P f n I₀ Q ops l k ((d, .agg us.toArray) :: E) I L) : Ah P f n I₀ Q ops (⟨some d, .build T parts, ty, pos, af, g⟩ :: l) k E I L :=
 Qs hp ho (fun w => Kg hb w) hg hdn h

/- '[]T{x, y, ..}'. -/
def Ha : Nat → List Value → Option (List Value)
 | _, [] => some []
 | esz, v :: vs => match C5 v with
  | some cs => match Ha esz vs with
   | some us => bif Nat.beq cs.length esz then some (cs ++ us) else none
   | none => none
  | none => none
theorem Jw {esz : Nat} : ∀ {vs us : List Value} (k : Nat) (hd tl : List Value), Ha esz vs = some us → hd.length = k * esz → tl.length = vs.length * esz →
  Instr.fill (fun i => some (i * esz, esz)) (hd ++ tl).toArray ((List.range' k vs.length).zip vs) = some (hd ++ us).toArray := by
 intro vs
 induction vs with
 | nil => intro us k hd tl h hh ht; simp [Ha] at h; subst h; simp at ht; subst ht; simp [Instr.fill]
 | cons v vs ih =>
  intro us k hd tl h hh ht
  simp only [Ha] at h
  split at h
  ·rename_i cs hv
   split at h
   ·rename_i us' hu
    cases hb : Nat.beq cs.length esz with
    | false => simp [hb] at h
    | true =>
     have hb' := Nat.eq_of_beq_eq_true hb
     simp [hb] at h
     subst h
     simp only [List.length_cons, List.range'_succ, List.zip_cons_cons, Instr.fill]
     have hvc := E5 hv
     simp only [List.length_cons, Nat.add_mul, Nat.one_mul] at ht
     rw [hvc, if_neg (by simp [hb', hh]; omega)]
     have hf := Jx cs (k * esz) 0 (hd ++ tl).toArray (by simp; omega)
     have hc : ((cs.zipIdx 0).foldl (fun (c : Array Value) (x : Value × Nat) => c.setIfInBounds (k * esz + x.2) x.1) (hd ++ tl).toArray) = ((hd ++ cs) ++ tl.drop esz).toArray := by
      apply Array.ext'
      rw [hf]
      simp only [List.toList_toArray, Nat.add_zero, ← hh]
      rw [List.take_left', List.drop_append]
      ·simp [List.drop_eq_nil_of_le, hb']
      ·rfl
     have := ih (k + 1) (hd ++ cs) (tl.drop esz) hu (by simp [hh, hb', Nat.add_mul]) (by simp; omega)
     rw [← List.append_assoc hd cs us', ← this, ← hc, ← Array.foldl_toList, Array.toList_zipIdx]
   ·simp at h
  ·simp at h
theorem Rv {T e : TypeId} {parts : Array (Nat × Operand)} {is : List Nat} {vs us : List Value} {m : Nat} {sz bb esz ebb : Nat} {z ez : List Value} {dd : TypeDesc} [ht : Ae P T (.slice e) sz bb z] [hte : Ae P e dd esz ebb ez]
  (hp : parts.toList.map (·.1) = is) (ho : Dy E (parts.toList.map (·.2)) = some vs) (hr : is = List.range' 0 vs.length) (hm : vs.length = m) (hfl : Ha esz vs = some us) (hm0 : m * esz ≠ 0) (hm1 : m * esz ≤ 2 ^ 24) (hez : ez.length = esz)
  (hg : Wants ops E g) (hdn : Nat.blt d n = true)
  (h : ∀ b, Ah P f n I₀ Q ops l k ((d, .slice (some ⟨b, 0, none⟩) m m) :: E) I ((b, .cells us.toArray e (0, 0)) :: L)) :
  Ah P f n I₀ Q ops (⟨some d, .buildSlice T m parts, ty, pos, af, g⟩ :: l) k E I L := by
 refine K3 hp ho hm0 hm1 ?_ hg hdn h; rw [hr]
 have := Jw (esz := esz) 0 [] (((Array.range (m * esz)).map (ez.toArray[· % ez.toArray.size]!)).toList) hfl (by simp) (by simp [hm])
 rw [List.nil_append, List.nil_append, Array.toArray_toList] at this
 exact this

/- Where two ways meet again. -/
def I0 : Nat → D3 → Bool
 | 0, _ => true
 | _ + 1, [] => true
 | m + 1, (x, _) :: E => (match A8 (E.drop m) x with | none => true | some _ => false) && I0 m E
theorem Jy : ∀ (m : Nat) (E : D3), I0 m E = true → ∀ t v, A8 (E.drop m) t = some v → A8 E t = some v := by
 intro m
 induction m with
 | zero => intro E _ t v h; simpa using h
 | succ m ih =>
  intro E hf t v h
  cases E with
  | nil => simp [A8] at h
  | cons p E =>
   simp only [I0, Bool.and_eq_true] at hf
   have h1 := ih E hf.2 t v (by simpa using h)
   rw [Bu]
   by_cases e : p.1 = t
   ·rw [List.drop_succ_cons] at h
    have h2 := hf.1
    rw [e, h] at h2; cases h2
   ·rw [if_neg e]; exact h1
theorem Al (m : Nat) {v : Value} {E' : D3} (hE : E.drop m = E') (hf : I0 m E = true) (hk : Ah P f n I₀ Q ops l k ((d, v) :: E') I L) : Ah P f n I₀ Q ops l k ((d, v) :: E) I L := by
 subst hE; refine fun a w ha hd he hm => hk a w ha hd (fun t u hu => he t u ?_) hm
 rw [Bu] at hu ⊢
 by_cases e : d = t
 ·rwa [if_pos e] at hu ⊢
 ·rw [if_neg e] at hu ⊢; exact Jy m E hf t u hu
def Ic (ops : Array Oper) (n : Nat) : Nat → List Oper → D3 → Option (List Oper × D3)
 | 0, l, E => some (l, E)
 | m + 1, ⟨some d, _, _, _, _, some (j, b)⟩ :: l, E => match (ops[j]?).bind (·.dst) with
  | some dj => match A8 E dj with
   | some (.bool b') => bif (Bool.xor b' b) && Nat.blt d n then Ic ops n m l ((d, undef) :: E) else none
   | some (.tuple a) => bif a.isEmpty && Nat.blt d n then Ic ops n m l ((d, undef) :: E) else none
   | _ => none
  | none => none
 | _ + 1, _, _ => none
theorem Aq (m : Nat) {l' : List Oper} {E' : D3} (h : Ic ops n m l E = some (l', E')) (hk : Ah P f n I₀ Q ops l' k E' I L) : Ah P f n I₀ Q ops l k E I L := by
 induction m generalizing l E with
 | zero => simp only [Ic, Option.some.injEq, Prod.mk.injEq] at h; obtain ⟨rfl, rfl⟩ := h; exact hk
 | succ m ih =>
  cases l with
  | nil => simp [Ic] at h
  | cons o l =>
   obtain ⟨dst, op, ty, pos, af, g⟩ := o
   cases dst with
   | none => simp [Ic] at h
   | some d =>
    cases g with
    | none => simp [Ic] at h
    | some g =>
     obtain ⟨j, b⟩ := g
     simp only [Ic] at h
     cases hdj : (ops[j]?).bind (·.dst) with
     | none => rw [hdj] at h; cases h
     | some dj =>
      rw [hdj] at h
      simp only at h
      split at h
      ·rename_i b' hl
       cases hx : ((Bool.xor b' b) && Nat.blt d n) with
       | false => rw [hx] at h; cases h
       | true =>
        rw [hx] at h
        simp only [Bool.and_eq_true] at hx
        have e : b' = !b := by have := hx.1; revert this; cases b' <;> cases b <;> decide
        subst e
        exact A9 hdj hl hx.2 (ih h)
      ·rename_i a hl
       cases hx : (a.isEmpty && Nat.blt d n) with
       | false => rw [hx] at h; cases h
       | true =>
        rw [hx] at h
        simp only [Bool.and_eq_true] at hx
        have e : a = #[] := by have := hx.1; simpa using this
        subst e
        exact Gm hdj hl hx.2 (ih h)
      ·cases h
theorem K6 {c dd : Nat} {b : Bool} {v : Value} {l' : List Oper} (hc : A8 E c = some (.bool b)) (hk : Ah P f n I₀ Q ops l' k ((dd, v) :: E) I L) : Ah P f n I₀ Q ops l' k ((dd, v) :: (c, .bool b) :: E) I L := by
 refine fun a w ha hd he hm => hk a w ha hd (fun t u hu => he t u ?_) hm
 rw [Bu] at hu ⊢
 by_cases e : dd = t
 ·rwa [if_pos e] at hu ⊢
 ·rw [if_neg e] at hu ⊢; rw [Bu]
  by_cases e' : c = t
  ·subst e'; rw [if_pos rfl, ← hc, hu]
  ·rwa [if_neg e']
theorem K7 {c : Nat} {b : Bool} (hc : A8 E c = some (.bool b)) (h : Ah P f n I₀ Q ops l k ((c, .bool b) :: E) I L) : Ah P f n I₀ Q ops l k E I L := by
 refine fun a w ha hd he hm => h a w ha hd (fun t u hu => ?_) hm
 rw [Bu] at hu
 by_cases e : c = t
 ·subst e; rw [if_pos rfl] at hu; exact he _ _ (hc.trans hu)
 ·rw [if_neg e] at hu; exact he _ _ hu
theorem Br (c dd : Nat) {b q : Bool} {l' : List Oper} (hc : A8 E c = some (.bool b))
  (hT : b = true → Ah P f n I₀ Q ops l' k ((dd, .bool q) :: (c, .bool true) :: E) I L → Ah P f n I₀ Q ops l k ((c, .bool true) :: E) I L)
  (hF : b = false → Ah P f n I₀ Q ops l' k ((dd, .bool false) :: (c, .bool false) :: E) I L → Ah P f n I₀ Q ops l k ((c, .bool false) :: E) I L)
  (hk : Ah P f n I₀ Q ops l' k ((dd, .bool (b && q)) :: E) I L) : Ah P f n I₀ Q ops l k E I L := by
 cases b with
 | true => exact K7 hc (hT rfl (K6 hc hk))
 | false => exact K7 hc (hF rfl (K6 hc hk))
theorem D6 (c dd : Nat) {b q : Bool} {l' : List Oper} (hc : A8 E c = some (.bool b))
  (hF : b = false → Ah P f n I₀ Q ops l' k ((dd, .bool q) :: (c, .bool false) :: E) I L → Ah P f n I₀ Q ops l k ((c, .bool false) :: E) I L)
  (hT : b = true → Ah P f n I₀ Q ops l' k ((dd, .bool true) :: (c, .bool true) :: E) I L → Ah P f n I₀ Q ops l k ((c, .bool true) :: E) I L)
  (hk : Ah P f n I₀ Q ops l' k ((dd, .bool (b || q)) :: E) I L) : Ah P f n I₀ Q ops l k E I L := by
 cases b with
 | true => exact K7 hc (hT rfl (K6 hc hk))
 | false => exact K7 hc (hF rfl (K6 hc hk))

/- The same in a region that draws its order. -/
theorem Ra {S : World → Prop} {fuel : Nat} {listed : Array Bool} (m : Nat) {v : Value} {E' : D3} (hE : E.drop m = E') (hf : I0 m E = true) (hk : Be P f n I₀ Q ops S fuel listed k ((d, v) :: E') I L) : Be P f n I₀ Q ops S fuel listed k ((d, v) :: E) I L := by
 subst hE; refine fun a w ha hd he hm => hk a w ha hd (fun t u hu => he t u ?_) hm
 rw [Bu] at hu ⊢
 by_cases e : d = t
 ·rwa [if_pos e] at hu ⊢
 ·rw [if_neg e] at hu ⊢; exact Jy m E hf t u hu
theorem O8 {S : World → Prop} {fuel : Nat} {listed : Array Bool} {c dd : Nat} {b : Bool} {v : Value} (hc : A8 E c = some (.bool b)) (hk : Be P f n I₀ Q ops S fuel listed k ((dd, v) :: E) I L) : Be P f n I₀ Q ops S fuel listed k ((dd, v) :: (c, .bool b) :: E) I L := by
 refine fun a w ha hd he hm => hk a w ha hd (fun t u hu => he t u ?_) hm
 rw [Bu] at hu ⊢
 by_cases e : dd = t
 ·rwa [if_pos e] at hu ⊢
 ·rw [if_neg e] at hu ⊢; rw [Bu]
  by_cases e' : c = t
  ·subst e'; rw [if_pos rfl, ← hc, hu]
  ·rwa [if_neg e']
theorem Pa {S : World → Prop} {fuel : Nat} {listed : Array Bool} {c : Nat} {b : Bool} (hc : A8 E c = some (.bool b)) (h : Be P f n I₀ Q ops S fuel listed k ((c, .bool b) :: E) I L) : Be P f n I₀ Q ops S fuel listed k E I L := by
 refine fun a w ha hd he hm => h a w ha hd (fun t u hu => ?_) hm
 rw [Bu] at hu
 by_cases e : c = t
 ·subst e; rw [if_pos rfl] at hu; exact he _ _ (hc.trans hu)
 ·rw [if_neg e] at hu; exact he _ _ hu
theorem Sl {S : World → Prop} {fuel fuel' : Nat} {listed listed' : Array Bool} (c dd : Nat) {b q : Bool} (hc : A8 E c = some (.bool b))
  (hT : b = true → Be P f n I₀ Q ops S fuel' listed' k ((dd, .bool q) :: (c, .bool true) :: E) I L → Be P f n I₀ Q ops S fuel listed k ((c, .bool true) :: E) I L)
  (hF : b = false → Be P f n I₀ Q ops S fuel' listed' k ((dd, .bool false) :: (c, .bool false) :: E) I L → Be P f n I₀ Q ops S fuel listed k ((c, .bool false) :: E) I L)
  (hk : Be P f n I₀ Q ops S fuel' listed' k ((dd, .bool (b && q)) :: E) I L) : Be P f n I₀ Q ops S fuel listed k E I L := by
 cases b with
 | true => exact Pa hc (hT rfl (O8 hc hk))
 | false => exact Pa hc (hF rfl (O8 hc hk))
end rules

def Cr (v : Value) (I : Heap) (L : At) : A5 := fun u I' L' => v = u ∧ I = I' ∧ L = L'
theorem Ny {I I₀ : Heap} {L L₀ : At} {v u : Value} (hI : I = I₀) (hm : ∀ w, Mem I L w → Mem I₀ L₀ w) (h : v = u) : ∃ I' L', HLe I₀ I' ∧ (∀ w, Mem I L w → Mem I' L' w) ∧ Cr u I₀ L₀ v I' L' := by
 subst hI; exact ⟨I, L₀, .refl _, hm, h.symm, rfl, rfl⟩

section
variable {P : Program} {E : D3} {I : Heap} {L : At}
/- The same, with what is asked looked for. -/
theorem RetOk.c {t T : Nat} {a : Addr} {v : Value} {rs : List ResultVar} {vs : List Value} (h : A8 E t = some (.pointer (some a))) (r : RetOk P E I L rs vs)
  (hl : C1 P I L T a v := by first | exact Bo (by assumption) rfl | exact D5 (by repeat first | exact .head _ | apply List.Mem.tail | apply List.mem_append_right) (by rfl) | exact D4 (by repeat first | exact .head _ | apply List.Mem.tail | apply List.mem_append_right) (by rfl) rfl | exact By (by assumption) (by rfl) | exact Cu (by assumption) (by rfl) rfl) : RetOk P E I L (.cell t T :: rs) (v :: vs) := .cell h hl r
theorem Cy {I' : Heap} {L' : At} (hm : ∀ w, Mem I L w → Mem I' L' w := by intro _ h; first | exact h | exact R8 h | exact R9 h | exact Sa h | exact Sb h | exact Sc h | exact In h | exact In h.drop | exact In h.drop.drop | exact In h.drop.drop.drop) : ∀ w, Mem I L w → Mem I' L' w := hm
theorem only {I₀ : Heap} {L₀ : At} {v u : Value} (hI : I = I₀) (h : v = u) (hm : ∀ w, Mem I L w → Mem I₀ L₀ w := by intro _ h; first | exact h | exact R8 h | exact R9 h | exact Sa h | exact Sb h | exact Sc h | exact In h | exact In h.drop | exact In h.drop.drop | exact In h.drop.drop.drop) : ∃ I' L', HLe I₀ I' ∧ (∀ w, Mem I L w → Mem I' L' w) ∧ Cr u I₀ L₀ v I' L' := Ny hI hm h
end
/- The same rules, with what is asked of memory looked for. -/
section rules
variable {P : Program} {f : FuncId} {n : Nat} {I₀ : Heap} {Q : A5} {k : List Item} {E : D3} {I : Heap} {L : At}
variable {ops : Array Oper} {d : Nat} {ty : TypeId} {pos : String} {af : Array Edge} {g : Option (Nat × Bool)} {l : List Oper}
theorem S1 {I' : Heap} {L' : At} {T : TypeId} {x : Operand} {ad : Addr} {v : Value} (hx : Au E x = some (.pointer (some ad))) (hl : C1 P I' L' T ad v := by exact (D5 (by repeat first | exact .head _ | apply List.Mem.tail | apply List.mem_append_right) (by rfl))) : Dz P E (Mem I' L') ⟨some d, .load T x, ty, pos, af, g⟩ v := Jl hx hl
theorem Dg {T : TypeId} {x : Operand} {ad : Addr} {v : Value} (hx : Au E x = some (.pointer (some ad))) (hg : Wants ops E g) (hdn : Nat.blt d n = true) (h : Ah P f n I₀ Q ops l k ((d, v) :: E) I L) (hl : C1 P I L T ad v := by exact (D5 (by repeat first | exact .head _ | apply List.Mem.tail | apply List.mem_append_right) (by rfl))) : Ah P f n I₀ Q ops (⟨some d, .load T x, ty, pos, af, g⟩ :: l) k E I L := G1 hx hl hg hdn h
theorem Mq {I' : Heap} {L' : At} {T : TypeId} {x : Operand} {ad : Addr} {v : Value} (hx : Au E x = some (.pointer (some ad))) (hl : C1 P I' L' T ad v := by exact (D4 (by repeat first | exact .head _ | apply List.Mem.tail | apply List.mem_append_right) (by rfl) rfl)) : Dz P E (Mem I' L') ⟨some d, .load T x, ty, pos, af, g⟩ v := Jl hx hl
theorem Bl {T : TypeId} {x : Operand} {ad : Addr} {v : Value} (hx : Au E x = some (.pointer (some ad))) (hg : Wants ops E g) (hdn : Nat.blt d n = true) (h : Ah P f n I₀ Q ops l k ((d, v) :: E) I L) (hl : C1 P I L T ad v := by exact (D4 (by repeat first | exact .head _ | apply List.Mem.tail | apply List.mem_append_right) (by rfl) rfl)) : Ah P f n I₀ Q ops (⟨some d, .load T x, ty, pos, af, g⟩ :: l) k E I L := G1 hx hl hg hdn h
theorem Rj {I' : Heap} {L' : At} {T : TypeId} {x : Operand} {ad : Addr} {v : Value} (hx : Au E x = some (.pointer (some ad))) (hl : C1 P I' L' T ad v := by first | exact By (FormAt.st (by assumption) _ (by first | omega | decide | (simp; done) | exact Ax (by assumption) (by decide))) (by rfl) | exact By (by assumption) (by rfl) | exact L2 (Fh (by assumption) (by intro _ h; first | exact h | exact R8 h | exact R9 h | exact Sa h | exact Sb h | exact Sc h | exact In h | exact In h.drop | exact In h.drop.drop | exact In h.drop.drop.drop)) (by rfl)) : Dz P E (Mem I' L') ⟨some d, .load T x, ty, pos, af, g⟩ v := Jl hx hl
theorem L9 {T : TypeId} {x : Operand} {ad : Addr} {v : Value} (hx : Au E x = some (.pointer (some ad))) (hg : Wants ops E g) (hdn : Nat.blt d n = true) (h : Ah P f n I₀ Q ops l k ((d, v) :: E) I L) (hl : C1 P I L T ad v := by first | exact By (FormAt.st (by assumption) _ (by first | omega | decide | (simp; done) | exact Ax (by assumption) (by decide))) (by rfl) | exact By (by assumption) (by rfl) | exact L2 (Fh (by assumption) (by intro _ h; first | exact h | exact R8 h | exact R9 h | exact Sa h | exact Sb h | exact Sc h | exact In h | exact In h.drop | exact In h.drop.drop | exact In h.drop.drop.drop)) (by rfl)) : Ah P f n I₀ Q ops (⟨some d, .load T x, ty, pos, af, g⟩ :: l) k E I L := G1 hx hl hg hdn h
theorem Pq {T : TypeId} {x : Operand} {ad : Addr} {v : Value} (hx : Au E x = some (.pointer (some ad))) (hg : Wants ops E g) (hdn : Nat.blt d n = true) (h : Ah P f n I₀ Q ops l k ((d, v) :: E) I L) (hl : C1 P I L T ad v := by first | exact Ct rfl (RStrs.st (by assumption) _ (by first | omega | decide | (simp; done) | exact Ax (by assumption) (by decide))) | exact Ct rfl (Fh (RStrs.st (by assumption) _ (by first | omega | decide | (simp; done) | exact Ax (by assumption) (by decide))) (by intro _ h; first | exact h | exact R8 h | exact R9 h | exact Sa h | exact Sb h | exact Sc h | exact In h | exact In h.drop | exact In h.drop.drop | exact In h.drop.drop.drop)) | exact Bo (Nums.st (by assumption) _ (by first | omega | decide | (simp; done) | exact Ax (by assumption) (by decide))) rfl | exact Bo (Strs.st (by assumption) _ (by first | omega | decide | (simp; done) | exact Ax (by assumption) (by decide))) rfl | exact Bo (Raw.st (by assumption) _ (by first | omega | decide | (simp; done) | exact Ax (by assumption) (by decide))) rfl | exact Bo (by assumption) rfl | exact Ct rfl (by assumption)) : Ah P f n I₀ Q ops (⟨some d, .load T x, ty, pos, af, g⟩ :: l) k E I L := G1 hx hl hg hdn h
theorem Kc {T : TypeId} {x : Operand} {ad : Addr} {v : Value} (hx : Au E x = some (.pointer (some ad))) (hg : Wants ops E g) (hdn : Nat.blt d n = true) (h : Ah P f n I₀ Q ops l k ((d, v) :: E) I L) (hl : C1 P I L T ad v := by first | exact Cu (FormAt.st (by assumption) _ (by first | omega | decide | (simp; done) | exact Ax (by assumption) (by decide))) (by rfl) rfl | exact Cu (by assumption) (by rfl) rfl | exact N6 (Fh (by assumption) (by intro _ h; first | exact h | exact R8 h | exact R9 h | exact Sa h | exact Sb h | exact Sc h | exact In h | exact In h.drop | exact In h.drop.drop | exact In h.drop.drop.drop)) (by rfl) rfl) : Ah P f n I₀ Q ops (⟨some d, .load T x, ty, pos, af, g⟩ :: l) k E I L := G1 hx hl hg hdn h
theorem Sx {T : TypeId} {x : Operand} {ad : Addr} {v : Value} (hx : Au E x = some (.pointer (some ad))) (hg : Wants ops E g) (hdn : Nat.blt d n = true) (h : Ah P f n I₀ Q ops l k ((d, v) :: E) I L) (hl : C1 P I L T ad v := by first | exact D4 (by repeat first | exact .head _ | apply List.Mem.tail | apply List.mem_append_right) (by rfl) rfl | exact D5 (by repeat first | exact .head _ | apply List.Mem.tail | apply List.mem_append_right) (by rfl) | exact By (FormAt.st (by assumption) _ (by omega)) (by rfl) | exact Cu (FormAt.st (by assumption) _ (by omega)) (by rfl) rfl | exact Bo (Nums.st (by assumption) _ (by omega)) rfl | exact Bo (Strs.st (by assumption) _ (by omega)) rfl | exact Bo (by assumption) rfl | exact By (by assumption) (by rfl) | exact Cu (by assumption) (by rfl) rfl) : Ah P f n I₀ Q ops (⟨some d, .load T x, ty, pos, af, g⟩ :: l) k E I L := G1 hx hl hg hdn h
theorem H1 {I' : Heap} {L' : At} {T : TypeId} {x : Operand} {ad : Addr} {v : Value} (hx : Au E x = some (.pointer (some ad))) (hl : C1 P I' L' T ad v := by first | exact Bo (by assumption) rfl | exact D5 (by repeat first | exact .head _ | apply List.Mem.tail | apply List.mem_append_right) (by rfl) | exact D4 (by repeat first | exact .head _ | apply List.Mem.tail | apply List.mem_append_right) (by rfl) rfl | exact By (by assumption) (by rfl) | exact Cu (by assumption) (by rfl) rfl) : Dz P E (Mem I' L') ⟨some d, .load T x, ty, pos, af, g⟩ v := Jl hx hl
theorem B7 {T : TypeId} {x : Operand} {ad : Addr} {v : Value} (hx : Au E x = some (.pointer (some ad))) (hg : Wants ops E g) (hdn : Nat.blt d n = true) (h : Ah P f n I₀ Q ops l k ((d, v) :: E) I L) (hl : C1 P I L T ad v := by first | exact Bo (by assumption) rfl | exact D5 (by repeat first | exact .head _ | apply List.Mem.tail | apply List.mem_append_right) (by rfl) | exact D4 (by repeat first | exact .head _ | apply List.Mem.tail | apply List.mem_append_right) (by rfl) rfl | exact By (by assumption) (by rfl) | exact Cu (by assumption) (by rfl) rfl) : Ah P f n I₀ Q ops (⟨some d, .load T x, ty, pos, af, g⟩ :: l) k E I L := G1 hx hl hg hdn h
theorem Cl {T U : TypeId} {x y : Operand} {b off : Nat} {v : Value} {vs cs us : List Value} {L' : At} {dd : TypeDesc} {sz bb : Nat} {z : List Value} [ht : Ae P T dd sz bb z]
  (hx : Au E x = some (.pointer (some ⟨b, off, none⟩))) (hy : Au E y = some v) (hv : C5 v = some vs) (hl : vs.length = sz) (hg : Wants ops E g) (h : Ah P f n I₀ Q ops l k E I L')
  (hp : vs.all Bc = true := by first | rfl | (simp only [List.toList_toArray, List.all_cons, List.all_nil, Fb, Bool.and_true, Bool.true_and] <;> rfl)) (hu : Upd b (.cells us.toArray U (0, 0)) (.cells cs.toArray U (0, 0)) L L' := by first | exact u0 | exact u1 | exact u2 | exact u3 | exact u4 | exact u5 | exact u6) (hus : Ii off vs cs = some us := by rfl) : Ah P f n I₀ Q ops (⟨none, .store T x y, ty, pos, af, g⟩ :: l) k E I L := Nr hx hy hv hl hp hu hus hg h
theorem nb : (∀ a b : Bool, ((a && b) = true) = (a = true ∧ b = true)) ∧ (∀ a b : Bool, ((a || b) = true) = (a = true ∨ b = true)) ∧ (∀ a : Bool, ((!a) = true) = (a = false)) ∧ (∀ a : Bool, ((!a) = false) = (a = true)) ∧ (∀ a b : Bool, ((a && b) = false) = (a = false ∨ b = false)) ∧ (∀ a b : Bool, ((a || b) = false) = (a = false ∧ b = false)) ∧ (∀ (p : Prop) [Decidable p], (decide p = true) = p) ∧ (∀ (p : Prop) [Decidable p], (decide p = false) = ¬ p) := by
 exact ⟨fun a b => by cases a <;> cases b <;> simp, fun a b => by cases a <;> cases b <;> simp, fun a => by cases a <;> simp, fun a => by cases a <;> simp, fun a b => by cases a <;> cases b <;> simp, fun a b => by cases a <;> cases b <;> simp, fun p _ => by simp, fun p _ => by simp⟩
end rules

section
variable {P : Program} {f : FuncId} {n : Nat} {I₀ : Heap} {Q : A5} {k : List Item} {E : D3} {I : Heap} {L : At} {ops : Array Oper} {d : Nat} {ty : TypeId} {pos : String} {af : Array Edge} {l : List Oper}
theorem Oc {op : BinOp} {T T' : TypeId} {x y : Operand} {kk : IntKind} {a b : Int} {r : Bool} (hx : Au E x = some (.int kk a)) (hy : Au E y = some (.int kk b)) (hr : It op a b = some r) (h : Ah P f n I₀ Q ops l k ((d, .bool r) :: E) I L) (hdn : Nat.blt d n = true := by rfl) : Ah P f n I₀ Q ops (⟨some d, .binOp op T x y T', ty, pos, af, none⟩ :: l) k E I L := A6 hx hy hr .free hdn h
theorem Od {op : BinOp} {T T' : TypeId} {x y : Operand} {a b : List UInt8} {r : Bool} (hx : Au E x = some (.string (str a))) (hy : Au E y = some (.string (str b))) (hr : Kr op a b = some r) (h : Ah P f n I₀ Q ops l k ((d, .bool r) :: E) I L) (hdn : Nat.blt d n = true := by rfl) : Ah P f n I₀ Q ops (⟨some d, .binOp op T x y T', ty, pos, af, none⟩ :: l) k E I L := Ef hx hy hr .free hdn h
theorem Of {c x y : Operand} {v : Value} (hc : Au E c = some (.bool false)) (hx : Au E y = some v) (h : Ah P f n I₀ Q ops l k ((d, v) :: E) I L) (hdn : Nat.blt d n = true := by rfl) : Ah P f n I₀ Q ops (⟨some d, .pick c x y, ty, pos, af, none⟩ :: l) k E I L := A0 hc hx .free hdn h
theorem Ot {c x y : Operand} {v : Value} (hc : Au E c = some (.bool true)) (hx : Au E x = some v) (h : Ah P f n I₀ Q ops l k ((d, v) :: E) I L) (hdn : Nat.blt d n = true := by rfl) : Ah P f n I₀ Q ops (⟨some d, .pick c x y, ty, pos, af, none⟩ :: l) k E I L := A7 hc hx .free hdn h
theorem Oe {x : Operand} {vs : List Value} {i : Nat} {v : Value} (hx : Au E x = some (.tuple vs.toArray)) (hi : vs[i]? = some v) (h : Ah P f n I₀ Q ops l k ((d, v) :: E) I L) (hdn : Nat.blt d n = true := by rfl) : Ah P f n I₀ Q ops (⟨some d, .extract x i, ty, pos, af, none⟩ :: l) k E I L := N8 hx hi .free hdn h
theorem Or {op : BinOp} {T T' : TypeId} {x y : Operand} {a b m : Int} (hx : Au E x = some (.int .i64 a)) (hy : Au E y = some (.int .i64 b)) (hr : Nh op a b = some m) (h : Ah P f n I₀ Q ops l k ((d, .int .i64 m) :: E) I L) (hb : -9223372036854775808 ≤ m ∧ m ≤ 9223372036854775807 := by omega) (hdn : Nat.blt d n = true := by rfl) : Ah P f n I₀ Q ops (⟨some d, .binOp op T x y T', ty, pos, af, none⟩ :: l) k E I L := Gk hx hy hr hb .free hdn h
theorem Ok {T T' : TypeId} {x y : Operand} {a b : List UInt8} (hx : Au E x = some (.string (str a))) (hy : Au E y = some (.string (str b))) (h : Ah P f n I₀ Q ops l k ((d, .string (str (a ++ b))) :: E) I L) (hb : a.length + b.length ≤ 9223372036854775807 := by first | omega | (simp only [List.length_append, List.length_cons, List.length_nil]; omega) | (simp; omega)) (hdn : Nat.blt d n = true := by rfl) : Ah P f n I₀ Q ops (⟨some d, .binOp .add T x y T', ty, pos, af, none⟩ :: l) k E I L := Pn hx hy hb .free hdn h
theorem Ol {T e : TypeId} {parts : Array (Nat × Operand)} {is : List Nat} {vs us : List Value} {m : Nat} {sz bb esz ebb : Nat} {z ez : List Value} {dd : TypeDesc} [ht : Ae P T (.slice e) sz bb z] [hte : Ae P e dd esz ebb ez] (hp : parts.toList.map (·.1) = is) (ho : Dy E (parts.toList.map (·.2)) = some vs)
  (h : ∀ b, Ah P f n I₀ Q ops l k ((d, .slice (some ⟨b, 0, none⟩) m m) :: E) I ((b, .cells us.toArray e (0, 0)) :: L)) (hr : is = List.range' 0 vs.length := by rfl) (hm : vs.length = m := by rfl) (hfl : Ha esz vs = some us := by rfl) (hm0 : m * esz ≠ 0 := by decide) (hm1 : m * esz ≤ 2 ^ 24 := by decide) (hez : ez.length = esz := by rfl) (hdn : Nat.blt d n = true := by rfl) :
  Ah P f n I₀ Q ops (⟨some d, .buildSlice T m parts, ty, pos, af, none⟩ :: l) k E I L := Rv hp ho hr hm hfl hm0 hm1 hez .free hdn h
theorem On {x : Operand} {ad : Option Addr} {m c : Nat} {e T : TypeId} {sz bb : Nat} {z : List Value} [ht : Ae P T (.slice e) sz bb z] (hx : Au E x = some (.slice ad m c)) (h : Ah P f n I₀ Q ops l k ((d, .int .i64 (m : Nat)) :: E) I L) (hdn : Nat.blt d n = true := by rfl) : Ah P f n I₀ Q ops (⟨some d, .call ⟨.builtin .len, #[x], #[T]⟩, ty, pos, af, none⟩ :: l) k E I L := Co hx .free hdn h
theorem Oh {T : TypeId} {i off : Nat} [hf : Ak P T i off] {x : Operand} {b o : Nat} (hx : Au E x = some (.pointer (some ⟨b, o, none⟩))) (h : Ah P f n I₀ Q ops l k ((d, .pointer (some ⟨b, o + off, none⟩)) :: E) I L) (hdn : Nat.blt d n = true := by rfl) : Ah P f n I₀ Q ops (⟨some d, .fieldAddr T x i, ty, pos, af, none⟩ :: l) k E I L := Ba hx .free hdn h
theorem Oj {T : TypeId} {i off : Nat} [hf : Ak P T i off] {x : Operand} {ad : Addr} (hx : Au E x = some (.pointer (some ad))) (h : Ah P f n I₀ Q ops l k ((d, .pointer (some (ad.add off))) :: E) I L) (hdn : Nat.blt d n = true := by rfl) : Ah P f n I₀ Q ops (⟨some d, .fieldAddr T x i, ty, pos, af, none⟩ :: l) k E I L := B9 hx .free hdn h
theorem Ow {x : Operand} {v : Value} {g : Option (Nat × Bool)} (hx : Au E x = some v) (h : Ah P f n I₀ Q ops l k ((d, v) :: E) I L) (hg : Wants ops E g := by exact .met rfl rfl) (hdn : Nat.blt d n = true := by rfl) : Ah P f n I₀ Q ops (⟨some d, .move x, ty, pos, af, g⟩ :: l) k E I L := Pr hx hg hdn h
class R6 (b : Bool) (p q : outParam Prop) : Prop where
 pos : b = true → p
 neg : b = false → q
 tru : p → b = true
 fls : q → b = false
instance (priority := low) (b : Bool) : R6 b (b = true) (b = false) := ⟨id, id, id, id⟩
instance (p : Prop) [Decidable p] : R6 (decide p) p (¬ p) := ⟨of_decide_eq_true, of_decide_eq_false, decide_eq_true, decide_eq_false⟩
instance (p : Prop) [Decidable p] : R6 (!decide p) (¬ p) p := ⟨fun h => by simpa using h, fun h => by simpa using h, fun h => by simpa using h, fun h => by simpa using h⟩
theorem Si {c : Operand} {x y : Code} {b : Bool} {p q : Prop} [hb : R6 b p q] (hc : Au E c = some (.bool b)) (ht : p → RunS P f n I₀ Q (.code x :: k) E I L) (hf : q → RunS P f n I₀ Q (.code y :: k) E I L) : RunS P f n I₀ Q (.code (.cond c x y) :: k) E I L := Am hc (fun h => ht (hb.pos h)) (fun h => hf (hb.neg h))
theorem Ca {kf : FuncId} {args : Array Operand} {tys : Array TypeId} {vs : List Value} {Q' : A5} {c : Code} {m : Nat} {rs : List ResultVar} [hf : A4 P kf c m rs] (ha : Dy E args.toList = some vs) (hF : Fun P kf vs I L Q') (h : ∀ v I' L', HLe I I' → Q' v I' L' → Ah P f n I₀ Q ops l k ((d, v) :: E) I' L') (hdn : Nat.blt d n = true := by rfl) : Ah P f n I₀ Q ops (⟨some d, .call ⟨.value (.func kf), args, tys⟩, ty, pos, af, none⟩ :: l) k E I L := Bs ha .free hdn hF h
theorem Dc {S : World → Prop} {fuel : Nat} {listed : Array Bool} (i : Nat) {kf : FuncId} {args : Array Operand} {tys : Array TypeId} {vs : List Value} {Q' : A5} {c : Code} {m : Nat} {rs : List ResultVar} [hf : A4 P kf c m rs] (hi : ops[i]? = some ⟨some d, .call ⟨.value (.func kf), args, tys⟩, ty, pos, af, none⟩) (ha : Dy E args.toList = some vs) (hF : Fun P kf vs I L Q')
  (h : ∀ v I' L', HLe I I' → Q' v I' L' → (C9 ops (listed.setIfInBounds i true) = true ∨ ∀ w, Mem I' L' w → S w) ∧ Be P f n I₀ Q ops S fuel (listed.setIfInBounds i true) k ((d, v) :: E) I' L') (hc : decide (Region.ready .any ops listed = [i]) = true := by kernel_rfl) (hdn : Nat.blt d n = true := by rfl) : Be P f n I₀ Q ops S (fuel + 1) listed k E I L := O6 i hi hc rfl ha .free hdn hF h
theorem Dx {S : World → Prop} {fuel : Nat} {listed : Array Bool} (i : Nat) {T U : TypeId} {x y : Operand} {b off : Nat} {v : Value} {vs cs us : List Value} {L' : At} {dd : TypeDesc} {sz bb : Nat} {z : List Value} [ht : Ae P T dd sz bb z] (hi : ops[i]? = some ⟨none, .store T x y, ty, pos, af, none⟩) (hx : Au E x = some (.pointer (some ⟨b, off, none⟩))) (hy : Au E y = some v) (hv : C5 v = some vs)
  (h : Be P f n I₀ Q ops S fuel (listed.setIfInBounds i true) k E I L') (hc : decide (Region.ready .any ops listed = [i]) = true := by kernel_rfl) (hl : vs.length = sz := by rfl) (hS : C9 ops (listed.setIfInBounds i true) = true := by kernel_rfl) (hp : vs.all Bc = true := by first | rfl | (simp only [List.toList_toArray, List.all_cons, List.all_nil, Fb, Bool.and_true, Bool.true_and] <;> rfl)) (hu : Upd b (.cells us.toArray U (0, 0)) (.cells cs.toArray U (0, 0)) L L' := by first | exact u0 | exact u1 | exact u2 | exact u3 | exact u4 | exact u5 | exact u6) (hus : Ii off vs cs = some us := by rfl) : Be P f n I₀ Q ops S (fuel + 1) listed k E I L := Qi i hi hc rfl hx hy hv hl hp hu hus .free (.inl hS) h
theorem Db {S : World → Prop} {fuel : Nat} {listed : Array Bool} (i : Nat) {op : Op} {v : Value} (hi : ops[i]? = some ⟨some d, op, ty, pos, af, none⟩) (hx : Dz P E (fun _ => True) ⟨some d, op, ty, pos, af, none⟩ v)
  (h : Be P f n I₀ Q ops S fuel (listed.setIfInBounds i true) k ((d, v) :: E) I L) (hc : Eg ops listed i = true := by kernel_rfl) (hS : C9 ops listed = true := by kernel_rfl) (hdn : Nat.blt d n = true := by rfl) : Be P f n I₀ Q ops S (fuel + 1) listed k E I L := Cs i hi hc rfl (.inl hS) hx .free hdn h
theorem Dm {S : World → Prop} {fuel : Nat} {listed : Array Bool} (i : Nat) {op : Op} {v : Value} {g : Option (Nat × Bool)} (hi : ops[i]? = some ⟨some d, op, ty, pos, af, g⟩) (hx : Dz P E (fun _ => True) ⟨some d, op, ty, pos, af, g⟩ v)
  (h : Be P f n I₀ Q ops S fuel (listed.setIfInBounds i true) k ((d, v) :: E) I L) (hc : Eg ops listed i = true := by kernel_rfl) (hS : C9 ops listed = true ∨ ∀ w, Mem I L w → S w := by exact .inr Cm) (hg : Wants ops E g := by exact .met rfl rfl) (hdn : Nat.blt d n = true := by rfl) : Be P f n I₀ Q ops S (fuel + 1) listed k E I L := Cs i hi hc rfl hS hx hg hdn h
theorem Yk {S : World → Prop} {g : Option (Nat × Bool)} {T T' : TypeId} {x y : Operand} {a b : List UInt8} (hx : Au E x = some (.string (str a))) (hy : Au E y = some (.string (str b))) (hb : a.length + b.length ≤ 9223372036854775807 := by first | omega | (simp only [List.length_append, List.length_cons, List.length_nil]; omega) | (simp; omega)) : Dz P E S ⟨some d, .binOp .add T x y T', ty, pos, af, g⟩ (.string (str (a ++ b))) := Mp hx hy hb
theorem Hx {p : Prop} {I : Heap} {L : At} {S : World → Prop} {B : Prop} (h : p) (hS : B ∨ ∀ w, Mem I L w → S w := by exact .inr Cm) : (B ∨ ∀ w, Mem I L w → S w) ∧ p := ⟨hS, h⟩
theorem Sf {c : Operand} {x y : Code} {b : Bool} {p q : Prop} [hb : R6 b p q] (hc : Au E c = some (.bool b)) (hq : q) (h : RunS P f n I₀ Q (.code y :: k) E I L) : RunS P f n I₀ Q (.code (.cond c x y) :: k) E I L := Cw (by rw [hc, hb.fls hq]) h
theorem St {c : Operand} {x y : Code} {b : Bool} {p q : Prop} [hb : R6 b p q] (hc : Au E c = some (.bool b)) (hp : p) (h : RunS P f n I₀ Q (.code x :: k) E I L) : RunS P f n I₀ Q (.code (.cond c x y) :: k) E I L := Bk (by rw [hc, hb.tru hp]) h
end
set_option maxRecDepth 100000
def Ad (P : Program) (T : TypeId) : Array Field := match P.underlying T with
 | some (.struct fs) => fs
 | _ => #[]
theorem Fi {P : Program} {f : FuncId} {n : Nat} {rs : List ResultVar} {fn : Func} (h : P.funcs[f]? = some fn) (h1 : fn.body = some (fn.body.getD .skip) := by kernel_rfl) (h2 : fn.ntmps = n := by kernel_rfl) (h3 : fn.results = rs.toArray := by kernel_rfl) (h4 : (fn.name == "runtime.NumGoroutine") = false := by kernel_rfl) : A4 P f (fn.body.getD .skip) n rs := ⟨fn, h, h1, h2, h3, h4⟩
theorem Ti {P : Program} {T : TypeId} {d : TypeDesc} {s b : Nat} {z : List Value} (h1 : P.underlying T = some d := by kernel_rfl) (h2 : (P.info? T).map (fun i => (i.size, i.bytes, i.zero.map fun v => v.cells.toList)) = some (s, b, some z) := by kernel_rfl) : Ae P T d s b z := ⟨h1, by
 cases hi : P.info? T with
 | none => rw [hi] at h2; cases h2
 | some i =>
  rw [hi] at h2
  simp only [Option.map_some, Option.some.injEq, Prod.mk.injEq] at h2
  obtain ⟨h3, h4, h5⟩ := h2; obtain ⟨v, hv, hz⟩ := Option.map_eq_some_iff.1 h5
  exact ⟨i, v, rfl, h3, h4, hv, hz⟩⟩
theorem Di {P : Program} {S : TypeId} {i off : Nat} {fld : Field} {inf : TypeInfo} (h1 : (Ad P S)[i]? = some fld) (h2 : P.info? fld.type = some inf) (h3 : inf.size ≠ 0) (h4 : fld.offset = off) (h : P.underlying S = some (.struct (Ad P S)) := by kernel_rfl) : Ak P S i off := ⟨Ad P S, fld, inf, h, h1, h2, h3, h4⟩
instance : A4 Tryd.prog 3 (Tryd.f3.body.getD .skip) 74 [.tmp 2] := Fi Tryd.func3
instance : A4 Tryd.prog 4 (Tryd.f4.body.getD .skip) 42 [.tmp 2] := Fi Tryd.func4
instance : A4 Tryd.prog 5 (Tryd.f5.body.getD .skip) 6 [.tmp 2] := Fi Tryd.func5
instance : A4 Tryd.prog 6 (Tryd.f6.body.getD .skip) 15 [.tmp 2] := Fi Tryd.func6
instance : A4 Tryd.prog 7 (Tryd.f7.body.getD .skip) 15 [.tmp 2] := Fi Tryd.func7
instance : A4 Tryd.prog 8 (Tryd.f8.body.getD .skip) 20 [.tmp 2, .tmp 3] := Fi Tryd.func8
instance : A4 Tryd.prog 9 (Tryd.f9.body.getD .skip) 9 [.tmp 2, .tmp 3] := Fi Tryd.func9
instance : A4 Tryd.prog 10 (Tryd.f10.body.getD .skip) 19 [.tmp 2] := Fi Tryd.func10
instance : A4 Tryd.prog 11 (Tryd.f11.body.getD .skip) 6 [.tmp 2] := Fi Tryd.func11
instance : A4 Tryd.prog 12 (Tryd.f12.body.getD .skip) 31 [.tmp 2] := Fi Tryd.func12
instance : A4 Tryd.prog 13 (Tryd.f13.body.getD .skip) 133 [.tmp 2] := Fi Tryd.func13
instance : A4 Tryd.prog 14 (Tryd.f14.body.getD .skip) 11 [.tmp 2] := Fi Tryd.func14
instance : A4 Tryd.prog 15 (Tryd.f15.body.getD .skip) 23 [.cell 2 36, .tmp 3] := Fi Tryd.func15
instance : A4 Tryd.prog 16 (Tryd.f16.body.getD .skip) 78 [.tmp 2] := Fi Tryd.func16
instance : A4 Tryd.prog 17 (Tryd.f17.body.getD .skip) 20 [.cell 2 42, .tmp 3] := Fi Tryd.func17
instance : A4 Tryd.prog 18 (Tryd.f18.body.getD .skip) 67 [.tmp 2] := Fi Tryd.func18
instance : A4 Tryd.prog 19 (Tryd.f19.body.getD .skip) 7 [.tmp 2] := Fi Tryd.func19
instance : A4 Tryd.prog 20 (Tryd.f20.body.getD .skip) 19 [.tmp 2] := Fi Tryd.func20
instance : A4 Tryd.prog 21 (Tryd.f21.body.getD .skip) 22 [.tmp 2] := Fi Tryd.func21
instance : A4 Tryd.prog 22 (Tryd.f22.body.getD .skip) 11 [.tmp 2] := Fi Tryd.func22
instance : A4 Tryd.prog 23 (Tryd.f23.body.getD .skip) 11 [.tmp 2] := Fi Tryd.func23
instance : A4 Tryd.prog 24 (Tryd.f24.body.getD .skip) 6 [.tmp 2] := Fi Tryd.func24
instance : A4 Tryd.prog 25 (Tryd.f25.body.getD .skip) 99 [.tmp 4] := Fi Tryd.func25
instance : A4 Tryd.prog 26 (Tryd.f26.body.getD .skip) 12 [.tmp 4] := Fi Tryd.func26
instance : A4 Tryd.prog 27 (Tryd.f27.body.getD .skip) 78 [.cell 4 36, .tmp 5, .tmp 6] := Fi Tryd.func27
instance : A4 Tryd.prog 28 (Tryd.f28.body.getD .skip) 33 [.tmp 4] := Fi Tryd.func28
instance : A4 Tryd.prog 29 (Tryd.f29.body.getD .skip) 10 [.tmp 2] := Fi Tryd.func29
instance : A4 Tryd.prog 30 (Tryd.f30.body.getD .skip) 10 [.tmp 2] := Fi Tryd.func30
instance : A4 Tryd.prog 31 (Tryd.f31.body.getD .skip) 35 [.tmp 2] := Fi Tryd.func31
instance : A4 Tryd.prog 32 (Tryd.f32.body.getD .skip) 18 [.tmp 6] := Fi Tryd.func32
instance : A4 Tryd.prog 33 (Tryd.f33.body.getD .skip) 53 [.tmp 6] := Fi Tryd.func33
instance : A4 Tryd.prog 34 (Tryd.f34.body.getD .skip) 87 [.cell 6 42, .tmp 7] := Fi Tryd.func34
instance : A4 Tryd.prog 35 (Tryd.f35.body.getD .skip) 25 [.tmp 2] := Fi Tryd.func35
instance : A4 Tryd.prog 36 (Tryd.f36.body.getD .skip) 17 [.tmp 2] := Fi Tryd.func36
instance : A4 Tryd.prog 37 (Tryd.f37.body.getD .skip) 39 [.tmp 4] := Fi Tryd.func37
instance : A4 Tryd.prog 38 (Tryd.f38.body.getD .skip) 57 [.tmp 2, .tmp 3] := Fi Tryd.func38
instance : A4 Tryd.prog 39 (Tryd.f39.body.getD .skip) 7 [.tmp 2] := Fi Tryd.func39
instance : A4 Tryd.prog 40 (Tryd.f40.body.getD .skip) 8 [.tmp 4] := Fi Tryd.func40
instance : A4 Tryd.prog 41 (Tryd.f41.body.getD .skip) 15 [.tmp 6] := Fi Tryd.func41
instance : A4 Tryd.prog 42 (Tryd.f42.body.getD .skip) 20 [.tmp 2] := Fi Tryd.func42
instance : A4 Tryd.prog 43 (Tryd.f43.body.getD .skip) 18 [.tmp 2, .tmp 3] := Fi Tryd.func43
instance : A4 Tryd.prog 44 (Tryd.f44.body.getD .skip) 28 [.tmp 2] := Fi Tryd.func44
instance : A4 Tryd.prog 45 (Tryd.f45.body.getD .skip) 8 [.tmp 4] := Fi Tryd.func45
instance : A4 Tryd.prog 46 (Tryd.f46.body.getD .skip) 33 [.tmp 2] := Fi Tryd.func46
instance : A4 Tryd.prog 47 (Tryd.f47.body.getD .skip) 125 [.tmp 4] := Fi Tryd.func47
instance : A4 Tryd.prog 48 (Tryd.f48.body.getD .skip) 28 [.tmp 2] := Fi Tryd.func48
instance : A4 Tryd.prog 49 (Tryd.f49.body.getD .skip) 9 [.tmp 4] := Fi Tryd.func49
instance : A4 Tryd.prog 50 (Tryd.f50.body.getD .skip) 10 [.tmp 4] := Fi Tryd.func50
instance : A4 Tryd.prog 51 (Tryd.f51.body.getD .skip) 33 [.tmp 2] := Fi Tryd.func51
instance : A4 Tryd.prog 52 (Tryd.f52.body.getD .skip) 19 [.tmp 2] := Fi Tryd.func52
instance : A4 Tryd.prog 53 (Tryd.f53.body.getD .skip) 39 [.tmp 2] := Fi Tryd.func53
instance : A4 Tryd.prog 54 (Tryd.f54.body.getD .skip) 72 [.tmp 6] := Fi Tryd.func54
instance : A4 Tryd.prog 55 (Tryd.f55.body.getD .skip) 15 [.tmp 6] := Fi Tryd.func55
instance : A4 Tryd.prog 56 (Tryd.f56.body.getD .skip) 32 [] := Fi Tryd.func56
instance : A4 Tryd.prog 57 (Tryd.f57.body.getD .skip) 14 [.tmp 2] := Fi Tryd.func57
instance : A4 Tryd.prog 58 (Tryd.f58.body.getD .skip) 13 [.tmp 4] := Fi Tryd.func58
instance : A4 Tryd.prog 61 (Tryd.f61.body.getD .skip) 18 [.tmp 4] := Fi Tryd.func61
instance : A4 Tryd.prog 64 (Tryd.f64.body.getD .skip) 19 [.tmp 4, .tmp 5] := Fi Tryd.func64
instance : A4 Tryd.prog 67 (Tryd.f67.body.getD .skip) 19 [.tmp 4] := Fi Tryd.func67
instance : A4 Tryd.prog 68 (Tryd.f68.body.getD .skip) 24 [.tmp 2] := Fi Tryd.func68
instance : A4 Tryd.prog 69 (Tryd.f69.body.getD .skip) 17 [.tmp 4] := Fi Tryd.func69
instance : A4 Tryd.prog 77 (Tryd.f77.body.getD .skip) 20 [] := Fi Tryd.func77
instance : A4 Tryd.prog 83 (Tryd.f83.body.getD .skip) 5 [.tmp 2] := Fi Tryd.func83
instance : Ae Tryd.prog 1 (.func #[] #[] false) 1 8 [.nilFunc] := Ti
instance : Ae Tryd.prog 2 (.int .i64) 1 8 [.int .i64 0] := Ti
instance : Ae Tryd.prog 3 (.int .i64) 1 8 [.int .i64 0] := Ti
instance : Ae Tryd.prog 4 .bool 1 1 [.bool false] := Ti
instance : Ae Tryd.prog 5 (.int .u8) 1 1 [.int .u8 0] := Ti
instance : Ae Tryd.prog 6 (.int .u8) 1 1 [.int .u8 0] := Ti
instance : Ae Tryd.prog 7 (.struct (Ad Tryd.prog 7)) 4 24 [.int .i64 0, .int .i64 0, .bool false, .int .u8 0] := Ti
instance : Ae Tryd.prog 8 (.struct (Ad Tryd.prog 8)) 4 24 [.int .i64 0, .int .i64 0, .bool false, .int .u8 0] := Ti
instance : Ae Tryd.prog 9 .string 1 16 [.string (str [])] := Ti
instance : Ae Tryd.prog 10 .string 1 16 [.string (str [])] := Ti
instance : Ae Tryd.prog 11 .string 1 16 [.string (str [])] := Ti
instance : Ae Tryd.prog 12 (.int .u64) 1 8 [.int .u64 0] := Ti
instance : Ae Tryd.prog 13 (.struct (Ad Tryd.prog 13)) 2 24 [.string (str []), .int .u64 0] := Ti
instance : Ae Tryd.prog 14 (.struct (Ad Tryd.prog 14)) 2 24 [.string (str []), .int .u64 0] := Ti
instance : Ae Tryd.prog 15 (.pointer 130) 1 8 [.pointer none] := Ti
instance : Ae Tryd.prog 16 (.pointer 133) 1 8 [.pointer none] := Ti
instance : Ae Tryd.prog 17 (.pointer 140) 1 8 [.pointer none] := Ti
instance : Ae Tryd.prog 18 (.struct (Ad Tryd.prog 18)) 1 8 [.pointer none] := Ti
instance : Ae Tryd.prog 19 (.struct (Ad Tryd.prog 19)) 1 8 [.pointer none] := Ti
instance : Ae Tryd.prog 21 (.int .i32) 1 4 [.int .i32 0] := Ti
instance : Ae Tryd.prog 22 (.slice 5) 1 24 [.slice none 0 0] := Ti
instance : Ae Tryd.prog 23 (.func #[22] #[9] false) 1 8 [.nilFunc] := Ti
instance : Ae Tryd.prog 24 (.func #[9] #[4] false) 1 8 [.nilFunc] := Ti
instance : Ae Tryd.prog 25 (.slice 9) 1 24 [.slice none 0 0] := Ti
instance : Ae Tryd.prog 27 (.func #[9] #[25, 4] false) 1 8 [.nilFunc] := Ti
instance : Ae Tryd.prog 29 (.func #[9] #[3, 4] false) 1 8 [.nilFunc] := Ti
instance : Ae Tryd.prog 30 (.func #[22] #[4] false) 1 8 [.nilFunc] := Ti
instance : Ae Tryd.prog 31 (.func #[32] #[9] false) 1 8 [.nilFunc] := Ti
instance : Ae Tryd.prog 32 (.pointer 51) 1 8 [.pointer none] := Ti
instance : Ae Tryd.prog 33 (.func #[22] #[32] false) 1 8 [.nilFunc] := Ti
instance : Ae Tryd.prog 34 (.slice 36) 1 24 [.slice none 0 0] := Ti
instance : Ae Tryd.prog 35 (.struct (Ad Tryd.prog 35)) 2 40 [.string (str []), .slice none 0 0] := Ti
instance : Ae Tryd.prog 36 (.struct (Ad Tryd.prog 36)) 2 40 [.string (str []), .slice none 0 0] := Ti
instance : Ae Tryd.prog 38 (.func #[9] #[36, 4] false) 1 8 [.nilFunc] := Ti
instance : Ae Tryd.prog 39 (.func #[] #[4] false) 1 8 [.nilFunc] := Ti
instance : Ae Tryd.prog 40 (.slice 42) 1 24 [.slice none 0 0] := Ti
instance : Ae Tryd.prog 41 (.struct (Ad Tryd.prog 41)) 2 40 [.string (str []), .slice none 0 0] := Ti
instance : Ae Tryd.prog 42 (.struct (Ad Tryd.prog 42)) 2 40 [.string (str []), .slice none 0 0] := Ti
instance : Ae Tryd.prog 44 (.func #[9] #[42, 4] false) 1 8 [.nilFunc] := Ti
instance : Ae Tryd.prog 45 (.func #[42] #[4] false) 1 8 [.nilFunc] := Ti
instance : Ae Tryd.prog 46 (.func #[34] #[25] false) 1 8 [.nilFunc] := Ti
instance : Ae Tryd.prog 47 (.func #[9] #[3] false) 1 8 [.nilFunc] := Ti
instance : Ae Tryd.prog 48 (.func #[3] #[3] false) 1 8 [.nilFunc] := Ti
instance : Ae Tryd.prog 49 (.func #[25] #[9] false) 1 8 [.nilFunc] := Ti
instance : Ae Tryd.prog 50 (.struct (Ad Tryd.prog 50)) 2 32 [.slice none 0 0, .int .i64 0] := Ti
instance : Ae Tryd.prog 51 (.struct (Ad Tryd.prog 51)) 2 32 [.slice none 0 0, .int .i64 0] := Ti
instance : Ae Tryd.prog 53 (.func #[9, 3] #[36, 9, 4] false) 1 8 [.nilFunc] := Ti
instance : Ae Tryd.prog 54 (.func #[9, 3] #[9] false) 1 8 [.nilFunc] := Ti
instance : Ae Tryd.prog 55 (.func #[] #[9] false) 1 8 [.nilFunc] := Ti
instance : Ae Tryd.prog 56 (.func #[9, 3] #[4] false) 1 8 [.nilFunc] := Ti
instance : Ae Tryd.prog 57 (.func #[4, 4] #[4] false) 1 8 [.nilFunc] := Ti
instance : Ae Tryd.prog 59 (.func #[9, 3, 3] #[42, 3] false) 1 8 [.nilFunc] := Ti
instance : Ae Tryd.prog 60 (.func #[9] #[9] false) 1 8 [.nilFunc] := Ti
instance : Ae Tryd.prog 61 (.func #[42] #[9] false) 1 8 [.nilFunc] := Ti
instance : Ae Tryd.prog 62 (.func #[42, 5] #[4] false) 1 8 [.nilFunc] := Ti
instance : Ae Tryd.prog 63 (.func #[9, 9] #[9] false) 1 8 [.nilFunc] := Ti
instance : Ae Tryd.prog 64 (.func #[3, 3, 3] #[4] false) 1 8 [.nilFunc] := Ti
instance : Ae Tryd.prog 68 (.func #[9] #[3, 66] false) 1 8 [.nilFunc] := Ti
instance : Ae Tryd.prog 69 (.func #[3] #[9] false) 1 8 [.nilFunc] := Ti
instance : Ae Tryd.prog 70 (.func #[9, 9] #[4] false) 1 8 [.nilFunc] := Ti
instance : Ae Tryd.prog 71 (.func #[5] #[4] false) 1 8 [.nilFunc] := Ti
instance : Ae Tryd.prog 72 (.func #[34, 73] #[4] false) 1 8 [.nilFunc] := Ti
instance : Ae Tryd.prog 73 (.func #[36] #[4] false) 1 8 [.nilFunc] := Ti
instance : Ae Tryd.prog 74 (.func #[42] #[3] false) 1 8 [.nilFunc] := Ti
instance : Ae Tryd.prog 75 (.func #[42, 4, 4] #[4] false) 1 8 [.nilFunc] := Ti
instance : Ae Tryd.prog 76 (.pointer 78) 1 8 [.pointer none] := Ti
instance : Ae Tryd.prog 77 (.struct (Ad Tryd.prog 77)) 2 32 [.pointer none, .slice none 0 0] := Ti
instance : Ae Tryd.prog 78 (.struct (Ad Tryd.prog 78)) 2 32 [.pointer none, .slice none 0 0] := Ti
instance : Ae Tryd.prog 79 (.func #[76] #[] false) 1 8 [.nilFunc] := Ti
instance : Ae Tryd.prog 80 (.func #[9, 9, 3, 3, 66] #[66] false) 1 8 [.nilFunc] := Ti
instance : Ae Tryd.prog 81 (.int .u64) 1 8 [.int .u64 0] := Ti
instance : Ae Tryd.prog 83 (.func #[81, 81] #[81, 81] false) 1 8 [.nilFunc] := Ti
instance : Ae Tryd.prog 84 (.func #[3] #[] false) 1 8 [.nilFunc] := Ti
instance : Ae Tryd.prog 85 (.func #[] #[3] false) 1 8 [.nilFunc] := Ti
instance : Ae Tryd.prog 87 (.func #[9, 9] #[9, 4] false) 1 8 [.nilFunc] := Ti
instance : Ae Tryd.prog 88 (.func #[34, 73] #[3] false) 1 8 [.nilFunc] := Ti
instance : Ae Tryd.prog 89 (.func #[5] #[66] false) 1 8 [.nilFunc] := Ti
instance : Ae Tryd.prog 90 (.pointer 5) 1 8 [.pointer none] := Ti
instance : Ae Tryd.prog 91 (.int .i64) 1 8 [.int .i64 0] := Ti
instance : Ae Tryd.prog 93 (.func #[9, 3, 3] #[2, 66] false) 1 8 [.nilFunc] := Ti
instance : Ae Tryd.prog 94 (.pointer 106) 1 8 [.pointer none] := Ti
instance : Ae Tryd.prog 95 (.func #[9, 9] #[94] false) 1 8 [.nilFunc] := Ti
instance : Ae Tryd.prog 96 (.func #[9, 9, 3] #[94] false) 1 8 [.nilFunc] := Ti
instance : Ae Tryd.prog 97 (.int .u32) 1 4 [.int .u32 0] := Ti
instance : Ae Tryd.prog 99 (.func #[97, 97] #[97, 97] false) 1 8 [.nilFunc] := Ti
instance : Ae Tryd.prog 100 (.int .u64) 1 8 [.int .u64 0] := Ti
instance : Ae Tryd.prog 102 (.func #[100, 100] #[100, 100] false) 1 8 [.nilFunc] := Ti
instance : Ae Tryd.prog 104 (.func #[9, 3, 3] #[100, 66] false) 1 8 [.nilFunc] := Ti
instance : Ae Tryd.prog 105 (.struct (Ad Tryd.prog 105)) 3 48 [.string (str []), .string (str []), .nilIface] := Ti
instance : Ae Tryd.prog 106 (.struct (Ad Tryd.prog 106)) 3 48 [.string (str []), .string (str []), .nilIface] := Ti
instance : Ae Tryd.prog 107 (.func #[9] #[66] false) 1 8 [.nilFunc] := Ti
instance : Ae Tryd.prog 108 .unsafePointer 1 8 [.pointer none] := Ti
instance : Ae Tryd.prog 109 (.func #[108] #[108] false) 1 8 [.nilFunc] := Ti
instance : Ae Tryd.prog 110 (.func #[3] #[22] false) 1 8 [.nilFunc] := Ti
instance : Ae Tryd.prog 111 (.func #[5] #[5] false) 1 8 [.nilFunc] := Ti
instance : Ae Tryd.prog 112 (.pointer 114) 1 8 [.pointer none] := Ti
instance : Ae Tryd.prog 113 (.struct (Ad Tryd.prog 113)) 1 16 [.string (str [])] := Ti
instance : Ae Tryd.prog 114 (.struct (Ad Tryd.prog 114)) 1 16 [.string (str [])] := Ti
instance : Ae Tryd.prog 115 (.func #[2, 3] #[9] false) 1 8 [.nilFunc] := Ti
instance : Ae Tryd.prog 116 (.array 24 5) 24 24 [.int .u8 0, .int .u8 0, .int .u8 0, .int .u8 0, .int .u8 0, .int .u8 0, .int .u8 0, .int .u8 0, .int .u8 0, .int .u8 0, .int .u8 0, .int .u8 0, .int .u8 0, .int .u8 0, .int .u8 0, .int .u8 0, .int .u8 0, .int .u8 0, .int .u8 0, .int .u8 0, .int .u8 0, .int .u8 0, .int .u8 0, .int .u8 0] := Ti
instance : Ae Tryd.prog 117 (.func #[100] #[3] false) 1 8 [.nilFunc] := Ti
instance : Ae Tryd.prog 118 (.func #[22, 100] #[] false) 1 8 [.nilFunc] := Ti
instance : Ae Tryd.prog 120 (.func #[22, 100, 3, 4, 4] #[22, 9] false) 1 8 [.nilFunc] := Ti
instance : Ae Tryd.prog 121 (.func #[4] #[3] false) 1 8 [.nilFunc] := Ti
instance : Ae Tryd.prog 122 (.array 20 100) 20 160 [.int .u64 0, .int .u64 0, .int .u64 0, .int .u64 0, .int .u64 0, .int .u64 0, .int .u64 0, .int .u64 0, .int .u64 0, .int .u64 0, .int .u64 0, .int .u64 0, .int .u64 0, .int .u64 0, .int .u64 0, .int .u64 0, .int .u64 0, .int .u64 0, .int .u64 0, .int .u64 0] := Ti
instance : Ae Tryd.prog 124 (.func #[3] #[4] false) 1 8 [.nilFunc] := Ti
instance : Ae Tryd.prog 125 (.func #[81] #[3] false) 1 8 [.nilFunc] := Ti
instance : Ae Tryd.prog 126 (.func #[97] #[3] false) 1 8 [.nilFunc] := Ti
instance : Ae Tryd.prog 127 (.array 32 5) 32 32 [.int .u8 0, .int .u8 0, .int .u8 0, .int .u8 0, .int .u8 0, .int .u8 0, .int .u8 0, .int .u8 0, .int .u8 0, .int .u8 0, .int .u8 0, .int .u8 0, .int .u8 0, .int .u8 0, .int .u8 0, .int .u8 0, .int .u8 0, .int .u8 0, .int .u8 0, .int .u8 0, .int .u8 0, .int .u8 0, .int .u8 0, .int .u8 0, .int .u8 0, .int .u8 0, .int .u8 0, .int .u8 0, .int .u8 0, .int .u8 0, .int .u8 0, .int .u8 0] := Ti
instance : Ae Tryd.prog 128 (.array 64 5) 64 64 [.int .u8 0, .int .u8 0, .int .u8 0, .int .u8 0, .int .u8 0, .int .u8 0, .int .u8 0, .int .u8 0, .int .u8 0, .int .u8 0, .int .u8 0, .int .u8 0, .int .u8 0, .int .u8 0, .int .u8 0, .int .u8 0, .int .u8 0, .int .u8 0, .int .u8 0, .int .u8 0, .int .u8 0, .int .u8 0, .int .u8 0, .int .u8 0, .int .u8 0, .int .u8 0, .int .u8 0, .int .u8 0, .int .u8 0, .int .u8 0, .int .u8 0, .int .u8 0, .int .u8 0, .int .u8 0, .int .u8 0, .int .u8 0, .int .u8 0, .int .u8 0, .int .u8 0, .int .u8 0, .int .u8 0, .int .u8 0, .int .u8 0, .int .u8 0, .int .u8 0, .int .u8 0, .int .u8 0, .int .u8 0, .int .u8 0, .int .u8 0, .int .u8 0, .int .u8 0, .int .u8 0, .int .u8 0, .int .u8 0, .int .u8 0, .int .u8 0, .int .u8 0, .int .u8 0, .int .u8 0, .int .u8 0, .int .u8 0, .int .u8 0, .int .u8 0] := Ti
instance : Ae Tryd.prog 129 (.struct (Ad Tryd.prog 129)) 4 40 [.pointer none, .pointer none, .pointer none, .string (str [])] := Ti
instance : Ae Tryd.prog 130 (.struct (Ad Tryd.prog 130)) 4 40 [.pointer none, .pointer none, .pointer none, .string (str [])] := Ti
instance : Ae Tryd.prog 131 (.array 0 16) 0 0 [] := Ti
instance : Ae Tryd.prog 132 (.struct (Ad Tryd.prog 132)) 0 0 [] := Ti
instance : Ae Tryd.prog 133 (.struct (Ad Tryd.prog 133)) 0 0 [] := Ti
instance : Ae Tryd.prog 134 (.int .u8) 1 1 [.int .u8 0] := Ti
instance : Ae Tryd.prog 135 (.int .u8) 1 1 [.int .u8 0] := Ti
instance : Ae Tryd.prog 136 (.func #[108, 108] #[4] false) 1 8 [.nilFunc] := Ti
instance : Ae Tryd.prog 137 (.int .i32) 1 4 [.int .i32 0] := Ti
instance : Ae Tryd.prog 138 (.int .i32) 1 4 [.int .i32 0] := Ti
instance : Ae Tryd.prog 139 (.struct (Ad Tryd.prog 139)) 11 48 [.int .u64 0, .int .u64 0, .int .u32 0, .int .u8 0, .int .u8 0, .int .u8 0, .int .u8 0, .nilFunc, .pointer none, .int .i32 0, .int .i32 0] := Ti
instance : Ae Tryd.prog 140 (.struct (Ad Tryd.prog 140)) 11 48 [.int .u64 0, .int .u64 0, .int .u32 0, .int .u8 0, .int .u8 0, .int .u8 0, .int .u8 0, .nilFunc, .pointer none, .int .i32 0, .int .i32 0] := Ti
instance : A1 Tryd.prog 7 [(0, 1), (1, 1), (2, 1), (3, 1)] := ⟨Ad Tryd.prog 7, by kernel_rfl, fun _ => by kernel_rfl⟩
instance : Ak Tryd.prog 7 0 0 := Di rfl rfl (by decide) (by kernel_rfl)
instance : Ak Tryd.prog 7 1 1 := Di rfl rfl (by decide) (by kernel_rfl)
instance : Ak Tryd.prog 7 2 2 := Di rfl rfl (by decide) (by kernel_rfl)
instance : Ak Tryd.prog 7 3 3 := Di rfl rfl (by decide) (by kernel_rfl)
instance : A1 Tryd.prog 8 [(0, 1), (1, 1), (2, 1), (3, 1)] := ⟨Ad Tryd.prog 8, by kernel_rfl, fun _ => by kernel_rfl⟩
instance : Ak Tryd.prog 8 0 0 := Di rfl rfl (by decide) (by kernel_rfl)
instance : Ak Tryd.prog 8 1 1 := Di rfl rfl (by decide) (by kernel_rfl)
instance : Ak Tryd.prog 8 2 2 := Di rfl rfl (by decide) (by kernel_rfl)
instance : Ak Tryd.prog 8 3 3 := Di rfl rfl (by decide) (by kernel_rfl)
instance : A1 Tryd.prog 13 [(0, 1), (1, 1)] := ⟨Ad Tryd.prog 13, by kernel_rfl, fun _ => by kernel_rfl⟩
instance : Ak Tryd.prog 13 0 0 := Di rfl rfl (by decide) (by kernel_rfl)
instance : Ak Tryd.prog 13 1 1 := Di rfl rfl (by decide) (by kernel_rfl)
instance : A1 Tryd.prog 14 [(0, 1), (1, 1)] := ⟨Ad Tryd.prog 14, by kernel_rfl, fun _ => by kernel_rfl⟩
instance : Ak Tryd.prog 14 0 0 := Di rfl rfl (by decide) (by kernel_rfl)
instance : Ak Tryd.prog 14 1 1 := Di rfl rfl (by decide) (by kernel_rfl)
instance : A1 Tryd.prog 18 [(0, 1)] := ⟨Ad Tryd.prog 18, by kernel_rfl, fun _ => by kernel_rfl⟩
instance : Ak Tryd.prog 18 0 0 := Di rfl rfl (by decide) (by kernel_rfl)
instance : A1 Tryd.prog 19 [(0, 1)] := ⟨Ad Tryd.prog 19, by kernel_rfl, fun _ => by kernel_rfl⟩
instance : Ak Tryd.prog 19 0 0 := Di rfl rfl (by decide) (by kernel_rfl)
instance : A1 Tryd.prog 35 [(0, 1), (1, 1)] := ⟨Ad Tryd.prog 35, by kernel_rfl, fun _ => by kernel_rfl⟩
instance : Ak Tryd.prog 35 0 0 := Di rfl rfl (by decide) (by kernel_rfl)
instance : Ak Tryd.prog 35 1 1 := Di rfl rfl (by decide) (by kernel_rfl)
instance : A1 Tryd.prog 36 [(0, 1), (1, 1)] := ⟨Ad Tryd.prog 36, by kernel_rfl, fun _ => by kernel_rfl⟩
instance : Ak Tryd.prog 36 0 0 := Di rfl rfl (by decide) (by kernel_rfl)
instance : Ak Tryd.prog 36 1 1 := Di rfl rfl (by decide) (by kernel_rfl)
instance : A1 Tryd.prog 41 [(0, 1), (1, 1)] := ⟨Ad Tryd.prog 41, by kernel_rfl, fun _ => by kernel_rfl⟩
instance : Ak Tryd.prog 41 0 0 := Di rfl rfl (by decide) (by kernel_rfl)
instance : Ak Tryd.prog 41 1 1 := Di rfl rfl (by decide) (by kernel_rfl)
instance : A1 Tryd.prog 42 [(0, 1), (1, 1)] := ⟨Ad Tryd.prog 42, by kernel_rfl, fun _ => by kernel_rfl⟩
instance : Ak Tryd.prog 42 0 0 := Di rfl rfl (by decide) (by kernel_rfl)
instance : Ak Tryd.prog 42 1 1 := Di rfl rfl (by decide) (by kernel_rfl)
instance : A1 Tryd.prog 50 [(0, 1), (1, 1)] := ⟨Ad Tryd.prog 50, by kernel_rfl, fun _ => by kernel_rfl⟩
instance : Ak Tryd.prog 50 0 0 := Di rfl rfl (by decide) (by kernel_rfl)
instance : Ak Tryd.prog 50 1 1 := Di rfl rfl (by decide) (by kernel_rfl)
instance : A1 Tryd.prog 51 [(0, 1), (1, 1)] := ⟨Ad Tryd.prog 51, by kernel_rfl, fun _ => by kernel_rfl⟩
instance : Ak Tryd.prog 51 0 0 := Di rfl rfl (by decide) (by kernel_rfl)
instance : Ak Tryd.prog 51 1 1 := Di rfl rfl (by decide) (by kernel_rfl)
instance : A1 Tryd.prog 77 [(0, 1), (1, 1)] := ⟨Ad Tryd.prog 77, by kernel_rfl, fun _ => by kernel_rfl⟩
instance : Ak Tryd.prog 77 0 0 := Di rfl rfl (by decide) (by kernel_rfl)
instance : Ak Tryd.prog 77 1 1 := Di rfl rfl (by decide) (by kernel_rfl)
instance : A1 Tryd.prog 78 [(0, 1), (1, 1)] := ⟨Ad Tryd.prog 78, by kernel_rfl, fun _ => by kernel_rfl⟩
instance : Ak Tryd.prog 78 0 0 := Di rfl rfl (by decide) (by kernel_rfl)
instance : Ak Tryd.prog 78 1 1 := Di rfl rfl (by decide) (by kernel_rfl)
instance : A1 Tryd.prog 105 [(0, 1), (1, 1), (2, 1)] := ⟨Ad Tryd.prog 105, by kernel_rfl, fun _ => by kernel_rfl⟩
instance : Ak Tryd.prog 105 0 0 := Di rfl rfl (by decide) (by kernel_rfl)
instance : Ak Tryd.prog 105 1 1 := Di rfl rfl (by decide) (by kernel_rfl)
instance : Ak Tryd.prog 105 2 2 := Di rfl rfl (by decide) (by kernel_rfl)
instance : A1 Tryd.prog 106 [(0, 1), (1, 1), (2, 1)] := ⟨Ad Tryd.prog 106, by kernel_rfl, fun _ => by kernel_rfl⟩
instance : Ak Tryd.prog 106 0 0 := Di rfl rfl (by decide) (by kernel_rfl)
instance : Ak Tryd.prog 106 1 1 := Di rfl rfl (by decide) (by kernel_rfl)
instance : Ak Tryd.prog 106 2 2 := Di rfl rfl (by decide) (by kernel_rfl)
instance : A1 Tryd.prog 113 [(0, 1)] := ⟨Ad Tryd.prog 113, by kernel_rfl, fun _ => by kernel_rfl⟩
instance : Ak Tryd.prog 113 0 0 := Di rfl rfl (by decide) (by kernel_rfl)
instance : A1 Tryd.prog 114 [(0, 1)] := ⟨Ad Tryd.prog 114, by kernel_rfl, fun _ => by kernel_rfl⟩
instance : Ak Tryd.prog 114 0 0 := Di rfl rfl (by decide) (by kernel_rfl)
instance : A1 Tryd.prog 129 [(0, 1), (1, 1), (2, 1), (3, 1)] := ⟨Ad Tryd.prog 129, by kernel_rfl, fun _ => by kernel_rfl⟩
instance : Ak Tryd.prog 129 0 0 := Di rfl rfl (by decide) (by kernel_rfl)
instance : Ak Tryd.prog 129 1 1 := Di rfl rfl (by decide) (by kernel_rfl)
instance : Ak Tryd.prog 129 2 2 := Di rfl rfl (by decide) (by kernel_rfl)
instance : Ak Tryd.prog 129 3 3 := Di rfl rfl (by decide) (by kernel_rfl)
instance : A1 Tryd.prog 130 [(0, 1), (1, 1), (2, 1), (3, 1)] := ⟨Ad Tryd.prog 130, by kernel_rfl, fun _ => by kernel_rfl⟩
instance : Ak Tryd.prog 130 0 0 := Di rfl rfl (by decide) (by kernel_rfl)
instance : Ak Tryd.prog 130 1 1 := Di rfl rfl (by decide) (by kernel_rfl)
instance : Ak Tryd.prog 130 2 2 := Di rfl rfl (by decide) (by kernel_rfl)
instance : Ak Tryd.prog 130 3 3 := Di rfl rfl (by decide) (by kernel_rfl)
instance : A1 Tryd.prog 132 [(0, 0)] := ⟨Ad Tryd.prog 132, by kernel_rfl, fun _ => by kernel_rfl⟩
instance : A1 Tryd.prog 133 [(0, 0)] := ⟨Ad Tryd.prog 133, by kernel_rfl, fun _ => by kernel_rfl⟩
instance : A1 Tryd.prog 139 [(0, 1), (1, 1), (2, 1), (3, 1), (4, 1), (5, 1), (6, 1), (7, 1), (8, 1), (9, 1), (10, 1)] := ⟨Ad Tryd.prog 139, by kernel_rfl, fun _ => by kernel_rfl⟩
instance : Ak Tryd.prog 139 0 0 := Di rfl rfl (by decide) (by kernel_rfl)
instance : Ak Tryd.prog 139 1 1 := Di rfl rfl (by decide) (by kernel_rfl)
instance : Ak Tryd.prog 139 2 2 := Di rfl rfl (by decide) (by kernel_rfl)
instance : Ak Tryd.prog 139 3 3 := Di rfl rfl (by decide) (by kernel_rfl)
instance : Ak Tryd.prog 139 4 4 := Di rfl rfl (by decide) (by kernel_rfl)
instance : Ak Tryd.prog 139 5 5 := Di rfl rfl (by decide) (by kernel_rfl)
instance : Ak Tryd.prog 139 6 6 := Di rfl rfl (by decide) (by kernel_rfl)
instance : Ak Tryd.prog 139 7 7 := Di rfl rfl (by decide) (by kernel_rfl)
instance : Ak Tryd.prog 139 8 8 := Di rfl rfl (by decide) (by kernel_rfl)
instance : Ak Tryd.prog 139 9 9 := Di rfl rfl (by decide) (by kernel_rfl)
instance : Ak Tryd.prog 139 10 10 := Di rfl rfl (by decide) (by kernel_rfl)
instance : A1 Tryd.prog 140 [(0, 1), (1, 1), (2, 1), (3, 1), (4, 1), (5, 1), (6, 1), (7, 1), (8, 1), (9, 1), (10, 1)] := ⟨Ad Tryd.prog 140, by kernel_rfl, fun _ => by kernel_rfl⟩
instance : Ak Tryd.prog 140 0 0 := Di rfl rfl (by decide) (by kernel_rfl)
instance : Ak Tryd.prog 140 1 1 := Di rfl rfl (by decide) (by kernel_rfl)
instance : Ak Tryd.prog 140 2 2 := Di rfl rfl (by decide) (by kernel_rfl)
instance : Ak Tryd.prog 140 3 3 := Di rfl rfl (by decide) (by kernel_rfl)
instance : Ak Tryd.prog 140 4 4 := Di rfl rfl (by decide) (by kernel_rfl)
instance : Ak Tryd.prog 140 5 5 := Di rfl rfl (by decide) (by kernel_rfl)
instance : Ak Tryd.prog 140 6 6 := Di rfl rfl (by decide) (by kernel_rfl)
instance : Ak Tryd.prog 140 7 7 := Di rfl rfl (by decide) (by kernel_rfl)
instance : Ak Tryd.prog 140 8 8 := Di rfl rfl (by decide) (by kernel_rfl)
instance : Ak Tryd.prog 140 9 9 := Di rfl rfl (by decide) (by kernel_rfl)
instance : Ak Tryd.prog 140 10 10 := Di rfl rfl (by decide) (by kernel_rfl)
end Go.Proofs.YtbmgbhfeifgciaaDoor
