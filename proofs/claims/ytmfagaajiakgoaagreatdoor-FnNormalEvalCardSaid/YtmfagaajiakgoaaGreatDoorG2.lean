/- The rules of single operations: numbers, strings, variables in memory, slices, calls. No conditions. -/
import Derived.Test.YtmfagaajiakgoaaGreatDoorG1
import Derived.Laws.Strings
import Derived.Test.YtmfagaajiakgoaaGreatDoorRows

namespace Go.Proofs.YtmfagaajiakgoaaGreatDoor
set_option linter.unusedVariables false
set_option linter.unusedSimpArgs false

@[reducible] def str (l : List UInt8) : ByteArray := ⟨l.toArray⟩

class At (P : Program) (T : TypeId) (d : outParam TypeDesc) (size bytes : outParam Nat) (zero : outParam (List Value)) : Prop where
 und : P.underlying T = some d
 info : ∃ i z, P.info? T = some i ∧ i.size = size ∧ i.bytes = bytes ∧ i.zero = some z ∧ z.cells.toList = zero

class Cz (P : Program) (S : TypeId) (i : Nat) (off : outParam Nat) : Prop where
 get : ∃ fs fld inf, P.underlying S = some (.struct fs) ∧ fs[i]? = some fld ∧ P.info? fld.type = some inf ∧ inf.size ≠ 0 ∧ fld.offset = off

section
variable {P : Program}
theorem A3 {T : TypeId} {d : TypeDesc} (h : P.underlying T = some d) (w : World) : (underlying T).run P w = .ok d w := by
 simp only [underlying, program]; show (match P.underlying T with | some d => pure d | none => stuck "no such type" : Sem TypeDesc).run P w = _; rw [h]; rfl
theorem H0 {T : TypeId} {i : TypeInfo} (h : P.info? T = some i) (w : World) : (typeInfo T).run P w = .ok i w := by
 simp only [typeInfo, program]; show (match P.info? T with | some d => pure d | none => stuck "no such type" : Sem TypeInfo).run P w = _; rw [h]; rfl
theorem F1 {T : TypeId} {d : TypeDesc} {s b : Nat} {z : List Value} (h : At P T d s b z) (w : World) : (sizeOf T).run P w = .ok s w := by
 obtain ⟨i, z, hi, hs, _⟩ := h.info
 unfold sizeOf
 rw [Ag (H0 hi w), ← hs]; rfl
theorem K9 {T : TypeId} {d : TypeDesc} {s b : Nat} {z : List Value} (h : At P T d s b z) (w : World) : ∃ i, (typeInfo T).run P w = .ok i w ∧ i.bytes = b := by
 obtain ⟨i, z, hi, hs, hb, _⟩ := h.info
 exact ⟨i, H0 hi w, hb⟩
theorem Ky {T : TypeId} {d : TypeDesc} {s b : Nat} {z : List Value} (h : At P T d s b z) (w : World) : ∃ v, (zeroValue T).run P w = .ok v w ∧ v.cells.toList = z := by
 obtain ⟨i, v, hi, _, _, hz, hv⟩ := h.info; refine ⟨v, ?_, hv⟩
 unfold zeroValue
 rw [Ag (H0 hi w), hz]; rfl

def Pa : TypeDesc → Bool
 | .struct _ | .array _ _ => false
 | _ => true
theorem Ws {T : TypeId} {d : TypeDesc} (h : P.underlying T = some d) (hs : Pa d = true) (w : World) : (isAgg T).run P w = .ok false w := by
 unfold isAgg
 rw [Ag (A3 h w)]
 cases d <;> first | rfl | simp [Pa] at hs
theorem Q4 {T : TypeId} {fs : Array Field} (h : P.underlying T = some (.struct fs)) (w : World) : (isAgg T).run P w = .ok true w := by
 unfold isAgg; rw [Ag (A3 h w)]; rfl
def He (I : Heap) (L : Bj) (a : Addr) (vs : List Value) : Prop := ∀ w, Mem I L w → ∀ i (h : i < vs.length), w.cell? (a.add i) = some vs[i]

theorem Ov {w : World} {a : Addr} {v : Value} (h : w.cell? a = some v) : (load a).run P w = .ok v w := by
 simp [load, Sem.run, h]

theorem P0 {w : World} {a : Addr} : ∀ (vs : List Value) (i : Nat) (acc : Array Value), (∀ j (h : j < vs.length), w.cell? (a.add (i + j)) = some vs[j]) →
  (loadCellsFrom a i vs.length acc).run P w = .ok (acc ++ vs.toArray) w := by
 intro vs
 induction vs with
 | nil => intro i acc h; simp [loadCellsFrom, Ha]
 | cons v vs ih =>
  intro i acc h
  simp only [List.length_cons, loadCellsFrom]
  rw [Ag (Ov (show w.cell? (a.add i) = some v from h 0 Ae))]
  rw [ih (i + 1) (acc.push v) (fun j hj => by
   have := h (j + 1) Dr
   rw [show i + 1 + j = i + (j + 1) by omega]; simpa using this)]
  simp
theorem Ln {w : World} {a : Addr} (vs : List Value) (h : ∀ j (h : j < vs.length), w.cell? (a.add j) = some vs[j]) :
  (loadCells a vs.length).run P w = .ok vs.toArray w := by
 unfold loadCells
 rw [P0 vs 0 #[] (by simpa using h)]; simp

theorem Fl {I : Heap} {L : Bj} {T : TypeId} {a : Addr} {v : Value} {d : TypeDesc} {s b : Nat} {z : List Value} [ht : At P T d s b z] (hd : Pa d = true)
  (h : He I L a [v]) : Gh P I L T a v := by
 intro w hm
 unfold loadVar
 rw [Ag (Ws ht.und hd w)]
 have := h w hm 0 Ae
 exact Ov (by simpa [Addr.add] using this)
theorem Ke {I : Heap} {L : Bj} {T : TypeId} {a : Addr} {vs : List Value} {fs : Array Field} {s b : Nat} {z : List Value} [ht : At P T (.struct fs) s b z]
  (hl : vs.length = s) (h : He I L a vs) : Gh P I L T a (.agg vs.toArray) := by
 intro w hm
 unfold loadVar
 rw [Ag (Q4 ht.und w)]
 show (do pure (.agg (← loadCells a (← sizeOf T))) : Sem Value).run P w = _
 rw [Ag (F1 ht w), ← hl, Ag (Ln vs (h w hm))]; rfl
/- A stretch of a list of cells, forced. -/
def Tt : Nat → List Value → Option (List Value)
 | 0, _ => some []
 | k + 1, v :: cs => match Tt k cs with
  | some vs => some (v :: vs)
  | none => none
 | _ + 1, [] => none
def Oz : Nat → Nat → List Value → Option (List Value)
 | 0, k, cs => Tt k cs
 | o + 1, k, _ :: cs => Oz o k cs
 | _ + 1, _, [] => none
theorem Aca : ∀ {k : Nat} {cs vs : List Value}, Tt k cs = some vs → vs.length = k ∧ ∀ i, i < k → cs[i]? = vs[i]? := by
 intro k
 induction k with
 | zero => intro cs vs h; simp [Tt] at h; subst h; simp
 | succ k ih =>
  intro cs vs h
  cases cs with
  | nil => simp [Tt] at h
  | cons c cs =>
   simp only [Tt] at h
   cases ht : Tt k cs with
   | none => simp [ht] at h
   | some us =>
    simp [ht] at h
    subst h; obtain ⟨h1, h2⟩ := ih ht; refine ⟨by simp [h1], fun i hi => ?_⟩
    cases i with
    | zero => rfl
    | succ i => simpa using h2 i Aa
theorem M8 : ∀ {o k : Nat} {cs vs : List Value}, Oz o k cs = some vs → vs.length = k ∧ ∀ i, i < k → cs[o + i]? = vs[i]? := by
 intro o
 induction o with
 | zero => intro k cs vs h; simpa [Oz] using Aca (by simpa [Oz] using h)
 | succ o ih =>
  intro k cs vs h
  cases cs with
  | nil => simp [Oz] at h
  | cons c cs =>
   obtain ⟨h1, h2⟩ := ih (by simpa [Oz] using h)
   exact ⟨h1, fun i hi => by rw [show o + 1 + i = o + i + 1 by omega]; simpa using h2 i hi⟩

theorem Pg {w : World} {b off i : Nat} {c : Array Value} {T : TypeId} {fr : Nat × Nat} (h : w.heap[b]? = some (.cells c T fr)) :
  w.cell? (Addr.add ⟨b, off, none⟩ i) = c[off + i]? := by
 unfold Addr.add
 by_cases e : i = 0
 ·subst e; simp [World.cell?, h]
 ·simp [e, World.cell?, h]

theorem Q2 {I : Heap} {L : Bj} {b off k : Nat} {cs vs : List Value} {T : TypeId} {fr : Nat × Nat} (hm : (b, Obj.cells cs.toArray T fr) ∈ L) (hc : Oz off k cs = some vs) :
  He I L ⟨b, off, none⟩ vs := by
 intro w hw i hi; rw [Pg (hw.2.1 _ hm).1]; obtain ⟨h1, h2⟩ := M8 hc
 have := h2 i Aa
 simpa [hi] using this

theorem Bw {I : Heap} {L : Bj} {b off : Nat} {cs vs : List Value} {T : TypeId} {fr : Nat × Nat} (hm : (b, Obj.cells cs.toArray T fr) ∈ L) (hc : Oz off vs.length cs = some vs) : He I L ⟨b, off, none⟩ vs := Q2 hm hc

def Still (I : Heap) (a : Addr) (vs : List Value) : Prop :=
 vs = [] ∨ ∃ c T fr, I a.block = some (.cells c T fr) ∧ a.spot = none ∧ ∀ i (h : i < vs.length), c[a.off + i]? = some vs[i]
theorem Still.mono {I I' : Heap} (hle : HLe I I') {a : Addr} {vs : List Value} (h : Still I a vs) : Still I' a vs := by
 rcases h with h | ⟨c, T, fr, hb, hs, hc⟩
 ·exact .inl h
 ·exact .inr ⟨c, T, fr, hle.le _ _ hb, hs, hc⟩
theorem Still.reads {I : Heap} {L : Bj} {a : Addr} {vs : List Value} (h : Still I a vs) : He I L a vs := by
 intro w hw i hi
 rcases h with h | ⟨c, T, fr, hb, hs, hc⟩
 ·subst h; simp at hi
 ·obtain ⟨b, off, sp⟩ := a
  simp at hs
  subst hs; rw [Pg (hw.1.1 _ _ hb)]
  exact hc i hi
theorem Still.part {I : Heap} {a : Addr} {vs us : List Value} (h : Still I a vs) (off : Nat) (hu : ∀ i (hi : i < us.length), vs[off + i]? = some us[i]) : Still I (a.add off) us := by
 rcases Nat.eq_zero_or_pos us.length with e | e
 ·exact .inl (List.length_eq_zero_iff.1 e)
 ·rcases h with h | ⟨c, T, fr, hb, hs, hc⟩
  ·subst h; have := hu 0 e; simp at this
  ·refine .inr ⟨c, T, fr, ?_, ?_, ?_⟩
   ·unfold Addr.add; split <;> exact hb
   ·unfold Addr.add; split <;> first | exact hs | rfl
   ·intro i hi
    have h1 := hu i hi
    have h2 : off + i < vs.length := by
     rcases Nat.lt_or_ge (off + i) vs.length with g | g
     ·exact g
     ·simp [List.getElem?_eq_none g] at h1
    have h3 := hc (off + i) h2
    have h4 : vs[off + i] = us[i] := by simpa [h2] using h1
    rw [h4] at h3
    have : (a.add off).off + i = a.off + (off + i) := by
     unfold Addr.add; split
     ·subst_vars; omega
     ·simp; omega
    rw [this]; exact h3

theorem Still.cut {I : Heap} {a : Addr} {vs us : List Value} {o k : Nat} (h : Still I a vs) (hc : Oz o k vs = some us) : Still I (a.add o) us := by
 obtain ⟨h1, h2⟩ := M8 hc
 exact h.part o fun i hi => by rw [h2 i Aa]; simp [hi]

theorem El {I : Heap} {L : Bj} {T : TypeId} {b off : Nat} {v : Value} {cs : List Value} {U : TypeId} {fr : Nat × Nat} {d : TypeDesc} {s bb : Nat} {z : List Value} [ht : At P T d s bb z]
  (hm : (b, Obj.cells cs.toArray U fr) ∈ L) (hc : Oz off 1 cs = some [v]) (hd : Pa d = true) : Gh P I L T ⟨b, off, none⟩ v := Fl hd (Q2 hm hc)
theorem Ih {I : Heap} {L : Bj} {T : TypeId} {b off : Nat} {vs : List Value} {cs : List Value} {U : TypeId} {fr : Nat × Nat} {fs : Array Field} {s bb : Nat} {z : List Value} [ht : At P T (.struct fs) s bb z]
  (hm : (b, Obj.cells cs.toArray U fr) ∈ L) (hc : Oz off s cs = some vs) : Gh P I L T ⟨b, off, none⟩ (.agg vs.toArray) := Ke (M8 hc).1 (Q2 hm hc)
theorem Be {I : Heap} {L : Bj} {T : TypeId} {a : Addr} {v : Value} {d : TypeDesc} {s bb : Nat} {z : List Value} [ht : At P T d s bb z] (h : Still I a [v]) (hd : Pa d = true) : Gh P I L T a v := Fl hd h.reads
theorem Ew {I : Heap} {L : Bj} {T : TypeId} {a : Addr} {vs : List Value} {fs : Array Field} {s bb : Nat} {z : List Value} [ht : At P T (.struct fs) s bb z] (h : Still I a vs) (hl : vs.length = s) : Gh P I L T a (.agg vs.toArray) := Ke hl h.reads
theorem Bi {I : Heap} {L : Bj} {T : TypeId} {a : Addr} {v : Value} {vs : List Value} {o : Nat} {d : TypeDesc} {s bb : Nat} {z : List Value} [ht : At P T d s bb z] (h : Still I a vs) (hc : Oz o 1 vs = some [v]) (hd : Pa d = true) :
  Gh P I L T (a.add o) v := Fl hd (h.cut hc).reads

/- Values by their cells. -/
def Gc : Value → Option (List Value)
 | .agg c => some c.toList
 | .tuple _ => none
 | v => some [v]
theorem Jx {v : Value} {vs : List Value} (h : Gc v = some vs) : v.cells = vs.toArray := by
 cases v <;> simp [Gc] at h <;> subst h <;> rfl

def C6 : Value → Bool
 | .agg _ | .tuple _ => false
 | _ => true
end

section rules
variable {P : Program} {f : FuncId} {n : Nat} {I₀ : Heap} {Q : Cv} {k : List Item} {E : Hg} {I : Heap} {L : Bj}
variable {ops : Array Oper} {d : Nat} {ty : TypeId} {pos : String} {af : Array Edge} {g : Option (Nat × Bool)} {l : List Oper}

theorem Ft {S : World → Prop} {c x y : Operand} {v : Value} (hc : Ch E c = some (.bool true)) (hx : Ch E x = some v) : Ia P E S ⟨some d, .pick c x y, ty, pos, af, g⟩ (v) := fun a w he _ => by simp [execOp, he.eval hc, he.eval hx, asBool]
theorem Em {c x y : Operand} {v : Value} (hc : Ch E c = some (.bool true)) (hx : Ch E x = some v) (hg : Wants ops E g) (hdn : Nat.blt d n = true)
  (h : A8 P f n I₀ Q ops l k ((d, v) :: E) I L) : A8 P f n I₀ Q ops (⟨some d, .pick c x y, ty, pos, af, g⟩ :: l) k E I L := Es (Ft hc hx) hg hdn h
theorem Fa {S : World → Prop} {c x y : Operand} {v : Value} (hc : Ch E c = some (.bool false)) (hy : Ch E y = some v) : Ia P E S ⟨some d, .pick c x y, ty, pos, af, g⟩ (v) := fun a w he _ => by simp [execOp, he.eval hc, he.eval hy, asBool]
theorem D5 {c x y : Operand} {v : Value} (hc : Ch E c = some (.bool false)) (hy : Ch E y = some v) (hg : Wants ops E g) (hdn : Nat.blt d n = true)
  (h : A8 P f n I₀ Q ops l k ((d, v) :: E) I L) : A8 P f n I₀ Q ops (⟨some d, .pick c x y, ty, pos, af, g⟩ :: l) k E I L := Es (Fa hc hy) hg hdn h

theorem Aaw {S : World → Prop} {x : Operand} {b : Bool} {T : TypeId} (hx : Ch E x = some (.bool b)) : Ia P E S ⟨some d, .unOp .not T x, ty, pos, af, g⟩ (.bool (!b)) := fun a w he _ => by simp [execOp, he.eval hx, Op.unary]
theorem Ei {x : Operand} {b : Bool} {T : TypeId} (hx : Ch E x = some (.bool b)) (hg : Wants ops E g) (hdn : Nat.blt d n = true)
  (h : A8 P f n I₀ Q ops l k ((d, .bool (!b)) :: E) I L) : A8 P f n I₀ Q ops (⟨some d, .unOp .not T x, ty, pos, af, g⟩ :: l) k E I L := Es (Aaw hx) hg hdn h
theorem Mb {S : World → Prop} {x : Operand} {vs : List Value} {i : Nat} {v : Value} (hx : Ch E x = some (.tuple vs.toArray)) (hi : vs[i]? = some v) : Ia P E S ⟨some d, .extract x i, ty, pos, af, g⟩ (v) := fun a w he _ => by simp [execOp, he.eval hx, Instr.extract, hi]
theorem Abx {x : Operand} {vs : List Value} {i : Nat} {v : Value} (hx : Ch E x = some (.tuple vs.toArray)) (hi : vs[i]? = some v) (hg : Wants ops E g) (hdn : Nat.blt d n = true)
  (h : A8 P f n I₀ Q ops l k ((d, v) :: E) I L) : A8 P f n I₀ Q ops (⟨some d, .extract x i, ty, pos, af, g⟩ :: l) k E I L := Es (Mb hx hi) hg hdn h

def Sj : BinOp → Int → Int → Option Bool
 | .eql, a, b => some (decide (a = b))
 | .neq, a, b => some (!decide (a = b))
 | .lss, a, b => some (decide (a < b))
 | .leq, a, b => some (decide (a ≤ b))
 | .gtr, a, b => some (decide (b < a))
 | .geq, a, b => some (decide (b ≤ a))
 | _, _, _ => none
theorem Z0 {op : BinOp} {T : TypeId} {kk : IntKind} {a b : Int} {r : Bool} (h : Sj op a b = some r) (w : World) : (binOp op T (.int kk a) (.int kk b)).run P w = .ok (.bool r) w := by
 cases op <;> simp only [Sj, Option.some.injEq, reduceCtorEq] at h <;> subst h <;> simp [binOp, Op.intCmp, bne, decide_not] <;> rfl
theorem F0 {op : BinOp} {T : TypeId} {x y : Operand} {kk kk' : IntKind} {a b : Int} (w : World) : (eqGuard op T x y (.int kk a) (.int kk' b)).run P w = .ok () w := by
 unfold eqGuard; split <;> rfl
theorem Kx {op : BinOp} {T : TypeId} {x y : Operand} {a b : ByteArray} (w : World) : (eqGuard op T x y (.string a) (.string b)).run P w = .ok () w := by
 unfold eqGuard; split <;> rfl

theorem Le {S : World → Prop} {op : BinOp} {T T' : TypeId} {x y : Operand} {kk : IntKind} {a b : Int} {r : Bool} (hx : Ch E x = some (.int kk a)) (hy : Ch E y = some (.int kk b)) (hr : Sj op a b = some r)
  : Ia P E S ⟨some d, .binOp op T x y T', ty, pos, af, g⟩ (.bool r) := fun a w he _ => by
  simp only [execOp, he.eval hx, he.eval hy]
  refine Ag (a := _) (w' := w) ?_ |>.trans rfl
  rw [Ag (F0 w)]
  exact Z0 hr w
theorem D8 {op : BinOp} {T T' : TypeId} {x y : Operand} {kk : IntKind} {a b : Int} {r : Bool} (hx : Ch E x = some (.int kk a)) (hy : Ch E y = some (.int kk b)) (hr : Sj op a b = some r)
  (hg : Wants ops E g) (hdn : Nat.blt d n = true)
  (h : A8 P f n I₀ Q ops l k ((d, .bool r) :: E) I L) : A8 P f n I₀ Q ops (⟨some d, .binOp op T x y T', ty, pos, af, g⟩ :: l) k E I L := Es (Le hx hy hr) hg hdn h

def Aac : BinOp → Int → Int → Option Int
 | .add, a, b => some (a + b)
 | .sub, a, b => some (a - b)
 | .mul, a, b => some (a * b)
 | _, _, _ => none
theorem P6 {m : Int} (h : -9223372036854775808 ≤ m ∧ m ≤ 9223372036854775807) : IntKind.i64.wrap m = m := by
 simp [IntKind.wrap, IntKind.bits, IntKind.signed]; omega
theorem H2 {S : World → Prop} {op : BinOp} {T T' : TypeId} {x y : Operand} {a b m : Int} (hx : Ch E x = some (.int .i64 a)) (hy : Ch E y = some (.int .i64 b)) (hr : Aac op a b = some m)
  (hb : -9223372036854775808 ≤ m ∧ m ≤ 9223372036854775807) : Ia P E S ⟨some d, .binOp op T x y T', ty, pos, af, g⟩ (.int .i64 m) := fun a' w he _ => by
  simp only [execOp, he.eval hx, he.eval hy]
  refine Ag (a := _) (w' := w) ?_ |>.trans rfl
  rw [Ag (F0 w)]
  have := P6 hb
  cases op <;> simp [Aac] at hr <;> subst hr <;> simp [binOp, Op.intArith] <;> (simp only [this])
theorem N2 {op : BinOp} {T T' : TypeId} {x y : Operand} {a b m : Int} (hx : Ch E x = some (.int .i64 a)) (hy : Ch E y = some (.int .i64 b)) (hr : Aac op a b = some m)
  (hb : -9223372036854775808 ≤ m ∧ m ≤ 9223372036854775807) (hg : Wants ops E g) (hdn : Nat.blt d n = true)
  (h : A8 P f n I₀ Q ops l k ((d, .int .i64 m) :: E) I L) : A8 P f n I₀ Q ops (⟨some d, .binOp op T x y T', ty, pos, af, g⟩ :: l) k E I L := Es (H2 hx hy hr hb) hg hdn h

theorem Z2 (l : List UInt8) : (str l).toList = l := ByteArray.toList_mk l
def Vv : BinOp → List UInt8 → List UInt8 → Option Bool
 | .eql, a, b => some (decide (a = b))
 | .neq, a, b => some (!decide (a = b))
 | _, _, _ => none
theorem Z8 {S : World → Prop} {op : BinOp} {T T' : TypeId} {x y : Operand} {a b : List UInt8} {r : Bool} (hx : Ch E x = some (.string (str a))) (hy : Ch E y = some (.string (str b))) (hr : Vv op a b = some r)
  : Ia P E S ⟨some d, .binOp op T x y T', ty, pos, af, g⟩ (.bool r) := fun a' w he _ => by
  simp only [execOp, he.eval hx, he.eval hy]
  refine Ag (a := _) (w' := w) ?_ |>.trans rfl
  rw [Ag (Kx w)]
  cases op <;> simp only [Vv, Option.some.injEq, reduceCtorEq] at hr <;> subst hr <;> simp [binOp, Op.stringOp, Z2, Bool.beq_eq_decide_eq] <;> rfl
theorem F9 {op : BinOp} {T T' : TypeId} {x y : Operand} {a b : List UInt8} {r : Bool} (hx : Ch E x = some (.string (str a))) (hy : Ch E y = some (.string (str b))) (hr : Vv op a b = some r)
  (hg : Wants ops E g) (hdn : Nat.blt d n = true)
  (h : A8 P f n I₀ Q ops l k ((d, .bool r) :: E) I L) : A8 P f n I₀ Q ops (⟨some d, .binOp op T x y T', ty, pos, af, g⟩ :: l) k E I L := Es (Z8 hx hy hr) hg hdn h
theorem Y7 {S : World → Prop} {T T' : TypeId} {x y : Operand} {a b : List UInt8} (hx : Ch E x = some (.string (str a))) (hy : Ch E y = some (.string (str b)))
  (hb : a.length + b.length ≤ 9223372036854775807)
  : Ia P E S ⟨some d, .binOp .add T x y T', ty, pos, af, g⟩ (.string (str (a ++ b))) := fun a' w he _ => by
  simp only [execOp, he.eval hx, he.eval hy]
  refine Ag (a := _) (w' := w) ?_ |>.trans rfl
  rw [Ag (Kx w)]
  have h1 : (str a).size = a.length := by simp [str, ByteArray.size]
  have h2 : (str b).size = b.length := by simp [str, ByteArray.size]
  have h3 : str a ++ str b = str (a ++ b) := by
   apply ByteArray.ext; simp [str]
  have h4 : ¬ ((((str a).size + (str b).size : Nat) : Int) > IntKind.i64.max) := by rw [h1, h2]; simp [IntKind.max, IntKind.bits, IntKind.signed]; omega
  simp only [binOp, Op.stringOp, if_neg h4, h3]; rfl
theorem Ad5 {T T' : TypeId} {x y : Operand} {a b : List UInt8} (hx : Ch E x = some (.string (str a))) (hy : Ch E y = some (.string (str b)))
  (hb : a.length + b.length ≤ 9223372036854775807)
  (hg : Wants ops E g) (hdn : Nat.blt d n = true)
  (h : A8 P f n I₀ Q ops l k ((d, .string (str (a ++ b))) :: E) I L) : A8 P f n I₀ Q ops (⟨some d, .binOp .add T x y T', ty, pos, af, g⟩ :: l) k E I L := Es (Y7 hx hy hb) hg hdn h

theorem Acd {S : World → Prop} {x : Operand} {s : List UInt8} {T : TypeId} {sz bb : Nat} {z : List Value} [ht : At P T .string sz bb z] (hx : Ch E x = some (.string (str s))) :
  Ia P E S ⟨some d, .call ⟨.builtin .len, #[x], #[T]⟩, ty, pos, af, g⟩ (.int .i64 (s.length : Nat)) := fun a w he _ => by
  simp only [execOp, resolve, List.map_toArray, List.map, he.eval hx]
  simp only [pure_bind, invoke, builtin, Builtin.len_]
  refine Ag (a := _) (w' := w) ?_ |>.trans rfl
  simp only [List.getElem?_toArray, List.getElem?_cons_zero]
  rw [Ag (A3 ht.und w)]
  simp [goInt, Ha, str, ByteArray.size]
theorem Dh {x : Operand} {s : List UInt8} {T : TypeId} {sz bb : Nat} {z : List Value} [ht : At P T .string sz bb z] (hx : Ch E x = some (.string (str s))) (hg : Wants ops E g) (hdn : Nat.blt d n = true)
  (h : A8 P f n I₀ Q ops l k ((d, .int .i64 (s.length : Nat)) :: E) I L) : A8 P f n I₀ Q ops (⟨some d, .call ⟨.builtin .len, #[x], #[T]⟩, ty, pos, af, g⟩ :: l) k E I L := Es (Acd hx) hg hdn h

theorem Fd {S : World → Prop} {x : Operand} {ad : Option Addr} {m c : Nat} {e T : TypeId} {sz bb : Nat} {z : List Value} [ht : At P T (.slice e) sz bb z] (hx : Ch E x = some (.slice ad m c)) : Ia P E S ⟨some d, .call ⟨.builtin .len, #[x], #[T]⟩, ty, pos, af, g⟩ (.int .i64 (m : Nat)) := fun a w he _ => by
  simp only [execOp, resolve, List.map_toArray, List.map, he.eval hx]
  simp only [pure_bind, invoke, builtin, Builtin.len_]
  refine Ag (a := _) (w' := w) ?_ |>.trans rfl
  simp only [List.getElem?_toArray, List.getElem?_cons_zero]
  rw [Ag (A3 ht.und w)]
  rfl
theorem Nj {x : Operand} {ad : Option Addr} {m c : Nat} {e T : TypeId} {sz bb : Nat} {z : List Value} [ht : At P T (.slice e) sz bb z] (hx : Ch E x = some (.slice ad m c)) (hg : Wants ops E g) (hdn : Nat.blt d n = true)
  (h : A8 P f n I₀ Q ops l k ((d, .int .i64 (m : Nat)) :: E) I L) : A8 P f n I₀ Q ops (⟨some d, .call ⟨.builtin .len, #[x], #[T]⟩, ty, pos, af, g⟩ :: l) k E I L := Es (Fd hx) hg hdn h

theorem Y8 {S : World → Prop} {x y : Operand} {s : List UInt8} {i : Nat} {b : UInt8} {T : TypeId} {sz bb : Nat} {z : List Value} [ht : At P T .string sz bb z] (hx : Ch E x = some (.string (str s)))
  (hy : Ch E y = some (.int .i64 ((i : Nat) : Int))) (hi : s[i]? = some b) : Ia P E S ⟨some d, .index T x y, ty, pos, af, g⟩ (.int .u8 (b.toNat : Nat)) := fun a w he _ => by
  simp only [execOp, he.eval hx, he.eval hy, Instr.index, asIntOf, pure_bind]
  refine Ag (a := _) (w' := w) ?_ |>.trans rfl
  rw [Ag (A3 ht.und w)]
  have hlt : i < s.length := by
   rcases Nat.lt_or_ge i s.length with gg | gg
   ·exact gg
   ·simp [List.getElem?_eq_none gg] at hi
  have : (str s)[i]? = some b := by
   have h1 : i < (str s).size := by simpa [str, ByteArray.size] using hlt
   rw [getElem?_pos (str s) i h1]
   simp [hlt] at hi
   rw [← hi]; rfl
  simp [this, Ha]
theorem Yl {x y : Operand} {s : List UInt8} {i : Nat} {b : UInt8} {T : TypeId} {sz bb : Nat} {z : List Value} [ht : At P T .string sz bb z] (hx : Ch E x = some (.string (str s)))
  (hy : Ch E y = some (.int .i64 ((i : Nat) : Int))) (hi : s[i]? = some b) (hg : Wants ops E g) (hdn : Nat.blt d n = true)
  (h : A8 P f n I₀ Q ops l k ((d, .int .u8 (b.toNat : Nat)) :: E) I L) : A8 P f n I₀ Q ops (⟨some d, .index T x y, ty, pos, af, g⟩ :: l) k E I L := Es (Y8 hx hy hi) hg hdn h


/- Parts of strings. -/
theorem N6 {v : Int} {kk : IntKind} {y : Nat} {c : BoundsCode} {r : Nat} (hr : v = (r : Int)) (hb : r ≤ y) (w : World) : (Instr.sliceBound (.int kk v) y c).run P w = .ok r w := by
 simp only [Instr.sliceBound, asIntOf, pure_bind]
 subst hr; rw [if_pos Aa]; rfl
theorem Xn {s : List UInt8} {a b : Nat} (hb : b ≤ s.length) : (str s).extract a b = str ((s.take b).drop a) := by
 apply ByteArray.ext
 simp [str, ByteArray.data_extract]
 rw [List.drop_take]

def Ob (E : Hg) : Option Operand → Option Int
 | none => some 0
 | some x => match Ch E x with | some (.int .i64 m) => some m | _ => none
def N9 (E : Hg) (top : Int) : Option Operand → Option Int
 | none => some top
 | some x => match Ch E x with | some (.int .i64 m) => some m | _ => none
theorem Np {S : World → Prop} {x : Operand} {s : List UInt8} {lo hi : Option Operand} {a b : Int} {T : TypeId} {sz bb : Nat} {z : List Value} [ht : At P T .string sz bb z] (hx : Ch E x = some (.string (str s)))
  (hlo : Ob E lo = some a) (hhi : N9 E s.length hi = some b) (a' b' : Nat) (ha : a = a') (hb : b = b') (hab : a' ≤ b' ∧ b' ≤ s.length) : Ia P E S ⟨some d, .slice T x lo hi none, ty, pos, af, g⟩ (.string (str ((s.take b').drop a'))) := fun ac w he _ => by
  simp only [execOp, he.eval hx, Instr.sliceAt]
  refine Ag (a := _) (w' := w) ?_ |>.trans rfl
  rw [Ag (A3 ht.und w)]
  simp only [Instr.slice]
  rw [Ag (A3 ht.und w)]
  have hsz : (str s).size = s.length := by simp [str, ByteArray.size]
  have key : (Instr.sliceBounds false (str s).size (str s).size (lo.map ac.eval) (hi.map ac.eval) none).run P w = .ok (a', b', s.length) w := by
   rw [hsz]
   unfold Instr.sliceBounds
   simp only [pure_bind]
   have hlo' : lo = none ∧ a' = 0 ∨ ∃ y, lo = some y ∧ ac.eval y = .int .i64 a := by
    cases lo with
    | none => simp [Ob] at hlo; exact .inl ⟨rfl, by omega⟩
    | some y =>
     simp only [Ob] at hlo
     split at hlo
     ·rename_i m hm
      simp at hlo; subst hlo
      exact .inr ⟨y, rfl, he.eval hm⟩
     ·simp at hlo
   have tail : ∀ h' : Nat, h' = b' → (match lo.map ac.eval with
     | some v => do
      let l ← Instr.sliceBound v h' (if (none : Option Value).isSome = true then .slice3C else .sliceB)
      pure (l, h', s.length)
     | none => pure (0, h', s.length) : Sem (Nat × Nat × Nat)).run P w = .ok (a', b', s.length) w := by
    intro h' e; subst e
    rcases hlo' with ⟨e, e'⟩ | ⟨y, e, hy⟩
    ·subst e e'; rfl
    ·subst e
     simp only [Option.map_some, hy]
     rw [Ag (N6 ha hab.1 w)]; rfl
   cases hi with
   | none =>
    simp [N9] at hhi
    simp only [Option.map_none]
    exact tail s.length Aa
   | some y =>
    simp only [N9] at hhi
    split at hhi
    ·rename_i m hm
     simp at hhi; subst hhi
     simp only [Option.map_some, he.eval hm]
     rw [Ag (N6 hb hab.2 w)]
     exact tail b' rfl
    ·simp at hhi
  show (do let x ← Instr.sliceBounds false (str s).size (str s).size (lo.map ac.eval) (hi.map ac.eval) none; pure (.string ((str s).extract x.1 x.2.1)) : Sem Value).run P w = _
  rw [Ag key, Xn hab.2]; rfl
theorem Rn {x : Operand} {s : List UInt8} {lo hi : Option Operand} {a b : Int} {T : TypeId} {sz bb : Nat} {z : List Value} [ht : At P T .string sz bb z] (hx : Ch E x = some (.string (str s)))
  (hlo : Ob E lo = some a) (hhi : N9 E s.length hi = some b) (a' b' : Nat) (ha : a = a') (hb : b = b') (hab : a' ≤ b' ∧ b' ≤ s.length) (hg : Wants ops E g) (hdn : Nat.blt d n = true)
  (h : A8 P f n I₀ Q ops l k ((d, .string (str ((s.take b').drop a'))) :: E) I L) : A8 P f n I₀ Q ops (⟨some d, .slice T x lo hi none, ty, pos, af, g⟩ :: l) k E I L := Es (Np hx hlo hhi a' b' ha hb hab) hg hdn h

/- Variables in memory. -/
theorem G6 {S : World → Prop} {x : Operand} {s : List UInt8} {lo : Option Operand} {a : Int} {T : TypeId} {sz bb : Nat} {z : List Value} [ht : At P T .string sz bb z] (hx : Ch E x = some (.string (str s)))
  (hlo : Ob E lo = some a) (a' : Nat) (ha : a = a') (hab : a' ≤ s.length) : Ia P E S ⟨some d, .slice T x lo none none, ty, pos, af, g⟩ (.string (str (s.drop a'))) := by
 have := Np (P := P) (S := S) (d := d) (ty := ty) (pos := pos) (af := af) (g := g) (T := T) (hi := none) hx hlo (b := s.length) rfl a' s.length ha rfl ⟨hab, Nat.le_refl _⟩
 rwa [List.take_length] at this
theorem K1 {S : World → Prop} {x : Operand} {s : List UInt8} {hi : Option Operand} {b : Int} {T : TypeId} {sz bb : Nat} {z : List Value} [ht : At P T .string sz bb z] (hx : Ch E x = some (.string (str s)))
  (hhi : N9 E s.length hi = some b) (b' : Nat) (hb : b = b') (hab : b' ≤ s.length) : Ia P E S ⟨some d, .slice T x none hi none, ty, pos, af, g⟩ (.string (str (s.take b'))) :=
 Np (P := P) (S := S) (d := d) (ty := ty) (pos := pos) (af := af) (g := g) (T := T) (lo := none) hx (a := 0) rfl hhi 0 b' rfl hb ⟨Nat.zero_le _, hab⟩
theorem Kf {x : Operand} {s : List UInt8} {lo : Option Operand} {a : Int} {T : TypeId} {sz bb : Nat} {z : List Value} [ht : At P T .string sz bb z] (hx : Ch E x = some (.string (str s)))
  (hlo : Ob E lo = some a) (a' : Nat) (ha : a = a') (hab : a' ≤ s.length) (hg : Wants ops E g) (hdn : Nat.blt d n = true)
  (h : A8 P f n I₀ Q ops l k ((d, .string (str (s.drop a'))) :: E) I L) : A8 P f n I₀ Q ops (⟨some d, .slice T x lo none none, ty, pos, af, g⟩ :: l) k E I L := Es (G6 hx hlo a' ha hab) hg hdn h
theorem Zt {x : Operand} {s : List UInt8} {hi : Option Operand} {b : Int} {T : TypeId} {sz bb : Nat} {z : List Value} [ht : At P T .string sz bb z] (hx : Ch E x = some (.string (str s)))
  (hhi : N9 E s.length hi = some b) (b' : Nat) (hb : b = b') (hab : b' ≤ s.length) (hg : Wants ops E g) (hdn : Nat.blt d n = true)
  (h : A8 P f n I₀ Q ops l k ((d, .string (str (s.take b'))) :: E) I L) : A8 P f n I₀ Q ops (⟨some d, .slice T x none hi none, ty, pos, af, g⟩ :: l) k E I L := Es (K1 hx hhi b' hb hab) hg hdn h

theorem A1 {T : TypeId} {dd : TypeDesc} {sz bb : Nat} {z : List Value} [ht : At P T dd sz bb z] (hg : Wants ops E g) (hdn : Nat.blt d n = true)
  (h : ∀ b, A8 P f n I₀ Q ops l k ((d, .pointer (some ⟨b, 0, none⟩)) :: E) I ((b, .cells z.toArray T (0, 0)) :: L)) : A8 P f n I₀ Q ops (⟨some d, .alloc T, ty, pos, af, g⟩ :: l) k E I L := by
 refine Jo rfl hdn (fun a he => hg.wanted a he) fun a w he hm => ?_
 obtain ⟨v, hv, hz⟩ := Ky ht w; refine ⟨_, _, I, (w.heap.size, .cells z.toArray T (0, 0)) :: L, ?_, hm.alloc _, h _⟩
 simp only [execOp, Instr.alloc]
 refine Ag (a := .pointer (some ⟨w.heap.size, 0, none⟩)) (w' := { w with heap := w.heap.push (.cells z.toArray T (0, 0)) }) ?_ |>.trans rfl
 rw [Ag hv]
 have : v.cells = z.toArray := by rw [← hz]
 simp only [newVar, newRow, newObj, this]
 rfl
theorem Cm {T : TypeId} {x : Operand} {v : Value} {vs : List Value} (hx : Ch E x = some v) (hv : Gc v = some vs) (hg : Wants ops E g) (hdn : Nat.blt d n = true)
  (h : ∀ b, A8 P f n I₀ Q ops l k ((d, .pointer (some ⟨b, 0, none⟩)) :: E) I ((b, .cells vs.toArray T (0, 0)) :: L)) : A8 P f n I₀ Q ops (⟨some d, .box T x, ty, pos, af, g⟩ :: l) k E I L := by
 refine Jo rfl hdn (fun a he => hg.wanted a he) fun a w he hm => ?_
 refine ⟨_, _, I, (w.heap.size, .cells vs.toArray T (0, 0)) :: L, ?_, hm.alloc _, h _⟩
 simp only [execOp, Instr.box, he.eval hx, newVar, newRow, newObj, Jx hv]
 rfl

theorem Fs {I' : Heap} {L' : Bj} {T : TypeId} {x : Operand} {ad : Addr} {v : Value} (hx : Ch E x = some (.pointer (some ad))) (hl : Gh P I' L' T ad v) : Ia P E (Mem I' L') ⟨some d, .load T x, ty, pos, af, g⟩ v := by
 intro a w he hm
 simp only [execOp, Instr.loadAt, he.eval hx, Instr.sureAddr, pure_bind]
 exact Ag (hl w hm) |>.trans rfl
theorem Cp {T : TypeId} {x : Operand} {ad : Addr} {v : Value} (hx : Ch E x = some (.pointer (some ad))) (hl : Gh P I L T ad v) (hg : Wants ops E g) (hdn : Nat.blt d n = true)
  (h : A8 P f n I₀ Q ops l k ((d, v) :: E) I L) : A8 P f n I₀ Q ops (⟨some d, .load T x, ty, pos, af, g⟩ :: l) k E I L := Es (Fs hx hl) hg hdn h

def Pv : List Value → List Value → Option (List Value)
 | [], cs => some cs
 | v :: vs, _ :: cs => match Pv vs cs with
  | some us => some (v :: us)
  | none => none
 | _ :: _, [] => none
def M1 : Nat → List Value → List Value → Option (List Value)
 | 0, vs, cs => Pv vs cs
 | o + 1, vs, c :: cs => match M1 o vs cs with
  | some us => some (c :: us)
  | none => none
 | _ + 1, _, [] => none
theorem Aeh : ∀ {vs cs us : List Value}, Pv vs cs = some us → vs.length ≤ cs.length ∧ us = vs ++ cs.drop vs.length := by
 intro vs
 induction vs with
 | nil => intro cs us h; simp [Pv] at h; simp [h]
 | cons v vs ih =>
  intro cs us h
  cases cs with
  | nil => simp [Pv] at h
  | cons c cs =>
   simp only [Pv] at h
   cases hu : Pv vs cs with
   | none => simp [hu] at h
   | some xs =>
    simp [hu] at h
    obtain ⟨h1, h2⟩ := ih hu; subst h
    exact ⟨by simpa using h1, by simp [h2]⟩
theorem Aas : ∀ {o : Nat} {vs cs us : List Value}, M1 o vs cs = some us → o + vs.length ≤ cs.length ∧ us = cs.take o ++ vs ++ cs.drop (o + vs.length) := by
 intro o
 induction o with
 | zero => intro vs cs us h; obtain ⟨h1, h2⟩ := Aeh (by simpa [M1] using h); exact ⟨by omega, by simp [h2]⟩
 | succ o ih =>
  intro vs cs us h
  cases cs with
  | nil => simp [M1] at h
  | cons c cs =>
   simp only [M1] at h
   cases hu : M1 o vs cs with
   | none => simp [hu] at h
   | some xs =>
    simp [hu] at h
    obtain ⟨h1, h2⟩ := ih hu; subst h; refine ⟨by simp; omega, ?_⟩; rw [h2, show o + 1 + vs.length = o + vs.length + 1 by omega]; simp

theorem Z1 {w : World} {b off : Nat} {c : Array Value} {T : TypeId} {v : Value} (hb : w.heap[b]? = some (.cells c T (0, 0))) (ho : off < c.size) (hv : C6 v = true) :
  (store ⟨b, off, none⟩ v).run P w = .ok () { w with heap := w.heap.setIfInBounds b (.cells (c.setIfInBounds off v) T (0, 0)) } := by
 have hc : w.cell? ⟨b, off, none⟩ = some c[off] := by simp [World.cell?, hb, ho]
 have hf : w.frozen? ⟨b, off, none⟩ = false := by simp [World.frozen?, hb]
 have hs : w.setCell ⟨b, off, none⟩ v = { w with heap := w.heap.setIfInBounds b (.cells (c.setIfInBounds off v) T (0, 0)) } := by
  unfold World.setCell
  congr 1
  apply Array.ext_getElem?
  intro i
  have lt : b < w.heap.size := by
   rcases Nat.lt_or_ge b w.heap.size with gg | gg
   ·exact gg
   ·simp [Array.getElem?_eq_none gg] at hb
  by_cases e : b = i
  ·subst e; rw [Array.getElem?_setIfInBounds_self, if_pos lt, Array.getElem?_modify, if_pos rfl, hb]; rfl
  ·simp [Array.getElem?_modify, e, Array.getElem?_setIfInBounds_ne e]
 cases v <;> simp [C6] at hv <;> simp [store, Sem.run, hc, hf, hs]

theorem Yx {l : List Value} {p : Nat} {v : Value} (h : p < l.length) : (l.set p v).take (p + 1) = l.take p ++ [v] := by
 rw [List.set_eq_take_append_cons_drop, if_pos h, List.take_append]
 simp [Nat.min_eq_left (Nat.le_of_lt h), List.take_take]
theorem Abn {w : World} {b : Nat} {o : Obj} (hb : w.heap[b]? = some o) : w.heap.setIfInBounds b o = w.heap := by
 apply Array.ext_getElem?
 intro j
 by_cases e : b = j
 ·subst e
  rcases Nat.lt_or_ge b w.heap.size with lt | gg
  ·rw [Array.getElem?_setIfInBounds_self, if_pos lt, hb]
  ·simp [Array.getElem?_eq_none gg] at hb
 ·rw [Array.getElem?_setIfInBounds_ne e]

theorem Nn {b : Nat} {T : TypeId} {off : Nat} : ∀ (vs : List Value) (i : Nat) (w : World) (c : Array Value), w.heap[b]? = some (.cells c T (0, 0)) → off + i + vs.length ≤ c.size → (vs.all C6 = true) →
  ∃ c' : Array Value, (storeCells ⟨b, off, none⟩ vs i).run P w = .ok () { w with heap := w.heap.setIfInBounds b (.cells c' T (0, 0)) } ∧
   c'.toList = c.toList.take (off + i) ++ vs ++ c.toList.drop (off + i + vs.length) := by
 intro vs
 induction vs with
 | nil =>
  intro i w c hb hn _
  exact ⟨c, by simp only [storeCells, Ha, Abn hb], by simp⟩
 | cons v vs ih =>
  intro i w c hb hn hp
  simp only [List.all_cons, Bool.and_eq_true] at hp
  simp only [List.length_cons] at hn
  have lt : b < w.heap.size := by
   rcases Nat.lt_or_ge b w.heap.size with gg | gg
   ·exact gg
   ·simp [Array.getElem?_eq_none gg] at hb
  have ha : (Addr.add ⟨b, off, none⟩ i) = ⟨b, off + i, none⟩ := by unfold Addr.add; split <;> simp_all
  simp only [storeCells, ha]
  rw [Ag (Z1 hb Aa hp.1)]; obtain ⟨c', h1, h2⟩ := ih (i + 1) { w with heap := w.heap.setIfInBounds b (.cells (c.setIfInBounds (off + i) v) T (0, 0)) } (c.setIfInBounds (off + i) v)
   (by simp [Array.getElem?_setIfInBounds_self, lt]) Dr hp.2
  refine ⟨c', ?_, ?_⟩
  ·rw [h1]; simp
  ·rw [h2]
   simp only [Array.toList_setIfInBounds]
   rw [show off + (i + 1) = off + i + 1 by omega, Yx (by simpa using (by omega : off + i < c.size)), List.drop_set_of_lt Aa]; rw [show off + i + 1 + vs.length = off + i + (v :: vs).length by simp; omega]
   simp

theorem Wt {b off : Nat} {T U : TypeId} {dd : TypeDesc} {sz bb : Nat} {z : List Value} (ht : At P T dd sz bb z) {v : Value} {vs cs us : List Value} {w : World}
  (hb : w.heap[b]? = some (.cells cs.toArray U (0, 0))) (hv : v.cells = vs.toArray) (hl : vs.length = sz) (hp : vs.all C6 = true) (hu : off + vs.length ≤ cs.length)
  (hus : us = cs.take off ++ vs ++ cs.drop (off + vs.length)) :
  (storeVar T ⟨b, off, none⟩ v).run P w = .ok () { w with heap := w.heap.setIfInBounds b (.cells us.toArray U (0, 0)) } := by
 unfold storeVar
 rw [Ag (F1 ht w)]; rw [if_neg (by rw [hv]; simp [hl])]
 have := Nn (P := P) (off := off) vs 0 w cs.toArray hb (by simpa using hu) hp
 obtain ⟨c', h1, h2⟩ := this; rw [hv]; rw [show (List.toArray vs).toList = vs from rfl]
 have h3 : c' = us.toArray := by
  apply Array.ext'
  rw [h2, hus]; simp
 rw [← h3]
 exact h1

theorem W2 {T U : TypeId} {x y : Operand} {b off : Nat} {v : Value} {vs cs us : List Value} {L' : Bj} {dd : TypeDesc} {sz bb : Nat} {z : List Value} [ht : At P T dd sz bb z]
  (hx : Ch E x = some (.pointer (some ⟨b, off, none⟩))) (hy : Ch E y = some v) (hv : Gc v = some vs) (hl : vs.length = sz) (hp : vs.all C6 = true)
  (hu : Upd b (.cells us.toArray U (0, 0)) (.cells cs.toArray U (0, 0)) L L') (hus : M1 off vs cs = some us) (a : Act) (w : World) (he : EnvOk E a) (hm : Mem I L w) :
  ∃ w', ((execOp a.eval ⟨none, .store T x y, ty, pos, af, g⟩).run P w = .ok .skip w' ∨ ∃ v, (execOp a.eval ⟨none, .store T x y, ty, pos, af, g⟩).run P w = .ok (.value v) w') ∧ Mem I L' w' := by
 refine ⟨{ w with heap := w.heap.setIfInBounds b (.cells us.toArray U (0, 0)) }, .inl ?_, hm.upd hu⟩
 simp only [execOp, Instr.storeAt, he.eval hx, he.eval hy, Instr.sureAddr, pure_bind]
 obtain ⟨h1, h2⟩ := Aas hus
 exact Ag (Wt ht (hm.2.1 _ hu.mem.1).1 (Jx hv) hl hp h1 h2) |>.trans rfl
theorem Wn {T U : TypeId} {x y : Operand} {b off : Nat} {v : Value} {vs cs us : List Value} {L' : Bj} {dd : TypeDesc} {sz bb : Nat} {z : List Value} [ht : At P T dd sz bb z]
  (hx : Ch E x = some (.pointer (some ⟨b, off, none⟩))) (hy : Ch E y = some v) (hv : Gc v = some vs) (hl : vs.length = sz) (hp : vs.all C6 = true)
  (hu : Upd b (.cells us.toArray U (0, 0)) (.cells cs.toArray U (0, 0)) L L') (hus : M1 off vs cs = some us) (hg : Wants ops E g)
  (h : A8 P f n I₀ Q ops l k E I L') : A8 P f n I₀ Q ops (⟨none, .store T x y, ty, pos, af, g⟩ :: l) k E I L :=
 Nk rfl (fun a he => hg.wanted a he) (W2 hx hy hv hl hp hu hus) h
theorem Aaf {S : World → Prop} {fuel : Nat} {listed listed' : Array Bool} (i : Nat) {T U : TypeId} {x y : Operand} {b off : Nat} {v : Value} {vs cs us : List Value} {L' : Bj} {dd : TypeDesc} {sz bb : Nat} {z : List Value} [ht : At P T dd sz bb z]
  (hi : ops[i]? = some ⟨none, .store T x y, ty, pos, af, g⟩) (hc : decide (Region.ready .any ops listed = [i]) = true) (hl' : listed' = listed.setIfInBounds i true)
  (hx : Ch E x = some (.pointer (some ⟨b, off, none⟩))) (hy : Ch E y = some v) (hv : Gc v = some vs) (hl : vs.length = sz) (hp : vs.all C6 = true)
  (hu : Upd b (.cells us.toArray U (0, 0)) (.cells cs.toArray U (0, 0)) L L') (hus : M1 off vs cs = some us) (hg : Wants ops E g) (hS : F6 ops listed' = true ∨ ∀ w, Mem I L' w → S w)
  (h : C0 P f n I₀ Q ops S fuel listed' k E I L') : C0 P f n I₀ Q ops S (fuel + 1) listed k E I L :=
 Xe i hi hc hl' rfl (fun a he => hg.wanted a he) (W2 hx hy hv hl hp hu hus) hS h

end rules
section rules
variable {P : Program} {f : FuncId} {n : Nat} {I₀ : Heap} {Q : Cv} {k : List Item} {E : Hg} {I : Heap} {L : Bj}
variable {ops : Array Oper} {d : Nat} {ty : TypeId} {pos : String} {af : Array Edge} {g : Option (Nat × Bool)} {l : List Oper}

theorem Aj {S : World → Prop} {T : TypeId} {i off : Nat} [hf : Cz P T i off] {x : Operand} {b o : Nat} (hx : Ch E x = some (.pointer (some ⟨b, o, none⟩))) :
  Ia P E S ⟨some d, .fieldAddr T x i, ty, pos, af, g⟩ (.pointer (some ⟨b, o + off, none⟩)) := by
 obtain ⟨fs, fld, inf, hu, hi, hin, hsz, ho⟩ := hf.get; intro a w he _
 simp only [execOp, Instr.fieldAt, he.eval hx]
 refine Ag (a := _) (w' := w) ?_ |>.trans rfl
 rw [Ag (A3 hu w)]
 simp only [hi, Instr.sureAddr, pure_bind, fieldPlace]
 have h1 : (sizeOf fld.type).run P w = .ok inf.size w := by unfold sizeOf; rw [Ag (H0 hin w)]; rfl
 refine Ag (a := (⟨b, o + off, none⟩ : Addr)) (w' := w) ?_ |>.trans rfl
 rw [Ag h1, if_neg (by simpa using hsz), ho]
 have : Addr.add ⟨b, o, none⟩ off = ⟨b, o + off, none⟩ := by unfold Addr.add; split <;> simp_all
 rw [this]; rfl
theorem A4 {S : World → Prop} {T : TypeId} {i off : Nat} [hf : Cz P T i off] {x : Operand} {ad : Addr} (hx : Ch E x = some (.pointer (some ad))) :
  Ia P E S ⟨some d, .fieldAddr T x i, ty, pos, af, g⟩ (.pointer (some (ad.add off))) := by
 obtain ⟨fs, fld, inf, hu, hi, hin, hsz, ho⟩ := hf.get; intro a w he _
 simp only [execOp, Instr.fieldAt, he.eval hx]
 refine Ag (a := _) (w' := w) ?_ |>.trans rfl
 rw [Ag (A3 hu w)]
 simp only [hi, Instr.sureAddr, pure_bind, fieldPlace]
 have h1 : (sizeOf fld.type).run P w = .ok inf.size w := by unfold sizeOf; rw [Ag (H0 hin w)]; rfl
 refine Ag (a := ad.add off) (w' := w) ?_ |>.trans rfl
 rw [Ag h1, if_neg (by simpa using hsz), ho]
 rfl
theorem Bh {T : TypeId} {i off : Nat} [hf : Cz P T i off] {x : Operand} {ad : Addr} (hx : Ch E x = some (.pointer (some ad))) (hg : Wants ops E g) (hdn : Nat.blt d n = true)
  (h : A8 P f n I₀ Q ops l k ((d, .pointer (some (ad.add off))) :: E) I L) : A8 P f n I₀ Q ops (⟨some d, .fieldAddr T x i, ty, pos, af, g⟩ :: l) k E I L := Es (A4 hx) hg hdn h
theorem Cj {T : TypeId} {i off : Nat} [hf : Cz P T i off] {x : Operand} {b o : Nat} (hx : Ch E x = some (.pointer (some ⟨b, o, none⟩))) (hg : Wants ops E g) (hdn : Nat.blt d n = true)
  (h : A8 P f n I₀ Q ops l k ((d, .pointer (some ⟨b, o + off, none⟩)) :: E) I L) : A8 P f n I₀ Q ops (⟨some d, .fieldAddr T x i, ty, pos, af, g⟩ :: l) k E I L := Es (Aj hx) hg hdn h

theorem Rs {S : World → Prop} {T e : TypeId} {sz bb esz ebb : Nat} {z ez : List Value} {dd : TypeDesc} [ht : At P T (.slice e) sz bb z] [hte : At P e dd esz ebb ez] {x y : Operand} {ad : Addr} {m c : Nat} {i : Int}
  (hx : Ch E x = some (.slice (some ad) m c)) (hy : Ch E y = some (.int .i64 i)) (i' : Nat) (hi : i = i') (him : i' < m) : Ia P E S ⟨some d, .indexAddr T x y, ty, pos, af, g⟩ (.pointer (some (ad.add (i' * esz)))) := fun a w he _ => by
  subst hi
  simp only [execOp, he.eval hx, he.eval hy, Instr.indexAt, asIntOf, pure_bind]
  refine Ag (a := _) (w' := w) ?_ |>.trans rfl
  rw [Ag (A3 ht.und w)]
  simp only [pure_bind]
  rw [Ag (A3 ht.und w)]; rw [if_pos ⟨by omega, by omega⟩]; rw [Ag (F1 hte w)]
  simp [Ha]
theorem Yj {T e : TypeId} {sz bb esz ebb : Nat} {z ez : List Value} {dd : TypeDesc} [ht : At P T (.slice e) sz bb z] [hte : At P e dd esz ebb ez] {x y : Operand} {ad : Addr} {m c : Nat} {i : Int}
  (hx : Ch E x = some (.slice (some ad) m c)) (hy : Ch E y = some (.int .i64 i)) (i' : Nat) (hi : i = i') (him : i' < m) (hg : Wants ops E g) (hdn : Nat.blt d n = true)
  (h : A8 P f n I₀ Q ops l k ((d, .pointer (some (ad.add (i' * esz)))) :: E) I L) : A8 P f n I₀ Q ops (⟨some d, .indexAddr T x y, ty, pos, af, g⟩ :: l) k E I L := Es (Rs hx hy i' hi him) hg hdn h

theorem Uk {S : World → Prop} {T e : TypeId} {sz bb esz ebb : Nat} {z ez : List Value} {dd : TypeDesc} [ht : At P T (.slice e) sz bb z] [hte : At P e dd esz ebb ez] {x : Operand} {ad : Option Addr} {m c : Nat}
  {lo hi : Option Operand} {a b : Int} (hx : Ch E x = some (.slice ad m c))
  (hlo : Ob E lo = some a) (hhi : N9 E m hi = some b) (a' b' : Nat) (ha : a = a') (hb : b = b') (hab : a' ≤ b' ∧ b' ≤ c) : Ia P E S ⟨some d, .slice T x lo hi none, ty, pos, af, g⟩ (.slice (if c = a' then ad else ad.map (·.add (a' * esz))) (b' - a') (c - a')) := fun ac w he _ => by
  simp only [execOp, he.eval hx, Instr.sliceAt]
  refine Ag (a := _) (w' := w) ?_ |>.trans rfl
  rw [Ag (A3 ht.und w)]
  simp only [Instr.slice]
  rw [Ag (A3 ht.und w)]
  have key : (Instr.sliceBounds true m c (lo.map ac.eval) (hi.map ac.eval) none).run P w = .ok (a', b', c) w := by
   unfold Instr.sliceBounds
   simp only [pure_bind]
   have hlo' : lo = none ∧ a' = 0 ∨ ∃ y, lo = some y ∧ ac.eval y = .int .i64 a := by
    cases lo with
    | none => simp [Ob] at hlo; exact .inl ⟨rfl, by omega⟩
    | some y =>
     simp only [Ob] at hlo
     split at hlo
     ·rename_i m hm
      simp at hlo; subst hlo
      exact .inr ⟨y, rfl, he.eval hm⟩
     ·simp at hlo
   have tail : ∀ h' : Nat, h' = b' → (match lo.map ac.eval with
     | some v => do
      let l ← Instr.sliceBound v h' (if (none : Option Value).isSome = true then .slice3C else .sliceB)
      pure (l, h', c)
     | none => pure (0, h', c) : Sem (Nat × Nat × Nat)).run P w = .ok (a', b', c) w := by
    intro h' e; subst e
    rcases hlo' with ⟨e, e'⟩ | ⟨y, e, hy⟩
    ·subst e e'; rfl
    ·subst e
     simp only [Option.map_some, hy]
     rw [Ag (N6 ha hab.1 w)]; rfl
   cases hi with
   | none =>
    simp [N9] at hhi
    simp only [Option.map_none]
    exact tail m Aa
   | some y =>
    simp only [N9] at hhi
    split at hhi
    ·rename_i m' hm
     simp at hhi; subst hhi
     simp only [Option.map_some, he.eval hm]
     rw [Ag (N6 hb hab.2 w)]
     exact tail b' rfl
    ·simp at hhi
  show (do let x ← Instr.sliceBounds true m c (lo.map ac.eval) (hi.map ac.eval) none; let size ← sizeOf e; pure (.slice (if x.2.2 = x.1 then ad else ad.map (·.add (x.1 * size))) (x.2.1 - x.1) (x.2.2 - x.1)) : Sem Value).run P w = _
  rw [Ag key]; rw [Ag (F1 hte w)]; rfl
theorem Lm {T e : TypeId} {sz bb esz ebb : Nat} {z ez : List Value} {dd : TypeDesc} [ht : At P T (.slice e) sz bb z] [hte : At P e dd esz ebb ez] {x : Operand} {ad : Option Addr} {m c : Nat}
  {lo hi : Option Operand} {a b : Int} (hx : Ch E x = some (.slice ad m c))
  (hlo : Ob E lo = some a) (hhi : N9 E m hi = some b) (a' b' : Nat) (ha : a = a') (hb : b = b') (hab : a' ≤ b' ∧ b' ≤ c) (hg : Wants ops E g) (hdn : Nat.blt d n = true)
  (h : A8 P f n I₀ Q ops l k ((d, .slice (if c = a' then ad else ad.map (·.add (a' * esz))) (b' - a') (c - a')) :: E) I L) : A8 P f n I₀ Q ops (⟨some d, .slice T x lo hi none, ty, pos, af, g⟩ :: l) k E I L := Es (Uk hx hlo hhi a' b' ha hb hab) hg hdn h

theorem Af0 {S : World → Prop} {T : TypeId} {parts : Array (Nat × Operand)} {is : List Nat} {vs : List Value} {v : Value} (hp : parts.toList.map (·.1) = is) (ho : I9 E (parts.toList.map (·.2)) = some vs)
  (hb : ∀ w, (Instr.build T (is.zip vs).toArray).run P w = .ok v w) : Ia P E S ⟨some d, .build T parts, ty, pos, af, g⟩ (v) := fun a w he _ => by
  have h1 : parts.map (fun (i, x) => (i, a.eval x)) = (is.zip vs).toArray := by
   apply Array.ext'
   have := he.evals ho
   rw [← hp, ← this]
   simp [List.zip_map', Function.comp_def]
  simp only [execOp]
  rw [h1]
  exact Ag (hb w) |>.trans rfl
theorem Afp {T : TypeId} {parts : Array (Nat × Operand)} {is : List Nat} {vs : List Value} {v : Value} (hp : parts.toList.map (·.1) = is) (ho : I9 E (parts.toList.map (·.2)) = some vs)
  (hb : ∀ w, (Instr.build T (is.zip vs).toArray).run P w = .ok v w) (hg : Wants ops E g) (hdn : Nat.blt d n = true)
  (h : A8 P f n I₀ Q ops l k ((d, v) :: E) I L) : A8 P f n I₀ Q ops (⟨some d, .build T parts, ty, pos, af, g⟩ :: l) k E I L := Es (Af0 hp ho hb) hg hdn h

theorem Wi {T e : TypeId} {parts : Array (Nat × Operand)} {is : List Nat} {vs cs : List Value} {m : Nat} {sz bb esz ebb : Nat} {z ez : List Value} {dd : TypeDesc} [ht : At P T (.slice e) sz bb z] [hte : At P e dd esz ebb ez]
  (hp : parts.toList.map (·.1) = is) (ho : I9 E (parts.toList.map (·.2)) = some vs) (hm0 : m * esz ≠ 0) (hm1 : m * esz ≤ 2 ^ 24)
  (hfill : Instr.fill (fun i => some (i * esz, esz)) ((Array.range (m * esz)).map (ez.toArray[· % ez.toArray.size]!)) (is.zip vs) = some cs.toArray) (hg : Wants ops E g) (hdn : Nat.blt d n = true)
  (h : ∀ b, A8 P f n I₀ Q ops l k ((d, .slice (some ⟨b, 0, none⟩) m m) :: E) I ((b, .cells cs.toArray e (0, 0)) :: L)) :
  A8 P f n I₀ Q ops (⟨some d, .buildSlice T m parts, ty, pos, af, g⟩ :: l) k E I L := by
 refine Jo rfl hdn (fun a he => hg.wanted a he) fun a w he hm => ?_
 refine ⟨_, _, I, (w.heap.size, .cells cs.toArray e (0, 0)) :: L, ?_, hm.alloc _, h _⟩
 have h1 : parts.map (fun (i, x) => (i, a.eval x)) = (is.zip vs).toArray := by
  apply Array.ext'
  have := he.evals ho
  rw [← hp, ← this]
  simp [List.zip_map', Function.comp_def]
 simp only [execOp]
 rw [h1]; refine Ag (a := .slice (some ⟨w.heap.size, 0, none⟩) m m) (w' := { w with heap := w.heap.push (.cells cs.toArray e (0, 0)) }) ?_ |>.trans rfl
 unfold Instr.buildSlice
 rw [Ag (A3 ht.und w)]
 simp only []
 rw [Ag (F1 hte w)]; rw [if_neg Aa, if_neg hm0]; obtain ⟨zv, hz1, hz2⟩ := Ky hte w
 have hz3 : zv.cells = ez.toArray := by rw [← hz2]
 simp only [bind_assoc, pure_bind]
 rw [Ag hz1, hz3]; rw [hfill]
 rfl

/- 'append' onto a slice of the call's own. -/
theorem Ta (need c : Nat) (h : c < need) : Builtin.nextslicecap need c ≤ 2 * need + 1000 := by
 unfold Builtin.nextslicecap
 split
 ·omega
 ·split
  ·omega
  ·have gen : ∀ r c : Nat, c < need + (need + 768) / 4 + 1 → Builtin.growBy need r c ≤ need + (need + 768) / 4 := by
    intro r
    induction r with
    | zero => intro c hc; simp [Builtin.growBy]; omega
    | succ r ih =>
     intro c hc
     simp only [Builtin.growBy]
     split
     ·omega
     ·exact ih _ Aa
   have := gen 4 c Aa
   omega

theorem Hr {I : Heap} {L : Bj} {w : World} (hm : Mem I L w) {ad : Option Addr} {m c sz : Nat} {xs : List Value} (hl : xs.length = m * sz)
  (hr : ∀ a, ad = some a → He I L a xs) (hn : ad = none → xs = []) : (Builtin.firstCells sz m (.slice ad m c)).run P w = .ok xs.toArray w := by
 cases ad with
 | none => simp [Builtin.firstCells, hn rfl, Ha]
 | some a =>
  simp only [Builtin.firstCells]
  rw [← hl]
  exact Ln xs (hr a rfl w hm)

abbrev Kg := Option (Nat × List Value)
def A2 (e : TypeId) (xs : List Value) : Kg → Bj
 | none => []
 | some (b, sp) => [(b, .cells (xs ++ sp).toArray e (0, 0))]
def Bm (m : Nat) (c : Nat) : Kg → Value
 | none => .slice none 0 0
 | some (b, sp) => .slice (some ⟨b, 0, none⟩) m c
theorem H8 {m c : Nat} {B : Kg} : C6 (Bm m c B) = true := by cases B <;> rfl
def Dd (esz m c : Nat) (xs : List Value) : Kg → Prop
 | none => xs = [] ∧ m = 0 ∧ c = 0
 | some (_, sp) => xs.length = m * esz ∧ m ≤ c ∧ sp.length = (c - m) * esz

theorem Mem.perm {I : Heap} {L L' : Bj} {w : World} (hp : L.Perm L') (h : Mem I L w) : Mem I L' w :=
 ⟨h.1, fun r hr => h.2.1 r (hp.mem_iff.2 hr), (hp.map _).nodup_iff.1 h.2.2⟩
theorem Mem.perm2 {I : Heap} {p q : Nat × Obj} {L : Bj} {w : World} (h : Mem I (p :: q :: L) w) : Mem I (q :: p :: L) w := h.perm (List.Perm.swap ..)
theorem Mem.sub {I : Heap} {L L' : Bj} {w : World} (hs : L'.Sublist L) (h : Mem I L w) : Mem I L' w :=
 ⟨h.1, fun r hr => h.2.1 r (hs.subset hr), h.2.2.sublist (hs.map _)⟩

theorem Mem.f1 {I : Heap} {a p : Nat × Obj} {L : Bj} {w : World} (h : Mem I (a :: p :: L) w) : Mem I (p :: a :: L) w := h.perm2
theorem Mem.f2 {I : Heap} {a b p : Nat × Obj} {L : Bj} {w : World} (h : Mem I (a :: b :: p :: L) w) : Mem I (p :: a :: b :: L) w := h.perm (List.perm_middle (l₁ := [a, b]))
theorem Mem.f3 {I : Heap} {a b c p : Nat × Obj} {L : Bj} {w : World} (h : Mem I (a :: b :: c :: p :: L) w) : Mem I (p :: a :: b :: c :: L) w := h.perm (List.perm_middle (l₁ := [a, b, c]))
theorem Mem.f4 {I : Heap} {a b c d p : Nat × Obj} {L : Bj} {w : World} (h : Mem I (a :: b :: c :: d :: p :: L) w) : Mem I (p :: a :: b :: c :: d :: L) w := h.perm (List.perm_middle (l₁ := [a, b, c, d]))
theorem Mem.u1 {I : Heap} {a : Nat × Obj} {X L : Bj} {w : World} (h : Mem I (a :: (X ++ L)) w) : Mem I (X ++ a :: L) w := h.perm (List.perm_append_comm_assoc [a] X L)
theorem Mem.u2 {I : Heap} {a b : Nat × Obj} {X L : Bj} {w : World} (h : Mem I (a :: b :: (X ++ L)) w) : Mem I (X ++ a :: b :: L) w := h.perm (List.perm_append_comm_assoc [a, b] X L)
theorem Mem.u3 {I : Heap} {a b c : Nat × Obj} {X L : Bj} {w : World} (h : Mem I (a :: b :: c :: (X ++ L)) w) : Mem I (X ++ a :: b :: c :: L) w := h.perm (List.perm_append_comm_assoc [a, b, c] X L)
theorem Mem.u4 {I : Heap} {a b c d : Nat × Obj} {X L : Bj} {w : World} (h : Mem I (a :: b :: c :: d :: (X ++ L)) w) : Mem I (X ++ a :: b :: c :: d :: L) w := h.perm (List.perm_append_comm_assoc [a, b, c, d] X L)
theorem Mem.u5 {I : Heap} {a b c d e : Nat × Obj} {X L : Bj} {w : World} (h : Mem I (a :: b :: c :: d :: e :: (X ++ L)) w) : Mem I (X ++ a :: b :: c :: d :: e :: L) w := h.perm (List.perm_append_comm_assoc [a, b, c, d, e] X L)

theorem Nq (z : Array Value) (m : Nat) : (Builtin.zeroCells z m).size = m * z.size := by simp [Builtin.zeroCells]

theorem O8 {T e : TypeId} {sz bb esz ebb : Nat} {z ez : List Value} {dd : TypeDesc} (ht : At P T (.slice e) sz bb z) (hte : At P e dd esz ebb ez) (hez : ez.length = esz)
  {I : Heap} {L : Bj} {w : World} {B : Kg} {xs ys : List Value} {m c : Nat} {T2 : TypeId} {x : Value} {m2 : Nat} {dd2 : TypeDesc} (hu2 : P.underlying T2 = some dd2) (hni : ∀ kk, dd2 ≠ .int kk)
  (hB : Dd esz m c xs B) (hm : Mem I (A2 e xs B ++ L) w) (hyl : ys.length = m2 * esz) (hxl : ∀ w, (Builtin.lenOf x).run P w = .ok m2 w) (hxf : ∀ w, Mem I L w → (Builtin.firstCells esz m2 x).run P w = .ok ys.toArray w) (hyp : ys.all C6 = true) (hm2 : 0 < m2) (hesz : 0 < esz)
  (hsize : (m + m2) ≤ 4294967296) (hbytes : ebb ≤ 1024) :
  ∃ w' B' c', (Builtin.append_ #[T, T2] T #[Bm m c B, x]).run P w = .ok (Bm (m + m2) c' B') w' ∧ B' ≠ none ∧
   Dd esz (m + m2) c' (xs ++ ys) B' ∧ Mem I (A2 e (xs ++ ys) B' ++ L) w' := by
 have hmL : Mem I L w := hm.sub (List.sublist_append_right _ _)
 obtain ⟨einf, hein, hebb⟩ := K9 hte w
 have hval : ∃ base cc, Bm m c B = .slice base m cc ∧ c = cc ∧ (base = none → xs = [] ∧ B = none ∧ m = 0 ∧ c = 0) ∧ (∀ a, base = some a → ∃ b sp, B = some (b, sp) ∧ a = ⟨b, 0, none⟩) := by
  cases B with
  | none => obtain ⟨h1, h2, h3⟩ := hB; exact ⟨none, 0, by simp [Bm, h2], h3, fun _ => ⟨h1, rfl, h2, h3⟩, by simp⟩
  | some p => obtain ⟨b, sp⟩ := p; exact ⟨some ⟨b, 0, none⟩, c, rfl, rfl, by simp, fun a ha => ⟨b, sp, rfl, by simpa using ha.symm⟩⟩
 obtain ⟨base, cc, hbv, rfl, hbn, hbs⟩ := hval; rw [hbv]
 unfold Builtin.append_
 simp only [List.getElem?_toArray, List.getElem?_cons_zero, List.getElem?_cons_succ]
 rw [Ag (A3 ht.und w)]
 simp only []
 rw [Ag (F1 hte w)]; rw [Ag (A3 hu2 w)]
 have hz : (match dd2 with | .int _ => true | _ => false) = false := by
  cases dd2 <;> first | rfl | exact absurd rfl (hni _)
 simp only [hz, pure_bind, Bool.false_eq_true, if_false, Bool.not_false, if_true, false_or]
 rw [Ag (hxl w)]
 have hxl : xs.length = m * esz ∧ m ≤ c := by
  cases B with
  | none => obtain ⟨h1, h2, h3⟩ := hB; subst h1 h2; simp
  | some p => exact ⟨hB.1, hB.2.1⟩
 have hfy := hxf w hmL
 by_cases hfit : m + m2 ≤ c
 ·simp only [if_pos hfit]
  rw [Ag hfy]
  have : base ≠ none := fun e => by have := hbn e; omega
  cases hbb : base with
  | none => exact absurd hbb this
  | some a =>
   obtain ⟨b, sp, rfl, rfl⟩ := hbs a hbb; obtain ⟨h1, h2, h3⟩ := hB
   have hown := (hm.2.1 _ (List.mem_append_left _ (List.mem_singleton.2 rfl))).1
   have hsp : ys.length ≤ sp.length := by rw [hyl, h3]; exact Nat.mul_le_mul_right _ Aa
   have hadd : (Addr.add ⟨b, 0, none⟩ (m * esz)) = ⟨b, m * esz, none⟩ := by unfold Addr.add; split <;> simp_all
   obtain ⟨c', hs1, hs2⟩ := Nn (P := P) (off := m * esz) ys 0 w _ hown Dr hyp
   have hc' : c' = (xs ++ ys ++ sp.drop ys.length).toArray := by
    apply Array.ext'
    rw [hs2]
    simp only [List.toList_toArray, Nat.add_zero, ← h1]
    rw [List.take_left', List.drop_append]
    ·simp [List.drop_eq_nil_of_le]
    ·rfl
   refine ⟨{ w with heap := w.heap.setIfInBounds b (.cells c' e (0, 0)) }, some (b, sp.drop ys.length), c, ?_, by simp, ?_, ?_⟩
   ·simp only [hadd, Bm]
    rw [Ag hs1]; rfl
   ·refine ⟨by simp [h1, hyl, Nat.add_mul], hfit, ?_⟩
    simp only [List.length_drop, h3, hyl]
    rw [← Nat.sub_mul]; congr 1; omega
   ·rw [hc']
    exact hm.upd (Upd.here)
 ·simp only [if_neg hfit]
  have hmax : ¬ (((m + m2 : Nat) : Int) > IntKind.i64.max) := by
   simp [IntKind.max, IntKind.bits, IntKind.signed]; omega
  rw [Ag hein]
  simp only [if_neg (fun h : (((m + m2 : Nat) : Int) > IntKind.i64.max) ∧ _ => hmax h.1)]
  rw [Ag hein]
  have hcap : ¬ (Builtin.nextslicecap (m + m2) c * einf.bytes > 2 ^ 48) := by
   have h1 := Ta (m + m2) c Aa
   have h2 : Builtin.nextslicecap (m + m2) c * einf.bytes ≤ (2 * (m + m2) + 1000) * 1024 := Nat.mul_le_mul h1 Aa
   omega
  simp only [if_neg hcap]
  obtain ⟨zv, hz1, hz2⟩ := Ky hte w
  have hcut : ∀ t, m + m2 ≤ (Question.appendCap (m + m2) c e).cut t := fun t => by simp [Question.cut]
  let NC := (Question.appendCap (m + m2) c e).cut (w.tape w.drawn (.appendCap (m + m2) c e))
  let w1 : World := { w with drawn := w.drawn + 1 }
  have hch : (choose (.appendCap (m + m2) c e)).run P w = .ok NC w1 := by simp [choose, Sem.run, Question.forced, NC, w1]
  have hNC : m + m2 ≤ NC := hcut _
  rw [Ag hch]
  have hm1 : Mem I (A2 e xs B ++ L) w1 := hm
  have hmL1 : Mem I L w1 := hmL
  obtain ⟨einf1, hein1, _⟩ := K9 hte w1; rw [Ag hein1]
  have hroom : (askRoom (NC * einf1.bytes)).run P w1 = .ok () w1 := by unfold askRoom; split <;> rfl
  rw [Ag hroom]
  have hfx : (Builtin.firstCells esz m (.slice base m c)).run P w1 = .ok xs.toArray w1 := by
   refine Hr hm1 hxl.1 ?_ (fun e => (hbn e).1); intro a ha; obtain ⟨b, sp, rfl, rfl⟩ := hbs a ha; intro ww hw i hi; rw [Pg (hw.2.1 _ (List.mem_append_left _ (List.mem_singleton.2 rfl))).1]
   simp [List.getElem?_append_left hi, hi]
  rw [Ag hfx, Ag (hxf w1 hmL1)]; obtain ⟨zv1, hz1, hz2⟩ := Ky hte w1; rw [Ag hz1]
  refine ⟨{ w1 with heap := w1.heap.push (.cells (xs ++ ys ++ (Builtin.zeroCells zv1.cells (NC - (m + m2))).toList).toArray e (0, 0)) },
   some (w.heap.size, (Builtin.zeroCells zv1.cells (NC - (m + m2))).toList), NC, ?_, by simp, ?_, ?_⟩
  ·have : (xs.toArray ++ ys.toArray ++ Builtin.zeroCells zv1.cells (NC - (m + m2))) = (xs ++ ys ++ (Builtin.zeroCells zv1.cells (NC - (m + m2))).toList).toArray := by
    apply Array.ext'; simp
   rw [this]
   rfl
  ·refine ⟨by simp [hxl.1, hyl, Nat.add_mul], hNC, ?_⟩
   have hzs : zv1.cells.size = esz := by rw [← hez, ← hz2]; simp
   simp [Nq, hzs]
  ·exact hmL1.alloc _

theorem D1 {T T2 e : TypeId} {sz bb esz ebb sz2 bb2 : Nat} {z ez z2 : List Value} {dd dd2 : TypeDesc} [ht : At P T (.slice e) sz bb z] [hte : At P e dd esz ebb ez] [ht2 : At P T2 dd2 sz2 bb2 z2]
  {x y : Operand} {B : Kg} {xs ys : List Value} {m c : Nat} {ad2 : Option Addr} {m2 c2 : Nat} {L₀ : Bj} (hni : ∀ kk, dd2 ≠ .int kk) (hez : ez.length = esz)
  (hx : Ch E x = some (Bm m c B)) (hy : Ch E y = some (.slice ad2 m2 c2)) (hB : Dd esz m c xs B) (hL : ∀ w, Mem I L w → Mem I (A2 e xs B ++ L₀) w)
  (hyl : ys.length = m2 * esz) (hyr : ∀ a, ad2 = some a → He I L₀ a ys) (hyn : ad2 = none → ys = []) (hyp : ys.all C6 = true) (hm2 : 0 < m2) (hesz : 0 < esz)
  (hsize : (m + m2) ≤ 4294967296) (hbytes : ebb ≤ 1024) (hg : Wants ops E g) (hdn : Nat.blt d n = true)
  (h : ∀ b sp c', Dd esz (m + m2) c' (xs ++ ys) (some (b, sp)) → A8 P f n I₀ Q ops l k ((d, .slice (some ⟨b, 0, none⟩) (m + m2) c') :: E) I ((b, .cells (xs ++ ys ++ sp).toArray e (0, 0)) :: L₀)) :
  A8 P f n I₀ Q ops (⟨some d, .call ⟨.builtin .append, #[x, y], #[T, T2]⟩, T, pos, af, g⟩ :: l) k E I L := by
 refine Jo rfl hdn (fun a he => hg.wanted a he) fun a w he hm => ?_
 obtain ⟨w', B', c', hr, hne, hB', hm'⟩ := O8 (x := .slice ad2 m2 c2) ht hte hez ht2.und hni hB (hL w hm) hyl (fun _ => rfl) (fun w hw => Hr hw hyl hyr hyn) hyp hm2 hesz hsize hbytes
 cases B' with
 | none => exact absurd rfl hne
 | some p =>
  obtain ⟨b, sp⟩ := p; refine ⟨_, w', I, _, ?_, hm', h b sp c' hB'⟩
  simp only [execOp, resolve, List.map_toArray, List.map, he.eval hx, he.eval hy, pure_bind, invoke, builtin]
  exact Ag hr |>.trans rfl


/- Tests that split the way, and tests that are decided. -/
theorem EnvOk.shadow {E : Hg} {a : Act} {t : Nat} {v : Value} (h : EnvOk E a) (hv : look E t = some v) : EnvOk ((t, v) :: E) a := by
 intro u x hx; rw [Fw] at hx
 by_cases e : t = u
 ·subst e; simp at hx; subst hx; exact h _ _ hv
 ·simp [e] at hx; exact h _ _ hx

theorem K3 {c : Operand} {x y : Code} {p : Prop} [Decidable p] (hc : Ch E c = some (.bool (decide p))) (hp : p) (h : RunS P f n I₀ Q (.code x :: k) E I L) : RunS P f n I₀ Q (.code (.cond c x y) :: k) E I L :=
 B9 (by rw [hc, decide_eq_true hp]) h
theorem Ez {c : Operand} {x y : Code} {p : Prop} [Decidable p] (hc : Ch E c = some (.bool (decide p))) (hp : ¬ p) (h : RunS P f n I₀ Q (.code y :: k) E I L) : RunS P f n I₀ Q (.code (.cond c x y) :: k) E I L :=
 A0 (by rw [hc, decide_eq_false hp]) h
theorem K2 {c : Operand} {x y : Code} {p : Prop} [Decidable p] (hc : Ch E c = some (.bool (!decide p))) (hp : ¬ p) (h : RunS P f n I₀ Q (.code x :: k) E I L) : RunS P f n I₀ Q (.code (.cond c x y) :: k) E I L :=
 B9 (by rw [hc, decide_eq_false hp]; rfl) h
theorem Ey {c : Operand} {x y : Code} {p : Prop} [Decidable p] (hc : Ch E c = some (.bool (!decide p))) (hp : p) (h : RunS P f n I₀ Q (.code y :: k) E I L) : RunS P f n I₀ Q (.code (.cond c x y) :: k) E I L :=
 A0 (by rw [hc, decide_eq_true hp]; rfl) h
section guards
variable {od : Option Tmp} {op : Op} {j dj : Nat} {b : Bool}
theorem Gl {t : Nat} {v v' : Value} (ht : look E t = some v) (he : v = v') (h : A8 P f n I₀ Q ops l k ((t, v') :: E) I L) : A8 P f n I₀ Q ops l k E I L := by
 subst he
 exact fun a w ha hd he hm => h a w ha hd (he.shadow ht) hm
theorem Jv {t : Nat} {v v' : Value} {todo : List Item} (ht : look E t = some v) (he : v = v') (h : RunS P f n I₀ Q todo ((t, v') :: E) I L) : RunS P f n I₀ Q todo E I L := by
 subst he
 exact fun a w ha hd he hm => h a w ha hd (he.shadow ht) hm
theorem Ago {p : Prop} [Decidable p] (hdj : (ops[j]?).bind (·.dst) = some dj) (hb : look E dj = some (.bool (decide p))) (hp : p)
  (h : A8 P f n I₀ Q ops (⟨od, op, ty, pos, af, some (j, b)⟩ :: l) k ((dj, .bool true) :: E) I L) : A8 P f n I₀ Q ops (⟨od, op, ty, pos, af, some (j, b)⟩ :: l) k E I L :=
 Gl hb (by rw [decide_eq_true hp]) h
theorem Agl {p : Prop} [Decidable p] (hdj : (ops[j]?).bind (·.dst) = some dj) (hb : look E dj = some (.bool (decide p))) (hp : ¬ p)
  (h : A8 P f n I₀ Q ops (⟨od, op, ty, pos, af, some (j, b)⟩ :: l) k ((dj, .bool false) :: E) I L) : A8 P f n I₀ Q ops (⟨od, op, ty, pos, af, some (j, b)⟩ :: l) k E I L :=
 Gl hb (by rw [decide_eq_false hp]) h
theorem Agn {p : Prop} [Decidable p] (hdj : (ops[j]?).bind (·.dst) = some dj) (hb : look E dj = some (.bool (!decide p))) (hp : ¬ p)
  (h : A8 P f n I₀ Q ops (⟨od, op, ty, pos, af, some (j, b)⟩ :: l) k ((dj, .bool true) :: E) I L) : A8 P f n I₀ Q ops (⟨od, op, ty, pos, af, some (j, b)⟩ :: l) k E I L :=
 Gl hb (by rw [decide_eq_false hp]; rfl) h
theorem Agk {p : Prop} [Decidable p] (hdj : (ops[j]?).bind (·.dst) = some dj) (hb : look E dj = some (.bool (!decide p))) (hp : p)
  (h : A8 P f n I₀ Q ops (⟨od, op, ty, pos, af, some (j, b)⟩ :: l) k ((dj, .bool false) :: E) I L) : A8 P f n I₀ Q ops (⟨od, op, ty, pos, af, some (j, b)⟩ :: l) k E I L :=
 Gl hb (by rw [decide_eq_true hp]; rfl) h
theorem Ho {p : Prop} [Decidable p] (hdj : (ops[j]?).bind (·.dst) = some dj) (hb : look E dj = some (.bool (decide p)))
  (ht : p → A8 P f n I₀ Q ops (⟨od, op, ty, pos, af, some (j, b)⟩ :: l) k ((dj, .bool true) :: E) I L) (hf : ¬ p → A8 P f n I₀ Q ops (⟨od, op, ty, pos, af, some (j, b)⟩ :: l) k ((dj, .bool false) :: E) I L) :
  A8 P f n I₀ Q ops (⟨od, op, ty, pos, af, some (j, b)⟩ :: l) k E I L := by
 by_cases hp : p
 ·exact Ago hdj hb hp (ht hp)
 ·exact Agl hdj hb hp (hf hp)
theorem Fp {p : Prop} [Decidable p] (hdj : (ops[j]?).bind (·.dst) = some dj) (hb : look E dj = some (.bool (!decide p)))
  (ht : ¬ p → A8 P f n I₀ Q ops (⟨od, op, ty, pos, af, some (j, b)⟩ :: l) k ((dj, .bool true) :: E) I L) (hf : p → A8 P f n I₀ Q ops (⟨od, op, ty, pos, af, some (j, b)⟩ :: l) k ((dj, .bool false) :: E) I L) :
  A8 P f n I₀ Q ops (⟨od, op, ty, pos, af, some (j, b)⟩ :: l) k E I L := by
 by_cases hp : p
 ·exact Agk hdj hb hp (hf hp)
 ·exact Agn hdj hb hp (ht hp)
theorem Nd {c : Bool} (hdj : (ops[j]?).bind (·.dst) = some dj) (hb : look E dj = some (.bool c))
  (ht : c = true → A8 P f n I₀ Q ops (⟨od, op, ty, pos, af, some (j, b)⟩ :: l) k ((dj, .bool true) :: E) I L) (hf : c = false → A8 P f n I₀ Q ops (⟨od, op, ty, pos, af, some (j, b)⟩ :: l) k ((dj, .bool false) :: E) I L) :
  A8 P f n I₀ Q ops (⟨od, op, ty, pos, af, some (j, b)⟩ :: l) k E I L := by
 cases c
 ·exact Gl hb rfl (hf rfl)
 ·exact Gl hb rfl (ht rfl)
end guards


theorem D9 {x y : Operand} {s : List UInt8} {i : Nat} {ii : Int} {T : TypeId} {sz bb : Nat} {z : List Value} [ht : At P T .string sz bb z] (hx : Ch E x = some (.string (str s)))
  (hy : Ch E y = some (.int .i64 ii)) (hii : ii = ((i : Nat) : Int)) (hi : i < s.length) (hg : Wants ops E g) (hdn : Nat.blt d n = true)
  (h : A8 P f n I₀ Q ops l k ((d, .int .u8 ((s.getD i 0).toNat : Nat)) :: E) I L) : A8 P f n I₀ Q ops (⟨some d, .index T x y, ty, pos, af, g⟩ :: l) k E I L :=
 Yl hx (hii ▸ hy) (b := s.getD i 0) (by simp [hi]) hg hdn h

theorem Ck {T e : TypeId} {sz bb esz ebb : Nat} {z ez : List Value} {dd : TypeDesc} [ht : At P T (.slice e) sz bb z] [hte : At P e dd esz ebb ez] {x y : Operand} {oa : Option Addr} {ad : Addr} {m c : Nat} {i : Int}
  (hx : Ch E x = some (.slice oa m c)) (hy : Ch E y = some (.int .i64 i)) (i' : Nat) (hi : i = i') (him : i' < m) (hoa : oa = some ad) (hg : Wants ops E g) (hdn : Nat.blt d n = true)
  (h : A8 P f n I₀ Q ops l k ((d, .pointer (some (ad.add (i' * esz)))) :: E) I L) : A8 P f n I₀ Q ops (⟨some d, .indexAddr T x y, ty, pos, af, g⟩ :: l) k E I L :=
 Yj (hoa ▸ hx) hy i' hi him hg hdn h

/- Literals of struct types: each part lies in its place. -/
class Fm (P : Program) (T : TypeId) (places : outParam (List (Nat × Nat))) : Prop where
 get : ∃ fs, P.underlying T = some (.struct fs) ∧ ∀ w, (fs.mapM fun f => do pure (f.offset, ← sizeOf f.type) : Sem (Array (Nat × Nat))).run P w = .ok places.toArray w

def Sw (places : List (Nat × Nat)) : List (Nat × Value) → List Value → Option (List Value)
 | [], cs => some cs
 | (i, v) :: r, cs => match places[i]? with
  | some (off, size) => match Gc v with
   | some vs => match M1 off vs cs with
    | some us => bif Nat.beq vs.length size then Sw places r us else none
    | none => none
   | none => none
  | none => none
theorem Uu : ∀ (vs : List Value) (off j : Nat) (c : Array Value), off + j + vs.length ≤ c.size →
  ((vs.zipIdx j).foldl (fun (cs : Array Value) (x : Value × Nat) => cs.setIfInBounds (off + x.2) x.1) c).toList = c.toList.take (off + j) ++ vs ++ c.toList.drop (off + j + vs.length) := by
 intro vs
 induction vs with
 | nil => intro off j c h; simp
 | cons v vs ih =>
  intro off j c h
  simp only [List.length_cons] at h
  simp only [List.zipIdx_cons, List.foldl_cons]
  rw [ih off (j + 1) _ Dr]
  simp only [Array.toList_setIfInBounds]
  rw [show off + (j + 1) = off + j + 1 by omega, Yx (by simpa using (by omega : off + j < c.size)), List.drop_set_of_lt Aa]; rw [show off + j + 1 + vs.length = off + j + (v :: vs).length by simp; omega]
  simp
theorem Afb {places : List (Nat × Nat)} : ∀ {ps : List (Nat × Value)} {cs us : List Value}, Sw places ps cs = some us → Instr.fill (places.toArray[·]?) cs.toArray ps = some us.toArray := by
 intro ps
 induction ps with
 | nil => intro cs us h; simp [Sw] at h; simp [Instr.fill, h]
 | cons p ps ih =>
  obtain ⟨i, v⟩ := p; intro cs us h
  simp only [Sw] at h
  split at h
  ·rename_i off size hp
   split at h
   ·rename_i vs hv
    split at h
    ·rename_i us' hu
     cases hb : Nat.beq vs.length size with
     | false => simp [hb] at h
     | true =>
      have hb' := Nat.eq_of_beq_eq_true hb
      simp [hb] at h
      obtain ⟨h1, h2⟩ := Aas hu
      have hvc := Jx hv
      have hf := Uu vs off 0 cs.toArray (by simpa using h1)
      have hc : ((vs.zipIdx 0).foldl (fun (cs : Array Value) (x : Value × Nat) => cs.setIfInBounds (off + x.2) x.1) cs.toArray) = us'.toArray := by
       apply Array.ext'
       rw [hf, h2]; simp
      simp only [Instr.fill, List.getElem?_toArray, hp, hvc]
      rw [if_neg (by simp [hb']; omega)]; rw [← ih h, ← hc, ← Array.foldl_toList, Array.toList_zipIdx]
      simp
    ·simp at h
   ·simp at h
  ·simp at h

theorem Vf {T : TypeId} {places : List (Nat × Nat)} {sz bb : Nat} {z : List Value} {fs : Array Field} [hs : Fm P T places] [ht : At P T (.struct fs) sz bb z] {ps : List (Nat × Value)} {us : List Value}
  (h : Sw places ps z = some us) (w : World) : (Instr.build T ps.toArray).run P w = .ok (.agg us.toArray) w := by
 obtain ⟨fs', hf, hp⟩ := hs.get; obtain ⟨v, hv, hz⟩ := Ky ht w
 unfold Instr.build
 rw [Ag hv]; rw [Ag (A3 hf w)]
 simp only []
 rw [Ag (hp w)]
 have hvz : v.cells = z.toArray := by rw [← hz]
 rw [hvz, Afb h]; rfl

theorem H9 {S : World → Prop} {T : TypeId} {places : List (Nat × Nat)} {sz bb : Nat} {z : List Value} {fs : Array Field} [hs : Fm P T places] [ht : At P T (.struct fs) sz bb z] {parts : Array (Nat × Operand)} {is : List Nat} {vs us : List Value}
  (hp : parts.toList.map (·.1) = is) (ho : I9 E (parts.toList.map (·.2)) = some vs)
  (hb : Sw places (is.zip vs) z = some us) : Ia P E S ⟨some d, .build T parts, ty, pos, af, g⟩ (.agg us.toArray) := fun a w he _ => by
  have h1 : parts.map (fun (i, x) => (i, a.eval x)) = (is.zip vs).toArray := by
   apply Array.ext'
   have := he.evals ho
   rw [← hp, ← this]
   simp [List.zip_map', Function.comp_def]
  simp only [execOp]
  rw [h1]
  exact Ag (Vf hb w) |>.trans rfl
theorem Cd {T : TypeId} {places : List (Nat × Nat)} {sz bb : Nat} {z : List Value} {fs : Array Field} [hs : Fm P T places] [ht : At P T (.struct fs) sz bb z] {parts : Array (Nat × Operand)} {is : List Nat} {vs us : List Value}
  (hp : parts.toList.map (·.1) = is) (ho : I9 E (parts.toList.map (·.2)) = some vs)
  (hb : Sw places (is.zip vs) z = some us) (hg : Wants ops E g) (hdn : Nat.blt d n = true)
  (h : A8 P f n I₀ Q ops l k ((d, .agg us.toArray) :: E) I L) : A8 P f n I₀ Q ops (⟨some d, .build T parts, ty, pos, af, g⟩ :: l) k E I L :=
 Afp hp ho (fun w => Vf hb w) hg hdn h

/- '[]T{x, y, ..}'. -/
def Pp : Nat → List Value → Option (List Value)
 | _, [] => some []
 | esz, v :: vs => match Gc v with
  | some cs => match Pp esz vs with
   | some us => bif Nat.beq cs.length esz then some (cs ++ us) else none
   | none => none
  | none => none
theorem Ut {esz : Nat} : ∀ {vs us : List Value} (k : Nat) (hd tl : List Value), Pp esz vs = some us → hd.length = k * esz → tl.length = vs.length * esz →
  Instr.fill (fun i => some (i * esz, esz)) (hd ++ tl).toArray ((List.range' k vs.length).zip vs) = some (hd ++ us).toArray := by
 intro vs
 induction vs with
 | nil => intro us k hd tl h hh ht; simp [Pp] at h; subst h; simp at ht; subst ht; simp [Instr.fill]
 | cons v vs ih =>
  intro us k hd tl h hh ht
  simp only [Pp] at h
  split at h
  ·rename_i cs hv
   split at h
   ·rename_i us' hu
    cases hb : Nat.beq cs.length esz with
    | false => simp [hb] at h
    | true =>
     have hb' := Nat.eq_of_beq_eq_true hb
     simp [hb] at h
     subst h
     simp only [List.length_cons, List.range'_succ, List.zip_cons_cons, Instr.fill]
     have hvc := Jx hv
     simp only [List.length_cons, Nat.add_mul, Nat.one_mul] at ht
     rw [hvc, if_neg (by simp [hb', hh]; omega)]
     have hf := Uu cs (k * esz) 0 (hd ++ tl).toArray Dr
     have hc : ((cs.zipIdx 0).foldl (fun (c : Array Value) (x : Value × Nat) => c.setIfInBounds (k * esz + x.2) x.1) (hd ++ tl).toArray) = ((hd ++ cs) ++ tl.drop esz).toArray := by
      apply Array.ext'
      rw [hf]
      simp only [List.toList_toArray, Nat.add_zero, ← hh]
      rw [List.take_left', List.drop_append]
      ·simp [List.drop_eq_nil_of_le, hb']
      ·rfl
     have := ih (k + 1) (hd ++ cs) (tl.drop esz) hu (by simp [hh, hb', Nat.add_mul]) Dr
     rw [← List.append_assoc hd cs us', ← this, ← hc, ← Array.foldl_toList, Array.toList_zipIdx]
   ·simp at h
  ·simp at h
theorem Agu {T e : TypeId} {parts : Array (Nat × Operand)} {is : List Nat} {vs us : List Value} {m : Nat} {sz bb esz ebb : Nat} {z ez : List Value} {dd : TypeDesc} [ht : At P T (.slice e) sz bb z] [hte : At P e dd esz ebb ez]
  (hp : parts.toList.map (·.1) = is) (ho : I9 E (parts.toList.map (·.2)) = some vs) (hr : is = List.range' 0 vs.length) (hm : vs.length = m) (hfl : Pp esz vs = some us) (hm0 : m * esz ≠ 0) (hm1 : m * esz ≤ 2 ^ 24) (hez : ez.length = esz)
  (hg : Wants ops E g) (hdn : Nat.blt d n = true)
  (h : ∀ b, A8 P f n I₀ Q ops l k ((d, .slice (some ⟨b, 0, none⟩) m m) :: E) I ((b, .cells us.toArray e (0, 0)) :: L)) :
  A8 P f n I₀ Q ops (⟨some d, .buildSlice T m parts, ty, pos, af, g⟩ :: l) k E I L := by
 refine Wi hp ho hm0 hm1 ?_ hg hdn h; rw [hr]
 have := Ut (esz := esz) 0 [] (((Array.range (m * esz)).map (ez.toArray[· % ez.toArray.size]!)).toList) hfl Ae (by simp [hm])
 rw [List.nil_append, List.nil_append, Array.toArray_toList] at this
 exact this

/- Where two ways meet again. -/
def S1 : Nat → Hg → Bool
 | 0, _ => true
 | _ + 1, [] => true
 | m + 1, (x, _) :: E => (match look (E.drop m) x with | none => true | some _ => false) && S1 m E
theorem Uw : ∀ (m : Nat) (E : Hg), S1 m E = true → ∀ t v, look (E.drop m) t = some v → look E t = some v := by
 intro m
 induction m with
 | zero => intro E _ t v h; simpa using h
 | succ m ih =>
  intro E hf t v h
  cases E with
  | nil => simp [look] at h
  | cons p E =>
   simp only [S1, Bool.and_eq_true] at hf
   have h1 := ih E hf.2 t v (by simpa using h)
   rw [Fw]
   by_cases e : p.1 = t
   ·rw [List.drop_succ_cons] at h
    have h2 := hf.1
    rw [e, h] at h2; cases h2
   ·rw [if_neg e]; exact h1
theorem Bb (m : Nat) {v : Value} {E' : Hg} (hE : E.drop m = E') (hf : S1 m E = true) (hk : A8 P f n I₀ Q ops l k ((d, v) :: E') I L) : A8 P f n I₀ Q ops l k ((d, v) :: E) I L := by
 subst hE; refine fun a w ha hd he hm => hk a w ha hd (fun t u hu => he t u ?_) hm
 rw [Fw] at hu ⊢
 by_cases e : d = t
 ·rwa [if_pos e] at hu ⊢
 ·rw [if_neg e] at hu ⊢; exact Uw m E hf t u hu
def Rq (ops : Array Oper) (n : Nat) : Nat → List Oper → Hg → Option (List Oper × Hg)
 | 0, l, E => some (l, E)
 | m + 1, ⟨some d, _, _, _, _, some (j, b)⟩ :: l, E => match (ops[j]?).bind (·.dst) with
  | some dj => match look E dj with
   | some (.bool b') => bif (Bool.xor b' b) && Nat.blt d n then Rq ops n m l ((d, undef) :: E) else none
   | some (.tuple a) => bif a.isEmpty && Nat.blt d n then Rq ops n m l ((d, undef) :: E) else none
   | _ => none
  | none => none
 | _ + 1, _, _ => none
theorem Br (m : Nat) {l' : List Oper} {E' : Hg} (h : Rq ops n m l E = some (l', E')) (hk : A8 P f n I₀ Q ops l' k E' I L) : A8 P f n I₀ Q ops l k E I L := by
 induction m generalizing l E with
 | zero => simp only [Rq, Option.some.injEq, Prod.mk.injEq] at h; obtain ⟨rfl, rfl⟩ := h; exact hk
 | succ m ih =>
  cases l with
  | nil => simp [Rq] at h
  | cons o l =>
   obtain ⟨dst, op, ty, pos, af, g⟩ := o
   cases dst with
   | none => simp [Rq] at h
   | some d =>
    cases g with
    | none => simp [Rq] at h
    | some g =>
     obtain ⟨j, b⟩ := g
     simp only [Rq] at h
     cases hdj : (ops[j]?).bind (·.dst) with
     | none => rw [hdj] at h; cases h
     | some dj =>
      rw [hdj] at h
      simp only at h
      split at h
      ·rename_i b' hl
       cases hx : ((Bool.xor b' b) && Nat.blt d n) with
       | false => rw [hx] at h; cases h
       | true =>
        rw [hx] at h
        simp only [Bool.and_eq_true] at hx
        have e : b' = !b := by have := hx.1; revert this; cases b' <;> cases b <;> decide
        subst e
        exact Cy hdj hl hx.2 (ih h)
      ·rename_i a hl
       cases hx : (a.isEmpty && Nat.blt d n) with
       | false => rw [hx] at h; cases h
       | true =>
        rw [hx] at h
        simp only [Bool.and_eq_true] at hx
        have e : a = #[] := by have := hx.1; simpa using this
        subst e
        exact Mq hdj hl hx.2 (ih h)
      ·cases h
theorem Wl {c dd : Nat} {b : Bool} {v : Value} {l' : List Oper} (hc : look E c = some (.bool b)) (hk : A8 P f n I₀ Q ops l' k ((dd, v) :: E) I L) : A8 P f n I₀ Q ops l' k ((dd, v) :: (c, .bool b) :: E) I L := by
 refine fun a w ha hd he hm => hk a w ha hd (fun t u hu => he t u ?_) hm
 rw [Fw] at hu ⊢
 by_cases e : dd = t
 ·rwa [if_pos e] at hu ⊢
 ·rw [if_neg e] at hu ⊢; rw [Fw]
  by_cases e' : c = t
  ·subst e'; rw [if_pos rfl, ← hc, hu]
  ·rwa [if_neg e']
theorem Wm {c : Nat} {b : Bool} (hc : look E c = some (.bool b)) (h : A8 P f n I₀ Q ops l k ((c, .bool b) :: E) I L) : A8 P f n I₀ Q ops l k E I L := by
 refine fun a w ha hd he hm => h a w ha hd (fun t u hu => ?_) hm
 rw [Fw] at hu
 by_cases e : c = t
 ·subst e; rw [if_pos rfl] at hu; exact he _ _ (hc.trans hu)
 ·rw [if_neg e] at hu; exact he _ _ hu
theorem Fr (c dd : Nat) {b q : Bool} {l' : List Oper} (hc : look E c = some (.bool b))
  (hT : b = true → A8 P f n I₀ Q ops l' k ((dd, .bool q) :: (c, .bool true) :: E) I L → A8 P f n I₀ Q ops l k ((c, .bool true) :: E) I L)
  (hF : b = false → A8 P f n I₀ Q ops l' k ((dd, .bool false) :: (c, .bool false) :: E) I L → A8 P f n I₀ Q ops l k ((c, .bool false) :: E) I L)
  (hk : A8 P f n I₀ Q ops l' k ((dd, .bool (b && q)) :: E) I L) : A8 P f n I₀ Q ops l k E I L := by
 cases b with
 | true => exact Wm hc (hT rfl (Wl hc hk))
 | false => exact Wm hc (hF rfl (Wl hc hk))
theorem G4 (c dd : Nat) {b q : Bool} {l' : List Oper} (hc : look E c = some (.bool b))
  (hF : b = false → A8 P f n I₀ Q ops l' k ((dd, .bool q) :: (c, .bool false) :: E) I L → A8 P f n I₀ Q ops l k ((c, .bool false) :: E) I L)
  (hT : b = true → A8 P f n I₀ Q ops l' k ((dd, .bool true) :: (c, .bool true) :: E) I L → A8 P f n I₀ Q ops l k ((c, .bool true) :: E) I L)
  (hk : A8 P f n I₀ Q ops l' k ((dd, .bool (b || q)) :: E) I L) : A8 P f n I₀ Q ops l k E I L := by
 cases b with
 | true => exact Wm hc (hT rfl (Wl hc hk))
 | false => exact Wm hc (hF rfl (Wl hc hk))

/- The same in a region that draws its order. -/
theorem Iq {S : World → Prop} {fuel : Nat} {listed : Array Bool} (m : Nat) {v : Value} {E' : Hg} (hE : E.drop m = E') (hf : S1 m E = true) (hk : C0 P f n I₀ Q ops S fuel listed k ((d, v) :: E') I L) : C0 P f n I₀ Q ops S fuel listed k ((d, v) :: E) I L := by
 subst hE; refine fun a w ha hd he hm => hk a w ha hd (fun t u hu => he t u ?_) hm
 rw [Fw] at hu ⊢
 by_cases e : d = t
 ·rwa [if_pos e] at hu ⊢
 ·rw [if_neg e] at hu ⊢; exact Uw m E hf t u hu
theorem Vx {S : World → Prop} {fuel : Nat} {listed : Array Bool} {c dd : Nat} {b : Bool} {v : Value} (hc : look E c = some (.bool b)) (hk : C0 P f n I₀ Q ops S fuel listed k ((dd, v) :: E) I L) : C0 P f n I₀ Q ops S fuel listed k ((dd, v) :: (c, .bool b) :: E) I L := by
 refine fun a w ha hd he hm => hk a w ha hd (fun t u hu => he t u ?_) hm
 rw [Fw] at hu ⊢
 by_cases e : dd = t
 ·rwa [if_pos e] at hu ⊢
 ·rw [if_neg e] at hu ⊢; rw [Fw]
  by_cases e' : c = t
  ·subst e'; rw [if_pos rfl, ← hc, hu]
  ·rwa [if_neg e']
theorem Vy {S : World → Prop} {fuel : Nat} {listed : Array Bool} {c : Nat} {b : Bool} (hc : look E c = some (.bool b)) (h : C0 P f n I₀ Q ops S fuel listed k ((c, .bool b) :: E) I L) : C0 P f n I₀ Q ops S fuel listed k E I L := by
 refine fun a w ha hd he hm => h a w ha hd (fun t u hu => ?_) hm
 rw [Fw] at hu
 by_cases e : c = t
 ·subst e; rw [if_pos rfl] at hu; exact he _ _ (hc.trans hu)
 ·rw [if_neg e] at hu; exact he _ _ hu
theorem Sk {S : World → Prop} {fuel fuel' : Nat} {listed listed' : Array Bool} (c dd : Nat) {b q : Bool} (hc : look E c = some (.bool b))
  (hT : b = true → C0 P f n I₀ Q ops S fuel' listed' k ((dd, .bool q) :: (c, .bool true) :: E) I L → C0 P f n I₀ Q ops S fuel listed k ((c, .bool true) :: E) I L)
  (hF : b = false → C0 P f n I₀ Q ops S fuel' listed' k ((dd, .bool false) :: (c, .bool false) :: E) I L → C0 P f n I₀ Q ops S fuel listed k ((c, .bool false) :: E) I L)
  (hk : C0 P f n I₀ Q ops S fuel' listed' k ((dd, .bool (b && q)) :: E) I L) : C0 P f n I₀ Q ops S fuel listed k E I L := by
 cases b with
 | true => exact Vy hc (hT rfl (Vx hc hk))
 | false => exact Vy hc (hF rfl (Vx hc hk))
theorem Agg {S : World → Prop} {fuel fuel' : Nat} {listed listed' : Array Bool} (c dd : Nat) {b q : Bool} (hc : look E c = some (.bool b))
  (hF : b = false → C0 P f n I₀ Q ops S fuel' listed' k ((dd, .bool q) :: (c, .bool false) :: E) I L → C0 P f n I₀ Q ops S fuel listed k ((c, .bool false) :: E) I L)
  (hT : b = true → C0 P f n I₀ Q ops S fuel' listed' k ((dd, .bool true) :: (c, .bool true) :: E) I L → C0 P f n I₀ Q ops S fuel listed k ((c, .bool true) :: E) I L)
  (hk : C0 P f n I₀ Q ops S fuel' listed' k ((dd, .bool (b || q)) :: E) I L) : C0 P f n I₀ Q ops S fuel listed k E I L := by
 cases b with
 | true => exact Vy hc (hT rfl (Vx hc hk))
 | false => exact Vy hc (hF rfl (Vx hc hk))

end rules

def E2 (v : Value) (I : Heap) (L : Bj) : Cv := fun u I' L' => v = u ∧ I = I' ∧ L = L'
theorem Aa6 {I I₀ : Heap} {L L₀ : Bj} {v u : Value} (hI : I = I₀) (hm : ∀ w, Mem I L w → Mem I₀ L₀ w) (h : v = u) : ∃ I' L', HLe I₀ I' ∧ (∀ w, Mem I L w → Mem I' L' w) ∧ E2 u I₀ L₀ v I' L' := by
 subst hI; exact ⟨I, L₀, .refl _, hm, h.symm, rfl, rfl⟩

section
variable {P : Program} {E : Hg} {I : Heap} {L : Bj}
/- The same, with what is asked looked for. -/
theorem RetOk.c {t T : Nat} {a : Addr} {v : Value} {rs : List ResultVar} {vs : List Value} (h : look E t = some (.pointer (some a))) (r : RetOk P E I L rs vs)
  (hl : Gh P I L T a v := by first | exact Be (by assumption) rfl | exact Ih (by repeat first | exact .head _ | apply List.Mem.tail | apply List.mem_append_right) (by rfl) | exact El (by repeat first | exact .head _ | apply List.Mem.tail | apply List.mem_append_right) (by rfl) rfl | exact Ew (by assumption) (by rfl) | exact Bi (by assumption) (by rfl) rfl) : RetOk P E I L (.cell t T :: rs) (v :: vs) := .cell h hl r
theorem Cl {I' : Heap} {L' : Bj} (hm : ∀ w, Mem I L w → Mem I' L' w := by intro _ h; first | exact h | exact dr1 h | exact dr2 h | exact dr3 h | exact dr4 h | exact dr5 h | exact Oo h | exact Oo h.drop | exact Oo h.drop.drop | exact Oo h.drop.drop.drop) : ∀ w, Mem I L w → Mem I' L' w := hm
theorem only {I₀ : Heap} {L₀ : Bj} {v u : Value} (hI : I = I₀) (h : v = u) (hm : ∀ w, Mem I L w → Mem I₀ L₀ w := by intro _ h; first | exact h | exact dr1 h | exact dr2 h | exact dr3 h | exact dr4 h | exact dr5 h | exact Oo h | exact Oo h.drop | exact Oo h.drop.drop | exact Oo h.drop.drop.drop) : ∃ I' L', HLe I₀ I' ∧ (∀ w, Mem I L w → Mem I' L' w) ∧ E2 u I₀ L₀ v I' L' := Aa6 hI hm h
end
/- The same rules, with what is asked of memory looked for. -/
section rules
variable {P : Program} {f : FuncId} {n : Nat} {I₀ : Heap} {Q : Cv} {k : List Item} {E : Hg} {I : Heap} {L : Bj}
variable {ops : Array Oper} {d : Nat} {ty : TypeId} {pos : String} {af : Array Edge} {g : Option (Nat × Bool)} {l : List Oper}
theorem Ea {I' : Heap} {L' : Bj} {T : TypeId} {x : Operand} {ad : Addr} {v : Value} (hx : Ch E x = some (.pointer (some ad))) (hl : Gh P I' L' T ad v := by exact (Ih (by repeat first | exact .head _ | apply List.Mem.tail | apply List.mem_append_right) (by rfl))) : Ia P E (Mem I' L') ⟨some d, .load T x, ty, pos, af, g⟩ v := Fs hx hl
theorem Az {T : TypeId} {x : Operand} {ad : Addr} {v : Value} (hx : Ch E x = some (.pointer (some ad))) (hg : Wants ops E g) (hdn : Nat.blt d n = true) (h : A8 P f n I₀ Q ops l k ((d, v) :: E) I L) (hl : Gh P I L T ad v := by exact (Ih (by repeat first | exact .head _ | apply List.Mem.tail | apply List.mem_append_right) (by rfl))) : A8 P f n I₀ Q ops (⟨some d, .load T x, ty, pos, af, g⟩ :: l) k E I L := Cp hx hl hg hdn h
theorem Bo {I' : Heap} {L' : Bj} {T : TypeId} {x : Operand} {ad : Addr} {v : Value} (hx : Ch E x = some (.pointer (some ad))) (hl : Gh P I' L' T ad v := by exact (El (by repeat first | exact .head _ | apply List.Mem.tail | apply List.mem_append_right) (by rfl) rfl)) : Ia P E (Mem I' L') ⟨some d, .load T x, ty, pos, af, g⟩ v := Fs hx hl
theorem Bv {T : TypeId} {x : Operand} {ad : Addr} {v : Value} (hx : Ch E x = some (.pointer (some ad))) (hg : Wants ops E g) (hdn : Nat.blt d n = true) (h : A8 P f n I₀ Q ops l k ((d, v) :: E) I L) (hl : Gh P I L T ad v := by exact (El (by repeat first | exact .head _ | apply List.Mem.tail | apply List.mem_append_right) (by rfl) rfl)) : A8 P f n I₀ Q ops (⟨some d, .load T x, ty, pos, af, g⟩ :: l) k E I L := Cp hx hl hg hdn h
theorem C5 {I' : Heap} {L' : Bj} {T : TypeId} {x : Operand} {ad : Addr} {v : Value} (hx : Ch E x = some (.pointer (some ad))) (hl : Gh P I' L' T ad v := by first | exact Ew (FormAt.st (by assumption) _ (by first | omega | decide | (simp; done) | exact Fx (by assumption) (by decide))) (by rfl) | exact Ew (by assumption) (by rfl) | exact Ye (Jj (by assumption) (by intro _ h; first | exact h | exact dr1 h | exact dr2 h | exact dr3 h | exact dr4 h | exact dr5 h | exact Oo h | exact Oo h.drop | exact Oo h.drop.drop | exact Oo h.drop.drop.drop)) (by rfl)) : Ia P E (Mem I' L') ⟨some d, .load T x, ty, pos, af, g⟩ v := Fs hx hl
theorem Gv {T : TypeId} {x : Operand} {ad : Addr} {v : Value} (hx : Ch E x = some (.pointer (some ad))) (hg : Wants ops E g) (hdn : Nat.blt d n = true) (h : A8 P f n I₀ Q ops l k ((d, v) :: E) I L) (hl : Gh P I L T ad v := by first | exact Ew (FormAt.st (by assumption) _ (by first | omega | decide | (simp; done) | exact Fx (by assumption) (by decide))) (by rfl) | exact Ew (by assumption) (by rfl) | exact Ye (Jj (by assumption) (by intro _ h; first | exact h | exact dr1 h | exact dr2 h | exact dr3 h | exact dr4 h | exact dr5 h | exact Oo h | exact Oo h.drop | exact Oo h.drop.drop | exact Oo h.drop.drop.drop)) (by rfl)) : A8 P f n I₀ Q ops (⟨some d, .load T x, ty, pos, af, g⟩ :: l) k E I L := Cp hx hl hg hdn h
theorem T0 {I' : Heap} {L' : Bj} {T : TypeId} {x : Operand} {ad : Addr} {v : Value} (hx : Ch E x = some (.pointer (some ad))) (hl : Gh P I' L' T ad v := by first | exact Fl rfl (RStrs.st (by assumption) _ (by first | omega | decide | (simp; done) | exact Fx (by assumption) (by decide))) | exact Fl rfl (Jj (RStrs.st (by assumption) _ (by first | omega | decide | (simp; done) | exact Fx (by assumption) (by decide))) (by intro _ h; first | exact h | exact dr1 h | exact dr2 h | exact dr3 h | exact dr4 h | exact dr5 h | exact Oo h | exact Oo h.drop | exact Oo h.drop.drop | exact Oo h.drop.drop.drop)) | exact Be (Nums.st (by assumption) _ (by first | omega | decide | (simp; done) | exact Fx (by assumption) (by decide))) rfl | exact Be (Strs.st (by assumption) _ (by first | omega | decide | (simp; done) | exact Fx (by assumption) (by decide))) rfl | exact Be (Raw.st (by assumption) _ (by first | omega | decide | (simp; done) | exact Fx (by assumption) (by decide))) rfl | exact Be (by assumption) rfl | exact Fl rfl (by assumption)) : Ia P E (Mem I' L') ⟨some d, .load T x, ty, pos, af, g⟩ v := Fs hx hl
theorem Er {T : TypeId} {x : Operand} {ad : Addr} {v : Value} (hx : Ch E x = some (.pointer (some ad))) (hg : Wants ops E g) (hdn : Nat.blt d n = true) (h : A8 P f n I₀ Q ops l k ((d, v) :: E) I L) (hl : Gh P I L T ad v := by first | exact Fl rfl (RStrs.st (by assumption) _ (by first | omega | decide | (simp; done) | exact Fx (by assumption) (by decide))) | exact Fl rfl (Jj (RStrs.st (by assumption) _ (by first | omega | decide | (simp; done) | exact Fx (by assumption) (by decide))) (by intro _ h; first | exact h | exact dr1 h | exact dr2 h | exact dr3 h | exact dr4 h | exact dr5 h | exact Oo h | exact Oo h.drop | exact Oo h.drop.drop | exact Oo h.drop.drop.drop)) | exact Be (Nums.st (by assumption) _ (by first | omega | decide | (simp; done) | exact Fx (by assumption) (by decide))) rfl | exact Be (Strs.st (by assumption) _ (by first | omega | decide | (simp; done) | exact Fx (by assumption) (by decide))) rfl | exact Be (Raw.st (by assumption) _ (by first | omega | decide | (simp; done) | exact Fx (by assumption) (by decide))) rfl | exact Be (by assumption) rfl | exact Fl rfl (by assumption)) : A8 P f n I₀ Q ops (⟨some d, .load T x, ty, pos, af, g⟩ :: l) k E I L := Cp hx hl hg hdn h
theorem Ahn {I' : Heap} {L' : Bj} {T : TypeId} {x : Operand} {ad : Addr} {v : Value} (hx : Ch E x = some (.pointer (some ad))) (hl : Gh P I' L' T ad v := by first | exact Ou (FormAt.st (by assumption) _ (by first | omega | decide | (simp; done) | exact Fx (by assumption) (by decide))) (by rfl) | exact Ou (by assumption) (by rfl)) : Ia P E (Mem I' L') ⟨some d, .load T x, ty, pos, af, g⟩ v := Fs hx hl
theorem Kb {I' : Heap} {L' : Bj} {T : TypeId} {x : Operand} {ad : Addr} {v : Value} (hx : Ch E x = some (.pointer (some ad))) (hl : Gh P I' L' T ad v := by first | exact Bi (FormAt.st (by assumption) _ (by first | omega | decide | (simp; done) | exact Fx (by assumption) (by decide))) (by rfl) rfl | exact Bi (by assumption) (by rfl) rfl | exact U4 (Jj (by assumption) (by intro _ h; first | exact h | exact dr1 h | exact dr2 h | exact dr3 h | exact dr4 h | exact dr5 h | exact Oo h | exact Oo h.drop | exact Oo h.drop.drop | exact Oo h.drop.drop.drop)) (by rfl) rfl) : Ia P E (Mem I' L') ⟨some d, .load T x, ty, pos, af, g⟩ v := Fs hx hl
theorem Gj {T : TypeId} {x : Operand} {ad : Addr} {v : Value} (hx : Ch E x = some (.pointer (some ad))) (hg : Wants ops E g) (hdn : Nat.blt d n = true) (h : A8 P f n I₀ Q ops l k ((d, v) :: E) I L) (hl : Gh P I L T ad v := by first | exact Bi (FormAt.st (by assumption) _ (by first | omega | decide | (simp; done) | exact Fx (by assumption) (by decide))) (by rfl) rfl | exact Bi (by assumption) (by rfl) rfl | exact U4 (Jj (by assumption) (by intro _ h; first | exact h | exact dr1 h | exact dr2 h | exact dr3 h | exact dr4 h | exact dr5 h | exact Oo h | exact Oo h.drop | exact Oo h.drop.drop | exact Oo h.drop.drop.drop)) (by rfl) rfl) : A8 P f n I₀ Q ops (⟨some d, .load T x, ty, pos, af, g⟩ :: l) k E I L := Cp hx hl hg hdn h
theorem P8 {I' : Heap} {L' : Bj} {T : TypeId} {x : Operand} {ad : Addr} {v : Value} (hx : Ch E x = some (.pointer (some ad))) (hl : Gh P I' L' T ad v := by first | exact El (by repeat first | exact .head _ | apply List.Mem.tail | apply List.mem_append_right) (by rfl) rfl | exact Ih (by repeat first | exact .head _ | apply List.Mem.tail | apply List.mem_append_right) (by rfl) | exact Ew (FormAt.st (by assumption) _ (by omega)) (by rfl) | exact Bi (FormAt.st (by assumption) _ (by omega)) (by rfl) rfl | exact Be (Nums.st (by assumption) _ (by omega)) rfl | exact Be (Strs.st (by assumption) _ (by omega)) rfl | exact Be (by assumption) rfl | exact Ew (by assumption) (by rfl) | exact Bi (by assumption) (by rfl) rfl) : Ia P E (Mem I' L') ⟨some d, .load T x, ty, pos, af, g⟩ v := Fs hx hl
theorem L8 {T : TypeId} {x : Operand} {ad : Addr} {v : Value} (hx : Ch E x = some (.pointer (some ad))) (hg : Wants ops E g) (hdn : Nat.blt d n = true) (h : A8 P f n I₀ Q ops l k ((d, v) :: E) I L) (hl : Gh P I L T ad v := by first | exact El (by repeat first | exact .head _ | apply List.Mem.tail | apply List.mem_append_right) (by rfl) rfl | exact Ih (by repeat first | exact .head _ | apply List.Mem.tail | apply List.mem_append_right) (by rfl) | exact Ew (FormAt.st (by assumption) _ (by omega)) (by rfl) | exact Bi (FormAt.st (by assumption) _ (by omega)) (by rfl) rfl | exact Be (Nums.st (by assumption) _ (by omega)) rfl | exact Be (Strs.st (by assumption) _ (by omega)) rfl | exact Be (by assumption) rfl | exact Ew (by assumption) (by rfl) | exact Bi (by assumption) (by rfl) rfl) : A8 P f n I₀ Q ops (⟨some d, .load T x, ty, pos, af, g⟩ :: l) k E I L := Cp hx hl hg hdn h
theorem Ra {I' : Heap} {L' : Bj} {T : TypeId} {x : Operand} {ad : Addr} {v : Value} (hx : Ch E x = some (.pointer (some ad))) (hl : Gh P I' L' T ad v := by first | exact Be (by assumption) rfl | exact Ih (by repeat first | exact .head _ | apply List.Mem.tail | apply List.mem_append_right) (by rfl) | exact El (by repeat first | exact .head _ | apply List.Mem.tail | apply List.mem_append_right) (by rfl) rfl | exact Ew (by assumption) (by rfl) | exact Bi (by assumption) (by rfl) rfl) : Ia P E (Mem I' L') ⟨some d, .load T x, ty, pos, af, g⟩ v := Fs hx hl
theorem C1 {T : TypeId} {x : Operand} {ad : Addr} {v : Value} (hx : Ch E x = some (.pointer (some ad))) (hg : Wants ops E g) (hdn : Nat.blt d n = true) (h : A8 P f n I₀ Q ops l k ((d, v) :: E) I L) (hl : Gh P I L T ad v := by first | exact Be (by assumption) rfl | exact Ih (by repeat first | exact .head _ | apply List.Mem.tail | apply List.mem_append_right) (by rfl) | exact El (by repeat first | exact .head _ | apply List.Mem.tail | apply List.mem_append_right) (by rfl) rfl | exact Ew (by assumption) (by rfl) | exact Bi (by assumption) (by rfl) rfl) : A8 P f n I₀ Q ops (⟨some d, .load T x, ty, pos, af, g⟩ :: l) k E I L := Cp hx hl hg hdn h
theorem By {T U : TypeId} {x y : Operand} {b off : Nat} {v : Value} {vs cs us : List Value} {L' : Bj} {dd : TypeDesc} {sz bb : Nat} {z : List Value} [ht : At P T dd sz bb z]
  (hx : Ch E x = some (.pointer (some ⟨b, off, none⟩))) (hy : Ch E y = some v) (hv : Gc v = some vs) (hl : vs.length = sz) (hg : Wants ops E g) (h : A8 P f n I₀ Q ops l k E I L')
  (hp : vs.all C6 = true := by first | rfl | (simp only [List.toList_toArray, List.all_cons, List.all_nil, H8, Bool.and_true, Bool.true_and] <;> rfl)) (hu : Upd b (.cells us.toArray U (0, 0)) (.cells cs.toArray U (0, 0)) L L' := by first | exact u0 | exact u1 | exact u2 | exact u3 | exact u4 | exact u5 | exact u6) (hus : M1 off vs cs = some us := by rfl) : A8 P f n I₀ Q ops (⟨none, .store T x y, ty, pos, af, g⟩ :: l) k E I L := Wn hx hy hv hl hp hu hus hg h
theorem Agh {S : World → Prop} {fuel : Nat} {listed listed' : Array Bool} (i : Nat) {T U : TypeId} {x y : Operand} {b off : Nat} {v : Value} {vs cs us : List Value} {L' : Bj} {dd : TypeDesc} {sz bb : Nat} {z : List Value} [ht : At P T dd sz bb z]
  (hi : ops[i]? = some ⟨none, .store T x y, ty, pos, af, g⟩) (hc : decide (Region.ready .any ops listed = [i]) = true) (hl' : listed' = listed.setIfInBounds i true)
  (hx : Ch E x = some (.pointer (some ⟨b, off, none⟩))) (hy : Ch E y = some v) (hv : Gc v = some vs) (hl : vs.length = sz) (hg : Wants ops E g) (hS : F6 ops listed' = true ∨ ∀ w, Mem I L' w → S w) (h : C0 P f n I₀ Q ops S fuel listed' k E I L')
  (hp : vs.all C6 = true := by first | rfl | (simp only [List.toList_toArray, List.all_cons, List.all_nil, H8, Bool.and_true, Bool.true_and] <;> rfl)) (hu : Upd b (.cells us.toArray U (0, 0)) (.cells cs.toArray U (0, 0)) L L' := by first | exact u0 | exact u1 | exact u2 | exact u3 | exact u4 | exact u5 | exact u6) (hus : M1 off vs cs = some us := by rfl) : C0 P f n I₀ Q ops S (fuel + 1) listed k E I L := Aaf i hi hc hl' hx hy hv hl hp hu hus hg hS h
theorem nb : (∀ a b : Bool, ((a && b) = true) = (a = true ∧ b = true)) ∧ (∀ a b : Bool, ((a || b) = true) = (a = true ∨ b = true)) ∧ (∀ a : Bool, ((!a) = true) = (a = false)) ∧ (∀ a : Bool, ((!a) = false) = (a = true)) ∧ (∀ a b : Bool, ((a && b) = false) = (a = false ∨ b = false)) ∧ (∀ a b : Bool, ((a || b) = false) = (a = false ∧ b = false)) ∧ (∀ (p : Prop) [Decidable p], (decide p = true) = p) ∧ (∀ (p : Prop) [Decidable p], (decide p = false) = ¬ p) := by
 exact ⟨fun a b => by cases a <;> cases b <;> simp, fun a b => by cases a <;> cases b <;> simp, fun a => by cases a <;> simp, fun a => by cases a <;> simp, fun a b => by cases a <;> cases b <;> simp, fun a b => by cases a <;> cases b <;> simp, fun p _ => by simp, fun p _ => by simp⟩
end rules

section
variable {P : Program} {f : FuncId} {n : Nat} {I₀ : Heap} {Q : Cv} {k : List Item} {E : Hg} {I : Heap} {L : Bj} {ops : Array Oper} {d : Nat} {ty : TypeId} {pos : String} {af : Array Edge} {l : List Oper}
theorem Oc {op : BinOp} {T T' : TypeId} {x y : Operand} {kk : IntKind} {a b : Int} {r : Bool} (hx : Ch E x = some (.int kk a)) (hy : Ch E y = some (.int kk b)) (hr : Sj op a b = some r) (h : A8 P f n I₀ Q ops l k ((d, .bool r) :: E) I L) (hdn : Nat.blt d n = true := by rfl) : A8 P f n I₀ Q ops (⟨some d, .binOp op T x y T', ty, pos, af, none⟩ :: l) k E I L := D8 hx hy hr .free hdn h
theorem Od {op : BinOp} {T T' : TypeId} {x y : Operand} {a b : List UInt8} {r : Bool} (hx : Ch E x = some (.string (str a))) (hy : Ch E y = some (.string (str b))) (hr : Vv op a b = some r) (h : A8 P f n I₀ Q ops l k ((d, .bool r) :: E) I L) (hdn : Nat.blt d n = true := by rfl) : A8 P f n I₀ Q ops (⟨some d, .binOp op T x y T', ty, pos, af, none⟩ :: l) k E I L := F9 hx hy hr .free hdn h
theorem Of {c x y : Operand} {v : Value} (hc : Ch E c = some (.bool false)) (hx : Ch E y = some v) (h : A8 P f n I₀ Q ops l k ((d, v) :: E) I L) (hdn : Nat.blt d n = true := by rfl) : A8 P f n I₀ Q ops (⟨some d, .pick c x y, ty, pos, af, none⟩ :: l) k E I L := D5 hc hx .free hdn h
theorem Ot {c x y : Operand} {v : Value} (hc : Ch E c = some (.bool true)) (hx : Ch E x = some v) (h : A8 P f n I₀ Q ops l k ((d, v) :: E) I L) (hdn : Nat.blt d n = true := by rfl) : A8 P f n I₀ Q ops (⟨some d, .pick c x y, ty, pos, af, none⟩ :: l) k E I L := Em hc hx .free hdn h
theorem Oe {x : Operand} {vs : List Value} {i : Nat} {v : Value} (hx : Ch E x = some (.tuple vs.toArray)) (hi : vs[i]? = some v) (h : A8 P f n I₀ Q ops l k ((d, v) :: E) I L) (hdn : Nat.blt d n = true := by rfl) : A8 P f n I₀ Q ops (⟨some d, .extract x i, ty, pos, af, none⟩ :: l) k E I L := Abx hx hi .free hdn h
theorem Or {op : BinOp} {T T' : TypeId} {x y : Operand} {a b m : Int} (hx : Ch E x = some (.int .i64 a)) (hy : Ch E y = some (.int .i64 b)) (hr : Aac op a b = some m) (h : A8 P f n I₀ Q ops l k ((d, .int .i64 m) :: E) I L) (hb : -9223372036854775808 ≤ m ∧ m ≤ 9223372036854775807 := by omega) (hdn : Nat.blt d n = true := by rfl) : A8 P f n I₀ Q ops (⟨some d, .binOp op T x y T', ty, pos, af, none⟩ :: l) k E I L := N2 hx hy hr hb .free hdn h
theorem Ok {T T' : TypeId} {x y : Operand} {a b : List UInt8} (hx : Ch E x = some (.string (str a))) (hy : Ch E y = some (.string (str b))) (h : A8 P f n I₀ Q ops l k ((d, .string (str (a ++ b))) :: E) I L) (hb : a.length + b.length ≤ 9223372036854775807 := by first | omega | (simp only [List.length_append, List.length_cons, List.length_nil]; omega) | (simp; omega)) (hdn : Nat.blt d n = true := by rfl) : A8 P f n I₀ Q ops (⟨some d, .binOp .add T x y T', ty, pos, af, none⟩ :: l) k E I L := Ad5 hx hy hb .free hdn h
theorem Ol {T e : TypeId} {parts : Array (Nat × Operand)} {is : List Nat} {vs us : List Value} {m : Nat} {sz bb esz ebb : Nat} {z ez : List Value} {dd : TypeDesc} [ht : At P T (.slice e) sz bb z] [hte : At P e dd esz ebb ez] (hp : parts.toList.map (·.1) = is) (ho : I9 E (parts.toList.map (·.2)) = some vs)
  (h : ∀ b, A8 P f n I₀ Q ops l k ((d, .slice (some ⟨b, 0, none⟩) m m) :: E) I ((b, .cells us.toArray e (0, 0)) :: L)) (hr : is = List.range' 0 vs.length := by rfl) (hm : vs.length = m := by rfl) (hfl : Pp esz vs = some us := by rfl) (hm0 : m * esz ≠ 0 := by decide) (hm1 : m * esz ≤ 2 ^ 24 := by decide) (hez : ez.length = esz := by rfl) (hdn : Nat.blt d n = true := by rfl) :
  A8 P f n I₀ Q ops (⟨some d, .buildSlice T m parts, ty, pos, af, none⟩ :: l) k E I L := Agu hp ho hr hm hfl hm0 hm1 hez .free hdn h
theorem On {x : Operand} {ad : Option Addr} {m c : Nat} {e T : TypeId} {sz bb : Nat} {z : List Value} [ht : At P T (.slice e) sz bb z] (hx : Ch E x = some (.slice ad m c)) (h : A8 P f n I₀ Q ops l k ((d, .int .i64 (m : Nat)) :: E) I L) (hdn : Nat.blt d n = true := by rfl) : A8 P f n I₀ Q ops (⟨some d, .call ⟨.builtin .len, #[x], #[T]⟩, ty, pos, af, none⟩ :: l) k E I L := Nj hx .free hdn h
theorem Oh {T : TypeId} {i off : Nat} [hf : Cz P T i off] {x : Operand} {b o : Nat} (hx : Ch E x = some (.pointer (some ⟨b, o, none⟩))) (h : A8 P f n I₀ Q ops l k ((d, .pointer (some ⟨b, o + off, none⟩)) :: E) I L) (hdn : Nat.blt d n = true := by rfl) : A8 P f n I₀ Q ops (⟨some d, .fieldAddr T x i, ty, pos, af, none⟩ :: l) k E I L := Cj hx .free hdn h
theorem Oj {T : TypeId} {i off : Nat} [hf : Cz P T i off] {x : Operand} {ad : Addr} (hx : Ch E x = some (.pointer (some ad))) (h : A8 P f n I₀ Q ops l k ((d, .pointer (some (ad.add off))) :: E) I L) (hdn : Nat.blt d n = true := by rfl) : A8 P f n I₀ Q ops (⟨some d, .fieldAddr T x i, ty, pos, af, none⟩ :: l) k E I L := Bh hx .free hdn h
theorem Ow {x : Operand} {v : Value} {g : Option (Nat × Bool)} (hx : Ch E x = some v) (h : A8 P f n I₀ Q ops l k ((d, v) :: E) I L) (hg : Wants ops E g := by exact .met rfl rfl) (hdn : Nat.blt d n = true := by rfl) : A8 P f n I₀ Q ops (⟨some d, .move x, ty, pos, af, g⟩ :: l) k E I L := Ad9 hx hg hdn h
class Cnd (b : Bool) (p q : outParam Prop) : Prop where
 pos : b = true → p
 neg : b = false → q
 tru : p → b = true
 fls : q → b = false
instance (priority := low) (b : Bool) : Cnd b (b = true) (b = false) := ⟨id, id, id, id⟩
instance (p : Prop) [Decidable p] : Cnd (decide p) p (¬ p) := ⟨of_decide_eq_true, of_decide_eq_false, decide_eq_true, decide_eq_false⟩
instance (p : Prop) [Decidable p] : Cnd (!decide p) (¬ p) p := ⟨fun h => by simpa using h, fun h => by simpa using h, fun h => by simpa using h, fun h => by simpa using h⟩
theorem Si {c : Operand} {x y : Code} {b : Bool} {p q : Prop} [hb : Cnd b p q] (hc : Ch E c = some (.bool b)) (ht : p → RunS P f n I₀ Q (.code x :: k) E I L) (hf : q → RunS P f n I₀ Q (.code y :: k) E I L) : RunS P f n I₀ Q (.code (.cond c x y) :: k) E I L := A6 hc (fun h => ht (hb.pos h)) (fun h => hf (hb.neg h))
theorem Ca {kf : FuncId} {args : Array Operand} {tys : Array TypeId} {vs : List Value} {Q' : Cv} {c : Code} {m : Nat} {rs : List ResultVar} [hf : Bq P kf c m rs] (ha : I9 E args.toList = some vs) (hF : Fun P kf vs I L Q') (h : ∀ v I' L', HLe I I' → Q' v I' L' → A8 P f n I₀ Q ops l k ((d, v) :: E) I' L') (hdn : Nat.blt d n = true := by rfl) : A8 P f n I₀ Q ops (⟨some d, .call ⟨.value (.func kf), args, tys⟩, ty, pos, af, none⟩ :: l) k E I L := Cx ha .free hdn hF h
theorem Dc {S : World → Prop} {fuel : Nat} {listed : Array Bool} (i : Nat) {kf : FuncId} {args : Array Operand} {tys : Array TypeId} {vs : List Value} {Q' : Cv} {c : Code} {m : Nat} {rs : List ResultVar} [hf : Bq P kf c m rs] (hi : ops[i]? = some ⟨some d, .call ⟨.value (.func kf), args, tys⟩, ty, pos, af, none⟩) (ha : I9 E args.toList = some vs) (hF : Fun P kf vs I L Q')
  (h : ∀ v I' L', HLe I I' → Q' v I' L' → (F6 ops (listed.setIfInBounds i true) = true ∨ ∀ w, Mem I' L' w → S w) ∧ C0 P f n I₀ Q ops S fuel (listed.setIfInBounds i true) k ((d, v) :: E) I' L') (hc : decide (Region.ready .any ops listed = [i]) = true := by kernel_rfl) (hdn : Nat.blt d n = true := by rfl) : C0 P f n I₀ Q ops S (fuel + 1) listed k E I L := Lf i hi hc rfl ha .free hdn hF h
theorem Dx {S : World → Prop} {fuel : Nat} {listed : Array Bool} (i : Nat) {T U : TypeId} {x y : Operand} {b off : Nat} {v : Value} {vs cs us : List Value} {L' : Bj} {dd : TypeDesc} {sz bb : Nat} {z : List Value} [ht : At P T dd sz bb z] (hi : ops[i]? = some ⟨none, .store T x y, ty, pos, af, none⟩) (hx : Ch E x = some (.pointer (some ⟨b, off, none⟩))) (hy : Ch E y = some v) (hv : Gc v = some vs)
  (h : C0 P f n I₀ Q ops S fuel (listed.setIfInBounds i true) k E I L') (hc : decide (Region.ready .any ops listed = [i]) = true := by kernel_rfl) (hl : vs.length = sz := by rfl) (hS : F6 ops (listed.setIfInBounds i true) = true := by kernel_rfl) (hp : vs.all C6 = true := by first | rfl | (simp only [List.toList_toArray, List.all_cons, List.all_nil, H8, Bool.and_true, Bool.true_and] <;> rfl)) (hu : Upd b (.cells us.toArray U (0, 0)) (.cells cs.toArray U (0, 0)) L L' := by first | exact u0 | exact u1 | exact u2 | exact u3 | exact u4 | exact u5 | exact u6) (hus : M1 off vs cs = some us := by rfl) : C0 P f n I₀ Q ops S (fuel + 1) listed k E I L := Aaf i hi hc rfl hx hy hv hl hp hu hus .free (.inl hS) h
theorem Db {S : World → Prop} {fuel : Nat} {listed : Array Bool} (i : Nat) {op : Op} {v : Value} (hi : ops[i]? = some ⟨some d, op, ty, pos, af, none⟩) (hx : Ia P E (fun _ => True) ⟨some d, op, ty, pos, af, none⟩ v)
  (h : C0 P f n I₀ Q ops S fuel (listed.setIfInBounds i true) k ((d, v) :: E) I L) (hc : Ji ops listed i = true := by kernel_rfl) (hS : F6 ops listed = true := by kernel_rfl) (hdn : Nat.blt d n = true := by rfl) : C0 P f n I₀ Q ops S (fuel + 1) listed k E I L := G1 i hi hc rfl (.inl hS) hx .free hdn h
theorem Dm {S : World → Prop} {fuel : Nat} {listed : Array Bool} (i : Nat) {op : Op} {v : Value} {g : Option (Nat × Bool)} (hi : ops[i]? = some ⟨some d, op, ty, pos, af, g⟩) (hx : Ia P E (fun _ => True) ⟨some d, op, ty, pos, af, g⟩ v)
  (h : C0 P f n I₀ Q ops S fuel (listed.setIfInBounds i true) k ((d, v) :: E) I L) (hc : Ji ops listed i = true := by kernel_rfl) (hS : F6 ops listed = true ∨ ∀ w, Mem I L w → S w := by exact .inr Au) (hg : Wants ops E g := by exact .met rfl rfl) (hdn : Nat.blt d n = true := by rfl) : C0 P f n I₀ Q ops S (fuel + 1) listed k E I L := G1 i hi hc rfl hS hx hg hdn h
theorem Yk {S : World → Prop} {g : Option (Nat × Bool)} {T T' : TypeId} {x y : Operand} {a b : List UInt8} (hx : Ch E x = some (.string (str a))) (hy : Ch E y = some (.string (str b))) (hb : a.length + b.length ≤ 9223372036854775807 := by first | omega | (simp only [List.length_append, List.length_cons, List.length_nil]; omega) | (simp; omega)) : Ia P E S ⟨some d, .binOp .add T x y T', ty, pos, af, g⟩ (.string (str (a ++ b))) := Y7 hx hy hb
theorem Hx {p : Prop} {I : Heap} {L : Bj} {S : World → Prop} {B : Prop} (h : p) (hS : B ∨ ∀ w, Mem I L w → S w := by exact .inr Au) : (B ∨ ∀ w, Mem I L w → S w) ∧ p := ⟨hS, h⟩
theorem Sf {c : Operand} {x y : Code} {b : Bool} {p q : Prop} [hb : Cnd b p q] (hc : Ch E c = some (.bool b)) (hq : q) (h : RunS P f n I₀ Q (.code y :: k) E I L) : RunS P f n I₀ Q (.code (.cond c x y) :: k) E I L := A0 (by rw [hc, hb.fls hq]) h
theorem St {c : Operand} {x y : Code} {b : Bool} {p q : Prop} [hb : Cnd b p q] (hc : Ch E c = some (.bool b)) (hp : p) (h : RunS P f n I₀ Q (.code x :: k) E I L) : RunS P f n I₀ Q (.code (.cond c x y) :: k) E I L := B9 (by rw [hc, hb.tru hp]) h
theorem Ms {L' : Bj} (hs : L'.Sublist L := by repeat (first | exact List.Sublist.refl _ | apply List.Sublist.cons_cons | apply List.Sublist.cons)) : ∀ w, Mem I L w → Mem I L' w := fun _ h => Mem.sub hs h
end
set_option maxRecDepth 100000
def Ba (P : Program) (T : TypeId) : Array Field := match P.underlying T with
 | some (.struct fs) => fs
 | _ => #[]
theorem Fi {P : Program} {f : FuncId} {n : Nat} {rs : List ResultVar} {fn : Func} (h : P.funcs[f]? = some fn) (h1 : fn.body = some (fn.body.getD .skip) := by kernel_rfl) (h2 : fn.ntmps = n := by kernel_rfl) (h3 : fn.results = rs.toArray := by kernel_rfl) (h4 : (fn.name == "runtime.NumGoroutine") = false := by kernel_rfl) : Bq P f (fn.body.getD .skip) n rs := ⟨fn, h, h1, h2, h3, h4⟩
theorem Ti {P : Program} {T : TypeId} {d : TypeDesc} {s b : Nat} {z : List Value} (h1 : P.underlying T = some d := by kernel_rfl) (h2 : (P.info? T).map (fun i => (i.size, i.bytes, i.zero.map fun v => v.cells.toList)) = some (s, b, some z) := by kernel_rfl) : At P T d s b z := ⟨h1, by
 cases hi : P.info? T with
 | none => rw [hi] at h2; cases h2
 | some i =>
  rw [hi] at h2
  simp only [Option.map_some, Option.some.injEq, Prod.mk.injEq] at h2
  obtain ⟨h3, h4, h5⟩ := h2; obtain ⟨v, hv, hz⟩ := Option.map_eq_some_iff.1 h5
  exact ⟨i, v, rfl, h3, h4, hv, hz⟩⟩
theorem SiZ {P : Program} {T : TypeId} {l : List (Nat × Nat)} (h1 : P.underlying T = some (.struct (Ba P T)) := by kernel_rfl) (h2 : ∀ w, ((Ba P T).mapM fun f => do pure (f.offset, ← sizeOf f.type) : Sem (Array (Nat × Nat))).run P w = .ok l.toArray w := by intro _; kernel_rfl) : Fm P T l := ⟨Ba P T, h1, h2⟩
theorem Di {P : Program} {S : TypeId} {i off : Nat} {fld : Field} {inf : TypeInfo} (h1 : (Ba P S)[i]? = some fld) (h2 : P.info? fld.type = some inf) (h3 : inf.size ≠ 0 := by decide) (h4 : fld.offset = off := by kernel_rfl) (h : P.underlying S = some (.struct (Ba P S)) := by kernel_rfl) : Cz P S i off := ⟨Ba P S, fld, inf, h, h1, h2, h3, h4⟩
instance : Bq Tryz.prog 9 (Tryz.f9.body.getD .skip) 89 [.tmp 2] := Fi Tryz.func9
instance : Bq Tryz.prog 10 (Tryz.f10.body.getD .skip) 6 [.tmp 2] := Fi Tryz.func10
instance : Bq Tryz.prog 11 (Tryz.f11.body.getD .skip) 15 [.tmp 2] := Fi Tryz.func11
instance : Bq Tryz.prog 13 (Tryz.f13.body.getD .skip) 43 [.tmp 4, .tmp 5, .tmp 6] := Fi Tryz.func13
instance : Bq Tryz.prog 14 (Tryz.f14.body.getD .skip) 23 [.tmp 2, .tmp 3] := Fi Tryz.func14
instance : Bq Tryz.prog 15 (Tryz.f15.body.getD .skip) 30 [.tmp 2, .tmp 3] := Fi Tryz.func15
instance : Bq Tryz.prog 17 (Tryz.f17.body.getD .skip) 40 [.tmp 4, .tmp 5, .tmp 6] := Fi Tryz.func17
instance : Bq Tryz.prog 18 (Tryz.f18.body.getD .skip) 21 [.tmp 2, .tmp 3] := Fi Tryz.func18
instance : Bq Tryz.prog 19 (Tryz.f19.body.getD .skip) 43 [.tmp 6, .tmp 7] := Fi Tryz.func19
instance : Bq Tryz.prog 22 (Tryz.f22.body.getD .skip) 16 [.tmp 2] := Fi Tryz.func22
instance : Bq Tryz.prog 23 (Tryz.f23.body.getD .skip) 23 [.tmp 2] := Fi Tryz.func23
instance : Bq Tryz.prog 24 (Tryz.f24.body.getD .skip) 30 [.tmp 2] := Fi Tryz.func24
instance : Bq Tryz.prog 25 (Tryz.f25.body.getD .skip) 23 [.tmp 2, .tmp 3] := Fi Tryz.func25
instance : Bq Tryz.prog 26 (Tryz.f26.body.getD .skip) 15 [.tmp 2] := Fi Tryz.func26
instance : Bq Tryz.prog 27 (Tryz.f27.body.getD .skip) 11 [.tmp 2] := Fi Tryz.func27
instance : Bq Tryz.prog 28 (Tryz.f28.body.getD .skip) 30 [.tmp 4] := Fi Tryz.func28
instance : Bq Tryz.prog 29 (Tryz.f29.body.getD .skip) 26 [.tmp 2, .tmp 3] := Fi Tryz.func29
instance : Bq Tryz.prog 31 (Tryz.f31.body.getD .skip) 13 [.tmp 2] := Fi Tryz.func31
instance : Bq Tryz.prog 32 (Tryz.f32.body.getD .skip) 23 [.tmp 2, .tmp 3] := Fi Tryz.func32
instance : Bq Tryz.prog 33 (Tryz.f33.body.getD .skip) 30 [.tmp 2, .tmp 3] := Fi Tryz.func33
instance : Bq Tryz.prog 34 (Tryz.f34.body.getD .skip) 15 [.tmp 2, .tmp 3] := Fi Tryz.func34
instance : Bq Tryz.prog 38 (Tryz.f38.body.getD .skip) 11 [.tmp 2] := Fi Tryz.func38
instance : Bq Tryz.prog 39 (Tryz.f39.body.getD .skip) 49 [.tmp 2] := Fi Tryz.func39
instance : Bq Tryz.prog 40 (Tryz.f40.body.getD .skip) 11 [.tmp 2] := Fi Tryz.func40
instance : Bq Tryz.prog 41 (Tryz.f41.body.getD .skip) 19 [.cell 2 49, .tmp 3] := Fi Tryz.func41
instance : Bq Tryz.prog 42 (Tryz.f42.body.getD .skip) 15 [.tmp 6] := Fi Tryz.func42
instance : Bq Tryz.prog 43 (Tryz.f43.body.getD .skip) 156 [.tmp 6] := Fi Tryz.func43
instance : Bq Tryz.prog 44 (Tryz.f44.body.getD .skip) 50 [] := Fi Tryz.func44
instance : Bq Tryz.prog 45 (Tryz.f45.body.getD .skip) 8 [.tmp 2] := Fi Tryz.func45
instance : Bq Tryz.prog 46 (Tryz.f46.body.getD .skip) 14 [.tmp 2] := Fi Tryz.func46
instance : Bq Tryz.prog 47 (Tryz.f47.body.getD .skip) 17 [.cell 2 49, .tmp 3] := Fi Tryz.func47
instance : Bq Tryz.prog 48 (Tryz.f48.body.getD .skip) 23 [.cell 2 49, .tmp 3] := Fi Tryz.func48
instance : Bq Tryz.prog 49 (Tryz.f49.body.getD .skip) 7 [.tmp 2] := Fi Tryz.func49
instance : Bq Tryz.prog 50 (Tryz.f50.body.getD .skip) 99 [.tmp 4] := Fi Tryz.func50
instance : Bq Tryz.prog 51 (Tryz.f51.body.getD .skip) 22 [.cell 2 68, .tmp 3] := Fi Tryz.func51
instance : Bq Tryz.prog 52 (Tryz.f52.body.getD .skip) 16 [.tmp 2] := Fi Tryz.func52
instance : Bq Tryz.prog 53 (Tryz.f53.body.getD .skip) 15 [.tmp 6] := Fi Tryz.func53
instance : Bq Tryz.prog 57 (Tryz.f57.body.getD .skip) 20 [.cell 2 49, .tmp 3] := Fi Tryz.func57
instance : Bq Tryz.prog 58 (Tryz.f58.body.getD .skip) 29 [.tmp 2] := Fi Tryz.func58
instance : Bq Tryz.prog 59 (Tryz.f59.body.getD .skip) 23 [.cell 2 49] := Fi Tryz.func59
instance : Bq Tryz.prog 60 (Tryz.f60.body.getD .skip) 55 [.cell 4 84, .tmp 5] := Fi Tryz.func60
instance : Bq Tryz.prog 61 (Tryz.f61.body.getD .skip) 71 [.cell 4 49, .cell 5 49, .tmp 6] := Fi Tryz.func61
instance : Bq Tryz.prog 63 (Tryz.f63.body.getD .skip) 22 [.tmp 2] := Fi Tryz.func63
instance : Bq Tryz.prog 64 (Tryz.f64.body.getD .skip) 11 [.tmp 2] := Fi Tryz.func64
instance : Bq Tryz.prog 65 (Tryz.f65.body.getD .skip) 40 [.tmp 4] := Fi Tryz.func65
instance : Bq Tryz.prog 66 (Tryz.f66.body.getD .skip) 166 [.cell 2 49, .tmp 3] := Fi Tryz.func66
instance : Bq Tryz.prog 67 (Tryz.f67.body.getD .skip) 34 [.tmp 2] := Fi Tryz.func67
instance : Bq Tryz.prog 68 (Tryz.f68.body.getD .skip) 66 [.cell 2 68, .tmp 3] := Fi Tryz.func68
instance : Bq Tryz.prog 69 (Tryz.f69.body.getD .skip) 13 [.tmp 2] := Fi Tryz.func69
instance : Bq Tryz.prog 70 (Tryz.f70.body.getD .skip) 35 [.cell 2 49, .tmp 3] := Fi Tryz.func70
instance : Bq Tryz.prog 71 (Tryz.f71.body.getD .skip) 32 [.cell 2 68, .tmp 3] := Fi Tryz.func71
instance : Bq Tryz.prog 72 (Tryz.f72.body.getD .skip) 11 [.tmp 2] := Fi Tryz.func72
instance : Bq Tryz.prog 73 (Tryz.f73.body.getD .skip) 31 [.tmp 2] := Fi Tryz.func73
instance : Bq Tryz.prog 74 (Tryz.f74.body.getD .skip) 8 [.tmp 2] := Fi Tryz.func74
instance : Bq Tryz.prog 75 (Tryz.f75.body.getD .skip) 18 [.tmp 2] := Fi Tryz.func75
instance : Bq Tryz.prog 77 (Tryz.f77.body.getD .skip) 28 [.tmp 2] := Fi Tryz.func77
instance : Bq Tryz.prog 78 (Tryz.f78.body.getD .skip) 17 [.tmp 2, .tmp 3] := Fi Tryz.func78
instance : Bq Tryz.prog 79 (Tryz.f79.body.getD .skip) 54 [.tmp 6, .tmp 7] := Fi Tryz.func79
instance : Bq Tryz.prog 80 (Tryz.f80.body.getD .skip) 12 [.tmp 4] := Fi Tryz.func80
instance : Bq Tryz.prog 81 (Tryz.f81.body.getD .skip) 7 [.tmp 2] := Fi Tryz.func81
instance : Bq Tryz.prog 82 (Tryz.f82.body.getD .skip) 21 [.tmp 2] := Fi Tryz.func82
instance : Bq Tryz.prog 83 (Tryz.f83.body.getD .skip) 21 [.tmp 4] := Fi Tryz.func83
instance : Bq Tryz.prog 84 (Tryz.f84.body.getD .skip) 10 [.tmp 2] := Fi Tryz.func84
instance : Bq Tryz.prog 85 (Tryz.f85.body.getD .skip) 15 [.tmp 2] := Fi Tryz.func85
instance : Bq Tryz.prog 86 (Tryz.f86.body.getD .skip) 6 [.tmp 2] := Fi Tryz.func86
instance : Bq Tryz.prog 87 (Tryz.f87.body.getD .skip) 12 [.tmp 6] := Fi Tryz.func87
instance : Bq Tryz.prog 88 (Tryz.f88.body.getD .skip) 77 [.tmp 6] := Fi Tryz.func88
instance : Bq Tryz.prog 89 (Tryz.f89.body.getD .skip) 19 [.tmp 4, .tmp 5] := Fi Tryz.func89
instance : Bq Tryz.prog 90 (Tryz.f90.body.getD .skip) 23 [.cell 2 49, .tmp 3] := Fi Tryz.func90
instance : Bq Tryz.prog 91 (Tryz.f91.body.getD .skip) 14 [.tmp 2] := Fi Tryz.func91
instance : Bq Tryz.prog 92 (Tryz.f92.body.getD .skip) 108 [.cell 8 49] := Fi Tryz.func92
instance : Bq Tryz.prog 93 (Tryz.f93.body.getD .skip) 32 [] := Fi Tryz.func93
instance : Bq Tryz.prog 94 (Tryz.f94.body.getD .skip) 20 [.cell 2 68, .tmp 3] := Fi Tryz.func94
instance : Bq Tryz.prog 95 (Tryz.f95.body.getD .skip) 105 [.tmp 2] := Fi Tryz.func95
instance : Bq Tryz.prog 96 (Tryz.f96.body.getD .skip) 24 [.tmp 2] := Fi Tryz.func96
instance : Bq Tryz.prog 97 (Tryz.f97.body.getD .skip) 18 [.tmp 2, .tmp 3] := Fi Tryz.func97
instance : Bq Tryz.prog 98 (Tryz.f98.body.getD .skip) 57 [.tmp 2, .tmp 3] := Fi Tryz.func98
instance : Bq Tryz.prog 99 (Tryz.f99.body.getD .skip) 16 [.tmp 2] := Fi Tryz.func99
instance : Bq Tryz.prog 101 (Tryz.f101.body.getD .skip) 28 [.tmp 2] := Fi Tryz.func101
instance : Bq Tryz.prog 102 (Tryz.f102.body.getD .skip) 18 [.tmp 6] := Fi Tryz.func102
instance : Bq Tryz.prog 103 (Tryz.f103.body.getD .skip) 11 [.cell 4 49] := Fi Tryz.func103
instance : Bq Tryz.prog 104 (Tryz.f104.body.getD .skip) 5 [.cell 2 49] := Fi Tryz.func104
instance : Bq Tryz.prog 105 (Tryz.f105.body.getD .skip) 17 [.cell 2 49, .tmp 3] := Fi Tryz.func105
instance : Bq Tryz.prog 106 (Tryz.f106.body.getD .skip) 13 [.cell 2 49] := Fi Tryz.func106
instance : Bq Tryz.prog 107 (Tryz.f107.body.getD .skip) 10 [.tmp 2] := Fi Tryz.func107
instance : Bq Tryz.prog 108 (Tryz.f108.body.getD .skip) 45 [.tmp 2] := Fi Tryz.func108
instance : Bq Tryz.prog 109 (Tryz.f109.body.getD .skip) 51 [.cell 8 84] := Fi Tryz.func109
instance : Bq Tryz.prog 110 (Tryz.f110.body.getD .skip) 135 [.cell 6 49, .tmp 7] := Fi Tryz.func110
instance : Bq Tryz.prog 111 (Tryz.f111.body.getD .skip) 8 [.tmp 4] := Fi Tryz.func111
instance : Bq Tryz.prog 112 (Tryz.f112.body.getD .skip) 20 [.tmp 2] := Fi Tryz.func112
instance : Bq Tryz.prog 113 (Tryz.f113.body.getD .skip) 18 [.tmp 2, .tmp 3] := Fi Tryz.func113
instance : Bq Tryz.prog 114 (Tryz.f114.body.getD .skip) 8 [.tmp 2] := Fi Tryz.func114
instance : Bq Tryz.prog 115 (Tryz.f115.body.getD .skip) 30 [.tmp 6] := Fi Tryz.func115
instance : Bq Tryz.prog 116 (Tryz.f116.body.getD .skip) 49 [.cell 6 49] := Fi Tryz.func116
instance : Bq Tryz.prog 117 (Tryz.f117.body.getD .skip) 34 [.tmp 2] := Fi Tryz.func117
instance : Bq Tryz.prog 118 (Tryz.f118.body.getD .skip) 131 [.cell 2 68, .tmp 3] := Fi Tryz.func118
instance : Bq Tryz.prog 119 (Tryz.f119.body.getD .skip) 130 [.tmp 8] := Fi Tryz.func119
instance : Bq Tryz.prog 120 (Tryz.f120.body.getD .skip) 23 [] := Fi Tryz.func120
instance : Bq Tryz.prog 121 (Tryz.f121.body.getD .skip) 8 [] := Fi Tryz.func121
instance : Bq Tryz.prog 122 (Tryz.f122.body.getD .skip) 13 [.cell 4 49] := Fi Tryz.func122
instance : Bq Tryz.prog 123 (Tryz.f123.body.getD .skip) 23 [.cell 2 68, .tmp 3] := Fi Tryz.func123
instance : Bq Tryz.prog 124 (Tryz.f124.body.getD .skip) 34 [.tmp 4] := Fi Tryz.func124
instance : Bq Tryz.prog 125 (Tryz.f125.body.getD .skip) 66 [.cell 4 68] := Fi Tryz.func125
instance : Bq Tryz.prog 126 (Tryz.f126.body.getD .skip) 45 [] := Fi Tryz.func126
instance : Bq Tryz.prog 127 (Tryz.f127.body.getD .skip) 11 [] := Fi Tryz.func127
instance : Bq Tryz.prog 128 (Tryz.f128.body.getD .skip) 9 [.tmp 4] := Fi Tryz.func128
instance : Bq Tryz.prog 129 (Tryz.f129.body.getD .skip) 54 [.tmp 2] := Fi Tryz.func129
instance : Bq Tryz.prog 130 (Tryz.f130.body.getD .skip) 20 [.tmp 4] := Fi Tryz.func130
instance : Bq Tryz.prog 131 (Tryz.f131.body.getD .skip) 17 [.tmp 4] := Fi Tryz.func131
instance : Bq Tryz.prog 132 (Tryz.f132.body.getD .skip) 36 [.tmp 2] := Fi Tryz.func132
instance : Bq Tryz.prog 133 (Tryz.f133.body.getD .skip) 38 [.tmp 4] := Fi Tryz.func133
instance : Bq Tryz.prog 134 (Tryz.f134.body.getD .skip) 29 [.tmp 4] := Fi Tryz.func134
instance : Bq Tryz.prog 135 (Tryz.f135.body.getD .skip) 44 [.cell 6 68] := Fi Tryz.func135
instance : Bq Tryz.prog 136 (Tryz.f136.body.getD .skip) 11 [.tmp 2] := Fi Tryz.func136
instance : Bq Tryz.prog 137 (Tryz.f137.body.getD .skip) 20 [] := Fi Tryz.func137
instance : Bq Tryz.prog 138 (Tryz.f138.body.getD .skip) 78 [.cell 4 49, .tmp 5, .tmp 6] := Fi Tryz.func138
instance : Bq Tryz.prog 139 (Tryz.f139.body.getD .skip) 21 [.tmp 2] := Fi Tryz.func139
instance : Bq Tryz.prog 140 (Tryz.f140.body.getD .skip) 11 [.tmp 2] := Fi Tryz.func140
instance : Bq Tryz.prog 141 (Tryz.f141.body.getD .skip) 78 [.tmp 2] := Fi Tryz.func141
instance : Bq Tryz.prog 142 (Tryz.f142.body.getD .skip) 32 [.tmp 2] := Fi Tryz.func142
instance : Bq Tryz.prog 143 (Tryz.f143.body.getD .skip) 17 [.tmp 4] := Fi Tryz.func143
instance : Bq Tryz.prog 144 (Tryz.f144.body.getD .skip) 87 [.cell 6 68, .tmp 7] := Fi Tryz.func144
instance : Bq Tryz.prog 145 (Tryz.f145.body.getD .skip) 20 [.tmp 2, .tmp 3] := Fi Tryz.func145
instance : Bq Tryz.prog 146 (Tryz.f146.body.getD .skip) 10 [.tmp 2] := Fi Tryz.func146
instance : Bq Tryz.prog 147 (Tryz.f147.body.getD .skip) 65 [.tmp 6] := Fi Tryz.func147
instance : Bq Tryz.prog 148 (Tryz.f148.body.getD .skip) 10 [.tmp 4] := Fi Tryz.func148
instance : Bq Tryz.prog 150 (Tryz.f150.body.getD .skip) 11 [.cell 6 68] := Fi Tryz.func150
instance : Bq Tryz.prog 151 (Tryz.f151.body.getD .skip) 24 [.tmp 6] := Fi Tryz.func151
instance : Bq Tryz.prog 152 (Tryz.f152.body.getD .skip) 28 [.tmp 2] := Fi Tryz.func152
instance : Bq Tryz.prog 153 (Tryz.f153.body.getD .skip) 20 [.cell 6 84] := Fi Tryz.func153
instance : Bq Tryz.prog 154 (Tryz.f154.body.getD .skip) 19 [.cell 4 49, .tmp 5] := Fi Tryz.func154
instance : Bq Tryz.prog 155 (Tryz.f155.body.getD .skip) 13 [.tmp 4] := Fi Tryz.func155
instance : Bq Tryz.prog 158 (Tryz.f158.body.getD .skip) 5 [.tmp 2] := Fi Tryz.func158
instance : Bq Tryz.prog 159 (Tryz.f159.body.getD .skip) 9 [.tmp 2] := Fi Tryz.func159
instance : Bq Tryz.prog 160 (Tryz.f160.body.getD .skip) 5 [.cell 2 68] := Fi Tryz.func160
instance : Bq Tryz.prog 161 (Tryz.f161.body.getD .skip) 59 [.cell 6 68] := Fi Tryz.func161
instance : Bq Tryz.prog 162 (Tryz.f162.body.getD .skip) 17 [.tmp 2] := Fi Tryz.func162
instance : Bq Tryz.prog 163 (Tryz.f163.body.getD .skip) 67 [.tmp 6] := Fi Tryz.func163
instance : Bq Tryz.prog 164 (Tryz.f164.body.getD .skip) 18 [.cell 6 134] := Fi Tryz.func164
instance : Bq Tryz.prog 165 (Tryz.f165.body.getD .skip) 20 [.tmp 2] := Fi Tryz.func165
instance : Bq Tryz.prog 166 (Tryz.f166.body.getD .skip) 119 [.tmp 8] := Fi Tryz.func166
instance : Bq Tryz.prog 167 (Tryz.f167.body.getD .skip) 93 [.cell 6 49] := Fi Tryz.func167
instance : Bq Tryz.prog 168 (Tryz.f168.body.getD .skip) 28 [.cell 4 49] := Fi Tryz.func168
instance : Bq Tryz.prog 169 (Tryz.f169.body.getD .skip) 155 [.cell 8 68] := Fi Tryz.func169
instance : Bq Tryz.prog 170 (Tryz.f170.body.getD .skip) 18 [.tmp 4] := Fi Tryz.func170
instance : Bq Tryz.prog 171 (Tryz.f171.body.getD .skip) 114 [.cell 4 68] := Fi Tryz.func171
instance : Bq Tryz.prog 172 (Tryz.f172.body.getD .skip) 5 [.cell 2 68] := Fi Tryz.func172
instance : Bq Tryz.prog 173 (Tryz.f173.body.getD .skip) 19 [.tmp 4] := Fi Tryz.func173
instance : Bq Tryz.prog 174 (Tryz.f174.body.getD .skip) 15 [.tmp 2] := Fi Tryz.func174
instance : Bq Tryz.prog 175 (Tryz.f175.body.getD .skip) 32 [.tmp 6] := Fi Tryz.func175
instance : Bq Tryz.prog 176 (Tryz.f176.body.getD .skip) 27 [.tmp 4] := Fi Tryz.func176
instance : Bq Tryz.prog 178 (Tryz.f178.body.getD .skip) 8 [.tmp 4] := Fi Tryz.func178
instance : Bq Tryz.prog 179 (Tryz.f179.body.getD .skip) 33 [.tmp 2] := Fi Tryz.func179
instance : Bq Tryz.prog 180 (Tryz.f180.body.getD .skip) 22 [.tmp 2] := Fi Tryz.func180
instance : Bq Tryz.prog 181 (Tryz.f181.body.getD .skip) 25 [.tmp 2] := Fi Tryz.func181
instance : Bq Tryz.prog 182 (Tryz.f182.body.getD .skip) 33 [.tmp 2] := Fi Tryz.func182
instance : Bq Tryz.prog 183 (Tryz.f183.body.getD .skip) 41 [.tmp 2] := Fi Tryz.func183
instance : Bq Tryz.prog 184 (Tryz.f184.body.getD .skip) 41 [.tmp 4] := Fi Tryz.func184
instance : Bq Tryz.prog 185 (Tryz.f185.body.getD .skip) 9 [.tmp 2] := Fi Tryz.func185
instance : Bq Tryz.prog 186 (Tryz.f186.body.getD .skip) 8 [.tmp 2] := Fi Tryz.func186
instance : Bq Tryz.prog 187 (Tryz.f187.body.getD .skip) 18 [.tmp 4] := Fi Tryz.func187
instance : Bq Tryz.prog 194 (Tryz.f194.body.getD .skip) 25 [.tmp 6] := Fi Tryz.func194
instance : Bq Tryz.prog 195 (Tryz.f195.body.getD .skip) 26 [.tmp 2, .tmp 3] := Fi Tryz.func195
instance : Bq Tryz.prog 196 (Tryz.f196.body.getD .skip) 10 [.tmp 2, .tmp 3, .tmp 4] := Fi Tryz.func196
instance : Bq Tryz.prog 197 (Tryz.f197.body.getD .skip) 10 [.tmp 2, .tmp 3, .tmp 4] := Fi Tryz.func197
instance : Bq Tryz.prog 198 (Tryz.f198.body.getD .skip) 30 [.cell 6 49] := Fi Tryz.func198
instance : Bq Tryz.prog 199 (Tryz.f199.body.getD .skip) 26 [.tmp 6] := Fi Tryz.func199
instance : Bq Tryz.prog 200 (Tryz.f200.body.getD .skip) 26 [.tmp 2] := Fi Tryz.func200
instance : Bq Tryz.prog 201 (Tryz.f201.body.getD .skip) 39 [.cell 4 68] := Fi Tryz.func201
instance : Bq Tryz.prog 206 (Tryz.f206.body.getD .skip) 47 [.tmp 2] := Fi Tryz.func206
instance : Bq Tryz.prog 207 (Tryz.f207.body.getD .skip) 45 [.tmp 4, .tmp 5, .tmp 6] := Fi Tryz.func207
instance : Bq Tryz.prog 208 (Tryz.f208.body.getD .skip) 32 [.tmp 2] := Fi Tryz.func208
instance : Bq Tryz.prog 209 (Tryz.f209.body.getD .skip) 26 [.tmp 2] := Fi Tryz.func209
instance : At Tryz.prog 1 (.func #[] #[] false) 1 8 [.nilFunc] := Ti
instance : At Tryz.prog 2 (.int .i64) 1 8 [.int .i64 0] := Ti
instance : At Tryz.prog 3 (.int .i64) 1 8 [.int .i64 0] := Ti
instance : At Tryz.prog 4 .bool 1 1 [.bool false] := Ti
instance : At Tryz.prog 5 (.int .u8) 1 1 [.int .u8 0] := Ti
instance : At Tryz.prog 6 (.int .u8) 1 1 [.int .u8 0] := Ti
instance : At Tryz.prog 7 (.struct (Ba Tryz.prog 7)) 4 24 [.int .i64 0, .int .i64 0, .bool false, .int .u8 0] := Ti
instance : At Tryz.prog 8 (.struct (Ba Tryz.prog 8)) 4 24 [.int .i64 0, .int .i64 0, .bool false, .int .u8 0] := Ti
instance : At Tryz.prog 9 .string 1 16 [.string (str [])] := Ti
instance : At Tryz.prog 10 .string 1 16 [.string (str [])] := Ti
instance : At Tryz.prog 11 .string 1 16 [.string (str [])] := Ti
instance : At Tryz.prog 13 (.struct (Ba Tryz.prog 13)) 2 24 [.string (str []), .int .u64 0] := Ti
instance : At Tryz.prog 14 (.struct (Ba Tryz.prog 14)) 2 24 [.string (str []), .int .u64 0] := Ti
instance : At Tryz.prog 15 (.pointer 230) 1 8 [.pointer none] := Ti
instance : At Tryz.prog 17 (.pointer 240) 1 8 [.pointer none] := Ti
instance : At Tryz.prog 18 (.struct (Ba Tryz.prog 18)) 1 8 [.pointer none] := Ti
instance : At Tryz.prog 19 (.struct (Ba Tryz.prog 19)) 1 8 [.pointer none] := Ti
instance : At Tryz.prog 22 (.slice 5) 1 24 [.slice none 0 0] := Ti
instance : At Tryz.prog 23 (.func #[22] #[9] false) 1 8 [.nilFunc] := Ti
instance : At Tryz.prog 24 (.func #[9] #[3] false) 1 8 [.nilFunc] := Ti
instance : At Tryz.prog 26 (.func #[9, 3] #[9, 3, 4] false) 1 8 [.nilFunc] := Ti
instance : At Tryz.prog 28 (.func #[9] #[9, 4] false) 1 8 [.nilFunc] := Ti
instance : At Tryz.prog 29 (.func #[22] #[4] false) 1 8 [.nilFunc] := Ti
instance : At Tryz.prog 31 (.func #[22] #[9, 3] false) 1 8 [.nilFunc] := Ti
instance : At Tryz.prog 32 (.func #[33, 33, 9] #[9, 4] false) 1 8 [.nilFunc] := Ti
instance : At Tryz.prog 33 (.slice 9) 1 24 [.slice none 0 0] := Ti
instance : At Tryz.prog 38 (.func #[9] #[4] false) 1 8 [.nilFunc] := Ti
instance : At Tryz.prog 39 (.func #[9, 3] #[4] false) 1 8 [.nilFunc] := Ti
instance : At Tryz.prog 41 (.func #[9] #[33, 4] false) 1 8 [.nilFunc] := Ti
instance : At Tryz.prog 42 (.func #[33, 9] #[4] false) 1 8 [.nilFunc] := Ti
instance : At Tryz.prog 43 (.func #[9, 9] #[4] false) 1 8 [.nilFunc] := Ti
instance : At Tryz.prog 44 (.func #[45] #[9] false) 1 8 [.nilFunc] := Ti
instance : At Tryz.prog 45 (.pointer 94) 1 8 [.pointer none] := Ti
instance : At Tryz.prog 46 (.func #[22] #[45] false) 1 8 [.nilFunc] := Ti
instance : At Tryz.prog 47 (.slice 49) 1 24 [.slice none 0 0] := Ti
instance : At Tryz.prog 48 (.struct (Ba Tryz.prog 48)) 2 40 [.string (str []), .slice none 0 0] := Ti
instance : At Tryz.prog 49 (.struct (Ba Tryz.prog 49)) 2 40 [.string (str []), .slice none 0 0] := Ti
instance : At Tryz.prog 51 (.func #[9] #[49, 4] false) 1 8 [.nilFunc] := Ti
instance : At Tryz.prog 52 (.func #[3, 3, 3] #[4] false) 1 8 [.nilFunc] := Ti
instance : At Tryz.prog 53 (.pointer 55) 1 8 [.pointer none] := Ti
instance : At Tryz.prog 55 (.struct (Ba Tryz.prog 55)) 2 16 [.int .i64 0, .bool false] := Ti
instance : At Tryz.prog 56 (.pointer 105) 1 8 [.pointer none] := Ti
instance : At Tryz.prog 57 (.func #[49, 100] #[56] false) 1 8 [.nilFunc] := Ti
instance : At Tryz.prog 58 (.pointer 60) 1 8 [.pointer none] := Ti
instance : At Tryz.prog 59 (.struct (Ba Tryz.prog 59)) 2 32 [.pointer none, .slice none 0 0] := Ti
instance : At Tryz.prog 60 (.struct (Ba Tryz.prog 60)) 2 32 [.pointer none, .slice none 0 0] := Ti
instance : At Tryz.prog 61 (.func #[58] #[] false) 1 8 [.nilFunc] := Ti
instance : At Tryz.prog 63 (.func #[] #[9] false) 1 8 [.nilFunc] := Ti
instance : At Tryz.prog 64 (.func #[] #[49, 4] false) 1 8 [.nilFunc] := Ti
instance : At Tryz.prog 65 (.func #[3] #[3] false) 1 8 [.nilFunc] := Ti
instance : At Tryz.prog 66 (.slice 68) 1 24 [.slice none 0 0] := Ti
instance : At Tryz.prog 67 (.struct (Ba Tryz.prog 67)) 2 40 [.string (str []), .slice none 0 0] := Ti
instance : At Tryz.prog 68 (.struct (Ba Tryz.prog 68)) 2 40 [.string (str []), .slice none 0 0] := Ti
instance : At Tryz.prog 70 (.func #[9] #[68, 4] false) 1 8 [.nilFunc] := Ti
instance : At Tryz.prog 71 (.pointer 73) 1 8 [.pointer none] := Ti
instance : At Tryz.prog 72 (.struct (Ba Tryz.prog 72)) 2 16 [.int .i64 0, .bool false] := Ti
instance : At Tryz.prog 73 (.struct (Ba Tryz.prog 73)) 2 16 [.int .i64 0, .bool false] := Ti
instance : At Tryz.prog 74 (.slice 76) 1 24 [.slice none 0 0] := Ti
instance : At Tryz.prog 75 (.struct (Ba Tryz.prog 75)) 7 136 [.string (str []), .int .i64 0, .slice none 0 0, .string (str []), .slice none 0 0, .slice none 0 0, .slice none 0 0] := Ti
instance : At Tryz.prog 76 (.struct (Ba Tryz.prog 76)) 7 136 [.string (str []), .int .i64 0, .slice none 0 0, .string (str []), .slice none 0 0, .slice none 0 0, .slice none 0 0] := Ti
instance : At Tryz.prog 78 (.func #[71, 68, 33, 74] #[76, 4] false) 1 8 [.nilFunc] := Ti
instance : At Tryz.prog 79 (.func #[76, 3] #[3] false) 1 8 [.nilFunc] := Ti
instance : At Tryz.prog 80 (.func #[76] #[9] false) 1 8 [.nilFunc] := Ti
instance : At Tryz.prog 81 (.func #[] #[4] false) 1 8 [.nilFunc] := Ti
instance : At Tryz.prog 82 (.func #[] #[49] false) 1 8 [.nilFunc] := Ti
instance : At Tryz.prog 83 (.struct (Ba Tryz.prog 83)) 2 48 [.slice none 0 0, .slice none 0 0] := Ti
instance : At Tryz.prog 84 (.struct (Ba Tryz.prog 84)) 2 48 [.slice none 0 0, .slice none 0 0] := Ti
instance : At Tryz.prog 86 (.func #[33, 33] #[84, 4] false) 1 8 [.nilFunc] := Ti
instance : At Tryz.prog 88 (.func #[49] #[49, 49, 4] false) 1 8 [.nilFunc] := Ti
instance : At Tryz.prog 89 (.func #[9, 9] #[9, 9, 4] false) 1 8 [.nilFunc] := Ti
instance : At Tryz.prog 90 (.func #[45, 9] #[9] false) 1 8 [.nilFunc] := Ti
instance : At Tryz.prog 91 (.func #[68] #[4] false) 1 8 [.nilFunc] := Ti
instance : At Tryz.prog 92 (.func #[68] #[68, 4] false) 1 8 [.nilFunc] := Ti
instance : At Tryz.prog 93 (.struct (Ba Tryz.prog 93)) 2 32 [.slice none 0 0, .int .i64 0] := Ti
instance : At Tryz.prog 94 (.struct (Ba Tryz.prog 94)) 2 32 [.slice none 0 0, .int .i64 0] := Ti
instance : At Tryz.prog 95 (.func #[68] #[9] false) 1 8 [.nilFunc] := Ti
instance : At Tryz.prog 96 (.func #[] #[33] false) 1 8 [.nilFunc] := Ti
instance : At Tryz.prog 97 (.func #[49, 49, 33, 33] #[4] false) 1 8 [.nilFunc] := Ti
instance : At Tryz.prog 98 (.func #[9, 9, 9] #[9, 4] false) 1 8 [.nilFunc] := Ti
instance : At Tryz.prog 99 (.func #[33] #[9] false) 1 8 [.nilFunc] := Ti
instance : At Tryz.prog 100 (.pointer 155) 1 8 [.pointer none] := Ti
instance : At Tryz.prog 101 (.func #[9] #[56] false) 1 8 [.nilFunc] := Ti
instance : At Tryz.prog 102 (.slice 56) 1 24 [.slice none 0 0] := Ti
instance : At Tryz.prog 103 (.pointer 49) 1 8 [.pointer none] := Ti
instance : At Tryz.prog 104 (.struct (Ba Tryz.prog 104)) 4 56 [.string (str []), .slice none 0 0, .pointer none, .pointer none] := Ti
instance : At Tryz.prog 105 (.struct (Ba Tryz.prog 105)) 4 56 [.string (str []), .slice none 0 0, .pointer none, .pointer none] := Ti
instance : At Tryz.prog 106 (.slice 3) 1 24 [.slice none 0 0] := Ti
instance : At Tryz.prog 107 (.func #[] #[106] false) 1 8 [.nilFunc] := Ti
instance : At Tryz.prog 108 (.func #[] #[56] false) 1 8 [.nilFunc] := Ti
instance : At Tryz.prog 109 (.func #[9, 56] #[100] false) 1 8 [.nilFunc] := Ti
instance : At Tryz.prog 110 (.func #[9, 102] #[56] false) 1 8 [.nilFunc] := Ti
instance : At Tryz.prog 114 (.func #[9] #[3, 112] false) 1 8 [.nilFunc] := Ti
instance : At Tryz.prog 115 (.pointer 5) 1 8 [.pointer none] := Ti
instance : At Tryz.prog 116 (.pointer 118) 1 8 [.pointer none] := Ti
instance : At Tryz.prog 117 (.struct (Ba Tryz.prog 117)) 3 40 [.slice none 0 0, .int .i64 0, .int .i64 0] := Ti
instance : At Tryz.prog 118 (.struct (Ba Tryz.prog 118)) 3 40 [.slice none 0 0, .int .i64 0, .int .i64 0] := Ti
instance : At Tryz.prog 119 (.func #[49, 33, 33] #[49] false) 1 8 [.nilFunc] := Ti
instance : At Tryz.prog 120 (.func #[68] #[3] false) 1 8 [.nilFunc] := Ti
instance : At Tryz.prog 121 (.func #[9] #[106] false) 1 8 [.nilFunc] := Ti
instance : At Tryz.prog 122 (.func #[71, 68, 74, 33, 74] #[76, 4] false) 1 8 [.nilFunc] := Ti
instance : At Tryz.prog 123 (.func #[3] #[9] false) 1 8 [.nilFunc] := Ti
instance : At Tryz.prog 124 (.func #[9, 47] #[49] true) 1 8 [.nilFunc] := Ti
instance : At Tryz.prog 125 (.func #[9] #[49] false) 1 8 [.nilFunc] := Ti
instance : At Tryz.prog 126 (.func #[49] #[49] false) 1 8 [.nilFunc] := Ti
instance : At Tryz.prog 127 (.func #[49, 3, 47] #[84] false) 1 8 [.nilFunc] := Ti
instance : At Tryz.prog 128 (.func #[49, 47] #[49, 4] false) 1 8 [.nilFunc] := Ti
instance : At Tryz.prog 129 (.func #[9, 9] #[9] false) 1 8 [.nilFunc] := Ti
instance : At Tryz.prog 130 (.func #[47] #[47] false) 1 8 [.nilFunc] := Ti
instance : At Tryz.prog 131 (.func #[9, 9, 9] #[9] false) 1 8 [.nilFunc] := Ti
instance : At Tryz.prog 132 (.func #[9, 49] #[49] false) 1 8 [.nilFunc] := Ti
instance : At Tryz.prog 133 (.struct (Ba Tryz.prog 133)) 2 48 [.slice none 0 0, .slice none 0 0] := Ti
instance : At Tryz.prog 134 (.struct (Ba Tryz.prog 134)) 2 48 [.slice none 0 0, .slice none 0 0] := Ti
instance : At Tryz.prog 135 (.func #[45, 134, 9, 3] #[9] false) 1 8 [.nilFunc] := Ti
instance : At Tryz.prog 136 (.pointer 139) 1 8 [.pointer none] := Ti
instance : At Tryz.prog 137 (.map 9 4) 1 8 [.map none] := Ti
instance : At Tryz.prog 138 (.struct (Ba Tryz.prog 138)) 3 24 [.map none, .int .i64 0, .int .i64 0] := Ti
instance : At Tryz.prog 139 (.struct (Ba Tryz.prog 139)) 3 24 [.map none, .int .i64 0, .int .i64 0] := Ti
instance : At Tryz.prog 140 (.func #[141] #[] false) 1 8 [.nilFunc] := Ti
instance : At Tryz.prog 141 (.func #[9] #[] false) 1 8 [.nilFunc] := Ti
instance : At Tryz.prog 142 (.pointer 145) 1 8 [.pointer none] := Ti
instance : At Tryz.prog 143 (.func #[68, 33] #[33] false) 1 8 [.nilFunc] := Ti
instance : At Tryz.prog 144 (.struct (Ba Tryz.prog 144)) 4 80 [.slice none 0 0, .int .i64 0, .slice none 0 0, .slice none 0 0] := Ti
instance : At Tryz.prog 145 (.struct (Ba Tryz.prog 145)) 4 80 [.slice none 0 0, .int .i64 0, .slice none 0 0, .slice none 0 0] := Ti
instance : At Tryz.prog 146 (.func #[142, 68] #[68] false) 1 8 [.nilFunc] := Ti
instance : At Tryz.prog 147 (.func #[33, 141] #[] false) 1 8 [.nilFunc] := Ti
instance : At Tryz.prog 148 (.func #[33, 9] #[3] false) 1 8 [.nilFunc] := Ti
instance : At Tryz.prog 150 (.func #[184] #[33] true) 1 8 [.nilFunc] := Ti
instance : At Tryz.prog 151 (.func #[3] #[33] false) 1 8 [.nilFunc] := Ti
instance : At Tryz.prog 152 (.func #[45, 3] #[9] false) 1 8 [.nilFunc] := Ti
instance : At Tryz.prog 153 (.func #[68, 9, 68] #[68] false) 1 8 [.nilFunc] := Ti
instance : At Tryz.prog 154 (.struct (Ba Tryz.prog 154)) 3 32 [.string (str []), .pointer none, .pointer none] := Ti
instance : At Tryz.prog 155 (.struct (Ba Tryz.prog 155)) 3 32 [.string (str []), .pointer none, .pointer none] := Ti
instance : At Tryz.prog 158 (.func #[5] #[112] false) 1 8 [.nilFunc] := Ti
instance : At Tryz.prog 160 (.func #[9, 3, 3] #[68, 3] false) 1 8 [.nilFunc] := Ti
instance : At Tryz.prog 162 (.func #[9] #[3, 3] false) 1 8 [.nilFunc] := Ti
instance : At Tryz.prog 163 (.func #[68, 33, 33] #[33] false) 1 8 [.nilFunc] := Ti
instance : At Tryz.prog 164 (.func #[33, 33] #[33] true) 1 8 [.nilFunc] := Ti
instance : At Tryz.prog 165 (.func #[74, 76] #[74] false) 1 8 [.nilFunc] := Ti
instance : At Tryz.prog 166 (.func #[3, 68, 68] #[68] false) 1 8 [.nilFunc] := Ti
instance : At Tryz.prog 167 (.func #[9, 3, 3] #[3] false) 1 8 [.nilFunc] := Ti
instance : At Tryz.prog 168 (.func #[9, 49] #[84] false) 1 8 [.nilFunc] := Ti
instance : At Tryz.prog 169 (.func #[9, 9, 3, 3, 112] #[112] false) 1 8 [.nilFunc] := Ti
instance : At Tryz.prog 170 (.func #[9] #[68] false) 1 8 [.nilFunc] := Ti
instance : At Tryz.prog 171 (.func #[45, 134, 9] #[9] false) 1 8 [.nilFunc] := Ti
instance : At Tryz.prog 172 (.func #[134, 9, 9] #[134] false) 1 8 [.nilFunc] := Ti
instance : At Tryz.prog 173 (.slice 199) 1 24 [.slice none 0 0] := Ti
instance : At Tryz.prog 174 (.func #[49, 175] #[49] false) 1 8 [.nilFunc] := Ti
instance : At Tryz.prog 175 (.pointer 173) 1 8 [.pointer none] := Ti
instance : At Tryz.prog 176 (.func #[173, 49] #[49] false) 1 8 [.nilFunc] := Ti
instance : At Tryz.prog 178 (.struct (Ba Tryz.prog 178)) 2 32 [.slice none 0 0, .int .i64 0] := Ti
instance : At Tryz.prog 179 (.struct (Ba Tryz.prog 179)) 2 32 [.slice none 0 0, .int .i64 0] := Ti
instance : At Tryz.prog 180 (.func #[68, 33, 33, 177] #[68] false) 1 8 [.nilFunc] := Ti
instance : At Tryz.prog 181 (.func #[66] #[68] true) 1 8 [.nilFunc] := Ti
instance : At Tryz.prog 182 (.func #[47, 47, 183] #[4] false) 1 8 [.nilFunc] := Ti
instance : At Tryz.prog 183 (.func #[49, 49] #[4] false) 1 8 [.nilFunc] := Ti
instance : At Tryz.prog 184 (.slice 33) 1 24 [.slice none 0 0] := Ti
instance : At Tryz.prog 185 (.func #[33, 3] #[33] false) 1 8 [.nilFunc] := Ti
instance : At Tryz.prog 186 .unsafePointer 1 8 [.pointer none] := Ti
instance : At Tryz.prog 187 (.func #[186] #[186] false) 1 8 [.nilFunc] := Ti
instance : At Tryz.prog 194 (.pointer 207) 1 8 [.pointer none] := Ti
instance : At Tryz.prog 195 (.func #[9, 9] #[194] false) 1 8 [.nilFunc] := Ti
instance : At Tryz.prog 196 (.func #[9, 9, 3] #[194] false) 1 8 [.nilFunc] := Ti
instance : At Tryz.prog 197 (.func #[33, 33, 9] #[9] false) 1 8 [.nilFunc] := Ti
instance : At Tryz.prog 198 (.struct (Ba Tryz.prog 198)) 3 56 [.string (str []), .string (str []), .slice none 0 0] := Ti
instance : At Tryz.prog 199 (.struct (Ba Tryz.prog 199)) 3 56 [.string (str []), .string (str []), .slice none 0 0] := Ti
instance : At Tryz.prog 200 (.func #[177] #[9] false) 1 8 [.nilFunc] := Ti
instance : At Tryz.prog 201 (.int .u64) 1 8 [.int .u64 0] := Ti
instance : At Tryz.prog 206 (.struct (Ba Tryz.prog 206)) 3 48 [.string (str []), .string (str []), .nilIface] := Ti
instance : At Tryz.prog 207 (.struct (Ba Tryz.prog 207)) 3 48 [.string (str []), .string (str []), .nilIface] := Ti
instance : At Tryz.prog 208 (.func #[9] #[112] false) 1 8 [.nilFunc] := Ti
instance : At Tryz.prog 209 (.func #[2, 3] #[9] false) 1 8 [.nilFunc] := Ti
instance : At Tryz.prog 230 (.struct (Ba Tryz.prog 230)) 4 40 [.pointer none, .pointer none, .pointer none, .string (str [])] := Ti
instance : At Tryz.prog 240 (.struct (Ba Tryz.prog 240)) 11 48 [.int .u64 0, .int .u64 0, .int .u32 0, .int .u8 0, .int .u8 0, .int .u8 0, .int .u8 0, .nilFunc, .pointer none, .int .i32 0, .int .i32 0] := Ti
instance : Fm Tryz.prog 49 [(0, 1), (1, 1)] := SiZ
instance : Cz Tryz.prog 49 0 0 := Di rfl rfl
instance : Cz Tryz.prog 49 1 1 := Di rfl rfl
instance : Fm Tryz.prog 55 [(0, 1), (1, 1)] := SiZ
instance : Cz Tryz.prog 55 0 0 := Di rfl rfl
instance : Cz Tryz.prog 55 1 1 := Di rfl rfl
instance : Cz Tryz.prog 60 0 0 := Di rfl rfl
instance : Cz Tryz.prog 60 1 1 := Di rfl rfl
instance : Fm Tryz.prog 68 [(0, 1), (1, 1)] := SiZ
instance : Cz Tryz.prog 68 0 0 := Di rfl rfl
instance : Cz Tryz.prog 68 1 1 := Di rfl rfl
instance : Fm Tryz.prog 84 [(0, 1), (1, 1)] := SiZ
instance : Cz Tryz.prog 84 0 0 := Di rfl rfl
instance : Cz Tryz.prog 84 1 1 := Di rfl rfl
instance : Fm Tryz.prog 94 [(0, 1), (1, 1)] := SiZ
instance : Cz Tryz.prog 94 0 0 := Di rfl rfl
instance : Cz Tryz.prog 94 1 1 := Di rfl rfl
instance : Fm Tryz.prog 105 [(0, 1), (1, 1), (2, 1), (3, 1)] := SiZ
instance : Cz Tryz.prog 105 0 0 := Di rfl rfl
instance : Cz Tryz.prog 105 1 1 := Di rfl rfl
instance : Cz Tryz.prog 105 2 2 := Di rfl rfl
instance : Cz Tryz.prog 105 3 3 := Di rfl rfl
instance : Fm Tryz.prog 118 [(0, 1), (1, 1), (2, 1)] := SiZ
instance : Cz Tryz.prog 118 0 0 := Di rfl rfl
instance : Cz Tryz.prog 118 1 1 := Di rfl rfl
instance : Cz Tryz.prog 118 2 2 := Di rfl rfl
instance : Fm Tryz.prog 134 [(0, 1), (1, 1)] := SiZ
instance : Cz Tryz.prog 134 0 0 := Di rfl rfl
instance : Cz Tryz.prog 134 1 1 := Di rfl rfl
instance : Fm Tryz.prog 139 [(0, 1), (1, 1), (2, 1)] := SiZ
instance : Cz Tryz.prog 139 0 0 := Di rfl rfl
instance : Cz Tryz.prog 139 1 1 := Di rfl rfl
instance : Cz Tryz.prog 139 2 2 := Di rfl rfl
instance : Fm Tryz.prog 145 [(0, 1), (1, 1), (2, 1), (3, 1)] := SiZ
instance : Cz Tryz.prog 145 0 0 := Di rfl rfl
instance : Cz Tryz.prog 145 1 1 := Di rfl rfl
instance : Cz Tryz.prog 145 2 2 := Di rfl rfl
instance : Cz Tryz.prog 145 3 3 := Di rfl rfl
instance : Fm Tryz.prog 155 [(0, 1), (1, 1), (2, 1)] := SiZ
instance : Cz Tryz.prog 155 0 0 := Di rfl rfl
instance : Cz Tryz.prog 155 1 1 := Di rfl rfl
instance : Cz Tryz.prog 155 2 2 := Di rfl rfl
instance : Fm Tryz.prog 179 [(0, 1), (1, 1)] := SiZ
instance : Cz Tryz.prog 179 0 0 := Di rfl rfl
instance : Cz Tryz.prog 179 1 1 := Di rfl rfl
instance : Fm Tryz.prog 199 [(0, 1), (1, 2)] := SiZ
instance : Cz Tryz.prog 199 0 0 := Di rfl rfl
instance : Cz Tryz.prog 199 1 1 := Di rfl rfl
end Go.Proofs.YtmfagaajiakgoaaGreatDoor
