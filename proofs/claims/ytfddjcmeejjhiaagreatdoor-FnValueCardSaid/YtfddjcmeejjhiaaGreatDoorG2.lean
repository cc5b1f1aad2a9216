/- The rules of single operations: numbers, strings, variables in memory, slices, calls. No conditions. -/
import Derived.Test.YtfddjcmeejjhiaaGreatDoorG1
import Derived.Laws.Strings
import Derived.Test.YtfddjcmeejjhiaaGreatDoorRows

namespace Go.Proofs.YtfddjcmeejjhiaaGreatDoor
set_option linter.unusedVariables false
set_option linter.unusedSimpArgs false

@[reducible] def str (l : List UInt8) : ByteArray := ⟨l.toArray⟩

class Aq (P : Program) (T : TypeId) (d : outParam TypeDesc) (size bytes : outParam Nat) (zero : outParam (List Value)) : Prop where
 und : P.underlying T = some d
 info : ∃ i z, P.info? T = some i ∧ i.size = size ∧ i.bytes = bytes ∧ i.zero = some z ∧ z.cells.toList = zero

class Au (P : Program) (S : TypeId) (i : Nat) (off : outParam Nat) : Prop where
 get : ∃ fs fld inf, P.underlying S = some (.struct fs) ∧ fs[i]? = some fld ∧ P.info? fld.type = some inf ∧ inf.size ≠ 0 ∧ fld.offset = off

section
variable {P : Program}
theorem A8 {T : TypeId} {d : TypeDesc} (h : P.underlying T = some d) (w : World) : (underlying T).run P w = .ok d w := by
 simp only [underlying, program]; show (match P.underlying T with | some d => pure d | none => stuck "no such type" : Sem TypeDesc).run P w = _; rw [h]; rfl
theorem G6 {T : TypeId} {i : TypeInfo} (h : P.info? T = some i) (w : World) : (typeInfo T).run P w = .ok i w := by
 simp only [typeInfo, program]; show (match P.info? T with | some d => pure d | none => stuck "no such type" : Sem TypeInfo).run P w = _; rw [h]; rfl
theorem Ez {T : TypeId} {d : TypeDesc} {s b : Nat} {z : List Value} (h : Aq P T d s b z) (w : World) : (sizeOf T).run P w = .ok s w := by
 obtain ⟨i, z, hi, hs, _⟩ := h.info
 unfold sizeOf
 rw [Ac (G6 hi w), ← hs]; rfl
theorem I9 {T : TypeId} {d : TypeDesc} {s b : Nat} {z : List Value} (h : Aq P T d s b z) (w : World) : ∃ i, (typeInfo T).run P w = .ok i w ∧ i.bytes = b := by
 obtain ⟨i, z, hi, hs, hb, _⟩ := h.info
 exact ⟨i, G6 hi w, hb⟩
theorem Hs {T : TypeId} {d : TypeDesc} {s b : Nat} {z : List Value} (h : Aq P T d s b z) (w : World) : ∃ v, (zeroValue T).run P w = .ok v w ∧ v.cells.toList = z := by
 obtain ⟨i, v, hi, _, _, hz, hv⟩ := h.info; refine ⟨v, ?_, hv⟩
 unfold zeroValue
 rw [Ac (G6 hi w), hz]; rfl

def Me : TypeDesc → Bool
 | .struct _ | .array _ _ => false
 | _ => true
theorem Te {T : TypeId} {d : TypeDesc} (h : P.underlying T = some d) (hs : Me d = true) (w : World) : (isAgg T).run P w = .ok false w := by
 unfold isAgg
 rw [Ac (A8 h w)]
 cases d <;> first | rfl | simp [Me] at hs
theorem Nx {T : TypeId} {fs : Array Field} (h : P.underlying T = some (.struct fs)) (w : World) : (isAgg T).run P w = .ok true w := by
 unfold isAgg; rw [Ac (A8 h w)]; rfl
def Fv (I : Heap) (L : Bh) (a : Addr) (vs : List Value) : Prop := ∀ w, Mem I L w → ∀ i (h : i < vs.length), w.cell? (a.add i) = some vs[i]

theorem L1 {w : World} {a : Addr} {v : Value} (h : w.cell? a = some v) : (load a).run P w = .ok v w := by
 simp [load, Sem.run, h]

theorem M2 {w : World} {a : Addr} : ∀ (vs : List Value) (i : Nat) (acc : Array Value), (∀ j (h : j < vs.length), w.cell? (a.add (i + j)) = some vs[j]) →
  (loadCellsFrom a i vs.length acc).run P w = .ok (acc ++ vs.toArray) w := by
 intro vs
 induction vs with
 | nil => intro i acc h; simp [loadCellsFrom, Fy]
 | cons v vs ih =>
  intro i acc h
  simp only [List.length_cons, loadCellsFrom]
  rw [Ac (L1 (show w.cell? (a.add i) = some v from h 0 (by simp)))]
  rw [ih (i + 1) (acc.push v) (fun j hj => by
   have := h (j + 1) (by simp; omega)
   rw [show i + 1 + j = i + (j + 1) by omega]; simpa using this)]
  simp
theorem Jh {w : World} {a : Addr} (vs : List Value) (h : ∀ j (h : j < vs.length), w.cell? (a.add j) = some vs[j]) :
  (loadCells a vs.length).run P w = .ok vs.toArray w := by
 unfold loadCells
 rw [M2 vs 0 #[] (by simpa using h)]; simp

theorem En {I : Heap} {L : Bh} {T : TypeId} {a : Addr} {v : Value} {d : TypeDesc} {s b : Nat} {z : List Value} [ht : Aq P T d s b z] (hd : Me d = true)
  (h : Fv I L a [v]) : Fk P I L T a v := by
 intro w hm
 unfold loadVar
 rw [Ac (Te ht.und hd w)]
 have := h w hm 0 (by simp)
 exact L1 (by simpa [Addr.add] using this)
theorem Ke {I : Heap} {L : Bh} {T : TypeId} {a : Addr} {vs : List Value} {fs : Array Field} {s b : Nat} {z : List Value} [ht : Aq P T (.struct fs) s b z]
  (hl : vs.length = s) (h : Fv I L a vs) : Fk P I L T a (.agg vs.toArray) := by
 intro w hm
 unfold loadVar
 rw [Ac (Nx ht.und w)]
 show (do pure (.agg (← loadCells a (← sizeOf T))) : Sem Value).run P w = _
 rw [Ac (Ez ht w), ← hl, Ac (Jh vs (h w hm))]; rfl
/- A stretch of a list of cells, forced. -/
def Qk : Nat → List Value → Option (List Value)
 | 0, _ => some []
 | k + 1, v :: cs => match Qk k cs with
  | some vs => some (v :: vs)
  | none => none
 | _ + 1, [] => none
def Mh : Nat → Nat → List Value → Option (List Value)
 | 0, k, cs => Qk k cs
 | o + 1, k, _ :: cs => Mh o k cs
 | _ + 1, _, [] => none
theorem Yx : ∀ {k : Nat} {cs vs : List Value}, Qk k cs = some vs → vs.length = k ∧ ∀ i, i < k → cs[i]? = vs[i]? := by
 intro k
 induction k with
 | zero => intro cs vs h; simp [Qk] at h; subst h; simp
 | succ k ih =>
  intro cs vs h
  cases cs with
  | nil => simp [Qk] at h
  | cons c cs =>
   simp only [Qk] at h
   cases ht : Qk k cs with
   | none => simp [ht] at h
   | some us =>
    simp [ht] at h
    subst h; obtain ⟨h1, h2⟩ := ih ht; refine ⟨by simp [h1], fun i hi => ?_⟩
    cases i with
    | zero => rfl
    | succ i => simpa using h2 i (by omega)
theorem Mi : ∀ {o k : Nat} {cs vs : List Value}, Mh o k cs = some vs → vs.length = k ∧ ∀ i, i < k → cs[o + i]? = vs[i]? := by
 intro o
 induction o with
 | zero => intro k cs vs h; simpa [Mh] using Yx (by simpa [Mh] using h)
 | succ o ih =>
  intro k cs vs h
  cases cs with
  | nil => simp [Mh] at h
  | cons c cs =>
   obtain ⟨h1, h2⟩ := ih (by simpa [Mh] using h)
   exact ⟨h1, fun i hi => by rw [show o + 1 + i = o + i + 1 by omega]; simpa using h2 i hi⟩

theorem Mf {w : World} {b off i : Nat} {c : Array Value} {T : TypeId} {fr : Nat × Nat} (h : w.heap[b]? = some (.cells c T fr)) :
  w.cell? (Addr.add ⟨b, off, none⟩ i) = c[off + i]? := by
 unfold Addr.add
 by_cases e : i = 0
 ·subst e; simp [World.cell?, h]
 ·simp [e, World.cell?, h]

theorem Nv {I : Heap} {L : Bh} {b off k : Nat} {cs vs : List Value} {T : TypeId} {fr : Nat × Nat} (hm : (b, Obj.cells cs.toArray T fr) ∈ L) (hc : Mh off k cs = some vs) :
  Fv I L ⟨b, off, none⟩ vs := by
 intro w hw i hi; rw [Mf (hw.2.1 _ hm).1]; obtain ⟨h1, h2⟩ := Mi hc
 have := h2 i (by omega)
 simpa [hi] using this

theorem Ce {I : Heap} {L : Bh} {b off : Nat} {cs vs : List Value} {T : TypeId} {fr : Nat × Nat} (hm : (b, Obj.cells cs.toArray T fr) ∈ L) (hc : Mh off vs.length cs = some vs) : Fv I L ⟨b, off, none⟩ vs := Nv hm hc

def Still (I : Heap) (a : Addr) (vs : List Value) : Prop :=
 vs = [] ∨ ∃ c T fr, I a.block = some (.cells c T fr) ∧ a.spot = none ∧ ∀ i (h : i < vs.length), c[a.off + i]? = some vs[i]
theorem Still.mono {I I' : Heap} (hle : HLe I I') {a : Addr} {vs : List Value} (h : Still I a vs) : Still I' a vs := by
 rcases h with h | ⟨c, T, fr, hb, hs, hc⟩
 ·exact .inl h
 ·exact .inr ⟨c, T, fr, hle.le _ _ hb, hs, hc⟩
theorem Still.reads {I : Heap} {L : Bh} {a : Addr} {vs : List Value} (h : Still I a vs) : Fv I L a vs := by
 intro w hw i hi
 rcases h with h | ⟨c, T, fr, hb, hs, hc⟩
 ·subst h; simp at hi
 ·obtain ⟨b, off, sp⟩ := a
  simp at hs
  subst hs; rw [Mf (hw.1.1 _ _ hb)]
  exact hc i hi
theorem Still.part {I : Heap} {a : Addr} {vs us : List Value} (h : Still I a vs) (off : Nat) (hu : ∀ i (hi : i < us.length), vs[off + i]? = some us[i]) : Still I (a.add off) us := by
 rcases Nat.eq_zero_or_pos us.length with e | e
 ·exact .inl (List.length_eq_zero_iff.1 e)
 ·rcases h with h | ⟨c, T, fr, hb, hs, hc⟩
  ·subst h; have := hu 0 e; simp at this
  ·refine .inr ⟨c, T, fr, ?_, ?_, ?_⟩
   ·unfold Addr.add; split <;> exact hb
   ·unfold Addr.add; split <;> first | exact hs | rfl
   ·intro i hi
    have h1 := hu i hi
    have h2 : off + i < vs.length := by
     rcases Nat.lt_or_ge (off + i) vs.length with g | g
     ·exact g
     ·simp [List.getElem?_eq_none g] at h1
    have h3 := hc (off + i) h2
    have h4 : vs[off + i] = us[i] := by simpa [h2] using h1
    rw [h4] at h3
    have : (a.add off).off + i = a.off + (off + i) := by
     unfold Addr.add; split
     ·subst_vars; omega
     ·simp; omega
    rw [this]; exact h3

theorem Still.cut {I : Heap} {a : Addr} {vs us : List Value} {o k : Nat} (h : Still I a vs) (hc : Mh o k vs = some us) : Still I (a.add o) us := by
 obtain ⟨h1, h2⟩ := Mi hc
 exact h.part o fun i hi => by rw [h2 i (by omega)]; simp [hi]

theorem Fj {I : Heap} {L : Bh} {T : TypeId} {b off : Nat} {v : Value} {cs : List Value} {U : TypeId} {fr : Nat × Nat} {d : TypeDesc} {s bb : Nat} {z : List Value} [ht : Aq P T d s bb z]
  (hm : (b, Obj.cells cs.toArray U fr) ∈ L) (hc : Mh off 1 cs = some [v]) (hd : Me d = true) : Fk P I L T ⟨b, off, none⟩ v := En hd (Nv hm hc)
theorem Gu {I : Heap} {L : Bh} {T : TypeId} {b off : Nat} {vs : List Value} {cs : List Value} {U : TypeId} {fr : Nat × Nat} {fs : Array Field} {s bb : Nat} {z : List Value} [ht : Aq P T (.struct fs) s bb z]
  (hm : (b, Obj.cells cs.toArray U fr) ∈ L) (hc : Mh off s cs = some vs) : Fk P I L T ⟨b, off, none⟩ (.agg vs.toArray) := Ke (Mi hc).1 (Nv hm hc)
theorem A9 {I : Heap} {L : Bh} {T : TypeId} {a : Addr} {v : Value} {d : TypeDesc} {s bb : Nat} {z : List Value} [ht : Aq P T d s bb z] (h : Still I a [v]) (hd : Me d = true) : Fk P I L T a v := En hd h.reads
theorem Bc {I : Heap} {L : Bh} {T : TypeId} {a : Addr} {vs : List Value} {fs : Array Field} {s bb : Nat} {z : List Value} [ht : Aq P T (.struct fs) s bb z] (h : Still I a vs) (hl : vs.length = s) : Fk P I L T a (.agg vs.toArray) := Ke hl h.reads
theorem Ba {I : Heap} {L : Bh} {T : TypeId} {a : Addr} {v : Value} {vs : List Value} {o : Nat} {d : TypeDesc} {s bb : Nat} {z : List Value} [ht : Aq P T d s bb z] (h : Still I a vs) (hc : Mh o 1 vs = some [v]) (hd : Me d = true) :
  Fk P I L T (a.add o) v := En hd (h.cut hc).reads

/- Values by their cells. -/
def Fc : Value → Option (List Value)
 | .agg c => some c.toList
 | .tuple _ => none
 | v => some [v]
theorem Hv {v : Value} {vs : List Value} (h : Fc v = some vs) : v.cells = vs.toArray := by
 cases v <;> simp [Fc] at h <;> subst h <;> rfl

def Cj : Value → Bool
 | .agg _ | .tuple _ => false
 | _ => true
end

section rules
variable {P : Program} {f : FuncId} {n : Nat} {I₀ : Heap} {Q : Cs} {k : List Item} {E : Gm} {I : Heap} {L : Bh}
variable {ops : Array Oper} {d : Nat} {ty : TypeId} {pos : String} {af : Array Edge} {g : Option (Nat × Bool)} {l : List Oper}

theorem E4 {S : World → Prop} {c x y : Operand} {v : Value} (hc : A7 E c = some (.bool true)) (hx : A7 E x = some v) : Gn P E S ⟨some d, .pick c x y, ty, pos, af, g⟩ (v) := fun a w he _ => by simp [execOp, he.eval hc, he.eval hx, asBool]
theorem Fe {c x y : Operand} {v : Value} (hc : A7 E c = some (.bool true)) (hx : A7 E x = some v) (hg : Wants ops E g) (hdn : Nat.blt d n = true)
  (h : A4 P f n I₀ Q ops l k ((d, v) :: E) I L) : A4 P f n I₀ Q ops (⟨some d, .pick c x y, ty, pos, af, g⟩ :: l) k E I L := Dr (E4 hc hx) hg hdn h
theorem Ep {S : World → Prop} {c x y : Operand} {v : Value} (hc : A7 E c = some (.bool false)) (hy : A7 E y = some v) : Gn P E S ⟨some d, .pick c x y, ty, pos, af, g⟩ (v) := fun a w he _ => by simp [execOp, he.eval hc, he.eval hy, asBool]
theorem Eo {c x y : Operand} {v : Value} (hc : A7 E c = some (.bool false)) (hy : A7 E y = some v) (hg : Wants ops E g) (hdn : Nat.blt d n = true)
  (h : A4 P f n I₀ Q ops l k ((d, v) :: E) I L) : A4 P f n I₀ Q ops (⟨some d, .pick c x y, ty, pos, af, g⟩ :: l) k E I L := Dr (Ep hc hy) hg hdn h

theorem Xk {S : World → Prop} {x : Operand} {b : Bool} {T : TypeId} (hx : A7 E x = some (.bool b)) : Gn P E S ⟨some d, .unOp .not T x, ty, pos, af, g⟩ (.bool (!b)) := fun a w he _ => by simp [execOp, he.eval hx, Op.unary]
theorem Cp {x : Operand} {b : Bool} {T : TypeId} (hx : A7 E x = some (.bool b)) (hg : Wants ops E g) (hdn : Nat.blt d n = true)
  (h : A4 P f n I₀ Q ops l k ((d, .bool (!b)) :: E) I L) : A4 P f n I₀ Q ops (⟨some d, .unOp .not T x, ty, pos, af, g⟩ :: l) k E I L := Dr (Xk hx) hg hdn h
theorem Adm {S : World → Prop} {x : Operand} {m : Int} {T : TypeId} (hx : A7 E x = some (.int .i64 m)) (hr : -9223372036854775807 ≤ m ∧ m ≤ 9223372036854775807) : Gn P E S ⟨some d, .unOp .neg T x, ty, pos, af, g⟩ (.int .i64 (-m)) := fun a w he _ => by
  have e : IntKind.i64.wrap (0 - m) = -m := by simp [IntKind.wrap, IntKind.bits, IntKind.signed]; omega
  simp [execOp, he.eval hx, Op.unary, Op.intArith] at e ⊢
  exact e
theorem Adh {x : Operand} {m : Int} {T : TypeId} (hx : A7 E x = some (.int .i64 m)) (hr : -9223372036854775807 ≤ m ∧ m ≤ 9223372036854775807) (hg : Wants ops E g) (hdn : Nat.blt d n = true)
  (h : A4 P f n I₀ Q ops l k ((d, .int .i64 (-m)) :: E) I L) : A4 P f n I₀ Q ops (⟨some d, .unOp .neg T x, ty, pos, af, g⟩ :: l) k E I L := Dr (Adm hx hr) hg hdn h

theorem Ch {S : World → Prop} {x : Operand} {vs : List Value} {i : Nat} {v : Value} (hx : A7 E x = some (.tuple vs.toArray)) (hi : vs[i]? = some v) : Gn P E S ⟨some d, .extract x i, ty, pos, af, g⟩ (v) := fun a w he _ => by simp [execOp, he.eval hx, Instr.extract, hi]
theorem Yq {x : Operand} {vs : List Value} {i : Nat} {v : Value} (hx : A7 E x = some (.tuple vs.toArray)) (hi : vs[i]? = some v) (hg : Wants ops E g) (hdn : Nat.blt d n = true)
  (h : A4 P f n I₀ Q ops l k ((d, v) :: E) I L) : A4 P f n I₀ Q ops (⟨some d, .extract x i, ty, pos, af, g⟩ :: l) k E I L := Dr (Ch hx hi) hg hdn h

def Pn : BinOp → Int → Int → Option Bool
 | .eql, a, b => some (decide (a = b))
 | .neq, a, b => some (!decide (a = b))
 | .lss, a, b => some (decide (a < b))
 | .leq, a, b => some (decide (a ≤ b))
 | .gtr, a, b => some (decide (b < a))
 | .geq, a, b => some (decide (b ≤ a))
 | _, _, _ => none
theorem Wu {op : BinOp} {T : TypeId} {kk : IntKind} {a b : Int} {r : Bool} (h : Pn op a b = some r) (w : World) : (binOp op T (.int kk a) (.int kk b)).run P w = .ok (.bool r) w := by
 cases op <;> simp only [Pn, Option.some.injEq, reduceCtorEq] at h <;> subst h <;> simp [binOp, Op.intCmp, bne, decide_not] <;> rfl
theorem Ey {op : BinOp} {T : TypeId} {x y : Operand} {kk kk' : IntKind} {a b : Int} (w : World) : (eqGuard op T x y (.int kk a) (.int kk' b)).run P w = .ok () w := by
 unfold eqGuard; split <;> rfl
theorem Iu {op : BinOp} {T : TypeId} {x y : Operand} {a b : ByteArray} (w : World) : (eqGuard op T x y (.string a) (.string b)).run P w = .ok () w := by
 unfold eqGuard; split <;> rfl

theorem O5 {S : World → Prop} {op : BinOp} {T T' : TypeId} {x y : Operand} {kk : IntKind} {a b : Int} {r : Bool} (hx : A7 E x = some (.int kk a)) (hy : A7 E y = some (.int kk b)) (hr : Pn op a b = some r)
  : Gn P E S ⟨some d, .binOp op T x y T', ty, pos, af, g⟩ (.bool r) := fun a w he _ => by
  simp only [execOp, he.eval hx, he.eval hy]
  refine Ac (a := _) (w' := w) ?_ |>.trans rfl
  rw [Ac (Ey w)]
  exact Wu hr w
theorem Dh {op : BinOp} {T T' : TypeId} {x y : Operand} {kk : IntKind} {a b : Int} {r : Bool} (hx : A7 E x = some (.int kk a)) (hy : A7 E y = some (.int kk b)) (hr : Pn op a b = some r)
  (hg : Wants ops E g) (hdn : Nat.blt d n = true)
  (h : A4 P f n I₀ Q ops l k ((d, .bool r) :: E) I L) : A4 P f n I₀ Q ops (⟨some d, .binOp op T x y T', ty, pos, af, g⟩ :: l) k E I L := Dr (O5 hx hy hr) hg hdn h

def W4 : BinOp → Int → Int → Option Int
 | .add, a, b => some (a + b)
 | .sub, a, b => some (a - b)
 | .mul, a, b => some (a * b)
 | _, _, _ => none
theorem M8 {m : Int} (h : -9223372036854775808 ≤ m ∧ m ≤ 9223372036854775807) : IntKind.i64.wrap m = m := by
 simp [IntKind.wrap, IntKind.bits, IntKind.signed]; omega
theorem Gf {S : World → Prop} {op : BinOp} {T T' : TypeId} {x y : Operand} {a b m : Int} (hx : A7 E x = some (.int .i64 a)) (hy : A7 E y = some (.int .i64 b)) (hr : W4 op a b = some m)
  (hb : -9223372036854775808 ≤ m ∧ m ≤ 9223372036854775807) : Gn P E S ⟨some d, .binOp op T x y T', ty, pos, af, g⟩ (.int .i64 m) := fun a' w he _ => by
  simp only [execOp, he.eval hx, he.eval hy]
  refine Ac (a := _) (w' := w) ?_ |>.trans rfl
  rw [Ac (Ey w)]
  have := M8 hb
  cases op <;> simp [W4] at hr <;> subst hr <;> simp [binOp, Op.intArith] <;> (simp only [this])
theorem I5 {op : BinOp} {T T' : TypeId} {x y : Operand} {a b m : Int} (hx : A7 E x = some (.int .i64 a)) (hy : A7 E y = some (.int .i64 b)) (hr : W4 op a b = some m)
  (hb : -9223372036854775808 ≤ m ∧ m ≤ 9223372036854775807) (hg : Wants ops E g) (hdn : Nat.blt d n = true)
  (h : A4 P f n I₀ Q ops l k ((d, .int .i64 m) :: E) I L) : A4 P f n I₀ Q ops (⟨some d, .binOp op T x y T', ty, pos, af, g⟩ :: l) k E I L := Dr (Gf hx hy hr hb) hg hdn h

theorem Wx (l : List UInt8) : (str l).toList = l := ByteArray.toList_mk l
def Sb : BinOp → List UInt8 → List UInt8 → Option Bool
 | .eql, a, b => some (decide (a = b))
 | .neq, a, b => some (!decide (a = b))
 | _, _, _ => none
theorem Tp {S : World → Prop} {op : BinOp} {T T' : TypeId} {x y : Operand} {a b : List UInt8} {r : Bool} (hx : A7 E x = some (.string (str a))) (hy : A7 E y = some (.string (str b))) (hr : Sb op a b = some r)
  : Gn P E S ⟨some d, .binOp op T x y T', ty, pos, af, g⟩ (.bool r) := fun a' w he _ => by
  simp only [execOp, he.eval hx, he.eval hy]
  refine Ac (a := _) (w' := w) ?_ |>.trans rfl
  rw [Ac (Iu w)]
  cases op <;> simp only [Sb, Option.some.injEq, reduceCtorEq] at hr <;> subst hr <;> simp [binOp, Op.stringOp, Wx, Bool.beq_eq_decide_eq] <;> rfl
theorem Cg {op : BinOp} {T T' : TypeId} {x y : Operand} {a b : List UInt8} {r : Bool} (hx : A7 E x = some (.string (str a))) (hy : A7 E y = some (.string (str b))) (hr : Sb op a b = some r)
  (hg : Wants ops E g) (hdn : Nat.blt d n = true)
  (h : A4 P f n I₀ Q ops l k ((d, .bool r) :: E) I L) : A4 P f n I₀ Q ops (⟨some d, .binOp op T x y T', ty, pos, af, g⟩ :: l) k E I L := Dr (Tp hx hy hr) hg hdn h
theorem Vr {S : World → Prop} {T T' : TypeId} {x y : Operand} {a b : List UInt8} (hx : A7 E x = some (.string (str a))) (hy : A7 E y = some (.string (str b)))
  (hb : a.length + b.length ≤ 9223372036854775807)
  : Gn P E S ⟨some d, .binOp .add T x y T', ty, pos, af, g⟩ (.string (str (a ++ b))) := fun a' w he _ => by
  simp only [execOp, he.eval hx, he.eval hy]
  refine Ac (a := _) (w' := w) ?_ |>.trans rfl
  rw [Ac (Iu w)]
  have h1 : (str a).size = a.length := by simp [str, ByteArray.size]
  have h2 : (str b).size = b.length := by simp [str, ByteArray.size]
  have h3 : str a ++ str b = str (a ++ b) := by
   apply ByteArray.ext; simp [str]
  have h4 : ¬ ((((str a).size + (str b).size : Nat) : Int) > IntKind.i64.max) := by rw [h1, h2]; simp [IntKind.max, IntKind.bits, IntKind.signed]; omega
  simp only [binOp, Op.stringOp, if_neg h4, h3]; rfl
theorem Aaq {T T' : TypeId} {x y : Operand} {a b : List UInt8} (hx : A7 E x = some (.string (str a))) (hy : A7 E y = some (.string (str b)))
  (hb : a.length + b.length ≤ 9223372036854775807)
  (hg : Wants ops E g) (hdn : Nat.blt d n = true)
  (h : A4 P f n I₀ Q ops l k ((d, .string (str (a ++ b))) :: E) I L) : A4 P f n I₀ Q ops (⟨some d, .binOp .add T x y T', ty, pos, af, g⟩ :: l) k E I L := Dr (Vr hx hy hb) hg hdn h

theorem Y0 {S : World → Prop} {x : Operand} {s : List UInt8} {T : TypeId} {sz bb : Nat} {z : List Value} [ht : Aq P T .string sz bb z] (hx : A7 E x = some (.string (str s))) :
  Gn P E S ⟨some d, .call ⟨.builtin .len, #[x], #[T]⟩, ty, pos, af, g⟩ (.int .i64 (s.length : Nat)) := fun a w he _ => by
  simp only [execOp, resolve, List.map_toArray, List.map, he.eval hx]
  simp only [pure_bind, invoke, builtin, Builtin.len_]
  refine Ac (a := _) (w' := w) ?_ |>.trans rfl
  simp only [List.getElem?_toArray, List.getElem?_cons_zero]
  rw [Ac (A8 ht.und w)]
  simp [goInt, Fy, str, ByteArray.size]
theorem Cn {x : Operand} {s : List UInt8} {T : TypeId} {sz bb : Nat} {z : List Value} [ht : Aq P T .string sz bb z] (hx : A7 E x = some (.string (str s))) (hg : Wants ops E g) (hdn : Nat.blt d n = true)
  (h : A4 P f n I₀ Q ops l k ((d, .int .i64 (s.length : Nat)) :: E) I L) : A4 P f n I₀ Q ops (⟨some d, .call ⟨.builtin .len, #[x], #[T]⟩, ty, pos, af, g⟩ :: l) k E I L := Dr (Y0 hx) hg hdn h

theorem Fq {S : World → Prop} {x : Operand} {ad : Option Addr} {m c : Nat} {e T : TypeId} {sz bb : Nat} {z : List Value} [ht : Aq P T (.slice e) sz bb z] (hx : A7 E x = some (.slice ad m c)) : Gn P E S ⟨some d, .call ⟨.builtin .len, #[x], #[T]⟩, ty, pos, af, g⟩ (.int .i64 (m : Nat)) := fun a w he _ => by
  simp only [execOp, resolve, List.map_toArray, List.map, he.eval hx]
  simp only [pure_bind, invoke, builtin, Builtin.len_]
  refine Ac (a := _) (w' := w) ?_ |>.trans rfl
  simp only [List.getElem?_toArray, List.getElem?_cons_zero]
  rw [Ac (A8 ht.und w)]
  rfl
theorem I6 {x : Operand} {ad : Option Addr} {m c : Nat} {e T : TypeId} {sz bb : Nat} {z : List Value} [ht : Aq P T (.slice e) sz bb z] (hx : A7 E x = some (.slice ad m c)) (hg : Wants ops E g) (hdn : Nat.blt d n = true)
  (h : A4 P f n I₀ Q ops l k ((d, .int .i64 (m : Nat)) :: E) I L) : A4 P f n I₀ Q ops (⟨some d, .call ⟨.builtin .len, #[x], #[T]⟩, ty, pos, af, g⟩ :: l) k E I L := Dr (Fq hx) hg hdn h

theorem Vs {S : World → Prop} {x y : Operand} {s : List UInt8} {i : Nat} {b : UInt8} {T : TypeId} {sz bb : Nat} {z : List Value} [ht : Aq P T .string sz bb z] (hx : A7 E x = some (.string (str s)))
  (hy : A7 E y = some (.int .i64 ((i : Nat) : Int))) (hi : s[i]? = some b) : Gn P E S ⟨some d, .index T x y, ty, pos, af, g⟩ (.int .u8 (b.toNat : Nat)) := fun a w he _ => by
  simp only [execOp, he.eval hx, he.eval hy, Instr.index, asIntOf, pure_bind]
  refine Ac (a := _) (w' := w) ?_ |>.trans rfl
  rw [Ac (A8 ht.und w)]
  have hlt : i < s.length := by
   rcases Nat.lt_or_ge i s.length with gg | gg
   ·exact gg
   ·simp [List.getElem?_eq_none gg] at hi
  have : (str s)[i]? = some b := by
   have h1 : i < (str s).size := by simpa [str, ByteArray.size] using hlt
   rw [getElem?_pos (str s) i h1]
   simp [hlt] at hi
   rw [← hi]; rfl
  simp [this, Fy]
theorem U1 {x y : Operand} {s : List UInt8} {i : Nat} {b : UInt8} {T : TypeId} {sz bb : Nat} {z : List Value} [ht : Aq P T .string sz bb z] (hx : A7 E x = some (.string (str s)))
  (hy : A7 E y = some (.int .i64 ((i : Nat) : Int))) (hi : s[i]? = some b) (hg : Wants ops E g) (hdn : Nat.blt d n = true)
  (h : A4 P f n I₀ Q ops l k ((d, .int .u8 (b.toNat : Nat)) :: E) I L) : A4 P f n I₀ Q ops (⟨some d, .index T x y, ty, pos, af, g⟩ :: l) k E I L := Dr (Vs hx hy hi) hg hdn h


/- Parts of strings. -/
theorem Ll {v : Int} {kk : IntKind} {y : Nat} {c : BoundsCode} {r : Nat} (hr : v = (r : Int)) (hb : r ≤ y) (w : World) : (Instr.sliceBound (.int kk v) y c).run P w = .ok r w := by
 simp only [Instr.sliceBound, asIntOf, pure_bind]
 subst hr; rw [if_pos (by omega)]; rfl
theorem Ua {s : List UInt8} {a b : Nat} (hb : b ≤ s.length) : (str s).extract a b = str ((s.take b).drop a) := by
 apply ByteArray.ext
 simp [str, ByteArray.data_extract]
 rw [List.drop_take]

def Lu (E : Gm) : Option Operand → Option Int
 | none => some 0
 | some x => match A7 E x with | some (.int .i64 m) => some m | _ => none
def Lt (E : Gm) (top : Int) : Option Operand → Option Int
 | none => some top
 | some x => match A7 E x with | some (.int .i64 m) => some m | _ => none
theorem La {S : World → Prop} {x : Operand} {s : List UInt8} {lo hi : Option Operand} {a b : Int} {T : TypeId} {sz bb : Nat} {z : List Value} [ht : Aq P T .string sz bb z] (hx : A7 E x = some (.string (str s)))
  (hlo : Lu E lo = some a) (hhi : Lt E s.length hi = some b) (a' b' : Nat) (ha : a = a') (hb : b = b') (hab : a' ≤ b' ∧ b' ≤ s.length) : Gn P E S ⟨some d, .slice T x lo hi none, ty, pos, af, g⟩ (.string (str ((s.take b').drop a'))) := fun ac w he _ => by
  simp only [execOp, he.eval hx, Instr.sliceAt]
  refine Ac (a := _) (w' := w) ?_ |>.trans rfl
  rw [Ac (A8 ht.und w)]
  simp only [Instr.slice]
  rw [Ac (A8 ht.und w)]
  have hsz : (str s).size = s.length := by simp [str, ByteArray.size]
  have key : (Instr.sliceBounds false (str s).size (str s).size (lo.map ac.eval) (hi.map ac.eval) none).run P w = .ok (a', b', s.length) w := by
   rw [hsz]
   unfold Instr.sliceBounds
   simp only [pure_bind]
   have hlo' : lo = none ∧ a' = 0 ∨ ∃ y, lo = some y ∧ ac.eval y = .int .i64 a := by
    cases lo with
    | none => simp [Lu] at hlo; exact .inl ⟨rfl, by omega⟩
    | some y =>
     simp only [Lu] at hlo
     split at hlo
     ·rename_i m hm
      simp at hlo; subst hlo
      exact .inr ⟨y, rfl, he.eval hm⟩
     ·simp at hlo
   have tail : ∀ h' : Nat, h' = b' → (match lo.map ac.eval with
     | some v => do
      let l ← Instr.sliceBound v h' (if (none : Option Value).isSome = true then .slice3C else .sliceB)
      pure (l, h', s.length)
     | none => pure (0, h', s.length) : Sem (Nat × Nat × Nat)).run P w = .ok (a', b', s.length) w := by
    intro h' e; subst e
    rcases hlo' with ⟨e, e'⟩ | ⟨y, e, hy⟩
    ·subst e e'; rfl
    ·subst e
     simp only [Option.map_some, hy]
     rw [Ac (Ll ha hab.1 w)]; rfl
   cases hi with
   | none =>
    simp [Lt] at hhi
    simp only [Option.map_none]
    exact tail s.length (by omega)
   | some y =>
    simp only [Lt] at hhi
    split at hhi
    ·rename_i m hm
     simp at hhi; subst hhi
     simp only [Option.map_some, he.eval hm]
     rw [Ac (Ll hb hab.2 w)]
     exact tail b' rfl
    ·simp at hhi
  show (do let x ← Instr.sliceBounds false (str s).size (str s).size (lo.map ac.eval) (hi.map ac.eval) none; pure (.string ((str s).extract x.1 x.2.1)) : Sem Value).run P w = _
  rw [Ac key, Ua hab.2]; rfl
theorem O0 {x : Operand} {s : List UInt8} {lo hi : Option Operand} {a b : Int} {T : TypeId} {sz bb : Nat} {z : List Value} [ht : Aq P T .string sz bb z] (hx : A7 E x = some (.string (str s)))
  (hlo : Lu E lo = some a) (hhi : Lt E s.length hi = some b) (a' b' : Nat) (ha : a = a') (hb : b = b') (hab : a' ≤ b' ∧ b' ≤ s.length) (hg : Wants ops E g) (hdn : Nat.blt d n = true)
  (h : A4 P f n I₀ Q ops l k ((d, .string (str ((s.take b').drop a'))) :: E) I L) : A4 P f n I₀ Q ops (⟨some d, .slice T x lo hi none, ty, pos, af, g⟩ :: l) k E I L := Dr (La hx hlo hhi a' b' ha hb hab) hg hdn h

/- Variables in memory. -/
theorem Fu {S : World → Prop} {x : Operand} {s : List UInt8} {lo : Option Operand} {a : Int} {T : TypeId} {sz bb : Nat} {z : List Value} [ht : Aq P T .string sz bb z] (hx : A7 E x = some (.string (str s)))
  (hlo : Lu E lo = some a) (a' : Nat) (ha : a = a') (hab : a' ≤ s.length) : Gn P E S ⟨some d, .slice T x lo none none, ty, pos, af, g⟩ (.string (str (s.drop a'))) := by
 have := La (P := P) (S := S) (d := d) (ty := ty) (pos := pos) (af := af) (g := g) (T := T) (hi := none) hx hlo (b := s.length) rfl a' s.length ha rfl ⟨hab, Nat.le_refl _⟩
 rwa [List.take_length] at this
theorem Iw {S : World → Prop} {x : Operand} {s : List UInt8} {hi : Option Operand} {b : Int} {T : TypeId} {sz bb : Nat} {z : List Value} [ht : Aq P T .string sz bb z] (hx : A7 E x = some (.string (str s)))
  (hhi : Lt E s.length hi = some b) (b' : Nat) (hb : b = b') (hab : b' ≤ s.length) : Gn P E S ⟨some d, .slice T x none hi none, ty, pos, af, g⟩ (.string (str (s.take b'))) :=
 La (P := P) (S := S) (d := d) (ty := ty) (pos := pos) (af := af) (g := g) (T := T) (lo := none) hx (a := 0) rfl hhi 0 b' rfl hb ⟨Nat.zero_le _, hab⟩
theorem H9 {x : Operand} {s : List UInt8} {lo : Option Operand} {a : Int} {T : TypeId} {sz bb : Nat} {z : List Value} [ht : Aq P T .string sz bb z] (hx : A7 E x = some (.string (str s)))
  (hlo : Lu E lo = some a) (a' : Nat) (ha : a = a') (hab : a' ≤ s.length) (hg : Wants ops E g) (hdn : Nat.blt d n = true)
  (h : A4 P f n I₀ Q ops l k ((d, .string (str (s.drop a'))) :: E) I L) : A4 P f n I₀ Q ops (⟨some d, .slice T x lo none none, ty, pos, af, g⟩ :: l) k E I L := Dr (Fu hx hlo a' ha hab) hg hdn h
theorem Wo {x : Operand} {s : List UInt8} {hi : Option Operand} {b : Int} {T : TypeId} {sz bb : Nat} {z : List Value} [ht : Aq P T .string sz bb z] (hx : A7 E x = some (.string (str s)))
  (hhi : Lt E s.length hi = some b) (b' : Nat) (hb : b = b') (hab : b' ≤ s.length) (hg : Wants ops E g) (hdn : Nat.blt d n = true)
  (h : A4 P f n I₀ Q ops l k ((d, .string (str (s.take b'))) :: E) I L) : A4 P f n I₀ Q ops (⟨some d, .slice T x none hi none, ty, pos, af, g⟩ :: l) k E I L := Dr (Iw hx hhi b' hb hab) hg hdn h

theorem Aw {T : TypeId} {dd : TypeDesc} {sz bb : Nat} {z : List Value} [ht : Aq P T dd sz bb z] (hg : Wants ops E g) (hdn : Nat.blt d n = true)
  (h : ∀ b, A4 P f n I₀ Q ops l k ((d, .pointer (some ⟨b, 0, none⟩)) :: E) I ((b, .cells z.toArray T (0, 0)) :: L)) : A4 P f n I₀ Q ops (⟨some d, .alloc T, ty, pos, af, g⟩ :: l) k E I L := by
 refine Ia rfl hdn (fun a he => hg.wanted a he) fun a w he hm => ?_
 obtain ⟨v, hv, hz⟩ := Hs ht w; refine ⟨_, _, I, (w.heap.size, .cells z.toArray T (0, 0)) :: L, ?_, hm.alloc _, h _⟩
 simp only [execOp, Instr.alloc]
 refine Ac (a := .pointer (some ⟨w.heap.size, 0, none⟩)) (w' := { w with heap := w.heap.push (.cells z.toArray T (0, 0)) }) ?_ |>.trans rfl
 rw [Ac hv]
 have : v.cells = z.toArray := by rw [← hz]
 simp only [newVar, newRow, newObj, this]
 rfl
theorem B7 {T : TypeId} {x : Operand} {v : Value} {vs : List Value} (hx : A7 E x = some v) (hv : Fc v = some vs) (hg : Wants ops E g) (hdn : Nat.blt d n = true)
  (h : ∀ b, A4 P f n I₀ Q ops l k ((d, .pointer (some ⟨b, 0, none⟩)) :: E) I ((b, .cells vs.toArray T (0, 0)) :: L)) : A4 P f n I₀ Q ops (⟨some d, .box T x, ty, pos, af, g⟩ :: l) k E I L := by
 refine Ia rfl hdn (fun a he => hg.wanted a he) fun a w he hm => ?_
 refine ⟨_, _, I, (w.heap.size, .cells vs.toArray T (0, 0)) :: L, ?_, hm.alloc _, h _⟩
 simp only [execOp, Instr.box, he.eval hx, newVar, newRow, newObj, Hv hv]
 rfl

theorem Eh {I' : Heap} {L' : Bh} {T : TypeId} {x : Operand} {ad : Addr} {v : Value} (hx : A7 E x = some (.pointer (some ad))) (hl : Fk P I' L' T ad v) : Gn P E (Mem I' L') ⟨some d, .load T x, ty, pos, af, g⟩ v := by
 intro a w he hm
 simp only [execOp, Instr.loadAt, he.eval hx, Instr.sureAddr, pure_bind]
 exact Ac (hl w hm) |>.trans rfl
theorem Bs {T : TypeId} {x : Operand} {ad : Addr} {v : Value} (hx : A7 E x = some (.pointer (some ad))) (hl : Fk P I L T ad v) (hg : Wants ops E g) (hdn : Nat.blt d n = true)
  (h : A4 P f n I₀ Q ops l k ((d, v) :: E) I L) : A4 P f n I₀ Q ops (⟨some d, .load T x, ty, pos, af, g⟩ :: l) k E I L := Dr (Eh hx hl) hg hdn h

def Qe : List Value → List Value → Option (List Value)
 | [], cs => some cs
 | v :: vs, _ :: cs => match Qe vs cs with
  | some us => some (v :: us)
  | none => none
 | _ :: _, [] => none
def Mc : Nat → List Value → List Value → Option (List Value)
 | 0, vs, cs => Qe vs cs
 | o + 1, vs, c :: cs => match Mc o vs cs with
  | some us => some (c :: us)
  | none => none
 | _ + 1, _, [] => none
theorem Aax : ∀ {vs cs us : List Value}, Qe vs cs = some us → vs.length ≤ cs.length ∧ us = vs ++ cs.drop vs.length := by
 intro vs
 induction vs with
 | nil => intro cs us h; simp [Qe] at h; simp [h]
 | cons v vs ih =>
  intro cs us h
  cases cs with
  | nil => simp [Qe] at h
  | cons c cs =>
   simp only [Qe] at h
   cases hu : Qe vs cs with
   | none => simp [hu] at h
   | some xs =>
    simp [hu] at h
    obtain ⟨h1, h2⟩ := ih hu; subst h
    exact ⟨by simpa using h1, by simp [h2]⟩
theorem Xi : ∀ {o : Nat} {vs cs us : List Value}, Mc o vs cs = some us → o + vs.length ≤ cs.length ∧ us = cs.take o ++ vs ++ cs.drop (o + vs.length) := by
 intro o
 induction o with
 | zero => intro vs cs us h; obtain ⟨h1, h2⟩ := Aax (by simpa [Mc] using h); exact ⟨by omega, by simp [h2]⟩
 | succ o ih =>
  intro vs cs us h
  cases cs with
  | nil => simp [Mc] at h
  | cons c cs =>
   simp only [Mc] at h
   cases hu : Mc o vs cs with
   | none => simp [hu] at h
   | some xs =>
    simp [hu] at h
    obtain ⟨h1, h2⟩ := ih hu; subst h; refine ⟨by simp; omega, ?_⟩; rw [h2, show o + 1 + vs.length = o + vs.length + 1 by omega]; simp

theorem Wv {w : World} {b off : Nat} {c : Array Value} {T : TypeId} {v : Value} (hb : w.heap[b]? = some (.cells c T (0, 0))) (ho : off < c.size) (hv : Cj v = true) :
  (store ⟨b, off, none⟩ v).run P w = .ok () { w with heap := w.heap.setIfInBounds b (.cells (c.setIfInBounds off v) T (0, 0)) } := by
 have hc : w.cell? ⟨b, off, none⟩ = some c[off] := by simp [World.cell?, hb, ho]
 have hf : w.frozen? ⟨b, off, none⟩ = false := by simp [World.frozen?, hb]
 have hs : w.setCell ⟨b, off, none⟩ v = { w with heap := w.heap.setIfInBounds b (.cells (c.setIfInBounds off v) T (0, 0)) } := by
  unfold World.setCell
  congr 1
  apply Array.ext_getElem?
  intro i
  have lt : b < w.heap.size := by
   rcases Nat.lt_or_ge b w.heap.size with gg | gg
   ·exact gg
   ·simp [Array.getElem?_eq_none gg] at hb
  by_cases e : b = i
  ·subst e; rw [Array.getElem?_setIfInBounds_self, if_pos lt, Array.getElem?_modify, if_pos rfl, hb]; rfl
  ·simp [Array.getElem?_modify, e, Array.getElem?_setIfInBounds_ne e]
 cases v <;> simp [Cj] at hv <;> simp [store, Sem.run, hc, hf, hs]

theorem Vd {l : List Value} {p : Nat} {v : Value} (h : p < l.length) : (l.set p v).take (p + 1) = l.take p ++ [v] := by
 rw [List.set_eq_take_append_cons_drop, if_pos h, List.take_append]
 simp [Nat.min_eq_left (Nat.le_of_lt h), List.take_take]
theorem Yl {w : World} {b : Nat} {o : Obj} (hb : w.heap[b]? = some o) : w.heap.setIfInBounds b o = w.heap := by
 apply Array.ext_getElem?
 intro j
 by_cases e : b = j
 ·subst e
  rcases Nat.lt_or_ge b w.heap.size with lt | gg
  ·rw [Array.getElem?_setIfInBounds_self, if_pos lt, hb]
  ·simp [Array.getElem?_eq_none gg] at hb
 ·rw [Array.getElem?_setIfInBounds_ne e]

theorem K5 {b : Nat} {T : TypeId} {off : Nat} : ∀ (vs : List Value) (i : Nat) (w : World) (c : Array Value), w.heap[b]? = some (.cells c T (0, 0)) → off + i + vs.length ≤ c.size → (vs.all Cj = true) →
  ∃ c' : Array Value, (storeCells ⟨b, off, none⟩ vs i).run P w = .ok () { w with heap := w.heap.setIfInBounds b (.cells c' T (0, 0)) } ∧
   c'.toList = c.toList.take (off + i) ++ vs ++ c.toList.drop (off + i + vs.length) := by
 intro vs
 induction vs with
 | nil =>
  intro i w c hb hn _
  exact ⟨c, by simp only [storeCells, Fy, Yl hb], by simp⟩
 | cons v vs ih =>
  intro i w c hb hn hp
  simp only [List.all_cons, Bool.and_eq_true] at hp
  simp only [List.length_cons] at hn
  have lt : b < w.heap.size := by
   rcases Nat.lt_or_ge b w.heap.size with gg | gg
   ·exact gg
   ·simp [Array.getElem?_eq_none gg] at hb
  have ha : (Addr.add ⟨b, off, none⟩ i) = ⟨b, off + i, none⟩ := by unfold Addr.add; split <;> simp_all
  simp only [storeCells, ha]
  rw [Ac (Wv hb (by omega) hp.1)]; obtain ⟨c', h1, h2⟩ := ih (i + 1) { w with heap := w.heap.setIfInBounds b (.cells (c.setIfInBounds (off + i) v) T (0, 0)) } (c.setIfInBounds (off + i) v)
   (by simp [Array.getElem?_setIfInBounds_self, lt]) (by simp; omega) hp.2
  refine ⟨c', ?_, ?_⟩
  ·rw [h1]; simp
  ·rw [h2]
   simp only [Array.toList_setIfInBounds]
   rw [show off + (i + 1) = off + i + 1 by omega, Vd (by simpa using (by omega : off + i < c.size)), List.drop_set_of_lt (by omega)]; rw [show off + i + 1 + vs.length = off + i + (v :: vs).length by simp; omega]
   simp

theorem Tf {b off : Nat} {T U : TypeId} {dd : TypeDesc} {sz bb : Nat} {z : List Value} (ht : Aq P T dd sz bb z) {v : Value} {vs cs us : List Value} {w : World}
  (hb : w.heap[b]? = some (.cells cs.toArray U (0, 0))) (hv : v.cells = vs.toArray) (hl : vs.length = sz) (hp : vs.all Cj = true) (hu : off + vs.length ≤ cs.length)
  (hus : us = cs.take off ++ vs ++ cs.drop (off + vs.length)) :
  (storeVar T ⟨b, off, none⟩ v).run P w = .ok () { w with heap := w.heap.setIfInBounds b (.cells us.toArray U (0, 0)) } := by
 unfold storeVar
 rw [Ac (Ez ht w)]; rw [if_neg (by rw [hv]; simp [hl])]
 have := K5 (P := P) (off := off) vs 0 w cs.toArray hb (by simpa using hu) hp
 obtain ⟨c', h1, h2⟩ := this; rw [hv]; rw [show (List.toArray vs).toList = vs from rfl]
 have h3 : c' = us.toArray := by
  apply Array.ext'
  rw [h2, hus]; simp
 rw [← h3]
 exact h1

theorem To {T U : TypeId} {x y : Operand} {b off : Nat} {v : Value} {vs cs us : List Value} {L' : Bh} {dd : TypeDesc} {sz bb : Nat} {z : List Value} [ht : Aq P T dd sz bb z]
  (hx : A7 E x = some (.pointer (some ⟨b, off, none⟩))) (hy : A7 E y = some v) (hv : Fc v = some vs) (hl : vs.length = sz) (hp : vs.all Cj = true)
  (hu : Upd b (.cells us.toArray U (0, 0)) (.cells cs.toArray U (0, 0)) L L') (hus : Mc off vs cs = some us) (a : Act) (w : World) (he : EnvOk E a) (hm : Mem I L w) :
  ∃ w', ((execOp a.eval ⟨none, .store T x y, ty, pos, af, g⟩).run P w = .ok .skip w' ∨ ∃ v, (execOp a.eval ⟨none, .store T x y, ty, pos, af, g⟩).run P w = .ok (.value v) w') ∧ Mem I L' w' := by
 refine ⟨{ w with heap := w.heap.setIfInBounds b (.cells us.toArray U (0, 0)) }, .inl ?_, hm.upd hu⟩
 simp only [execOp, Instr.storeAt, he.eval hx, he.eval hy, Instr.sureAddr, pure_bind]
 obtain ⟨h1, h2⟩ := Xi hus
 exact Ac (Tf ht (hm.2.1 _ hu.mem.1).1 (Hv hv) hl hp h1 h2) |>.trans rfl
theorem S9 {T U : TypeId} {x y : Operand} {b off : Nat} {v : Value} {vs cs us : List Value} {L' : Bh} {dd : TypeDesc} {sz bb : Nat} {z : List Value} [ht : Aq P T dd sz bb z]
  (hx : A7 E x = some (.pointer (some ⟨b, off, none⟩))) (hy : A7 E y = some v) (hv : Fc v = some vs) (hl : vs.length = sz) (hp : vs.all Cj = true)
  (hu : Upd b (.cells us.toArray U (0, 0)) (.cells cs.toArray U (0, 0)) L L') (hus : Mc off vs cs = some us) (hg : Wants ops E g)
  (h : A4 P f n I₀ Q ops l k E I L') : A4 P f n I₀ Q ops (⟨none, .store T x y, ty, pos, af, g⟩ :: l) k E I L :=
 U3 rfl (fun a he => hg.wanted a he) (To hx hy hv hl hp hu hus) h
theorem W8 {S : World → Prop} {fuel : Nat} {listed listed' : Array Bool} (i : Nat) {T U : TypeId} {x y : Operand} {b off : Nat} {v : Value} {vs cs us : List Value} {L' : Bh} {dd : TypeDesc} {sz bb : Nat} {z : List Value} [ht : Aq P T dd sz bb z]
  (hi : ops[i]? = some ⟨none, .store T x y, ty, pos, af, g⟩) (hc : decide (Region.ready .any ops listed = [i]) = true) (hl' : listed' = listed.setIfInBounds i true)
  (hx : A7 E x = some (.pointer (some ⟨b, off, none⟩))) (hy : A7 E y = some v) (hv : Fc v = some vs) (hl : vs.length = sz) (hp : vs.all Cj = true)
  (hu : Upd b (.cells us.toArray U (0, 0)) (.cells cs.toArray U (0, 0)) L L') (hus : Mc off vs cs = some us) (hg : Wants ops E g) (hS : Eu ops listed' = true ∨ ∀ w, Mem I L' w → S w)
  (h : Cq P f n I₀ Q ops S fuel listed' k E I L') : Cq P f n I₀ Q ops S (fuel + 1) listed k E I L :=
 T1 i hi hc hl' rfl (fun a he => hg.wanted a he) (To hx hy hv hl hp hu hus) hS h

end rules
section rules
variable {P : Program} {f : FuncId} {n : Nat} {I₀ : Heap} {Q : Cs} {k : List Item} {E : Gm} {I : Heap} {L : Bh}
variable {ops : Array Oper} {d : Nat} {ty : TypeId} {pos : String} {af : Array Edge} {g : Option (Nat × Bool)} {l : List Oper}

theorem Ai {S : World → Prop} {T : TypeId} {i off : Nat} [hf : Au P T i off] {x : Operand} {b o : Nat} (hx : A7 E x = some (.pointer (some ⟨b, o, none⟩))) :
  Gn P E S ⟨some d, .fieldAddr T x i, ty, pos, af, g⟩ (.pointer (some ⟨b, o + off, none⟩)) := by
 obtain ⟨fs, fld, inf, hu, hi, hin, hsz, ho⟩ := hf.get; intro a w he _
 simp only [execOp, Instr.fieldAt, he.eval hx]
 refine Ac (a := _) (w' := w) ?_ |>.trans rfl
 rw [Ac (A8 hu w)]
 simp only [hi, Instr.sureAddr, pure_bind, fieldPlace]
 have h1 : (sizeOf fld.type).run P w = .ok inf.size w := by unfold sizeOf; rw [Ac (G6 hin w)]; rfl
 refine Ac (a := (⟨b, o + off, none⟩ : Addr)) (w' := w) ?_ |>.trans rfl
 rw [Ac h1, if_neg (by simpa using hsz), ho]
 have : Addr.add ⟨b, o, none⟩ off = ⟨b, o + off, none⟩ := by unfold Addr.add; split <;> simp_all
 rw [this]; rfl
theorem Bb {S : World → Prop} {T : TypeId} {i off : Nat} [hf : Au P T i off] {x : Operand} {ad : Addr} (hx : A7 E x = some (.pointer (some ad))) :
  Gn P E S ⟨some d, .fieldAddr T x i, ty, pos, af, g⟩ (.pointer (some (ad.add off))) := by
 obtain ⟨fs, fld, inf, hu, hi, hin, hsz, ho⟩ := hf.get; intro a w he _
 simp only [execOp, Instr.fieldAt, he.eval hx]
 refine Ac (a := _) (w' := w) ?_ |>.trans rfl
 rw [Ac (A8 hu w)]
 simp only [hi, Instr.sureAddr, pure_bind, fieldPlace]
 have h1 : (sizeOf fld.type).run P w = .ok inf.size w := by unfold sizeOf; rw [Ac (G6 hin w)]; rfl
 refine Ac (a := ad.add off) (w' := w) ?_ |>.trans rfl
 rw [Ac h1, if_neg (by simpa using hsz), ho]
 rfl
theorem Bd {T : TypeId} {i off : Nat} [hf : Au P T i off] {x : Operand} {ad : Addr} (hx : A7 E x = some (.pointer (some ad))) (hg : Wants ops E g) (hdn : Nat.blt d n = true)
  (h : A4 P f n I₀ Q ops l k ((d, .pointer (some (ad.add off))) :: E) I L) : A4 P f n I₀ Q ops (⟨some d, .fieldAddr T x i, ty, pos, af, g⟩ :: l) k E I L := Dr (Bb hx) hg hdn h
theorem Ax {T : TypeId} {i off : Nat} [hf : Au P T i off] {x : Operand} {b o : Nat} (hx : A7 E x = some (.pointer (some ⟨b, o, none⟩))) (hg : Wants ops E g) (hdn : Nat.blt d n = true)
  (h : A4 P f n I₀ Q ops l k ((d, .pointer (some ⟨b, o + off, none⟩)) :: E) I L) : A4 P f n I₀ Q ops (⟨some d, .fieldAddr T x i, ty, pos, af, g⟩ :: l) k E I L := Dr (Ai hx) hg hdn h

theorem O6 {S : World → Prop} {T e : TypeId} {sz bb esz ebb : Nat} {z ez : List Value} {dd : TypeDesc} [ht : Aq P T (.slice e) sz bb z] [hte : Aq P e dd esz ebb ez] {x y : Operand} {ad : Addr} {m c : Nat} {i : Int}
  (hx : A7 E x = some (.slice (some ad) m c)) (hy : A7 E y = some (.int .i64 i)) (i' : Nat) (hi : i = i') (him : i' < m) : Gn P E S ⟨some d, .indexAddr T x y, ty, pos, af, g⟩ (.pointer (some (ad.add (i' * esz)))) := fun a w he _ => by
  subst hi
  simp only [execOp, he.eval hx, he.eval hy, Instr.indexAt, asIntOf, pure_bind]
  refine Ac (a := _) (w' := w) ?_ |>.trans rfl
  rw [Ac (A8 ht.und w)]
  simp only [pure_bind]
  rw [Ac (A8 ht.und w)]; rw [if_pos ⟨by omega, by omega⟩]; rw [Ac (Ez hte w)]
  simp [Fy]
theorem U0 {T e : TypeId} {sz bb esz ebb : Nat} {z ez : List Value} {dd : TypeDesc} [ht : Aq P T (.slice e) sz bb z] [hte : Aq P e dd esz ebb ez] {x y : Operand} {ad : Addr} {m c : Nat} {i : Int}
  (hx : A7 E x = some (.slice (some ad) m c)) (hy : A7 E y = some (.int .i64 i)) (i' : Nat) (hi : i = i') (him : i' < m) (hg : Wants ops E g) (hdn : Nat.blt d n = true)
  (h : A4 P f n I₀ Q ops l k ((d, .pointer (some (ad.add (i' * esz)))) :: E) I L) : A4 P f n I₀ Q ops (⟨some d, .indexAddr T x y, ty, pos, af, g⟩ :: l) k E I L := Dr (O6 hx hy i' hi him) hg hdn h

theorem Q0 {S : World → Prop} {T e : TypeId} {sz bb esz ebb : Nat} {z ez : List Value} {dd : TypeDesc} [ht : Aq P T (.slice e) sz bb z] [hte : Aq P e dd esz ebb ez] {x : Operand} {ad : Option Addr} {m c : Nat}
  {lo hi : Option Operand} {a b : Int} (hx : A7 E x = some (.slice ad m c))
  (hlo : Lu E lo = some a) (hhi : Lt E m hi = some b) (a' b' : Nat) (ha : a = a') (hb : b = b') (hab : a' ≤ b' ∧ b' ≤ c) : Gn P E S ⟨some d, .slice T x lo hi none, ty, pos, af, g⟩ (.slice (if c = a' then ad else ad.map (·.add (a' * esz))) (b' - a') (c - a')) := fun ac w he _ => by
  simp only [execOp, he.eval hx, Instr.sliceAt]
  refine Ac (a := _) (w' := w) ?_ |>.trans rfl
  rw [Ac (A8 ht.und w)]
  simp only [Instr.slice]
  rw [Ac (A8 ht.und w)]
  have key : (Instr.sliceBounds true m c (lo.map ac.eval) (hi.map ac.eval) none).run P w = .ok (a', b', c) w := by
   unfold Instr.sliceBounds
   simp only [pure_bind]
   have hlo' : lo = none ∧ a' = 0 ∨ ∃ y, lo = some y ∧ ac.eval y = .int .i64 a := by
    cases lo with
    | none => simp [Lu] at hlo; exact .inl ⟨rfl, by omega⟩
    | some y =>
     simp only [Lu] at hlo
     split at hlo
     ·rename_i m hm
      simp at hlo; subst hlo
      exact .inr ⟨y, rfl, he.eval hm⟩
     ·simp at hlo
   have tail : ∀ h' : Nat, h' = b' → (match lo.map ac.eval with
     | some v => do
      let l ← Instr.sliceBound v h' (if (none : Option Value).isSome = true then .slice3C else .sliceB)
      pure (l, h', c)
     | none => pure (0, h', c) : Sem (Nat × Nat × Nat)).run P w = .ok (a', b', c) w := by
    intro h' e; subst e
    rcases hlo' with ⟨e, e'⟩ | ⟨y, e, hy⟩
    ·subst e e'; rfl
    ·subst e
     simp only [Option.map_some, hy]
     rw [Ac (Ll ha hab.1 w)]; rfl
   cases hi with
   | none =>
    simp [Lt] at hhi
    simp only [Option.map_none]
    exact tail m (by omega)
   | some y =>
    simp only [Lt] at hhi
    split at hhi
    ·rename_i m' hm
     simp at hhi; subst hhi
     simp only [Option.map_some, he.eval hm]
     rw [Ac (Ll hb hab.2 w)]
     exact tail b' rfl
    ·simp at hhi
  show (do let x ← Instr.sliceBounds true m c (lo.map ac.eval) (hi.map ac.eval) none; let size ← sizeOf e; pure (.slice (if x.2.2 = x.1 then ad else ad.map (·.add (x.1 * size))) (x.2.1 - x.1) (x.2.2 - x.1)) : Sem Value).run P w = _
  rw [Ac key]; rw [Ac (Ez hte w)]; rfl
theorem Jg {T e : TypeId} {sz bb esz ebb : Nat} {z ez : List Value} {dd : TypeDesc} [ht : Aq P T (.slice e) sz bb z] [hte : Aq P e dd esz ebb ez] {x : Operand} {ad : Option Addr} {m c : Nat}
  {lo hi : Option Operand} {a b : Int} (hx : A7 E x = some (.slice ad m c))
  (hlo : Lu E lo = some a) (hhi : Lt E m hi = some b) (a' b' : Nat) (ha : a = a') (hb : b = b') (hab : a' ≤ b' ∧ b' ≤ c) (hg : Wants ops E g) (hdn : Nat.blt d n = true)
  (h : A4 P f n I₀ Q ops l k ((d, .slice (if c = a' then ad else ad.map (·.add (a' * esz))) (b' - a') (c - a')) :: E) I L) : A4 P f n I₀ Q ops (⟨some d, .slice T x lo hi none, ty, pos, af, g⟩ :: l) k E I L := Dr (Q0 hx hlo hhi a' b' ha hb hab) hg hdn h

theorem Ab7 {S : World → Prop} {T : TypeId} {parts : Array (Nat × Operand)} {is : List Nat} {vs : List Value} {v : Value} (hp : parts.toList.map (·.1) = is) (ho : G9 E (parts.toList.map (·.2)) = some vs)
  (hb : ∀ w, (Instr.build T (is.zip vs).toArray).run P w = .ok v w) : Gn P E S ⟨some d, .build T parts, ty, pos, af, g⟩ (v) := fun a w he _ => by
  have h1 : parts.map (fun (i, x) => (i, a.eval x)) = (is.zip vs).toArray := by
   apply Array.ext'
   have := he.evals ho
   rw [← hp, ← this]
   simp [List.zip_map', Function.comp_def]
  simp only [execOp]
  rw [h1]
  exact Ac (hb w) |>.trans rfl
theorem Abz {T : TypeId} {parts : Array (Nat × Operand)} {is : List Nat} {vs : List Value} {v : Value} (hp : parts.toList.map (·.1) = is) (ho : G9 E (parts.toList.map (·.2)) = some vs)
  (hb : ∀ w, (Instr.build T (is.zip vs).toArray).run P w = .ok v w) (hg : Wants ops E g) (hdn : Nat.blt d n = true)
  (h : A4 P f n I₀ Q ops l k ((d, v) :: E) I L) : A4 P f n I₀ Q ops (⟨some d, .build T parts, ty, pos, af, g⟩ :: l) k E I L := Dr (Ab7 hp ho hb) hg hdn h

theorem S3 {T e : TypeId} {parts : Array (Nat × Operand)} {is : List Nat} {vs cs : List Value} {m : Nat} {sz bb esz ebb : Nat} {z ez : List Value} {dd : TypeDesc} [ht : Aq P T (.slice e) sz bb z] [hte : Aq P e dd esz ebb ez]
  (hp : parts.toList.map (·.1) = is) (ho : G9 E (parts.toList.map (·.2)) = some vs) (hm0 : m * esz ≠ 0) (hm1 : m * esz ≤ 2 ^ 24)
  (hfill : Instr.fill (fun i => some (i * esz, esz)) ((Array.range (m * esz)).map (ez.toArray[· % ez.toArray.size]!)) (is.zip vs) = some cs.toArray) (hg : Wants ops E g) (hdn : Nat.blt d n = true)
  (h : ∀ b, A4 P f n I₀ Q ops l k ((d, .slice (some ⟨b, 0, none⟩) m m) :: E) I ((b, .cells cs.toArray e (0, 0)) :: L)) :
  A4 P f n I₀ Q ops (⟨some d, .buildSlice T m parts, ty, pos, af, g⟩ :: l) k E I L := by
 refine Ia rfl hdn (fun a he => hg.wanted a he) fun a w he hm => ?_
 refine ⟨_, _, I, (w.heap.size, .cells cs.toArray e (0, 0)) :: L, ?_, hm.alloc _, h _⟩
 have h1 : parts.map (fun (i, x) => (i, a.eval x)) = (is.zip vs).toArray := by
  apply Array.ext'
  have := he.evals ho
  rw [← hp, ← this]
  simp [List.zip_map', Function.comp_def]
 simp only [execOp]
 rw [h1]; refine Ac (a := .slice (some ⟨w.heap.size, 0, none⟩) m m) (w' := { w with heap := w.heap.push (.cells cs.toArray e (0, 0)) }) ?_ |>.trans rfl
 unfold Instr.buildSlice
 rw [Ac (A8 ht.und w)]
 simp only []
 rw [Ac (Ez hte w)]; rw [if_neg (by omega), if_neg hm0]; obtain ⟨zv, hz1, hz2⟩ := Hs hte w
 have hz3 : zv.cells = ez.toArray := by rw [← hz2]
 simp only [bind_assoc, pure_bind]
 rw [Ac hz1, hz3]; rw [hfill]
 rfl

/- 'append' onto a slice of the call's own. -/
theorem Qa (need c : Nat) (h : c < need) : Builtin.nextslicecap need c ≤ 2 * need + 1000 := by
 unfold Builtin.nextslicecap
 split
 ·omega
 ·split
  ·omega
  ·have gen : ∀ r c : Nat, c < need + (need + 768) / 4 + 1 → Builtin.growBy need r c ≤ need + (need + 768) / 4 := by
    intro r
    induction r with
    | zero => intro c hc; simp [Builtin.growBy]; omega
    | succ r ih =>
     intro c hc
     simp only [Builtin.growBy]
     split
     ·omega
     ·exact ih _ (by omega)
   have := gen 4 c (by omega)
   omega

theorem F9 {I : Heap} {L : Bh} {w : World} (hm : Mem I L w) {ad : Option Addr} {m c sz : Nat} {xs : List Value} (hl : xs.length = m * sz)
  (hr : ∀ a, ad = some a → Fv I L a xs) (hn : ad = none → xs = []) : (Builtin.firstCells sz m (.slice ad m c)).run P w = .ok xs.toArray w := by
 cases ad with
 | none => simp [Builtin.firstCells, hn rfl, Fy]
 | some a =>
  simp only [Builtin.firstCells]
  rw [← hl]
  exact Jh xs (hr a rfl w hm)

abbrev Ju := Option (Nat × List Value)
def Cf (e : TypeId) (xs : List Value) : Ju → Bh
 | none => []
 | some (b, sp) => [(b, .cells (xs ++ sp).toArray e (0, 0))]
def B8 (m : Nat) (c : Nat) : Ju → Value
 | none => .slice none 0 0
 | some (b, sp) => .slice (some ⟨b, 0, none⟩) m c
theorem Gk {m c : Nat} {B : Ju} : Cj (B8 m c B) = true := by cases B <;> rfl
def Er (esz m c : Nat) (xs : List Value) : Ju → Prop
 | none => xs = [] ∧ m = 0 ∧ c = 0
 | some (_, sp) => xs.length = m * esz ∧ m ≤ c ∧ sp.length = (c - m) * esz

theorem Mem.perm {I : Heap} {L L' : Bh} {w : World} (hp : L.Perm L') (h : Mem I L w) : Mem I L' w :=
 ⟨h.1, fun r hr => h.2.1 r (hp.mem_iff.2 hr), (hp.map _).nodup_iff.1 h.2.2⟩
theorem Mem.perm2 {I : Heap} {p q : Nat × Obj} {L : Bh} {w : World} (h : Mem I (p :: q :: L) w) : Mem I (q :: p :: L) w := h.perm (List.Perm.swap ..)
theorem Mem.sub {I : Heap} {L L' : Bh} {w : World} (hs : L'.Sublist L) (h : Mem I L w) : Mem I L' w :=
 ⟨h.1, fun r hr => h.2.1 r (hs.subset hr), h.2.2.sublist (hs.map _)⟩

theorem Mem.f1 {I : Heap} {a p : Nat × Obj} {L : Bh} {w : World} (h : Mem I (a :: p :: L) w) : Mem I (p :: a :: L) w := h.perm2
theorem Mem.f2 {I : Heap} {a b p : Nat × Obj} {L : Bh} {w : World} (h : Mem I (a :: b :: p :: L) w) : Mem I (p :: a :: b :: L) w := h.perm (List.perm_middle (l₁ := [a, b]))
theorem Mem.f3 {I : Heap} {a b c p : Nat × Obj} {L : Bh} {w : World} (h : Mem I (a :: b :: c :: p :: L) w) : Mem I (p :: a :: b :: c :: L) w := h.perm (List.perm_middle (l₁ := [a, b, c]))
theorem Mem.f4 {I : Heap} {a b c d p : Nat × Obj} {L : Bh} {w : World} (h : Mem I (a :: b :: c :: d :: p :: L) w) : Mem I (p :: a :: b :: c :: d :: L) w := h.perm (List.perm_middle (l₁ := [a, b, c, d]))
theorem Mem.f6 {I : Heap} {a b c d e g p : Nat × Obj} {L : Bh} {w : World} (h : Mem I (a :: b :: c :: d :: e :: g :: p :: L) w) : Mem I (p :: a :: b :: c :: d :: e :: g :: L) w := h.perm (List.perm_middle (l₁ := [a, b, c, d, e, g]))
theorem Mem.u1 {I : Heap} {a : Nat × Obj} {X L : Bh} {w : World} (h : Mem I (a :: (X ++ L)) w) : Mem I (X ++ a :: L) w := h.perm (List.perm_append_comm_assoc [a] X L)
theorem Mem.u2 {I : Heap} {a b : Nat × Obj} {X L : Bh} {w : World} (h : Mem I (a :: b :: (X ++ L)) w) : Mem I (X ++ a :: b :: L) w := h.perm (List.perm_append_comm_assoc [a, b] X L)
theorem Mem.u3 {I : Heap} {a b c : Nat × Obj} {X L : Bh} {w : World} (h : Mem I (a :: b :: c :: (X ++ L)) w) : Mem I (X ++ a :: b :: c :: L) w := h.perm (List.perm_append_comm_assoc [a, b, c] X L)
theorem Mem.u4 {I : Heap} {a b c d : Nat × Obj} {X L : Bh} {w : World} (h : Mem I (a :: b :: c :: d :: (X ++ L)) w) : Mem I (X ++ a :: b :: c :: d :: L) w := h.perm (List.perm_append_comm_assoc [a, b, c, d] X L)
theorem Mem.u5 {I : Heap} {a b c d e : Nat × Obj} {X L : Bh} {w : World} (h : Mem I (a :: b :: c :: d :: e :: (X ++ L)) w) : Mem I (X ++ a :: b :: c :: d :: e :: L) w := h.perm (List.perm_append_comm_assoc [a, b, c, d, e] X L)

theorem Lb (z : Array Value) (m : Nat) : (Builtin.zeroCells z m).size = m * z.size := by simp [Builtin.zeroCells]

theorem Md {T e : TypeId} {sz bb esz ebb : Nat} {z ez : List Value} {dd : TypeDesc} (ht : Aq P T (.slice e) sz bb z) (hte : Aq P e dd esz ebb ez) (hez : ez.length = esz)
  {I : Heap} {L : Bh} {w : World} {B : Ju} {xs ys : List Value} {m c : Nat} {T2 : TypeId} {x : Value} {m2 : Nat} {dd2 : TypeDesc} (hu2 : P.underlying T2 = some dd2) (hni : ∀ kk, dd2 ≠ .int kk)
  (hB : Er esz m c xs B) (hm : Mem I (Cf e xs B ++ L) w) (hyl : ys.length = m2 * esz) (hxl : ∀ w, (Builtin.lenOf x).run P w = .ok m2 w) (hxf : ∀ w, Mem I L w → (Builtin.firstCells esz m2 x).run P w = .ok ys.toArray w) (hyp : ys.all Cj = true) (hm2 : 0 < m2) (hesz : 0 < esz)
  (hsize : (m + m2) ≤ 4294967296) (hbytes : ebb ≤ 1024) :
  ∃ w' B' c', (Builtin.append_ #[T, T2] T #[B8 m c B, x]).run P w = .ok (B8 (m + m2) c' B') w' ∧ B' ≠ none ∧
   Er esz (m + m2) c' (xs ++ ys) B' ∧ Mem I (Cf e (xs ++ ys) B' ++ L) w' := by
 have hmL : Mem I L w := hm.sub (List.sublist_append_right _ _)
 obtain ⟨einf, hein, hebb⟩ := I9 hte w
 have hval : ∃ base cc, B8 m c B = .slice base m cc ∧ c = cc ∧ (base = none → xs = [] ∧ B = none ∧ m = 0 ∧ c = 0) ∧ (∀ a, base = some a → ∃ b sp, B = some (b, sp) ∧ a = ⟨b, 0, none⟩) := by
  cases B with
  | none => obtain ⟨h1, h2, h3⟩ := hB; exact ⟨none, 0, by simp [B8, h2], h3, fun _ => ⟨h1, rfl, h2, h3⟩, by simp⟩
  | some p => obtain ⟨b, sp⟩ := p; exact ⟨some ⟨b, 0, none⟩, c, rfl, rfl, by simp, fun a ha => ⟨b, sp, rfl, by simpa using ha.symm⟩⟩
 obtain ⟨base, cc, hbv, rfl, hbn, hbs⟩ := hval; rw [hbv]
 unfold Builtin.append_
 simp only [List.getElem?_toArray, List.getElem?_cons_zero, List.getElem?_cons_succ]
 rw [Ac (A8 ht.und w)]
 simp only []
 rw [Ac (Ez hte w)]; rw [Ac (A8 hu2 w)]
 have hz : (match dd2 with | .int _ => true | _ => false) = false := by
  cases dd2 <;> first | rfl | exact absurd rfl (hni _)
 simp only [hz, pure_bind, Bool.false_eq_true, if_false, Bool.not_false, if_true, false_or]
 rw [Ac (hxl w)]
 have hxl : xs.length = m * esz ∧ m ≤ c := by
  cases B with
  | none => obtain ⟨h1, h2, h3⟩ := hB; subst h1 h2; simp
  | some p => exact ⟨hB.1, hB.2.1⟩
 have hfy := hxf w hmL
 by_cases hfit : m + m2 ≤ c
 ·simp only [if_pos hfit]
  rw [Ac hfy]
  have : base ≠ none := fun e => by have := hbn e; omega
  cases hbb : base with
  | none => exact absurd hbb this
  | some a =>
   obtain ⟨b, sp, rfl, rfl⟩ := hbs a hbb; obtain ⟨h1, h2, h3⟩ := hB
   have hown := (hm.2.1 _ (List.mem_append_left _ (List.mem_singleton.2 rfl))).1
   have hsp : ys.length ≤ sp.length := by rw [hyl, h3]; exact Nat.mul_le_mul_right _ (by omega)
   have hadd : (Addr.add ⟨b, 0, none⟩ (m * esz)) = ⟨b, m * esz, none⟩ := by unfold Addr.add; split <;> simp_all
   obtain ⟨c', hs1, hs2⟩ := K5 (P := P) (off := m * esz) ys 0 w _ hown (by simp; omega) hyp
   have hc' : c' = (xs ++ ys ++ sp.drop ys.length).toArray := by
    apply Array.ext'
    rw [hs2]
    simp only [List.toList_toArray, Nat.add_zero, ← h1]
    rw [List.take_left', List.drop_append]
    ·simp [List.drop_eq_nil_of_le]
    ·rfl
   refine ⟨{ w with heap := w.heap.setIfInBounds b (.cells c' e (0, 0)) }, some (b, sp.drop ys.length), c, ?_, by simp, ?_, ?_⟩
   ·simp only [hadd, B8]
    rw [Ac hs1]; rfl
   ·refine ⟨by simp [h1, hyl, Nat.add_mul], hfit, ?_⟩
    simp only [List.length_drop, h3, hyl]
    rw [← Nat.sub_mul]; congr 1; omega
   ·rw [hc']
    exact hm.upd (Upd.here)
 ·simp only [if_neg hfit]
  have hmax : ¬ (((m + m2 : Nat) : Int) > IntKind.i64.max) := by
   simp [IntKind.max, IntKind.bits, IntKind.signed]; omega
  rw [Ac hein]
  simp only [if_neg (fun h : (((m + m2 : Nat) : Int) > IntKind.i64.max) ∧ _ => hmax h.1)]
  rw [Ac hein]
  have hcap : ¬ (Builtin.nextslicecap (m + m2) c * einf.bytes > 2 ^ 48) := by
   have h1 := Qa (m + m2) c (by omega)
   have h2 : Builtin.nextslicecap (m + m2) c * einf.bytes ≤ (2 * (m + m2) + 1000) * 1024 := Nat.mul_le_mul h1 (by omega)
   omega
  simp only [if_neg hcap]
  obtain ⟨zv, hz1, hz2⟩ := Hs hte w
  have hcut : ∀ t, m + m2 ≤ (Question.appendCap (m + m2) c e).cut t := fun t => by simp [Question.cut]
  let NC := (Question.appendCap (m + m2) c e).cut (w.tape w.drawn (.appendCap (m + m2) c e))
  let w1 : World := { w with drawn := w.drawn + 1 }
  have hch : (choose (.appendCap (m + m2) c e)).run P w = .ok NC w1 := by simp [choose, Sem.run, Question.forced, NC, w1]
  have hNC : m + m2 ≤ NC := hcut _
  rw [Ac hch]
  have hm1 : Mem I (Cf e xs B ++ L) w1 := hm
  have hmL1 : Mem I L w1 := hmL
  obtain ⟨einf1, hein1, _⟩ := I9 hte w1; rw [Ac hein1]
  have hroom : (askRoom (NC * einf1.bytes)).run P w1 = .ok () w1 := by unfold askRoom; split <;> rfl
  rw [Ac hroom]
  have hfx : (Builtin.firstCells esz m (.slice base m c)).run P w1 = .ok xs.toArray w1 := by
   refine F9 hm1 hxl.1 ?_ (fun e => (hbn e).1); intro a ha; obtain ⟨b, sp, rfl, rfl⟩ := hbs a ha; intro ww hw i hi; rw [Mf (hw.2.1 _ (List.mem_append_left _ (List.mem_singleton.2 rfl))).1]
   simp [List.getElem?_append_left hi, hi]
  rw [Ac hfx, Ac (hxf w1 hmL1)]; obtain ⟨zv1, hz1, hz2⟩ := Hs hte w1; rw [Ac hz1]
  refine ⟨{ w1 with heap := w1.heap.push (.cells (xs ++ ys ++ (Builtin.zeroCells zv1.cells (NC - (m + m2))).toList).toArray e (0, 0)) },
   some (w.heap.size, (Builtin.zeroCells zv1.cells (NC - (m + m2))).toList), NC, ?_, by simp, ?_, ?_⟩
  ·have : (xs.toArray ++ ys.toArray ++ Builtin.zeroCells zv1.cells (NC - (m + m2))) = (xs ++ ys ++ (Builtin.zeroCells zv1.cells (NC - (m + m2))).toList).toArray := by
    apply Array.ext'; simp
   rw [this]
   rfl
  ·refine ⟨by simp [hxl.1, hyl, Nat.add_mul], hNC, ?_⟩
   have hzs : zv1.cells.size = esz := by rw [← hez, ← hz2]; simp
   simp [Lb, hzs]
  ·exact hmL1.alloc _

theorem Dw {T T2 e : TypeId} {sz bb esz ebb sz2 bb2 : Nat} {z ez z2 : List Value} {dd dd2 : TypeDesc} [ht : Aq P T (.slice e) sz bb z] [hte : Aq P e dd esz ebb ez] [ht2 : Aq P T2 dd2 sz2 bb2 z2]
  {x y : Operand} {B : Ju} {xs ys : List Value} {m c : Nat} {ad2 : Option Addr} {m2 c2 : Nat} {L₀ : Bh} (hni : ∀ kk, dd2 ≠ .int kk) (hez : ez.length = esz)
  (hx : A7 E x = some (B8 m c B)) (hy : A7 E y = some (.slice ad2 m2 c2)) (hB : Er esz m c xs B) (hL : ∀ w, Mem I L w → Mem I (Cf e xs B ++ L₀) w)
  (hyl : ys.length = m2 * esz) (hyr : ∀ a, ad2 = some a → Fv I L₀ a ys) (hyn : ad2 = none → ys = []) (hyp : ys.all Cj = true) (hm2 : 0 < m2) (hesz : 0 < esz)
  (hsize : (m + m2) ≤ 4294967296) (hbytes : ebb ≤ 1024) (hg : Wants ops E g) (hdn : Nat.blt d n = true)
  (h : ∀ b sp c', Er esz (m + m2) c' (xs ++ ys) (some (b, sp)) → A4 P f n I₀ Q ops l k ((d, .slice (some ⟨b, 0, none⟩) (m + m2) c') :: E) I ((b, .cells (xs ++ ys ++ sp).toArray e (0, 0)) :: L₀)) :
  A4 P f n I₀ Q ops (⟨some d, .call ⟨.builtin .append, #[x, y], #[T, T2]⟩, T, pos, af, g⟩ :: l) k E I L := by
 refine Ia rfl hdn (fun a he => hg.wanted a he) fun a w he hm => ?_
 obtain ⟨w', B', c', hr, hne, hB', hm'⟩ := Md (x := .slice ad2 m2 c2) ht hte hez ht2.und hni hB (hL w hm) hyl (fun _ => rfl) (fun w hw => F9 hw hyl hyr hyn) hyp hm2 hesz hsize hbytes
 cases B' with
 | none => exact absurd rfl hne
 | some p =>
  obtain ⟨b, sp⟩ := p; refine ⟨_, w', I, _, ?_, hm', h b sp c' hB'⟩
  simp only [execOp, resolve, List.map_toArray, List.map, he.eval hx, he.eval hy, pure_bind, invoke, builtin]
  exact Ac hr |>.trans rfl


/- Tests that split the way, and tests that are decided. -/
theorem EnvOk.shadow {E : Gm} {a : Act} {t : Nat} {v : Value} (h : EnvOk E a) (hv : look E t = some v) : EnvOk ((t, v) :: E) a := by
 intro u x hx; rw [Ev] at hx
 by_cases e : t = u
 ·subst e; simp at hx; subst hx; exact h _ _ hv
 ·simp [e] at hx; exact h _ _ hx

theorem K8 {c : Operand} {x y : Code} {p : Prop} [Decidable p] (hc : A7 E c = some (.bool (decide p))) (hp : p) (h : RunS P f n I₀ Q (.code x :: k) E I L) : RunS P f n I₀ Q (.code (.cond c x y) :: k) E I L :=
 Bj (by rw [hc, decide_eq_true hp]) h
theorem E9 {c : Operand} {x y : Code} {p : Prop} [Decidable p] (hc : A7 E c = some (.bool (decide p))) (hp : ¬ p) (h : RunS P f n I₀ Q (.code y :: k) E I L) : RunS P f n I₀ Q (.code (.cond c x y) :: k) E I L :=
 Al (by rw [hc, decide_eq_false hp]) h
theorem K7 {c : Operand} {x y : Code} {p : Prop} [Decidable p] (hc : A7 E c = some (.bool (!decide p))) (hp : ¬ p) (h : RunS P f n I₀ Q (.code x :: k) E I L) : RunS P f n I₀ Q (.code (.cond c x y) :: k) E I L :=
 Bj (by rw [hc, decide_eq_false hp]; rfl) h
theorem E8 {c : Operand} {x y : Code} {p : Prop} [Decidable p] (hc : A7 E c = some (.bool (!decide p))) (hp : p) (h : RunS P f n I₀ Q (.code y :: k) E I L) : RunS P f n I₀ Q (.code (.cond c x y) :: k) E I L :=
 Al (by rw [hc, decide_eq_true hp]; rfl) h
section guards
variable {od : Option Tmp} {op : Op} {j dj : Nat} {b : Bool}
theorem Cz {t : Nat} {v v' : Value} (ht : look E t = some v) (he : v = v') (h : A4 P f n I₀ Q ops l k ((t, v') :: E) I L) : A4 P f n I₀ Q ops l k E I L := by
 subst he
 exact fun a w ha hd he hm => h a w ha hd (he.shadow ht) hm
theorem Kp {t : Nat} {v v' : Value} {todo : List Item} (ht : look E t = some v) (he : v = v') (h : RunS P f n I₀ Q todo ((t, v') :: E) I L) : RunS P f n I₀ Q todo E I L := by
 subst he
 exact fun a w ha hd he hm => h a w ha hd (he.shadow ht) hm
theorem Acr {p : Prop} [Decidable p] (hdj : (ops[j]?).bind (·.dst) = some dj) (hb : look E dj = some (.bool (decide p))) (hp : p)
  (h : A4 P f n I₀ Q ops (⟨od, op, ty, pos, af, some (j, b)⟩ :: l) k ((dj, .bool true) :: E) I L) : A4 P f n I₀ Q ops (⟨od, op, ty, pos, af, some (j, b)⟩ :: l) k E I L :=
 Cz hb (by rw [decide_eq_true hp]) h
theorem Zw {p : Prop} [Decidable p] (hdj : (ops[j]?).bind (·.dst) = some dj) (hb : look E dj = some (.bool (decide p))) (hp : ¬ p)
  (h : A4 P f n I₀ Q ops (⟨od, op, ty, pos, af, some (j, b)⟩ :: l) k ((dj, .bool false) :: E) I L) : A4 P f n I₀ Q ops (⟨od, op, ty, pos, af, some (j, b)⟩ :: l) k E I L :=
 Cz hb (by rw [decide_eq_false hp]) h
theorem Acq {p : Prop} [Decidable p] (hdj : (ops[j]?).bind (·.dst) = some dj) (hb : look E dj = some (.bool (!decide p))) (hp : ¬ p)
  (h : A4 P f n I₀ Q ops (⟨od, op, ty, pos, af, some (j, b)⟩ :: l) k ((dj, .bool true) :: E) I L) : A4 P f n I₀ Q ops (⟨od, op, ty, pos, af, some (j, b)⟩ :: l) k E I L :=
 Cz hb (by rw [decide_eq_false hp]; rfl) h
theorem Zv {p : Prop} [Decidable p] (hdj : (ops[j]?).bind (·.dst) = some dj) (hb : look E dj = some (.bool (!decide p))) (hp : p)
  (h : A4 P f n I₀ Q ops (⟨od, op, ty, pos, af, some (j, b)⟩ :: l) k ((dj, .bool false) :: E) I L) : A4 P f n I₀ Q ops (⟨od, op, ty, pos, af, some (j, b)⟩ :: l) k E I L :=
 Cz hb (by rw [decide_eq_true hp]; rfl) h
theorem F3 {p : Prop} [Decidable p] (hdj : (ops[j]?).bind (·.dst) = some dj) (hb : look E dj = some (.bool (decide p)))
  (ht : p → A4 P f n I₀ Q ops (⟨od, op, ty, pos, af, some (j, b)⟩ :: l) k ((dj, .bool true) :: E) I L) (hf : ¬ p → A4 P f n I₀ Q ops (⟨od, op, ty, pos, af, some (j, b)⟩ :: l) k ((dj, .bool false) :: E) I L) :
  A4 P f n I₀ Q ops (⟨od, op, ty, pos, af, some (j, b)⟩ :: l) k E I L := by
 by_cases hp : p
 ·exact Acr hdj hb hp (ht hp)
 ·exact Zw hdj hb hp (hf hp)
theorem Em {p : Prop} [Decidable p] (hdj : (ops[j]?).bind (·.dst) = some dj) (hb : look E dj = some (.bool (!decide p)))
  (ht : ¬ p → A4 P f n I₀ Q ops (⟨od, op, ty, pos, af, some (j, b)⟩ :: l) k ((dj, .bool true) :: E) I L) (hf : p → A4 P f n I₀ Q ops (⟨od, op, ty, pos, af, some (j, b)⟩ :: l) k ((dj, .bool false) :: E) I L) :
  A4 P f n I₀ Q ops (⟨od, op, ty, pos, af, some (j, b)⟩ :: l) k E I L := by
 by_cases hp : p
 ·exact Zv hdj hb hp (hf hp)
 ·exact Acq hdj hb hp (ht hp)
theorem Kq {c : Bool} (hdj : (ops[j]?).bind (·.dst) = some dj) (hb : look E dj = some (.bool c))
  (ht : c = true → A4 P f n I₀ Q ops (⟨od, op, ty, pos, af, some (j, b)⟩ :: l) k ((dj, .bool true) :: E) I L) (hf : c = false → A4 P f n I₀ Q ops (⟨od, op, ty, pos, af, some (j, b)⟩ :: l) k ((dj, .bool false) :: E) I L) :
  A4 P f n I₀ Q ops (⟨od, op, ty, pos, af, some (j, b)⟩ :: l) k E I L := by
 cases c
 ·exact Cz hb rfl (hf rfl)
 ·exact Cz hb rfl (ht rfl)
end guards


theorem De {x y : Operand} {s : List UInt8} {i : Nat} {ii : Int} {T : TypeId} {sz bb : Nat} {z : List Value} [ht : Aq P T .string sz bb z] (hx : A7 E x = some (.string (str s)))
  (hy : A7 E y = some (.int .i64 ii)) (hii : ii = ((i : Nat) : Int)) (hi : i < s.length) (hg : Wants ops E g) (hdn : Nat.blt d n = true)
  (h : A4 P f n I₀ Q ops l k ((d, .int .u8 ((s.getD i 0).toNat : Nat)) :: E) I L) : A4 P f n I₀ Q ops (⟨some d, .index T x y, ty, pos, af, g⟩ :: l) k E I L :=
 U1 hx (hii ▸ hy) (b := s.getD i 0) (by simp [hi]) hg hdn h

theorem Cm {T e : TypeId} {sz bb esz ebb : Nat} {z ez : List Value} {dd : TypeDesc} [ht : Aq P T (.slice e) sz bb z] [hte : Aq P e dd esz ebb ez] {x y : Operand} {oa : Option Addr} {ad : Addr} {m c : Nat} {i : Int}
  (hx : A7 E x = some (.slice oa m c)) (hy : A7 E y = some (.int .i64 i)) (i' : Nat) (hi : i = i') (him : i' < m) (hoa : oa = some ad) (hg : Wants ops E g) (hdn : Nat.blt d n = true)
  (h : A4 P f n I₀ Q ops l k ((d, .pointer (some (ad.add (i' * esz)))) :: E) I L) : A4 P f n I₀ Q ops (⟨some d, .indexAddr T x y, ty, pos, af, g⟩ :: l) k E I L :=
 U0 (hoa ▸ hx) hy i' hi him hg hdn h

/- Literals of struct types: each part lies in its place. -/
class B6 (P : Program) (T : TypeId) (places : outParam (List (Nat × Nat))) : Prop where
 get : ∃ fs, P.underlying T = some (.struct fs) ∧ ∀ w, (fs.mapM fun f => do pure (f.offset, ← sizeOf f.type) : Sem (Array (Nat × Nat))).run P w = .ok places.toArray w

def P0 (places : List (Nat × Nat)) : List (Nat × Value) → List Value → Option (List Value)
 | [], cs => some cs
 | (i, v) :: r, cs => match places[i]? with
  | some (off, size) => match Fc v with
   | some vs => match Mc off vs cs with
    | some us => bif Nat.beq vs.length size then P0 places r us else none
    | none => none
   | none => none
  | none => none
theorem Ra : ∀ (vs : List Value) (off j : Nat) (c : Array Value), off + j + vs.length ≤ c.size →
  ((vs.zipIdx j).foldl (fun (cs : Array Value) (x : Value × Nat) => cs.setIfInBounds (off + x.2) x.1) c).toList = c.toList.take (off + j) ++ vs ++ c.toList.drop (off + j + vs.length) := by
 intro vs
 induction vs with
 | nil => intro off j c h; simp
 | cons v vs ih =>
  intro off j c h
  simp only [List.length_cons] at h
  simp only [List.zipIdx_cons, List.foldl_cons]
  rw [ih off (j + 1) _ (by simp; omega)]
  simp only [Array.toList_setIfInBounds]
  rw [show off + (j + 1) = off + j + 1 by omega, Vd (by simpa using (by omega : off + j < c.size)), List.drop_set_of_lt (by omega)]; rw [show off + j + 1 + vs.length = off + j + (v :: vs).length by simp; omega]
  simp
theorem Abh {places : List (Nat × Nat)} : ∀ {ps : List (Nat × Value)} {cs us : List Value}, P0 places ps cs = some us → Instr.fill (places.toArray[·]?) cs.toArray ps = some us.toArray := by
 intro ps
 induction ps with
 | nil => intro cs us h; simp [P0] at h; simp [Instr.fill, h]
 | cons p ps ih =>
  obtain ⟨i, v⟩ := p; intro cs us h
  simp only [P0] at h
  split at h
  ·rename_i off size hp
   split at h
   ·rename_i vs hv
    split at h
    ·rename_i us' hu
     cases hb : Nat.beq vs.length size with
     | false => simp [hb] at h
     | true =>
      have hb' := Nat.eq_of_beq_eq_true hb
      simp [hb] at h
      obtain ⟨h1, h2⟩ := Xi hu
      have hvc := Hv hv
      have hf := Ra vs off 0 cs.toArray (by simpa using h1)
      have hc : ((vs.zipIdx 0).foldl (fun (cs : Array Value) (x : Value × Nat) => cs.setIfInBounds (off + x.2) x.1) cs.toArray) = us'.toArray := by
       apply Array.ext'
       rw [hf, h2]; simp
      simp only [Instr.fill, List.getElem?_toArray, hp, hvc]
      rw [if_neg (by simp [hb']; omega)]; rw [← ih h, ← hc, ← Array.foldl_toList, Array.toList_zipIdx]
      simp
    ·simp at h
   ·simp at h
  ·simp at h

theorem Rt {T : TypeId} {places : List (Nat × Nat)} {sz bb : Nat} {z : List Value} {fs : Array Field} [hs : B6 P T places] [ht : Aq P T (.struct fs) sz bb z] {ps : List (Nat × Value)} {us : List Value}
  (h : P0 places ps z = some us) (w : World) : (Instr.build T ps.toArray).run P w = .ok (.agg us.toArray) w := by
 obtain ⟨fs', hf, hp⟩ := hs.get; obtain ⟨v, hv, hz⟩ := Hs ht w
 unfold Instr.build
 rw [Ac hv]; rw [Ac (A8 hf w)]
 simp only []
 rw [Ac (hp w)]
 have hvz : v.cells = z.toArray := by rw [← hz]
 rw [hvz, Abh h]; rfl

theorem Hw {S : World → Prop} {T : TypeId} {places : List (Nat × Nat)} {sz bb : Nat} {z : List Value} {fs : Array Field} [hs : B6 P T places] [ht : Aq P T (.struct fs) sz bb z] {parts : Array (Nat × Operand)} {is : List Nat} {vs us : List Value}
  (hp : parts.toList.map (·.1) = is) (ho : G9 E (parts.toList.map (·.2)) = some vs)
  (hb : P0 places (is.zip vs) z = some us) : Gn P E S ⟨some d, .build T parts, ty, pos, af, g⟩ (.agg us.toArray) := fun a w he _ => by
  have h1 : parts.map (fun (i, x) => (i, a.eval x)) = (is.zip vs).toArray := by
   apply Array.ext'
   have := he.evals ho
   rw [← hp, ← this]
   simp [List.zip_map', Function.comp_def]
  simp only [execOp]
  rw [h1]
  exact Ac (Rt hb w) |>.trans rfl
theorem Bt {T : TypeId} {places : List (Nat × Nat)} {sz bb : Nat} {z : List Value} {fs : Array Field} [hs : B6 P T places] [ht : Aq P T (.struct fs) sz bb z] {parts : Array (Nat × Operand)} {is : List Nat} {vs us : List Value}
  (hp : parts.toList.map (·.1) = is) (ho : G9 E (parts.toList.map (·.2)) = some vs)
  (hb : P0 places (is.zip vs) z = some us) (hg : Wants ops E g) (hdn : Nat.blt d n = true)
  (h : A4 P f n I₀ Q ops l k ((d, .agg us.toArray) :: E) I L) : A4 P f n I₀ Q ops (⟨some d, .build T parts, ty, pos, af, g⟩ :: l) k E I L :=
 Abz hp ho (fun w => Rt hb w) hg hdn h

/- '[]T{x, y, ..}'. -/
def Mo : Nat → List Value → Option (List Value)
 | _, [] => some []
 | esz, v :: vs => match Fc v with
  | some cs => match Mo esz vs with
   | some us => bif Nat.beq cs.length esz then some (cs ++ us) else none
   | none => none
  | none => none
theorem Q9 {esz : Nat} : ∀ {vs us : List Value} (k : Nat) (hd tl : List Value), Mo esz vs = some us → hd.length = k * esz → tl.length = vs.length * esz →
  Instr.fill (fun i => some (i * esz, esz)) (hd ++ tl).toArray ((List.range' k vs.length).zip vs) = some (hd ++ us).toArray := by
 intro vs
 induction vs with
 | nil => intro us k hd tl h hh ht; simp [Mo] at h; subst h; simp at ht; subst ht; simp [Instr.fill]
 | cons v vs ih =>
  intro us k hd tl h hh ht
  simp only [Mo] at h
  split at h
  ·rename_i cs hv
   split at h
   ·rename_i us' hu
    cases hb : Nat.beq cs.length esz with
    | false => simp [hb] at h
    | true =>
     have hb' := Nat.eq_of_beq_eq_true hb
     simp [hb] at h
     subst h
     simp only [List.length_cons, List.range'_succ, List.zip_cons_cons, Instr.fill]
     have hvc := Hv hv
     simp only [List.length_cons, Nat.add_mul, Nat.one_mul] at ht
     rw [hvc, if_neg (by simp [hb', hh]; omega)]
     have hf := Ra cs (k * esz) 0 (hd ++ tl).toArray (by simp; omega)
     have hc : ((cs.zipIdx 0).foldl (fun (c : Array Value) (x : Value × Nat) => c.setIfInBounds (k * esz + x.2) x.1) (hd ++ tl).toArray) = ((hd ++ cs) ++ tl.drop esz).toArray := by
      apply Array.ext'
      rw [hf]
      simp only [List.toList_toArray, Nat.add_zero, ← hh]
      rw [List.take_left', List.drop_append]
      ·simp [List.drop_eq_nil_of_le, hb']
      ·rfl
     have := ih (k + 1) (hd ++ cs) (tl.drop esz) hu (by simp [hh, hb', Nat.add_mul]) (by simp; omega)
     rw [← List.append_assoc hd cs us', ← this, ← hc, ← Array.foldl_toList, Array.toList_zipIdx]
   ·simp at h
  ·simp at h
theorem Ac3 {T e : TypeId} {parts : Array (Nat × Operand)} {is : List Nat} {vs us : List Value} {m : Nat} {sz bb esz ebb : Nat} {z ez : List Value} {dd : TypeDesc} [ht : Aq P T (.slice e) sz bb z] [hte : Aq P e dd esz ebb ez]
  (hp : parts.toList.map (·.1) = is) (ho : G9 E (parts.toList.map (·.2)) = some vs) (hr : is = List.range' 0 vs.length) (hm : vs.length = m) (hfl : Mo esz vs = some us) (hm0 : m * esz ≠ 0) (hm1 : m * esz ≤ 2 ^ 24) (hez : ez.length = esz)
  (hg : Wants ops E g) (hdn : Nat.blt d n = true)
  (h : ∀ b, A4 P f n I₀ Q ops l k ((d, .slice (some ⟨b, 0, none⟩) m m) :: E) I ((b, .cells us.toArray e (0, 0)) :: L)) :
  A4 P f n I₀ Q ops (⟨some d, .buildSlice T m parts, ty, pos, af, g⟩ :: l) k E I L := by
 refine S3 hp ho hm0 hm1 ?_ hg hdn h; rw [hr]
 have := Q9 (esz := esz) 0 [] (((Array.range (m * esz)).map (ez.toArray[· % ez.toArray.size]!)).toList) hfl (by simp) (by simp [hm])
 rw [List.nil_append, List.nil_append, Array.toArray_toList] at this
 exact this

/- Where two ways meet again. -/
def P1 : Nat → Gm → Bool
 | 0, _ => true
 | _ + 1, [] => true
 | m + 1, (x, _) :: E => (match look (E.drop m) x with | none => true | some _ => false) && P1 m E
theorem Rc : ∀ (m : Nat) (E : Gm), P1 m E = true → ∀ t v, look (E.drop m) t = some v → look E t = some v := by
 intro m
 induction m with
 | zero => intro E _ t v h; simpa using h
 | succ m ih =>
  intro E hf t v h
  cases E with
  | nil => simp [look] at h
  | cons p E =>
   simp only [P1, Bool.and_eq_true] at hf
   have h1 := ih E hf.2 t v (by simpa using h)
   rw [Ev]
   by_cases e : p.1 = t
   ·rw [List.drop_succ_cons] at h
    have h2 := hf.1
    rw [e, h] at h2; cases h2
   ·rw [if_neg e]; exact h1
theorem Ar (m : Nat) {v : Value} {E' : Gm} (hE : E.drop m = E') (hf : P1 m E = true) (hk : A4 P f n I₀ Q ops l k ((d, v) :: E') I L) : A4 P f n I₀ Q ops l k ((d, v) :: E) I L := by
 subst hE; refine fun a w ha hd he hm => hk a w ha hd (fun t u hu => he t u ?_) hm
 rw [Ev] at hu ⊢
 by_cases e : d = t
 ·rwa [if_pos e] at hu ⊢
 ·rw [if_neg e] at hu ⊢; exact Rc m E hf t u hu
def O3 (ops : Array Oper) (n : Nat) : Nat → List Oper → Gm → Option (List Oper × Gm)
 | 0, l, E => some (l, E)
 | m + 1, ⟨some d, _, _, _, _, some (j, b)⟩ :: l, E => match (ops[j]?).bind (·.dst) with
  | some dj => match look E dj with
   | some (.bool b') => bif (Bool.xor b' b) && Nat.blt d n then O3 ops n m l ((d, undef) :: E) else none
   | some (.tuple a) => bif a.isEmpty && Nat.blt d n then O3 ops n m l ((d, undef) :: E) else none
   | _ => none
  | none => none
 | _ + 1, _, _ => none
theorem A0 (m : Nat) {l' : List Oper} {E' : Gm} (h : O3 ops n m l E = some (l', E')) (hk : A4 P f n I₀ Q ops l' k E' I L) : A4 P f n I₀ Q ops l k E I L := by
 induction m generalizing l E with
 | zero => simp only [O3, Option.some.injEq, Prod.mk.injEq] at h; obtain ⟨rfl, rfl⟩ := h; exact hk
 | succ m ih =>
  cases l with
  | nil => simp [O3] at h
  | cons o l =>
   obtain ⟨dst, op, ty, pos, af, g⟩ := o
   cases dst with
   | none => simp [O3] at h
   | some d =>
    cases g with
    | none => simp [O3] at h
    | some g =>
     obtain ⟨j, b⟩ := g
     simp only [O3] at h
     cases hdj : (ops[j]?).bind (·.dst) with
     | none => rw [hdj] at h; cases h
     | some dj =>
      rw [hdj] at h
      simp only at h
      split at h
      ·rename_i b' hl
       cases hx : ((Bool.xor b' b) && Nat.blt d n) with
       | false => rw [hx] at h; cases h
       | true =>
        rw [hx] at h
        simp only [Bool.and_eq_true] at hx
        have e : b' = !b := by have := hx.1; revert this; cases b' <;> cases b <;> decide
        subst e
        exact Cd hdj hl hx.2 (ih h)
      ·rename_i a hl
       cases hx : (a.isEmpty && Nat.blt d n) with
       | false => rw [hx] at h; cases h
       | true =>
        rw [hx] at h
        simp only [Bool.and_eq_true] at hx
        have e : a = #[] := by have := hx.1; simpa using this
        subst e
        exact Kg hdj hl hx.2 (ih h)
      ·cases h
theorem S6 {c dd : Nat} {b : Bool} {v : Value} {l' : List Oper} (hc : look E c = some (.bool b)) (hk : A4 P f n I₀ Q ops l' k ((dd, v) :: E) I L) : A4 P f n I₀ Q ops l' k ((dd, v) :: (c, .bool b) :: E) I L := by
 refine fun a w ha hd he hm => hk a w ha hd (fun t u hu => he t u ?_) hm
 rw [Ev] at hu ⊢
 by_cases e : dd = t
 ·rwa [if_pos e] at hu ⊢
 ·rw [if_neg e] at hu ⊢; rw [Ev]
  by_cases e' : c = t
  ·subst e'; rw [if_pos rfl, ← hc, hu]
  ·rwa [if_neg e']
theorem S8 {c : Nat} {b : Bool} (hc : look E c = some (.bool b)) (h : A4 P f n I₀ Q ops l k ((c, .bool b) :: E) I L) : A4 P f n I₀ Q ops l k E I L := by
 refine fun a w ha hd he hm => h a w ha hd (fun t u hu => ?_) hm
 rw [Ev] at hu
 by_cases e : c = t
 ·subst e; rw [if_pos rfl] at hu; exact he _ _ (hc.trans hu)
 ·rw [if_neg e] at hu; exact he _ _ hu
theorem Ci (c dd : Nat) {b q : Bool} {l' : List Oper} (hc : look E c = some (.bool b))
  (hT : b = true → A4 P f n I₀ Q ops l' k ((dd, .bool q) :: (c, .bool true) :: E) I L → A4 P f n I₀ Q ops l k ((c, .bool true) :: E) I L)
  (hF : b = false → A4 P f n I₀ Q ops l' k ((dd, .bool false) :: (c, .bool false) :: E) I L → A4 P f n I₀ Q ops l k ((c, .bool false) :: E) I L)
  (hk : A4 P f n I₀ Q ops l' k ((dd, .bool (b && q)) :: E) I L) : A4 P f n I₀ Q ops l k E I L := by
 cases b with
 | true => exact S8 hc (hT rfl (S6 hc hk))
 | false => exact S8 hc (hF rfl (S6 hc hk))
theorem Fx (c dd : Nat) {b q : Bool} {l' : List Oper} (hc : look E c = some (.bool b))
  (hF : b = false → A4 P f n I₀ Q ops l' k ((dd, .bool q) :: (c, .bool false) :: E) I L → A4 P f n I₀ Q ops l k ((c, .bool false) :: E) I L)
  (hT : b = true → A4 P f n I₀ Q ops l' k ((dd, .bool true) :: (c, .bool true) :: E) I L → A4 P f n I₀ Q ops l k ((c, .bool true) :: E) I L)
  (hk : A4 P f n I₀ Q ops l' k ((dd, .bool (b || q)) :: E) I L) : A4 P f n I₀ Q ops l k E I L := by
 cases b with
 | true => exact S8 hc (hT rfl (S6 hc hk))
 | false => exact S8 hc (hF rfl (S6 hc hk))

/- The same in a region that draws its order. -/
theorem H2 {S : World → Prop} {fuel : Nat} {listed : Array Bool} (m : Nat) {v : Value} {E' : Gm} (hE : E.drop m = E') (hf : P1 m E = true) (hk : Cq P f n I₀ Q ops S fuel listed k ((d, v) :: E') I L) : Cq P f n I₀ Q ops S fuel listed k ((d, v) :: E) I L := by
 subst hE; refine fun a w ha hd he hm => hk a w ha hd (fun t u hu => he t u ?_) hm
 rw [Ev] at hu ⊢
 by_cases e : d = t
 ·rwa [if_pos e] at hu ⊢
 ·rw [if_neg e] at hu ⊢; exact Rc m E hf t u hu
theorem Sd {S : World → Prop} {fuel : Nat} {listed : Array Bool} {c dd : Nat} {b : Bool} {v : Value} (hc : look E c = some (.bool b)) (hk : Cq P f n I₀ Q ops S fuel listed k ((dd, v) :: E) I L) : Cq P f n I₀ Q ops S fuel listed k ((dd, v) :: (c, .bool b) :: E) I L := by
 refine fun a w ha hd he hm => hk a w ha hd (fun t u hu => he t u ?_) hm
 rw [Ev] at hu ⊢
 by_cases e : dd = t
 ·rwa [if_pos e] at hu ⊢
 ·rw [if_neg e] at hu ⊢; rw [Ev]
  by_cases e' : c = t
  ·subst e'; rw [if_pos rfl, ← hc, hu]
  ·rwa [if_neg e']
theorem Sg {S : World → Prop} {fuel : Nat} {listed : Array Bool} {c : Nat} {b : Bool} (hc : look E c = some (.bool b)) (h : Cq P f n I₀ Q ops S fuel listed k ((c, .bool b) :: E) I L) : Cq P f n I₀ Q ops S fuel listed k E I L := by
 refine fun a w ha hd he hm => h a w ha hd (fun t u hu => ?_) hm
 rw [Ev] at hu
 by_cases e : c = t
 ·subst e; rw [if_pos rfl] at hu; exact he _ _ (hc.trans hu)
 ·rw [if_neg e] at hu; exact he _ _ hu
theorem T0 {S : World → Prop} {fuel fuel' : Nat} {listed listed' : Array Bool} (c dd : Nat) {b q : Bool} (hc : look E c = some (.bool b))
  (hT : b = true → Cq P f n I₀ Q ops S fuel' listed' k ((dd, .bool q) :: (c, .bool true) :: E) I L → Cq P f n I₀ Q ops S fuel listed k ((c, .bool true) :: E) I L)
  (hF : b = false → Cq P f n I₀ Q ops S fuel' listed' k ((dd, .bool false) :: (c, .bool false) :: E) I L → Cq P f n I₀ Q ops S fuel listed k ((c, .bool false) :: E) I L)
  (hk : Cq P f n I₀ Q ops S fuel' listed' k ((dd, .bool (b && q)) :: E) I L) : Cq P f n I₀ Q ops S fuel listed k E I L := by
 cases b with
 | true => exact Sg hc (hT rfl (Sd hc hk))
 | false => exact Sg hc (hF rfl (Sd hc hk))
theorem Ack {S : World → Prop} {fuel fuel' : Nat} {listed listed' : Array Bool} (c dd : Nat) {b q : Bool} (hc : look E c = some (.bool b))
  (hF : b = false → Cq P f n I₀ Q ops S fuel' listed' k ((dd, .bool q) :: (c, .bool false) :: E) I L → Cq P f n I₀ Q ops S fuel listed k ((c, .bool false) :: E) I L)
  (hT : b = true → Cq P f n I₀ Q ops S fuel' listed' k ((dd, .bool true) :: (c, .bool true) :: E) I L → Cq P f n I₀ Q ops S fuel listed k ((c, .bool true) :: E) I L)
  (hk : Cq P f n I₀ Q ops S fuel' listed' k ((dd, .bool (b || q)) :: E) I L) : Cq P f n I₀ Q ops S fuel listed k E I L := by
 cases b with
 | true => exact Sg hc (hT rfl (Sd hc hk))
 | false => exact Sg hc (hF rfl (Sd hc hk))

end rules

def D0 (v : Value) (I : Heap) (L : Bh) : Cs := fun u I' L' => v = u ∧ I = I' ∧ L = L'
theorem Xw {I I₀ : Heap} {L L₀ : Bh} {v u : Value} (hI : I = I₀) (hm : ∀ w, Mem I L w → Mem I₀ L₀ w) (h : v = u) : ∃ I' L', HLe I₀ I' ∧ (∀ w, Mem I L w → Mem I' L' w) ∧ D0 u I₀ L₀ v I' L' := by
 subst hI; exact ⟨I, L₀, .refl _, hm, h.symm, rfl, rfl⟩

section
variable {P : Program} {E : Gm} {I : Heap} {L : Bh}
/- The same, with what is asked looked for. -/
theorem RetOk.c {t T : Nat} {a : Addr} {v : Value} {rs : List ResultVar} {vs : List Value} (h : look E t = some (.pointer (some a))) (r : RetOk P E I L rs vs)
  (hl : Fk P I L T a v := by first | exact A9 (by assumption) rfl | exact Gu (by repeat first | exact .head _ | apply List.Mem.tail | apply List.mem_append_right) (by rfl) | exact Fj (by repeat first | exact .head _ | apply List.Mem.tail | apply List.mem_append_right) (by rfl) rfl | exact Bc (by assumption) (by rfl) | exact Ba (by assumption) (by rfl) rfl) : RetOk P E I L (.cell t T :: rs) (v :: vs) := .cell h hl r
theorem Bf {I' : Heap} {L' : Bh} (hm : ∀ w, Mem I L w → Mem I' L' w := by intro _ h; first | exact h | exact dr1 h | exact dr2 h | exact dr3 h | exact dr4 h | exact dr5 h | exact Lz h | exact Lz h.drop | exact Lz h.drop.drop | exact Lz h.drop.drop.drop) : ∀ w, Mem I L w → Mem I' L' w := hm
theorem only {I₀ : Heap} {L₀ : Bh} {v u : Value} (hI : I = I₀) (h : v = u) (hm : ∀ w, Mem I L w → Mem I₀ L₀ w := by intro _ h; first | exact h | exact dr1 h | exact dr2 h | exact dr3 h | exact dr4 h | exact dr5 h | exact Lz h | exact Lz h.drop | exact Lz h.drop.drop | exact Lz h.drop.drop.drop) : ∃ I' L', HLe I₀ I' ∧ (∀ w, Mem I L w → Mem I' L' w) ∧ D0 u I₀ L₀ v I' L' := Xw hI hm h
end
/- The same rules, with what is asked of memory looked for. -/
section rules
variable {P : Program} {f : FuncId} {n : Nat} {I₀ : Heap} {Q : Cs} {k : List Item} {E : Gm} {I : Heap} {L : Bh}
variable {ops : Array Oper} {d : Nat} {ty : TypeId} {pos : String} {af : Array Edge} {g : Option (Nat × Bool)} {l : List Oper}
theorem Cx {I' : Heap} {L' : Bh} {T : TypeId} {x : Operand} {ad : Addr} {v : Value} (hx : A7 E x = some (.pointer (some ad))) (hl : Fk P I' L' T ad v := by exact (Gu (by repeat first | exact .head _ | apply List.Mem.tail | apply List.mem_append_right) (by rfl))) : Gn P E (Mem I' L') ⟨some d, .load T x, ty, pos, af, g⟩ v := Eh hx hl
theorem A3 {T : TypeId} {x : Operand} {ad : Addr} {v : Value} (hx : A7 E x = some (.pointer (some ad))) (hg : Wants ops E g) (hdn : Nat.blt d n = true) (h : A4 P f n I₀ Q ops l k ((d, v) :: E) I L) (hl : Fk P I L T ad v := by exact (Gu (by repeat first | exact .head _ | apply List.Mem.tail | apply List.mem_append_right) (by rfl))) : A4 P f n I₀ Q ops (⟨some d, .load T x, ty, pos, af, g⟩ :: l) k E I L := Bs hx hl hg hdn h
theorem Br {I' : Heap} {L' : Bh} {T : TypeId} {x : Operand} {ad : Addr} {v : Value} (hx : A7 E x = some (.pointer (some ad))) (hl : Fk P I' L' T ad v := by exact (Fj (by repeat first | exact .head _ | apply List.Mem.tail | apply List.mem_append_right) (by rfl) rfl)) : Gn P E (Mem I' L') ⟨some d, .load T x, ty, pos, af, g⟩ v := Eh hx hl
theorem A1 {T : TypeId} {x : Operand} {ad : Addr} {v : Value} (hx : A7 E x = some (.pointer (some ad))) (hg : Wants ops E g) (hdn : Nat.blt d n = true) (h : A4 P f n I₀ Q ops l k ((d, v) :: E) I L) (hl : Fk P I L T ad v := by exact (Fj (by repeat first | exact .head _ | apply List.Mem.tail | apply List.mem_append_right) (by rfl) rfl)) : A4 P f n I₀ Q ops (⟨some d, .load T x, ty, pos, af, g⟩ :: l) k E I L := Bs hx hl hg hdn h
theorem Bq {I' : Heap} {L' : Bh} {T : TypeId} {x : Operand} {ad : Addr} {v : Value} (hx : A7 E x = some (.pointer (some ad))) (hl : Fk P I' L' T ad v := by first | exact Bc (FormAt.st (by assumption) _ (by first | omega | decide | (simp; done) | exact Cb (by assumption) (by decide))) (by rfl) | exact Bc (by assumption) (by rfl) | exact Uv (Hi (by assumption) (by intro _ h; first | exact h | exact dr1 h | exact dr2 h | exact dr3 h | exact dr4 h | exact dr5 h | exact Lz h | exact Lz h.drop | exact Lz h.drop.drop | exact Lz h.drop.drop.drop)) (by rfl)) : Gn P E (Mem I' L') ⟨some d, .load T x, ty, pos, af, g⟩ v := Eh hx hl
theorem D9 {T : TypeId} {x : Operand} {ad : Addr} {v : Value} (hx : A7 E x = some (.pointer (some ad))) (hg : Wants ops E g) (hdn : Nat.blt d n = true) (h : A4 P f n I₀ Q ops l k ((d, v) :: E) I L) (hl : Fk P I L T ad v := by first | exact Bc (FormAt.st (by assumption) _ (by first | omega | decide | (simp; done) | exact Cb (by assumption) (by decide))) (by rfl) | exact Bc (by assumption) (by rfl) | exact Uv (Hi (by assumption) (by intro _ h; first | exact h | exact dr1 h | exact dr2 h | exact dr3 h | exact dr4 h | exact dr5 h | exact Lz h | exact Lz h.drop | exact Lz h.drop.drop | exact Lz h.drop.drop.drop)) (by rfl)) : A4 P f n I₀ Q ops (⟨some d, .load T x, ty, pos, af, g⟩ :: l) k E I L := Bs hx hl hg hdn h
theorem O7 {I' : Heap} {L' : Bh} {T : TypeId} {x : Operand} {ad : Addr} {v : Value} (hx : A7 E x = some (.pointer (some ad))) (hl : Fk P I' L' T ad v := by first | exact En rfl (RStrs.st (by assumption) _ (by first | omega | decide | (simp; done) | exact Cb (by assumption) (by decide))) | exact En rfl (Hi (RStrs.st (by assumption) _ (by first | omega | decide | (simp; done) | exact Cb (by assumption) (by decide))) (by intro _ h; first | exact h | exact dr1 h | exact dr2 h | exact dr3 h | exact dr4 h | exact dr5 h | exact Lz h | exact Lz h.drop | exact Lz h.drop.drop | exact Lz h.drop.drop.drop)) | exact A9 (Nums.st (by assumption) _ (by first | omega | decide | (simp; done) | exact Cb (by assumption) (by decide))) rfl | exact A9 (Strs.st (by assumption) _ (by first | omega | decide | (simp; done) | exact Cb (by assumption) (by decide))) rfl | exact A9 (Raw.st (by assumption) _ (by first | omega | decide | (simp; done) | exact Cb (by assumption) (by decide))) rfl | exact A9 (by assumption) rfl | exact En rfl (by assumption)) : Gn P E (Mem I' L') ⟨some d, .load T x, ty, pos, af, g⟩ v := Eh hx hl
theorem Ef {T : TypeId} {x : Operand} {ad : Addr} {v : Value} (hx : A7 E x = some (.pointer (some ad))) (hg : Wants ops E g) (hdn : Nat.blt d n = true) (h : A4 P f n I₀ Q ops l k ((d, v) :: E) I L) (hl : Fk P I L T ad v := by first | exact En rfl (RStrs.st (by assumption) _ (by first | omega | decide | (simp; done) | exact Cb (by assumption) (by decide))) | exact En rfl (Hi (RStrs.st (by assumption) _ (by first | omega | decide | (simp; done) | exact Cb (by assumption) (by decide))) (by intro _ h; first | exact h | exact dr1 h | exact dr2 h | exact dr3 h | exact dr4 h | exact dr5 h | exact Lz h | exact Lz h.drop | exact Lz h.drop.drop | exact Lz h.drop.drop.drop)) | exact A9 (Nums.st (by assumption) _ (by first | omega | decide | (simp; done) | exact Cb (by assumption) (by decide))) rfl | exact A9 (Strs.st (by assumption) _ (by first | omega | decide | (simp; done) | exact Cb (by assumption) (by decide))) rfl | exact A9 (Raw.st (by assumption) _ (by first | omega | decide | (simp; done) | exact Cb (by assumption) (by decide))) rfl | exact A9 (by assumption) rfl | exact En rfl (by assumption)) : A4 P f n I₀ Q ops (⟨some d, .load T x, ty, pos, af, g⟩ :: l) k E I L := Bs hx hl hg hdn h
theorem Jd {I' : Heap} {L' : Bh} {T : TypeId} {x : Operand} {ad : Addr} {v : Value} (hx : A7 E x = some (.pointer (some ad))) (hl : Fk P I' L' T ad v := by first | exact Ba (FormAt.st (by assumption) _ (by first | omega | decide | (simp; done) | exact Cb (by assumption) (by decide))) (by rfl) rfl | exact Ba (by assumption) (by rfl) rfl | exact Ri (Hi (by assumption) (by intro _ h; first | exact h | exact dr1 h | exact dr2 h | exact dr3 h | exact dr4 h | exact dr5 h | exact Lz h | exact Lz h.drop | exact Lz h.drop.drop | exact Lz h.drop.drop.drop)) (by rfl) rfl) : Gn P E (Mem I' L') ⟨some d, .load T x, ty, pos, af, g⟩ v := Eh hx hl
theorem Fo {T : TypeId} {x : Operand} {ad : Addr} {v : Value} (hx : A7 E x = some (.pointer (some ad))) (hg : Wants ops E g) (hdn : Nat.blt d n = true) (h : A4 P f n I₀ Q ops l k ((d, v) :: E) I L) (hl : Fk P I L T ad v := by first | exact Ba (FormAt.st (by assumption) _ (by first | omega | decide | (simp; done) | exact Cb (by assumption) (by decide))) (by rfl) rfl | exact Ba (by assumption) (by rfl) rfl | exact Ri (Hi (by assumption) (by intro _ h; first | exact h | exact dr1 h | exact dr2 h | exact dr3 h | exact dr4 h | exact dr5 h | exact Lz h | exact Lz h.drop | exact Lz h.drop.drop | exact Lz h.drop.drop.drop)) (by rfl) rfl) : A4 P f n I₀ Q ops (⟨some d, .load T x, ty, pos, af, g⟩ :: l) k E I L := Bs hx hl hg hdn h
theorem Vt {I' : Heap} {L' : Bh} {T : TypeId} {x : Operand} {ad : Addr} {v : Value} (hx : A7 E x = some (.pointer (some ad))) (hl : Fk P I' L' T ad v := by first | exact Fj (by repeat first | exact .head _ | apply List.Mem.tail | apply List.mem_append_right) (by rfl) rfl | exact Gu (by repeat first | exact .head _ | apply List.Mem.tail | apply List.mem_append_right) (by rfl) | exact Bc (FormAt.st (by assumption) _ (by omega)) (by rfl) | exact Ba (FormAt.st (by assumption) _ (by omega)) (by rfl) rfl | exact A9 (Nums.st (by assumption) _ (by omega)) rfl | exact A9 (Strs.st (by assumption) _ (by omega)) rfl | exact A9 (by assumption) rfl | exact Bc (by assumption) (by rfl) | exact Ba (by assumption) (by rfl) rfl) : Gn P E (Mem I' L') ⟨some d, .load T x, ty, pos, af, g⟩ v := Eh hx hl
theorem F4 {T : TypeId} {x : Operand} {ad : Addr} {v : Value} (hx : A7 E x = some (.pointer (some ad))) (hg : Wants ops E g) (hdn : Nat.blt d n = true) (h : A4 P f n I₀ Q ops l k ((d, v) :: E) I L) (hl : Fk P I L T ad v := by first | exact Fj (by repeat first | exact .head _ | apply List.Mem.tail | apply List.mem_append_right) (by rfl) rfl | exact Gu (by repeat first | exact .head _ | apply List.Mem.tail | apply List.mem_append_right) (by rfl) | exact Bc (FormAt.st (by assumption) _ (by omega)) (by rfl) | exact Ba (FormAt.st (by assumption) _ (by omega)) (by rfl) rfl | exact A9 (Nums.st (by assumption) _ (by omega)) rfl | exact A9 (Strs.st (by assumption) _ (by omega)) rfl | exact A9 (by assumption) rfl | exact Bc (by assumption) (by rfl) | exact Ba (by assumption) (by rfl) rfl) : A4 P f n I₀ Q ops (⟨some d, .load T x, ty, pos, af, g⟩ :: l) k E I L := Bs hx hl hg hdn h
theorem N5 {I' : Heap} {L' : Bh} {T : TypeId} {x : Operand} {ad : Addr} {v : Value} (hx : A7 E x = some (.pointer (some ad))) (hl : Fk P I' L' T ad v := by first | exact A9 (by assumption) rfl | exact Gu (by repeat first | exact .head _ | apply List.Mem.tail | apply List.mem_append_right) (by rfl) | exact Fj (by repeat first | exact .head _ | apply List.Mem.tail | apply List.mem_append_right) (by rfl) rfl | exact Bc (by assumption) (by rfl) | exact Ba (by assumption) (by rfl) rfl) : Gn P E (Mem I' L') ⟨some d, .load T x, ty, pos, af, g⟩ v := Eh hx hl
theorem Cr {T : TypeId} {x : Operand} {ad : Addr} {v : Value} (hx : A7 E x = some (.pointer (some ad))) (hg : Wants ops E g) (hdn : Nat.blt d n = true) (h : A4 P f n I₀ Q ops l k ((d, v) :: E) I L) (hl : Fk P I L T ad v := by first | exact A9 (by assumption) rfl | exact Gu (by repeat first | exact .head _ | apply List.Mem.tail | apply List.mem_append_right) (by rfl) | exact Fj (by repeat first | exact .head _ | apply List.Mem.tail | apply List.mem_append_right) (by rfl) rfl | exact Bc (by assumption) (by rfl) | exact Ba (by assumption) (by rfl) rfl) : A4 P f n I₀ Q ops (⟨some d, .load T x, ty, pos, af, g⟩ :: l) k E I L := Bs hx hl hg hdn h
theorem Bn {T U : TypeId} {x y : Operand} {b off : Nat} {v : Value} {vs cs us : List Value} {L' : Bh} {dd : TypeDesc} {sz bb : Nat} {z : List Value} [ht : Aq P T dd sz bb z]
  (hx : A7 E x = some (.pointer (some ⟨b, off, none⟩))) (hy : A7 E y = some v) (hv : Fc v = some vs) (hl : vs.length = sz) (hg : Wants ops E g) (h : A4 P f n I₀ Q ops l k E I L')
  (hp : vs.all Cj = true := by first | rfl | (simp only [List.toList_toArray, List.all_cons, List.all_nil, Gk, Bool.and_true, Bool.true_and] <;> rfl)) (hu : Upd b (.cells us.toArray U (0, 0)) (.cells cs.toArray U (0, 0)) L L' := by first | exact u0 | exact u1 | exact u2 | exact u3 | exact u4 | exact u5 | exact u6) (hus : Mc off vs cs = some us := by rfl) : A4 P f n I₀ Q ops (⟨none, .store T x y, ty, pos, af, g⟩ :: l) k E I L := S9 hx hy hv hl hp hu hus hg h
theorem Adx {S : World → Prop} {fuel : Nat} {listed listed' : Array Bool} (i : Nat) {T U : TypeId} {x y : Operand} {b off : Nat} {v : Value} {vs cs us : List Value} {L' : Bh} {dd : TypeDesc} {sz bb : Nat} {z : List Value} [ht : Aq P T dd sz bb z]
  (hi : ops[i]? = some ⟨none, .store T x y, ty, pos, af, g⟩) (hc : decide (Region.ready .any ops listed = [i]) = true) (hl' : listed' = listed.setIfInBounds i true)
  (hx : A7 E x = some (.pointer (some ⟨b, off, none⟩))) (hy : A7 E y = some v) (hv : Fc v = some vs) (hl : vs.length = sz) (hg : Wants ops E g) (hS : Eu ops listed' = true ∨ ∀ w, Mem I L' w → S w) (h : Cq P f n I₀ Q ops S fuel listed' k E I L')
  (hp : vs.all Cj = true := by first | rfl | (simp only [List.toList_toArray, List.all_cons, List.all_nil, Gk, Bool.and_true, Bool.true_and] <;> rfl)) (hu : Upd b (.cells us.toArray U (0, 0)) (.cells cs.toArray U (0, 0)) L L' := by first | exact u0 | exact u1 | exact u2 | exact u3 | exact u4 | exact u5 | exact u6) (hus : Mc off vs cs = some us := by rfl) : Cq P f n I₀ Q ops S (fuel + 1) listed k E I L := W8 i hi hc hl' hx hy hv hl hp hu hus hg hS h
theorem nb : (∀ a b : Bool, ((a && b) = true) = (a = true ∧ b = true)) ∧ (∀ a b : Bool, ((a || b) = true) = (a = true ∨ b = true)) ∧ (∀ a : Bool, ((!a) = true) = (a = false)) ∧ (∀ a : Bool, ((!a) = false) = (a = true)) ∧ (∀ a b : Bool, ((a && b) = false) = (a = false ∨ b = false)) ∧ (∀ a b : Bool, ((a || b) = false) = (a = false ∧ b = false)) ∧ (∀ (p : Prop) [Decidable p], (decide p = true) = p) ∧ (∀ (p : Prop) [Decidable p], (decide p = false) = ¬ p) := by
 exact ⟨fun a b => by cases a <;> cases b <;> simp, fun a b => by cases a <;> cases b <;> simp, fun a => by cases a <;> simp, fun a => by cases a <;> simp, fun a b => by cases a <;> cases b <;> simp, fun a b => by cases a <;> cases b <;> simp, fun p _ => by simp, fun p _ => by simp⟩
end rules

section
variable {P : Program} {f : FuncId} {n : Nat} {I₀ : Heap} {Q : Cs} {k : List Item} {E : Gm} {I : Heap} {L : Bh} {ops : Array Oper} {d : Nat} {ty : TypeId} {pos : String} {af : Array Edge} {l : List Oper}
theorem Oc {op : BinOp} {T T' : TypeId} {x y : Operand} {kk : IntKind} {a b : Int} {r : Bool} (hx : A7 E x = some (.int kk a)) (hy : A7 E y = some (.int kk b)) (hr : Pn op a b = some r) (h : A4 P f n I₀ Q ops l k ((d, .bool r) :: E) I L) (hdn : Nat.blt d n = true := by rfl) : A4 P f n I₀ Q ops (⟨some d, .binOp op T x y T', ty, pos, af, none⟩ :: l) k E I L := Dh hx hy hr .free hdn h
theorem Od {op : BinOp} {T T' : TypeId} {x y : Operand} {a b : List UInt8} {r : Bool} (hx : A7 E x = some (.string (str a))) (hy : A7 E y = some (.string (str b))) (hr : Sb op a b = some r) (h : A4 P f n I₀ Q ops l k ((d, .bool r) :: E) I L) (hdn : Nat.blt d n = true := by rfl) : A4 P f n I₀ Q ops (⟨some d, .binOp op T x y T', ty, pos, af, none⟩ :: l) k E I L := Cg hx hy hr .free hdn h
theorem Of {c x y : Operand} {v : Value} (hc : A7 E c = some (.bool false)) (hx : A7 E y = some v) (h : A4 P f n I₀ Q ops l k ((d, v) :: E) I L) (hdn : Nat.blt d n = true := by rfl) : A4 P f n I₀ Q ops (⟨some d, .pick c x y, ty, pos, af, none⟩ :: l) k E I L := Eo hc hx .free hdn h
theorem Ot {c x y : Operand} {v : Value} (hc : A7 E c = some (.bool true)) (hx : A7 E x = some v) (h : A4 P f n I₀ Q ops l k ((d, v) :: E) I L) (hdn : Nat.blt d n = true := by rfl) : A4 P f n I₀ Q ops (⟨some d, .pick c x y, ty, pos, af, none⟩ :: l) k E I L := Fe hc hx .free hdn h
theorem Oe {x : Operand} {vs : List Value} {i : Nat} {v : Value} (hx : A7 E x = some (.tuple vs.toArray)) (hi : vs[i]? = some v) (h : A4 P f n I₀ Q ops l k ((d, v) :: E) I L) (hdn : Nat.blt d n = true := by rfl) : A4 P f n I₀ Q ops (⟨some d, .extract x i, ty, pos, af, none⟩ :: l) k E I L := Yq hx hi .free hdn h
theorem Or {op : BinOp} {T T' : TypeId} {x y : Operand} {a b m : Int} (hx : A7 E x = some (.int .i64 a)) (hy : A7 E y = some (.int .i64 b)) (hr : W4 op a b = some m) (h : A4 P f n I₀ Q ops l k ((d, .int .i64 m) :: E) I L) (hb : -9223372036854775808 ≤ m ∧ m ≤ 9223372036854775807 := by omega) (hdn : Nat.blt d n = true := by rfl) : A4 P f n I₀ Q ops (⟨some d, .binOp op T x y T', ty, pos, af, none⟩ :: l) k E I L := I5 hx hy hr hb .free hdn h
theorem Ok {T T' : TypeId} {x y : Operand} {a b : List UInt8} (hx : A7 E x = some (.string (str a))) (hy : A7 E y = some (.string (str b))) (h : A4 P f n I₀ Q ops l k ((d, .string (str (a ++ b))) :: E) I L) (hb : a.length + b.length ≤ 9223372036854775807 := by first | omega | (simp only [List.length_append, List.length_cons, List.length_nil]; omega) | (simp; omega)) (hdn : Nat.blt d n = true := by rfl) : A4 P f n I₀ Q ops (⟨some d, .binOp .add T x y T', ty, pos, af, none⟩ :: l) k E I L := Aaq hx hy hb .free hdn h
theorem Ol {T e : TypeId} {parts : Array (Nat × Operand)} {is : List Nat} {vs us : List Value} {m : Nat} {sz bb esz ebb : Nat} {z ez : List Value} {dd : TypeDesc} [ht : Aq P T (.slice e) sz bb z] [hte : Aq P e dd esz ebb ez] (hp : parts.toList.map (·.1) = is) (ho : G9 E (parts.toList.map (·.2)) = some vs)
  (h : ∀ b, A4 P f n I₀ Q ops l k ((d, .slice (some ⟨b, 0, none⟩) m m) :: E) I ((b, .cells us.toArray e (0, 0)) :: L)) (hr : is = List.range' 0 vs.length := by rfl) (hm : vs.length = m := by rfl) (hfl : Mo esz vs = some us := by rfl) (hm0 : m * esz ≠ 0 := by decide) (hm1 : m * esz ≤ 2 ^ 24 := by decide) (hez : ez.length = esz := by rfl) (hdn : Nat.blt d n = true := by rfl) :
  A4 P f n I₀ Q ops (⟨some d, .buildSlice T m parts, ty, pos, af, none⟩ :: l) k E I L := Ac3 hp ho hr hm hfl hm0 hm1 hez .free hdn h
theorem On {x : Operand} {ad : Option Addr} {m c : Nat} {e T : TypeId} {sz bb : Nat} {z : List Value} [ht : Aq P T (.slice e) sz bb z] (hx : A7 E x = some (.slice ad m c)) (h : A4 P f n I₀ Q ops l k ((d, .int .i64 (m : Nat)) :: E) I L) (hdn : Nat.blt d n = true := by rfl) : A4 P f n I₀ Q ops (⟨some d, .call ⟨.builtin .len, #[x], #[T]⟩, ty, pos, af, none⟩ :: l) k E I L := I6 hx .free hdn h
theorem Oh {T : TypeId} {i off : Nat} [hf : Au P T i off] {x : Operand} {b o : Nat} (hx : A7 E x = some (.pointer (some ⟨b, o, none⟩))) (h : A4 P f n I₀ Q ops l k ((d, .pointer (some ⟨b, o + off, none⟩)) :: E) I L) (hdn : Nat.blt d n = true := by rfl) : A4 P f n I₀ Q ops (⟨some d, .fieldAddr T x i, ty, pos, af, none⟩ :: l) k E I L := Ax hx .free hdn h
theorem Oj {T : TypeId} {i off : Nat} [hf : Au P T i off] {x : Operand} {ad : Addr} (hx : A7 E x = some (.pointer (some ad))) (h : A4 P f n I₀ Q ops l k ((d, .pointer (some (ad.add off))) :: E) I L) (hdn : Nat.blt d n = true := by rfl) : A4 P f n I₀ Q ops (⟨some d, .fieldAddr T x i, ty, pos, af, none⟩ :: l) k E I L := Bd hx .free hdn h
theorem Ow {x : Operand} {v : Value} {g : Option (Nat × Bool)} (hx : A7 E x = some v) (h : A4 P f n I₀ Q ops l k ((d, v) :: E) I L) (hg : Wants ops E g := by exact .met rfl rfl) (hdn : Nat.blt d n = true := by rfl) : A4 P f n I₀ Q ops (⟨some d, .move x, ty, pos, af, g⟩ :: l) k E I L := Aat hx hg hdn h
class Cnd (b : Bool) (p q : outParam Prop) : Prop where
 pos : b = true → p
 neg : b = false → q
 tru : p → b = true
 fls : q → b = false
instance (priority := low) (b : Bool) : Cnd b (b = true) (b = false) := ⟨id, id, id, id⟩
instance (p : Prop) [Decidable p] : Cnd (decide p) p (¬ p) := ⟨of_decide_eq_true, of_decide_eq_false, decide_eq_true, decide_eq_false⟩
instance (p : Prop) [Decidable p] : Cnd (!decide p) (¬ p) p := ⟨fun h => by simpa using h, fun h => by simpa using h, fun h => by simpa using h, fun h => by simpa using h⟩
theorem Si {c : Operand} {x y : Code} {b : Bool} {p q : Prop} [hb : Cnd b p q] (hc : A7 E c = some (.bool b)) (ht : p → RunS P f n I₀ Q (.code x :: k) E I L) (hf : q → RunS P f n I₀ Q (.code y :: k) E I L) : RunS P f n I₀ Q (.code (.cond c x y) :: k) E I L := As hc (fun h => ht (hb.pos h)) (fun h => hf (hb.neg h))
theorem Ca {kf : FuncId} {args : Array Operand} {tys : Array TypeId} {vs : List Value} {Q' : Cs} {c : Code} {m : Nat} {rs : List ResultVar} [hf : Bo P kf c m rs] (ha : G9 E args.toList = some vs) (hF : Fun P kf vs I L Q') (h : ∀ v I' L', HLe I I' → Q' v I' L' → A4 P f n I₀ Q ops l k ((d, v) :: E) I' L') (hdn : Nat.blt d n = true := by rfl) : A4 P f n I₀ Q ops (⟨some d, .call ⟨.value (.func kf), args, tys⟩, ty, pos, af, none⟩ :: l) k E I L := B9 ha .free hdn hF h
theorem Dc {S : World → Prop} {fuel : Nat} {listed : Array Bool} (i : Nat) {kf : FuncId} {args : Array Operand} {tys : Array TypeId} {vs : List Value} {Q' : Cs} {c : Code} {m : Nat} {rs : List ResultVar} [hf : Bo P kf c m rs] (hi : ops[i]? = some ⟨some d, .call ⟨.value (.func kf), args, tys⟩, ty, pos, af, none⟩) (ha : G9 E args.toList = some vs) (hF : Fun P kf vs I L Q')
  (h : ∀ v I' L', HLe I I' → Q' v I' L' → (Eu ops (listed.setIfInBounds i true) = true ∨ ∀ w, Mem I' L' w → S w) ∧ Cq P f n I₀ Q ops S fuel (listed.setIfInBounds i true) k ((d, v) :: E) I' L') (hc : decide (Region.ready .any ops listed = [i]) = true := by kernel_rfl) (hdn : Nat.blt d n = true := by rfl) : Cq P f n I₀ Q ops S (fuel + 1) listed k E I L := Jx i hi hc rfl ha .free hdn hF h
theorem Dx {S : World → Prop} {fuel : Nat} {listed : Array Bool} (i : Nat) {T U : TypeId} {x y : Operand} {b off : Nat} {v : Value} {vs cs us : List Value} {L' : Bh} {dd : TypeDesc} {sz bb : Nat} {z : List Value} [ht : Aq P T dd sz bb z] (hi : ops[i]? = some ⟨none, .store T x y, ty, pos, af, none⟩) (hx : A7 E x = some (.pointer (some ⟨b, off, none⟩))) (hy : A7 E y = some v) (hv : Fc v = some vs)
  (h : Cq P f n I₀ Q ops S fuel (listed.setIfInBounds i true) k E I L') (hc : decide (Region.ready .any ops listed = [i]) = true := by kernel_rfl) (hl : vs.length = sz := by rfl) (hS : Eu ops (listed.setIfInBounds i true) = true := by kernel_rfl) (hp : vs.all Cj = true := by first | rfl | (simp only [List.toList_toArray, List.all_cons, List.all_nil, Gk, Bool.and_true, Bool.true_and] <;> rfl)) (hu : Upd b (.cells us.toArray U (0, 0)) (.cells cs.toArray U (0, 0)) L L' := by first | exact u0 | exact u1 | exact u2 | exact u3 | exact u4 | exact u5 | exact u6) (hus : Mc off vs cs = some us := by rfl) : Cq P f n I₀ Q ops S (fuel + 1) listed k E I L := W8 i hi hc rfl hx hy hv hl hp hu hus .free (.inl hS) h
theorem Db {S : World → Prop} {fuel : Nat} {listed : Array Bool} (i : Nat) {op : Op} {v : Value} (hi : ops[i]? = some ⟨some d, op, ty, pos, af, none⟩) (hx : Gn P E (fun _ => True) ⟨some d, op, ty, pos, af, none⟩ v)
  (h : Cq P f n I₀ Q ops S fuel (listed.setIfInBounds i true) k ((d, v) :: E) I L) (hc : Hh ops listed i = true := by kernel_rfl) (hS : Eu ops listed = true := by kernel_rfl) (hdn : Nat.blt d n = true := by rfl) : Cq P f n I₀ Q ops S (fuel + 1) listed k E I L := Ft i hi hc rfl (.inl hS) hx .free hdn h
theorem Dm {S : World → Prop} {fuel : Nat} {listed : Array Bool} (i : Nat) {op : Op} {v : Value} {g : Option (Nat × Bool)} (hi : ops[i]? = some ⟨some d, op, ty, pos, af, g⟩) (hx : Gn P E (fun _ => True) ⟨some d, op, ty, pos, af, g⟩ v)
  (h : Cq P f n I₀ Q ops S fuel (listed.setIfInBounds i true) k ((d, v) :: E) I L) (hc : Hh ops listed i = true := by kernel_rfl) (hS : Eu ops listed = true ∨ ∀ w, Mem I L w → S w := by exact .inr Ao) (hg : Wants ops E g := by exact .met rfl rfl) (hdn : Nat.blt d n = true := by rfl) : Cq P f n I₀ Q ops S (fuel + 1) listed k E I L := Ft i hi hc rfl hS hx hg hdn h
theorem Yk {S : World → Prop} {g : Option (Nat × Bool)} {T T' : TypeId} {x y : Operand} {a b : List UInt8} (hx : A7 E x = some (.string (str a))) (hy : A7 E y = some (.string (str b))) (hb : a.length + b.length ≤ 9223372036854775807 := by first | omega | (simp only [List.length_append, List.length_cons, List.length_nil]; omega) | (simp; omega)) : Gn P E S ⟨some d, .binOp .add T x y T', ty, pos, af, g⟩ (.string (str (a ++ b))) := Vr hx hy hb
theorem Hx {p : Prop} {I : Heap} {L : Bh} {S : World → Prop} {B : Prop} (h : p) (hS : B ∨ ∀ w, Mem I L w → S w := by exact .inr Ao) : (B ∨ ∀ w, Mem I L w → S w) ∧ p := ⟨hS, h⟩
theorem Sf {c : Operand} {x y : Code} {b : Bool} {p q : Prop} [hb : Cnd b p q] (hc : A7 E c = some (.bool b)) (hq : q) (h : RunS P f n I₀ Q (.code y :: k) E I L) : RunS P f n I₀ Q (.code (.cond c x y) :: k) E I L := Al (by rw [hc, hb.fls hq]) h
theorem St {c : Operand} {x y : Code} {b : Bool} {p q : Prop} [hb : Cnd b p q] (hc : A7 E c = some (.bool b)) (hp : p) (h : RunS P f n I₀ Q (.code x :: k) E I L) : RunS P f n I₀ Q (.code (.cond c x y) :: k) E I L := Bj (by rw [hc, hb.tru hp]) h
theorem Ms {L' : Bh} (hs : L'.Sublist L := by repeat (first | exact List.Sublist.refl _ | apply List.Sublist.cons_cons | apply List.Sublist.cons)) : ∀ w, Mem I L w → Mem I L' w := fun _ h => Mem.sub hs h
end
set_option maxRecDepth 100000
def Am (P : Program) (T : TypeId) : Array Field := match P.underlying T with
 | some (.struct fs) => fs
 | _ => #[]
theorem Fi {P : Program} {f : FuncId} {n : Nat} {rs : List ResultVar} {fn : Func} (h : P.funcs[f]? = some fn) (h1 : fn.body = some (fn.body.getD .skip) := by kernel_rfl) (h2 : fn.ntmps = n := by kernel_rfl) (h3 : fn.results = rs.toArray := by kernel_rfl) (h4 : (fn.name == "runtime.NumGoroutine") = false := by kernel_rfl) : Bo P f (fn.body.getD .skip) n rs := ⟨fn, h, h1, h2, h3, h4⟩
theorem Ti {P : Program} {T : TypeId} {d : TypeDesc} {s b : Nat} {z : List Value} (h1 : P.underlying T = some d := by kernel_rfl) (h2 : (P.info? T).map (fun i => (i.size, i.bytes, i.zero.map fun v => v.cells.toList)) = some (s, b, some z) := by kernel_rfl) : Aq P T d s b z := ⟨h1, by
 cases hi : P.info? T with
 | none => rw [hi] at h2; cases h2
 | some i =>
  rw [hi] at h2
  simp only [Option.map_some, Option.some.injEq, Prod.mk.injEq] at h2
  obtain ⟨h3, h4, h5⟩ := h2; obtain ⟨v, hv, hz⟩ := Option.map_eq_some_iff.1 h5
  exact ⟨i, v, rfl, h3, h4, hv, hz⟩⟩
theorem Di {P : Program} {S : TypeId} {i off : Nat} {fld : Field} {inf : TypeInfo} (h1 : (Am P S)[i]? = some fld) (h2 : P.info? fld.type = some inf) (h3 : inf.size ≠ 0) (h4 : fld.offset = off) (h : P.underlying S = some (.struct (Am P S)) := by kernel_rfl) : Au P S i off := ⟨Am P S, fld, inf, h, h1, h2, h3, h4⟩
instance : Bo Tryz.prog 6 (Tryz.f6.body.getD .skip) 70 [.tmp 2] := Fi Tryz.func6
instance : Bo Tryz.prog 7 (Tryz.f7.body.getD .skip) 41 [.tmp 4] := Fi Tryz.func7
instance : Bo Tryz.prog 8 (Tryz.f8.body.getD .skip) 15 [.tmp 2] := Fi Tryz.func8
instance : Bo Tryz.prog 9 (Tryz.f9.body.getD .skip) 6 [.tmp 2] := Fi Tryz.func9
instance : Bo Tryz.prog 10 (Tryz.f10.body.getD .skip) 23 [.tmp 2, .tmp 3] := Fi Tryz.func10
instance : Bo Tryz.prog 11 (Tryz.f11.body.getD .skip) 39 [.tmp 2, .tmp 3] := Fi Tryz.func11
instance : Bo Tryz.prog 12 (Tryz.f12.body.getD .skip) 43 [.tmp 6, .tmp 7] := Fi Tryz.func12
instance : Bo Tryz.prog 13 (Tryz.f13.body.getD .skip) 11 [.tmp 2] := Fi Tryz.func13
instance : Bo Tryz.prog 14 (Tryz.f14.body.getD .skip) 15 [.tmp 2] := Fi Tryz.func14
instance : Bo Tryz.prog 15 (Tryz.f15.body.getD .skip) 23 [.tmp 2] := Fi Tryz.func15
instance : Bo Tryz.prog 16 (Tryz.f16.body.getD .skip) 33 [.tmp 4, .tmp 5, .tmp 6] := Fi Tryz.func16
instance : Bo Tryz.prog 17 (Tryz.f17.body.getD .skip) 40 [.tmp 4, .tmp 5, .tmp 6] := Fi Tryz.func17
instance : Bo Tryz.prog 18 (Tryz.f18.body.getD .skip) 6 [.tmp 2] := Fi Tryz.func18
instance : Bo Tryz.prog 19 (Tryz.f19.body.getD .skip) 11 [.tmp 2] := Fi Tryz.func19
instance : Bo Tryz.prog 20 (Tryz.f20.body.getD .skip) 6 [.tmp 2] := Fi Tryz.func20
instance : Bo Tryz.prog 21 (Tryz.f21.body.getD .skip) 30 [.tmp 4] := Fi Tryz.func21
instance : Bo Tryz.prog 22 (Tryz.f22.body.getD .skip) 6 [.tmp 2] := Fi Tryz.func22
instance : Bo Tryz.prog 23 (Tryz.f23.body.getD .skip) 19 [.tmp 2] := Fi Tryz.func23
instance : Bo Tryz.prog 24 (Tryz.f24.body.getD .skip) 21 [.tmp 2, .tmp 3] := Fi Tryz.func24
instance : Bo Tryz.prog 25 (Tryz.f25.body.getD .skip) 43 [.tmp 4, .tmp 5, .tmp 6] := Fi Tryz.func25
instance : Bo Tryz.prog 26 (Tryz.f26.body.getD .skip) 55 [.tmp 4, .tmp 5, .tmp 6] := Fi Tryz.func26
instance : Bo Tryz.prog 27 (Tryz.f27.body.getD .skip) 15 [.tmp 2] := Fi Tryz.func27
instance : Bo Tryz.prog 28 (Tryz.f28.body.getD .skip) 15 [.tmp 2] := Fi Tryz.func28
instance : Bo Tryz.prog 29 (Tryz.f29.body.getD .skip) 49 [.tmp 2] := Fi Tryz.func29
instance : Bo Tryz.prog 30 (Tryz.f30.body.getD .skip) 11 [.tmp 2] := Fi Tryz.func30
instance : Bo Tryz.prog 31 (Tryz.f31.body.getD .skip) 19 [.cell 2 39, .tmp 3] := Fi Tryz.func31
instance : Bo Tryz.prog 32 (Tryz.f32.body.getD .skip) 20 [.cell 2 39, .tmp 3] := Fi Tryz.func32
instance : Bo Tryz.prog 33 (Tryz.f33.body.getD .skip) 7 [.tmp 2] := Fi Tryz.func33
instance : Bo Tryz.prog 34 (Tryz.f34.body.getD .skip) 22 [.cell 2 46, .tmp 3] := Fi Tryz.func34
instance : Bo Tryz.prog 35 (Tryz.f35.body.getD .skip) 16 [.tmp 2] := Fi Tryz.func35
instance : Bo Tryz.prog 36 (Tryz.f36.body.getD .skip) 34 [.tmp 2] := Fi Tryz.func36
instance : Bo Tryz.prog 37 (Tryz.f37.body.getD .skip) 66 [.cell 2 46, .tmp 3] := Fi Tryz.func37
instance : Bo Tryz.prog 38 (Tryz.f38.body.getD .skip) 11 [.tmp 2] := Fi Tryz.func38
instance : Bo Tryz.prog 39 (Tryz.f39.body.getD .skip) 31 [.tmp 2] := Fi Tryz.func39
instance : Bo Tryz.prog 40 (Tryz.f40.body.getD .skip) 55 [.cell 4 53, .tmp 5] := Fi Tryz.func40
instance : Bo Tryz.prog 41 (Tryz.f41.body.getD .skip) 17 [.cell 2 39, .tmp 3] := Fi Tryz.func41
instance : Bo Tryz.prog 42 (Tryz.f42.body.getD .skip) 71 [.cell 4 39, .cell 5 39, .tmp 6] := Fi Tryz.func42
instance : Bo Tryz.prog 43 (Tryz.f43.body.getD .skip) 29 [.tmp 2] := Fi Tryz.func43
instance : Bo Tryz.prog 44 (Tryz.f44.body.getD .skip) 166 [.cell 2 39, .tmp 3] := Fi Tryz.func44
instance : Bo Tryz.prog 45 (Tryz.f45.body.getD .skip) 15 [.tmp 6] := Fi Tryz.func45
instance : Bo Tryz.prog 46 (Tryz.f46.body.getD .skip) 15 [.tmp 6] := Fi Tryz.func46
instance : Bo Tryz.prog 47 (Tryz.f47.body.getD .skip) 21 [.tmp 2] := Fi Tryz.func47
instance : Bo Tryz.prog 48 (Tryz.f48.body.getD .skip) 156 [.tmp 6] := Fi Tryz.func48
instance : Bo Tryz.prog 49 (Tryz.f49.body.getD .skip) 20 [.tmp 2] := Fi Tryz.func49
instance : Bo Tryz.prog 50 (Tryz.f50.body.getD .skip) 23 [.cell 2 39] := Fi Tryz.func50
instance : Bo Tryz.prog 51 (Tryz.f51.body.getD .skip) 50 [] := Fi Tryz.func51
instance : Bo Tryz.prog 52 (Tryz.f52.body.getD .skip) 8 [.tmp 2] := Fi Tryz.func52
instance : Bo Tryz.prog 53 (Tryz.f53.body.getD .skip) 14 [.tmp 2] := Fi Tryz.func53
instance : Bo Tryz.prog 54 (Tryz.f54.body.getD .skip) 117 [.cell 8 77, .tmp 9] := Fi Tryz.func54
instance : Bo Tryz.prog 55 (Tryz.f55.body.getD .skip) 35 [.tmp 4] := Fi Tryz.func55
instance : Bo Tryz.prog 56 (Tryz.f56.body.getD .skip) 26 [.tmp 2] := Fi Tryz.func56
instance : Bo Tryz.prog 57 (Tryz.f57.body.getD .skip) 28 [.tmp 2] := Fi Tryz.func57
instance : Bo Tryz.prog 58 (Tryz.f58.body.getD .skip) 99 [.tmp 4] := Fi Tryz.func58
instance : Bo Tryz.prog 59 (Tryz.f59.body.getD .skip) 17 [.tmp 2, .tmp 3] := Fi Tryz.func59
instance : Bo Tryz.prog 60 (Tryz.f60.body.getD .skip) 54 [.tmp 6, .tmp 7] := Fi Tryz.func60
instance : Bo Tryz.prog 61 (Tryz.f61.body.getD .skip) 12 [.tmp 4] := Fi Tryz.func61
instance : Bo Tryz.prog 62 (Tryz.f62.body.getD .skip) 8 [.tmp 2] := Fi Tryz.func62
instance : Bo Tryz.prog 63 (Tryz.f63.body.getD .skip) 14 [.tmp 2] := Fi Tryz.func63
instance : Bo Tryz.prog 64 (Tryz.f64.body.getD .skip) 32 [] := Fi Tryz.func64
instance : Bo Tryz.prog 65 (Tryz.f65.body.getD .skip) 20 [.cell 2 46, .tmp 3] := Fi Tryz.func65
instance : Bo Tryz.prog 66 (Tryz.f66.body.getD .skip) 105 [.tmp 2] := Fi Tryz.func66
instance : Bo Tryz.prog 67 (Tryz.f67.body.getD .skip) 24 [.tmp 2] := Fi Tryz.func67
instance : Bo Tryz.prog 68 (Tryz.f68.body.getD .skip) 18 [.tmp 2, .tmp 3] := Fi Tryz.func68
instance : Bo Tryz.prog 69 (Tryz.f69.body.getD .skip) 34 [.tmp 2] := Fi Tryz.func69
instance : Bo Tryz.prog 70 (Tryz.f70.body.getD .skip) 16 [.tmp 2] := Fi Tryz.func70
instance : Bo Tryz.prog 71 (Tryz.f71.body.getD .skip) 131 [.cell 2 46, .tmp 3] := Fi Tryz.func71
instance : Bo Tryz.prog 72 (Tryz.f72.body.getD .skip) 17 [.cell 2 39, .tmp 3] := Fi Tryz.func72
instance : Bo Tryz.prog 73 (Tryz.f73.body.getD .skip) 21 [.tmp 2] := Fi Tryz.func73
instance : Bo Tryz.prog 74 (Tryz.f74.body.getD .skip) 23 [.cell 2 39, .tmp 3] := Fi Tryz.func74
instance : Bo Tryz.prog 75 (Tryz.f75.body.getD .skip) 10 [.tmp 2] := Fi Tryz.func75
instance : Bo Tryz.prog 76 (Tryz.f76.body.getD .skip) 13 [.cell 2 39] := Fi Tryz.func76
instance : Bo Tryz.prog 77 (Tryz.f77.body.getD .skip) 10 [.tmp 2] := Fi Tryz.func77
instance : Bo Tryz.prog 78 (Tryz.f78.body.getD .skip) 45 [.tmp 2] := Fi Tryz.func78
instance : Bo Tryz.prog 79 (Tryz.f79.body.getD .skip) 51 [.cell 8 53] := Fi Tryz.func79
instance : Bo Tryz.prog 80 (Tryz.f80.body.getD .skip) 135 [.cell 6 39, .tmp 7] := Fi Tryz.func80
instance : Bo Tryz.prog 81 (Tryz.f81.body.getD .skip) 18 [.tmp 6] := Fi Tryz.func81
instance : Bo Tryz.prog 82 (Tryz.f82.body.getD .skip) 7 [.tmp 2] := Fi Tryz.func82
instance : Bo Tryz.prog 83 (Tryz.f83.body.getD .skip) 22 [.tmp 2] := Fi Tryz.func83
instance : Bo Tryz.prog 84 (Tryz.f84.body.getD .skip) 15 [.tmp 2] := Fi Tryz.func84
instance : Bo Tryz.prog 85 (Tryz.f85.body.getD .skip) 8 [.tmp 2] := Fi Tryz.func85
instance : Bo Tryz.prog 86 (Tryz.f86.body.getD .skip) 5 [.cell 2 39] := Fi Tryz.func86
instance : Bo Tryz.prog 87 (Tryz.f87.body.getD .skip) 30 [.tmp 6] := Fi Tryz.func87
instance : Bo Tryz.prog 88 (Tryz.f88.body.getD .skip) 49 [.cell 6 39] := Fi Tryz.func88
instance : Bo Tryz.prog 89 (Tryz.f89.body.getD .skip) 132 [.tmp 6] := Fi Tryz.func89
instance : Bo Tryz.prog 90 (Tryz.f90.body.getD .skip) 21 [.tmp 4] := Fi Tryz.func90
instance : Bo Tryz.prog 91 (Tryz.f91.body.getD .skip) 6 [.tmp 2] := Fi Tryz.func91
instance : Bo Tryz.prog 92 (Tryz.f92.body.getD .skip) 12 [.tmp 6] := Fi Tryz.func92
instance : Bo Tryz.prog 93 (Tryz.f93.body.getD .skip) 77 [.tmp 6] := Fi Tryz.func93
instance : Bo Tryz.prog 94 (Tryz.f94.body.getD .skip) 26 [.tmp 2, .tmp 3] := Fi Tryz.func94
instance : Bo Tryz.prog 95 (Tryz.f95.body.getD .skip) 29 [.tmp 4] := Fi Tryz.func95
instance : Bo Tryz.prog 96 (Tryz.f96.body.getD .skip) 11 [.cell 4 39] := Fi Tryz.func96
instance : Bo Tryz.prog 97 (Tryz.f97.body.getD .skip) 19 [.tmp 4, .tmp 5] := Fi Tryz.func97
instance : Bo Tryz.prog 98 (Tryz.f98.body.getD .skip) 57 [.tmp 2, .tmp 3] := Fi Tryz.func98
instance : Bo Tryz.prog 99 (Tryz.f99.body.getD .skip) 176 [.cell 10 77, .tmp 11] := Fi Tryz.func99
instance : Bo Tryz.prog 100 (Tryz.f100.body.getD .skip) 28 [.tmp 2] := Fi Tryz.func100
instance : Bo Tryz.prog 101 (Tryz.f101.body.getD .skip) 130 [.tmp 8] := Fi Tryz.func101
instance : Bo Tryz.prog 102 (Tryz.f102.body.getD .skip) 34 [.tmp 4] := Fi Tryz.func102
instance : Bo Tryz.prog 103 (Tryz.f103.body.getD .skip) 44 [.cell 6 46] := Fi Tryz.func103
instance : Bo Tryz.prog 104 (Tryz.f104.body.getD .skip) 11 [.tmp 2] := Fi Tryz.func104
instance : Bo Tryz.prog 105 (Tryz.f105.body.getD .skip) 45 [] := Fi Tryz.func105
instance : Bo Tryz.prog 106 (Tryz.f106.body.getD .skip) 11 [] := Fi Tryz.func106
instance : Bo Tryz.prog 107 (Tryz.f107.body.getD .skip) 9 [.tmp 4] := Fi Tryz.func107
instance : Bo Tryz.prog 108 (Tryz.f108.body.getD .skip) 21 [.tmp 2] := Fi Tryz.func108
instance : Bo Tryz.prog 109 (Tryz.f109.body.getD .skip) 11 [.tmp 2] := Fi Tryz.func109
instance : Bo Tryz.prog 110 (Tryz.f110.body.getD .skip) 78 [.tmp 2] := Fi Tryz.func110
instance : Bo Tryz.prog 111 (Tryz.f111.body.getD .skip) 17 [.tmp 4] := Fi Tryz.func111
instance : Bo Tryz.prog 112 (Tryz.f112.body.getD .skip) 87 [.cell 6 46, .tmp 7] := Fi Tryz.func112
instance : Bo Tryz.prog 113 (Tryz.f113.body.getD .skip) 20 [.tmp 2, .tmp 3] := Fi Tryz.func113
instance : Bo Tryz.prog 114 (Tryz.f114.body.getD .skip) 10 [.tmp 2] := Fi Tryz.func114
instance : Bo Tryz.prog 115 (Tryz.f115.body.getD .skip) 65 [.tmp 6] := Fi Tryz.func115
instance : Bo Tryz.prog 116 (Tryz.f116.body.getD .skip) 5 [.cell 2 46] := Fi Tryz.func116
instance : Bo Tryz.prog 117 (Tryz.f117.body.getD .skip) 24 [.tmp 6] := Fi Tryz.func117
instance : Bo Tryz.prog 118 (Tryz.f118.body.getD .skip) 11 [.cell 6 46] := Fi Tryz.func118
instance : Bo Tryz.prog 119 (Tryz.f119.body.getD .skip) 59 [.cell 6 46] := Fi Tryz.func119
instance : Bo Tryz.prog 120 (Tryz.f120.body.getD .skip) 17 [.tmp 2] := Fi Tryz.func120
instance : Bo Tryz.prog 121 (Tryz.f121.body.getD .skip) 20 [.tmp 2] := Fi Tryz.func121
instance : Bo Tryz.prog 122 (Tryz.f122.body.getD .skip) 78 [.cell 4 39, .tmp 5, .tmp 6] := Fi Tryz.func122
instance : Bo Tryz.prog 123 (Tryz.f123.body.getD .skip) 28 [.tmp 2] := Fi Tryz.func123
instance : Bo Tryz.prog 124 (Tryz.f124.body.getD .skip) 20 [.cell 6 53] := Fi Tryz.func124
instance : Bo Tryz.prog 125 (Tryz.f125.body.getD .skip) 19 [.cell 4 39, .tmp 5] := Fi Tryz.func125
instance : Bo Tryz.prog 126 (Tryz.f126.body.getD .skip) 17 [.tmp 4] := Fi Tryz.func126
instance : Bo Tryz.prog 127 (Tryz.f127.body.getD .skip) 8 [.tmp 4] := Fi Tryz.func127
instance : Bo Tryz.prog 128 (Tryz.f128.body.getD .skip) 11 [.tmp 2] := Fi Tryz.func128
instance : Bo Tryz.prog 129 (Tryz.f129.body.getD .skip) 5 [.tmp 2] := Fi Tryz.func129
instance : Bo Tryz.prog 130 (Tryz.f130.body.getD .skip) 9 [.tmp 2] := Fi Tryz.func130
instance : Bo Tryz.prog 131 (Tryz.f131.body.getD .skip) 38 [.tmp 4] := Fi Tryz.func131
instance : Bo Tryz.prog 132 (Tryz.f132.body.getD .skip) 25 [.tmp 6] := Fi Tryz.func132
instance : Bo Tryz.prog 133 (Tryz.f133.body.getD .skip) 10 [.tmp 4] := Fi Tryz.func133
instance : Bo Tryz.prog 134 (Tryz.f134.body.getD .skip) 34 [.tmp 6, .tmp 7] := Fi Tryz.func134
instance : Bo Tryz.prog 135 (Tryz.f135.body.getD .skip) 117 [.tmp 4] := Fi Tryz.func135
instance : Bo Tryz.prog 136 (Tryz.f136.body.getD .skip) 47 [.tmp 2] := Fi Tryz.func136
instance : Bo Tryz.prog 137 (Tryz.f137.body.getD .skip) 20 [] := Fi Tryz.func137
instance : Bo Tryz.prog 138 (Tryz.f138.body.getD .skip) 11 [.tmp 4] := Fi Tryz.func138
instance : Bo Tryz.prog 139 (Tryz.f139.body.getD .skip) 67 [.tmp 6] := Fi Tryz.func139
instance : Bo Tryz.prog 140 (Tryz.f140.body.getD .skip) 18 [.cell 6 124] := Fi Tryz.func140
instance : Bo Tryz.prog 141 (Tryz.f141.body.getD .skip) 20 [.tmp 2] := Fi Tryz.func141
instance : Bo Tryz.prog 142 (Tryz.f142.body.getD .skip) 119 [.tmp 8] := Fi Tryz.func142
instance : Bo Tryz.prog 143 (Tryz.f143.body.getD .skip) 18 [.tmp 4] := Fi Tryz.func143
instance : Bo Tryz.prog 144 (Tryz.f144.body.getD .skip) 36 [.tmp 2] := Fi Tryz.func144
instance : Bo Tryz.prog 145 (Tryz.f145.body.getD .skip) 19 [.tmp 4] := Fi Tryz.func145
instance : Bo Tryz.prog 146 (Tryz.f146.body.getD .skip) 22 [.tmp 2] := Fi Tryz.func146
instance : Bo Tryz.prog 147 (Tryz.f147.body.getD .skip) 25 [.tmp 2] := Fi Tryz.func147
instance : Bo Tryz.prog 148 (Tryz.f148.body.getD .skip) 15 [.tmp 2] := Fi Tryz.func148
instance : Bo Tryz.prog 149 (Tryz.f149.body.getD .skip) 33 [.tmp 2] := Fi Tryz.func149
instance : Bo Tryz.prog 150 (Tryz.f150.body.getD .skip) 41 [.tmp 2] := Fi Tryz.func150
instance : Bo Tryz.prog 151 (Tryz.f151.body.getD .skip) 41 [.tmp 4] := Fi Tryz.func151
instance : Bo Tryz.prog 152 (Tryz.f152.body.getD .skip) 9 [.tmp 2] := Fi Tryz.func152
instance : Bo Tryz.prog 153 (Tryz.f153.body.getD .skip) 8 [.tmp 4] := Fi Tryz.func153
instance : Bo Tryz.prog 154 (Tryz.f154.body.getD .skip) 33 [.tmp 2] := Fi Tryz.func154
instance : Bo Tryz.prog 155 (Tryz.f155.body.getD .skip) 8 [.tmp 2] := Fi Tryz.func155
instance : Bo Tryz.prog 156 (Tryz.f156.body.getD .skip) 20 [.tmp 4] := Fi Tryz.func156
instance : Bo Tryz.prog 157 (Tryz.f157.body.getD .skip) 32 [.tmp 6] := Fi Tryz.func157
instance : Bo Tryz.prog 158 (Tryz.f158.body.getD .skip) 13 [.tmp 4] := Fi Tryz.func158
instance : Bo Tryz.prog 159 (Tryz.f159.body.getD .skip) 18 [.tmp 2, .tmp 3] := Fi Tryz.func159
instance : Bo Tryz.prog 161 (Tryz.f161.body.getD .skip) 15 [.tmp 2] := Fi Tryz.func161
instance : Bo Tryz.prog 162 (Tryz.f162.body.getD .skip) 10 [.tmp 2, .tmp 3, .tmp 4] := Fi Tryz.func162
instance : Bo Tryz.prog 163 (Tryz.f163.body.getD .skip) 10 [.tmp 2, .tmp 3, .tmp 4] := Fi Tryz.func163
instance : Bo Tryz.prog 165 (Tryz.f165.body.getD .skip) 27 [.tmp 4] := Fi Tryz.func165
instance : Bo Tryz.prog 166 (Tryz.f166.body.getD .skip) 18 [.tmp 4] := Fi Tryz.func166
instance : Bo Tryz.prog 170 (Tryz.f170.body.getD .skip) 45 [.tmp 4, .tmp 5, .tmp 6] := Fi Tryz.func170
instance : Aq Tryz.prog 1 (.func #[] #[] false) 1 8 [.nilFunc] := Ti
instance : Aq Tryz.prog 2 (.int .i64) 1 8 [.int .i64 0] := Ti
instance : Aq Tryz.prog 3 (.int .i64) 1 8 [.int .i64 0] := Ti
instance : Aq Tryz.prog 4 .bool 1 1 [.bool false] := Ti
instance : Aq Tryz.prog 5 (.int .u8) 1 1 [.int .u8 0] := Ti
instance : Aq Tryz.prog 6 (.int .u8) 1 1 [.int .u8 0] := Ti
instance : Aq Tryz.prog 7 (.struct (Am Tryz.prog 7)) 4 24 [.int .i64 0, .int .i64 0, .bool false, .int .u8 0] := Ti
instance : Aq Tryz.prog 8 (.struct (Am Tryz.prog 8)) 4 24 [.int .i64 0, .int .i64 0, .bool false, .int .u8 0] := Ti
instance : Aq Tryz.prog 9 .string 1 16 [.string (str [])] := Ti
instance : Aq Tryz.prog 10 .string 1 16 [.string (str [])] := Ti
instance : Aq Tryz.prog 11 .string 1 16 [.string (str [])] := Ti
instance : Aq Tryz.prog 12 (.int .u64) 1 8 [.int .u64 0] := Ti
instance : Aq Tryz.prog 13 (.struct (Am Tryz.prog 13)) 2 24 [.string (str []), .int .u64 0] := Ti
instance : Aq Tryz.prog 14 (.struct (Am Tryz.prog 14)) 2 24 [.string (str []), .int .u64 0] := Ti
instance : Aq Tryz.prog 15 (.pointer 203) 1 8 [.pointer none] := Ti
instance : Aq Tryz.prog 16 (.pointer 206) 1 8 [.pointer none] := Ti
instance : Aq Tryz.prog 17 (.pointer 213) 1 8 [.pointer none] := Ti
instance : Aq Tryz.prog 18 (.struct (Am Tryz.prog 18)) 1 8 [.pointer none] := Ti
instance : Aq Tryz.prog 19 (.struct (Am Tryz.prog 19)) 1 8 [.pointer none] := Ti
instance : Aq Tryz.prog 21 (.int .i32) 1 4 [.int .i32 0] := Ti
instance : Aq Tryz.prog 22 (.slice 5) 1 24 [.slice none 0 0] := Ti
instance : Aq Tryz.prog 23 (.func #[22] #[9] false) 1 8 [.nilFunc] := Ti
instance : Aq Tryz.prog 25 (.func #[9] #[9, 4] false) 1 8 [.nilFunc] := Ti
instance : Aq Tryz.prog 26 (.func #[27, 27, 9] #[9, 4] false) 1 8 [.nilFunc] := Ti
instance : Aq Tryz.prog 27 (.slice 9) 1 24 [.slice none 0 0] := Ti
instance : Aq Tryz.prog 28 (.func #[9] #[4] false) 1 8 [.nilFunc] := Ti
instance : Aq Tryz.prog 29 (.func #[22] #[4] false) 1 8 [.nilFunc] := Ti
instance : Aq Tryz.prog 31 (.func #[9, 3] #[9, 3, 4] false) 1 8 [.nilFunc] := Ti
instance : Aq Tryz.prog 32 (.func #[9, 3] #[4] false) 1 8 [.nilFunc] := Ti
instance : Aq Tryz.prog 33 (.func #[9] #[3] false) 1 8 [.nilFunc] := Ti
instance : Aq Tryz.prog 34 (.func #[35] #[9] false) 1 8 [.nilFunc] := Ti
instance : Aq Tryz.prog 35 (.pointer 88) 1 8 [.pointer none] := Ti
instance : Aq Tryz.prog 36 (.func #[22] #[35] false) 1 8 [.nilFunc] := Ti
instance : Aq Tryz.prog 37 (.slice 39) 1 24 [.slice none 0 0] := Ti
instance : Aq Tryz.prog 38 (.struct (Am Tryz.prog 38)) 2 40 [.string (str []), .slice none 0 0] := Ti
instance : Aq Tryz.prog 39 (.struct (Am Tryz.prog 39)) 2 40 [.string (str []), .slice none 0 0] := Ti
instance : Aq Tryz.prog 41 (.func #[9] #[39, 4] false) 1 8 [.nilFunc] := Ti
instance : Aq Tryz.prog 42 (.func #[] #[39, 4] false) 1 8 [.nilFunc] := Ti
instance : Aq Tryz.prog 43 (.func #[] #[9] false) 1 8 [.nilFunc] := Ti
instance : Aq Tryz.prog 44 (.slice 46) 1 24 [.slice none 0 0] := Ti
instance : Aq Tryz.prog 45 (.struct (Am Tryz.prog 45)) 2 40 [.string (str []), .slice none 0 0] := Ti
instance : Aq Tryz.prog 46 (.struct (Am Tryz.prog 46)) 2 40 [.string (str []), .slice none 0 0] := Ti
instance : Aq Tryz.prog 48 (.func #[9] #[46, 4] false) 1 8 [.nilFunc] := Ti
instance : Aq Tryz.prog 49 (.func #[46] #[4] false) 1 8 [.nilFunc] := Ti
instance : Aq Tryz.prog 50 (.func #[46] #[46, 4] false) 1 8 [.nilFunc] := Ti
instance : Aq Tryz.prog 51 (.func #[46] #[9] false) 1 8 [.nilFunc] := Ti
instance : Aq Tryz.prog 52 (.struct (Am Tryz.prog 52)) 2 48 [.slice none 0 0, .slice none 0 0] := Ti
instance : Aq Tryz.prog 53 (.struct (Am Tryz.prog 53)) 2 48 [.slice none 0 0, .slice none 0 0] := Ti
instance : Aq Tryz.prog 55 (.func #[27, 27] #[53, 4] false) 1 8 [.nilFunc] := Ti
instance : Aq Tryz.prog 57 (.func #[39] #[39, 39, 4] false) 1 8 [.nilFunc] := Ti
instance : Aq Tryz.prog 58 (.func #[] #[4] false) 1 8 [.nilFunc] := Ti
instance : Aq Tryz.prog 59 (.func #[3, 3, 3] #[4] false) 1 8 [.nilFunc] := Ti
instance : Aq Tryz.prog 60 (.func #[9] #[9] false) 1 8 [.nilFunc] := Ti
instance : Aq Tryz.prog 61 (.pointer 63) 1 8 [.pointer none] := Ti
instance : Aq Tryz.prog 62 (.struct (Am Tryz.prog 62)) 2 16 [.int .i64 0, .bool false] := Ti
instance : Aq Tryz.prog 63 (.struct (Am Tryz.prog 63)) 2 16 [.int .i64 0, .bool false] := Ti
instance : Aq Tryz.prog 64 (.pointer 107) 1 8 [.pointer none] := Ti
instance : Aq Tryz.prog 65 (.func #[39, 102] #[64] false) 1 8 [.nilFunc] := Ti
instance : Aq Tryz.prog 66 (.func #[] #[39] false) 1 8 [.nilFunc] := Ti
instance : Aq Tryz.prog 67 (.pointer 69) 1 8 [.pointer none] := Ti
instance : Aq Tryz.prog 68 (.struct (Am Tryz.prog 68)) 2 32 [.pointer none, .slice none 0 0] := Ti
instance : Aq Tryz.prog 69 (.struct (Am Tryz.prog 69)) 2 32 [.pointer none, .slice none 0 0] := Ti
instance : Aq Tryz.prog 70 (.func #[67] #[] false) 1 8 [.nilFunc] := Ti
instance : Aq Tryz.prog 71 (.func #[] #[3] false) 1 8 [.nilFunc] := Ti
instance : Aq Tryz.prog 72 (.pointer 74) 1 8 [.pointer none] := Ti
instance : Aq Tryz.prog 73 (.struct (Am Tryz.prog 73)) 2 16 [.int .i64 0, .bool false] := Ti
instance : Aq Tryz.prog 74 (.struct (Am Tryz.prog 74)) 2 16 [.int .i64 0, .bool false] := Ti
instance : Aq Tryz.prog 75 (.slice 77) 1 24 [.slice none 0 0] := Ti
instance : Aq Tryz.prog 76 (.struct (Am Tryz.prog 76)) 7 136 [.string (str []), .int .i64 0, .slice none 0 0, .string (str []), .slice none 0 0, .slice none 0 0, .slice none 0 0] := Ti
instance : Aq Tryz.prog 77 (.struct (Am Tryz.prog 77)) 7 136 [.string (str []), .int .i64 0, .slice none 0 0, .string (str []), .slice none 0 0, .slice none 0 0, .slice none 0 0] := Ti
instance : Aq Tryz.prog 79 (.func #[72, 46, 27, 75] #[77, 4] false) 1 8 [.nilFunc] := Ti
instance : Aq Tryz.prog 80 (.func #[77, 3] #[3] false) 1 8 [.nilFunc] := Ti
instance : Aq Tryz.prog 81 (.func #[77] #[9] false) 1 8 [.nilFunc] := Ti
instance : Aq Tryz.prog 82 (.func #[3] #[3] false) 1 8 [.nilFunc] := Ti
instance : Aq Tryz.prog 84 (.func #[9] #[27, 4] false) 1 8 [.nilFunc] := Ti
instance : Aq Tryz.prog 85 (.func #[9, 9, 9] #[9, 4] false) 1 8 [.nilFunc] := Ti
instance : Aq Tryz.prog 86 (.func #[27] #[9] false) 1 8 [.nilFunc] := Ti
instance : Aq Tryz.prog 87 (.struct (Am Tryz.prog 87)) 2 32 [.slice none 0 0, .int .i64 0] := Ti
instance : Aq Tryz.prog 88 (.struct (Am Tryz.prog 88)) 2 32 [.slice none 0 0, .int .i64 0] := Ti
instance : Aq Tryz.prog 89 (.func #[] #[27] false) 1 8 [.nilFunc] := Ti
instance : Aq Tryz.prog 90 (.func #[46] #[3] false) 1 8 [.nilFunc] := Ti
instance : Aq Tryz.prog 91 (.slice 3) 1 24 [.slice none 0 0] := Ti
instance : Aq Tryz.prog 92 (.func #[9] #[91] false) 1 8 [.nilFunc] := Ti
instance : Aq Tryz.prog 93 (.func #[39] #[39] false) 1 8 [.nilFunc] := Ti
instance : Aq Tryz.prog 94 (.func #[] #[91] false) 1 8 [.nilFunc] := Ti
instance : Aq Tryz.prog 95 (.func #[39, 3, 37] #[53] false) 1 8 [.nilFunc] := Ti
instance : Aq Tryz.prog 96 (.func #[39, 37] #[39, 4] false) 1 8 [.nilFunc] := Ti
instance : Aq Tryz.prog 97 (.func #[37] #[37] false) 1 8 [.nilFunc] := Ti
instance : Aq Tryz.prog 98 (.func #[9] #[39] false) 1 8 [.nilFunc] := Ti
instance : Aq Tryz.prog 99 (.func #[9, 9, 9] #[9] false) 1 8 [.nilFunc] := Ti
instance : Aq Tryz.prog 100 (.func #[9, 39] #[39] false) 1 8 [.nilFunc] := Ti
instance : Aq Tryz.prog 101 (.func #[46, 27, 27] #[9] false) 1 8 [.nilFunc] := Ti
instance : Aq Tryz.prog 102 (.pointer 150) 1 8 [.pointer none] := Ti
instance : Aq Tryz.prog 103 (.func #[9] #[64] false) 1 8 [.nilFunc] := Ti
instance : Aq Tryz.prog 104 (.slice 64) 1 24 [.slice none 0 0] := Ti
instance : Aq Tryz.prog 105 (.pointer 39) 1 8 [.pointer none] := Ti
instance : Aq Tryz.prog 106 (.struct (Am Tryz.prog 106)) 4 56 [.string (str []), .slice none 0 0, .pointer none, .pointer none] := Ti
instance : Aq Tryz.prog 107 (.struct (Am Tryz.prog 107)) 4 56 [.string (str []), .slice none 0 0, .pointer none, .pointer none] := Ti
instance : Aq Tryz.prog 108 (.func #[] #[64] false) 1 8 [.nilFunc] := Ti
instance : Aq Tryz.prog 109 (.func #[9, 64] #[102] false) 1 8 [.nilFunc] := Ti
instance : Aq Tryz.prog 110 (.func #[9, 104] #[64] false) 1 8 [.nilFunc] := Ti
instance : Aq Tryz.prog 111 (.func #[35, 3] #[9] false) 1 8 [.nilFunc] := Ti
instance : Aq Tryz.prog 112 (.func #[9, 37] #[39] true) 1 8 [.nilFunc] := Ti
instance : Aq Tryz.prog 116 (.func #[9] #[3, 114] false) 1 8 [.nilFunc] := Ti
instance : Aq Tryz.prog 117 (.pointer 5) 1 8 [.pointer none] := Ti
instance : Aq Tryz.prog 119 (.func #[9] #[3, 4] false) 1 8 [.nilFunc] := Ti
instance : Aq Tryz.prog 120 (.func #[72, 46, 75, 27, 75] #[77, 4] false) 1 8 [.nilFunc] := Ti
instance : Aq Tryz.prog 121 (.func #[3] #[9] false) 1 8 [.nilFunc] := Ti
instance : Aq Tryz.prog 122 (.func #[35, 124, 9, 3] #[9] false) 1 8 [.nilFunc] := Ti
instance : Aq Tryz.prog 123 (.struct (Am Tryz.prog 123)) 2 48 [.slice none 0 0, .slice none 0 0] := Ti
instance : Aq Tryz.prog 124 (.struct (Am Tryz.prog 124)) 2 48 [.slice none 0 0, .slice none 0 0] := Ti
instance : Aq Tryz.prog 125 (.func #[46, 27] #[27] false) 1 8 [.nilFunc] := Ti
instance : Aq Tryz.prog 126 (.func #[46, 9, 46] #[46] false) 1 8 [.nilFunc] := Ti
instance : Aq Tryz.prog 127 (.func #[27, 129] #[] false) 1 8 [.nilFunc] := Ti
instance : Aq Tryz.prog 128 (.func #[27, 9] #[4] false) 1 8 [.nilFunc] := Ti
instance : Aq Tryz.prog 129 (.func #[9] #[] false) 1 8 [.nilFunc] := Ti
instance : Aq Tryz.prog 130 (.func #[5] #[114] false) 1 8 [.nilFunc] := Ti
instance : Aq Tryz.prog 132 (.func #[9, 3, 3] #[46, 3] false) 1 8 [.nilFunc] := Ti
instance : Aq Tryz.prog 134 (.func #[9] #[3, 3] false) 1 8 [.nilFunc] := Ti
instance : Aq Tryz.prog 135 (.func #[46, 27, 27] #[27] false) 1 8 [.nilFunc] := Ti
instance : Aq Tryz.prog 136 (.func #[9] #[46] false) 1 8 [.nilFunc] := Ti
instance : Aq Tryz.prog 137 (.func #[9, 3, 3] #[3] false) 1 8 [.nilFunc] := Ti
instance : Aq Tryz.prog 138 (.func #[3, 46, 46] #[46] false) 1 8 [.nilFunc] := Ti
instance : Aq Tryz.prog 140 (.func #[9, 3] #[39, 9, 4] false) 1 8 [.nilFunc] := Ti
instance : Aq Tryz.prog 141 (.func #[9, 39] #[53] false) 1 8 [.nilFunc] := Ti
instance : Aq Tryz.prog 142 (.func #[39] #[4] false) 1 8 [.nilFunc] := Ti
instance : Aq Tryz.prog 143 (.func #[9, 9] #[9] false) 1 8 [.nilFunc] := Ti
instance : Aq Tryz.prog 144 (.func #[3] #[27] false) 1 8 [.nilFunc] := Ti
instance : Aq Tryz.prog 145 (.func #[27, 27, 9] #[9] false) 1 8 [.nilFunc] := Ti
instance : Aq Tryz.prog 146 (.func #[27, 27] #[27] true) 1 8 [.nilFunc] := Ti
instance : Aq Tryz.prog 147 (.func #[4, 9, 9] #[9, 4] false) 1 8 [.nilFunc] := Ti
instance : Aq Tryz.prog 148 (.func #[9, 27] #[9] false) 1 8 [.nilFunc] := Ti
instance : Aq Tryz.prog 149 (.struct (Am Tryz.prog 149)) 3 32 [.string (str []), .pointer none, .pointer none] := Ti
instance : Aq Tryz.prog 150 (.struct (Am Tryz.prog 150)) 3 32 [.string (str []), .pointer none, .pointer none] := Ti
instance : Aq Tryz.prog 151 (.func #[75, 77] #[75] false) 1 8 [.nilFunc] := Ti
instance : Aq Tryz.prog 152 (.func #[35, 124, 9] #[9] false) 1 8 [.nilFunc] := Ti
instance : Aq Tryz.prog 153 (.func #[124, 9, 9] #[124] false) 1 8 [.nilFunc] := Ti
instance : Aq Tryz.prog 154 (.func #[166] #[27] true) 1 8 [.nilFunc] := Ti
instance : Aq Tryz.prog 155 (.func #[27, 9] #[3] false) 1 8 [.nilFunc] := Ti
instance : Aq Tryz.prog 156 (.func #[5] #[4] false) 1 8 [.nilFunc] := Ti
instance : Aq Tryz.prog 157 (.func #[46, 3] #[27] false) 1 8 [.nilFunc] := Ti
instance : Aq Tryz.prog 158 (.func #[9, 9] #[4] false) 1 8 [.nilFunc] := Ti
instance : Aq Tryz.prog 159 (.func #[27] #[27] false) 1 8 [.nilFunc] := Ti
instance : Aq Tryz.prog 160 (.func #[37, 37, 161] #[4] false) 1 8 [.nilFunc] := Ti
instance : Aq Tryz.prog 161 (.func #[39, 39] #[4] false) 1 8 [.nilFunc] := Ti
instance : Aq Tryz.prog 163 (.func #[9] #[9, 9, 4] false) 1 8 [.nilFunc] := Ti
instance : Aq Tryz.prog 164 .unsafePointer 1 8 [.pointer none] := Ti
instance : Aq Tryz.prog 165 (.func #[164] #[164] false) 1 8 [.nilFunc] := Ti
instance : Aq Tryz.prog 166 (.slice 27) 1 24 [.slice none 0 0] := Ti
instance : Aq Tryz.prog 167 (.func #[27, 3] #[27] false) 1 8 [.nilFunc] := Ti
instance : Aq Tryz.prog 168 (.func #[9, 9, 3, 3, 114] #[114] false) 1 8 [.nilFunc] := Ti
instance : Aq Tryz.prog 169 (.func #[2, 3] #[9] false) 1 8 [.nilFunc] := Ti
instance : Aq Tryz.prog 170 (.func #[9, 9] #[9, 9, 4] false) 1 8 [.nilFunc] := Ti
instance : Aq Tryz.prog 171 (.int .i64) 1 8 [.int .i64 0] := Ti
instance : Aq Tryz.prog 173 (.func #[9, 3, 3] #[2, 114] false) 1 8 [.nilFunc] := Ti
instance : Aq Tryz.prog 174 (.pointer 187) 1 8 [.pointer none] := Ti
instance : Aq Tryz.prog 175 (.func #[9, 9] #[174] false) 1 8 [.nilFunc] := Ti
instance : Aq Tryz.prog 176 (.func #[9, 9, 3] #[174] false) 1 8 [.nilFunc] := Ti
instance : Aq Tryz.prog 177 (.array 24 5) 24 24 [.int .u8 0, .int .u8 0, .int .u8 0, .int .u8 0, .int .u8 0, .int .u8 0, .int .u8 0, .int .u8 0, .int .u8 0, .int .u8 0, .int .u8 0, .int .u8 0, .int .u8 0, .int .u8 0, .int .u8 0, .int .u8 0, .int .u8 0, .int .u8 0, .int .u8 0, .int .u8 0, .int .u8 0, .int .u8 0, .int .u8 0, .int .u8 0] := Ti
instance : Aq Tryz.prog 178 (.int .u64) 1 8 [.int .u64 0] := Ti
instance : Aq Tryz.prog 179 (.func #[178] #[3] false) 1 8 [.nilFunc] := Ti
instance : Aq Tryz.prog 180 (.func #[22, 178] #[] false) 1 8 [.nilFunc] := Ti
instance : Aq Tryz.prog 182 (.func #[22, 178, 3, 4, 4] #[22, 9] false) 1 8 [.nilFunc] := Ti
instance : Aq Tryz.prog 184 (.func #[9, 3, 3] #[178, 114] false) 1 8 [.nilFunc] := Ti
instance : Aq Tryz.prog 185 (.int .u64) 1 8 [.int .u64 0] := Ti
instance : Aq Tryz.prog 186 (.struct (Am Tryz.prog 186)) 3 48 [.string (str []), .string (str []), .nilIface] := Ti
instance : Aq Tryz.prog 187 (.struct (Am Tryz.prog 187)) 3 48 [.string (str []), .string (str []), .nilIface] := Ti
instance : Aq Tryz.prog 188 (.func #[9] #[114] false) 1 8 [.nilFunc] := Ti
instance : Aq Tryz.prog 189 (.func #[4] #[3] false) 1 8 [.nilFunc] := Ti
instance : Aq Tryz.prog 190 (.array 20 178) 20 160 [.int .u64 0, .int .u64 0, .int .u64 0, .int .u64 0, .int .u64 0, .int .u64 0, .int .u64 0, .int .u64 0, .int .u64 0, .int .u64 0, .int .u64 0, .int .u64 0, .int .u64 0, .int .u64 0, .int .u64 0, .int .u64 0, .int .u64 0, .int .u64 0, .int .u64 0, .int .u64 0] := Ti
instance : Aq Tryz.prog 191 (.int .u32) 1 4 [.int .u32 0] := Ti
instance : Aq Tryz.prog 193 (.func #[3] #[4] false) 1 8 [.nilFunc] := Ti
instance : Aq Tryz.prog 194 (.func #[185] #[3] false) 1 8 [.nilFunc] := Ti
instance : Aq Tryz.prog 195 (.func #[5] #[5] false) 1 8 [.nilFunc] := Ti
instance : Aq Tryz.prog 196 (.pointer 198) 1 8 [.pointer none] := Ti
instance : Aq Tryz.prog 197 (.struct (Am Tryz.prog 197)) 1 16 [.string (str [])] := Ti
instance : Aq Tryz.prog 198 (.struct (Am Tryz.prog 198)) 1 16 [.string (str [])] := Ti
instance : Aq Tryz.prog 199 (.func #[191] #[3] false) 1 8 [.nilFunc] := Ti
instance : Aq Tryz.prog 200 (.array 32 5) 32 32 [.int .u8 0, .int .u8 0, .int .u8 0, .int .u8 0, .int .u8 0, .int .u8 0, .int .u8 0, .int .u8 0, .int .u8 0, .int .u8 0, .int .u8 0, .int .u8 0, .int .u8 0, .int .u8 0, .int .u8 0, .int .u8 0, .int .u8 0, .int .u8 0, .int .u8 0, .int .u8 0, .int .u8 0, .int .u8 0, .int .u8 0, .int .u8 0, .int .u8 0, .int .u8 0, .int .u8 0, .int .u8 0, .int .u8 0, .int .u8 0, .int .u8 0, .int .u8 0] := Ti
instance : Aq Tryz.prog 201 (.array 64 5) 64 64 [.int .u8 0, .int .u8 0, .int .u8 0, .int .u8 0, .int .u8 0, .int .u8 0, .int .u8 0, .int .u8 0, .int .u8 0, .int .u8 0, .int .u8 0, .int .u8 0, .int .u8 0, .int .u8 0, .int .u8 0, .int .u8 0, .int .u8 0, .int .u8 0, .int .u8 0, .int .u8 0, .int .u8 0, .int .u8 0, .int .u8 0, .int .u8 0, .int .u8 0, .int .u8 0, .int .u8 0, .int .u8 0, .int .u8 0, .int .u8 0, .int .u8 0, .int .u8 0, .int .u8 0, .int .u8 0, .int .u8 0, .int .u8 0, .int .u8 0, .int .u8 0, .int .u8 0, .int .u8 0, .int .u8 0, .int .u8 0, .int .u8 0, .int .u8 0, .int .u8 0, .int .u8 0, .int .u8 0, .int .u8 0, .int .u8 0, .int .u8 0, .int .u8 0, .int .u8 0, .int .u8 0, .int .u8 0, .int .u8 0, .int .u8 0, .int .u8 0, .int .u8 0, .int .u8 0, .int .u8 0, .int .u8 0, .int .u8 0, .int .u8 0, .int .u8 0] := Ti
instance : Aq Tryz.prog 202 (.struct (Am Tryz.prog 202)) 4 40 [.pointer none, .pointer none, .pointer none, .string (str [])] := Ti
instance : Aq Tryz.prog 203 (.struct (Am Tryz.prog 203)) 4 40 [.pointer none, .pointer none, .pointer none, .string (str [])] := Ti
instance : Aq Tryz.prog 204 (.array 0 16) 0 0 [] := Ti
instance : Aq Tryz.prog 205 (.struct (Am Tryz.prog 205)) 0 0 [] := Ti
instance : Aq Tryz.prog 206 (.struct (Am Tryz.prog 206)) 0 0 [] := Ti
instance : Aq Tryz.prog 207 (.int .u8) 1 1 [.int .u8 0] := Ti
instance : Aq Tryz.prog 208 (.int .u8) 1 1 [.int .u8 0] := Ti
instance : Aq Tryz.prog 209 (.func #[164, 164] #[4] false) 1 8 [.nilFunc] := Ti
instance : Aq Tryz.prog 210 (.int .i32) 1 4 [.int .i32 0] := Ti
instance : Aq Tryz.prog 211 (.int .i32) 1 4 [.int .i32 0] := Ti
instance : Aq Tryz.prog 212 (.struct (Am Tryz.prog 212)) 11 48 [.int .u64 0, .int .u64 0, .int .u32 0, .int .u8 0, .int .u8 0, .int .u8 0, .int .u8 0, .nilFunc, .pointer none, .int .i32 0, .int .i32 0] := Ti
instance : Aq Tryz.prog 213 (.struct (Am Tryz.prog 213)) 11 48 [.int .u64 0, .int .u64 0, .int .u32 0, .int .u8 0, .int .u8 0, .int .u8 0, .int .u8 0, .nilFunc, .pointer none, .int .i32 0, .int .i32 0] := Ti
instance : B6 Tryz.prog 7 [(0, 1), (1, 1), (2, 1), (3, 1)] := ⟨Am Tryz.prog 7, by kernel_rfl, fun _ => by kernel_rfl⟩
instance : Au Tryz.prog 7 0 0 := Di rfl rfl (by decide) (by kernel_rfl)
instance : Au Tryz.prog 7 1 1 := Di rfl rfl (by decide) (by kernel_rfl)
instance : Au Tryz.prog 7 2 2 := Di rfl rfl (by decide) (by kernel_rfl)
instance : Au Tryz.prog 7 3 3 := Di rfl rfl (by decide) (by kernel_rfl)
instance : B6 Tryz.prog 8 [(0, 1), (1, 1), (2, 1), (3, 1)] := ⟨Am Tryz.prog 8, by kernel_rfl, fun _ => by kernel_rfl⟩
instance : Au Tryz.prog 8 0 0 := Di rfl rfl (by decide) (by kernel_rfl)
instance : Au Tryz.prog 8 1 1 := Di rfl rfl (by decide) (by kernel_rfl)
instance : Au Tryz.prog 8 2 2 := Di rfl rfl (by decide) (by kernel_rfl)
instance : Au Tryz.prog 8 3 3 := Di rfl rfl (by decide) (by kernel_rfl)
instance : B6 Tryz.prog 13 [(0, 1), (1, 1)] := ⟨Am Tryz.prog 13, by kernel_rfl, fun _ => by kernel_rfl⟩
instance : Au Tryz.prog 13 0 0 := Di rfl rfl (by decide) (by kernel_rfl)
instance : Au Tryz.prog 13 1 1 := Di rfl rfl (by decide) (by kernel_rfl)
instance : B6 Tryz.prog 14 [(0, 1), (1, 1)] := ⟨Am Tryz.prog 14, by kernel_rfl, fun _ => by kernel_rfl⟩
instance : Au Tryz.prog 14 0 0 := Di rfl rfl (by decide) (by kernel_rfl)
instance : Au Tryz.prog 14 1 1 := Di rfl rfl (by decide) (by kernel_rfl)
instance : B6 Tryz.prog 18 [(0, 1)] := ⟨Am Tryz.prog 18, by kernel_rfl, fun _ => by kernel_rfl⟩
instance : Au Tryz.prog 18 0 0 := Di rfl rfl (by decide) (by kernel_rfl)
instance : B6 Tryz.prog 19 [(0, 1)] := ⟨Am Tryz.prog 19, by kernel_rfl, fun _ => by kernel_rfl⟩
instance : Au Tryz.prog 19 0 0 := Di rfl rfl (by decide) (by kernel_rfl)
instance : B6 Tryz.prog 38 [(0, 1), (1, 1)] := ⟨Am Tryz.prog 38, by kernel_rfl, fun _ => by kernel_rfl⟩
instance : Au Tryz.prog 38 0 0 := Di rfl rfl (by decide) (by kernel_rfl)
instance : Au Tryz.prog 38 1 1 := Di rfl rfl (by decide) (by kernel_rfl)
instance : B6 Tryz.prog 39 [(0, 1), (1, 1)] := ⟨Am Tryz.prog 39, by kernel_rfl, fun _ => by kernel_rfl⟩
instance : Au Tryz.prog 39 0 0 := Di rfl rfl (by decide) (by kernel_rfl)
instance : Au Tryz.prog 39 1 1 := Di rfl rfl (by decide) (by kernel_rfl)
instance : B6 Tryz.prog 45 [(0, 1), (1, 1)] := ⟨Am Tryz.prog 45, by kernel_rfl, fun _ => by kernel_rfl⟩
instance : Au Tryz.prog 45 0 0 := Di rfl rfl (by decide) (by kernel_rfl)
instance : Au Tryz.prog 45 1 1 := Di rfl rfl (by decide) (by kernel_rfl)
instance : B6 Tryz.prog 46 [(0, 1), (1, 1)] := ⟨Am Tryz.prog 46, by kernel_rfl, fun _ => by kernel_rfl⟩
instance : Au Tryz.prog 46 0 0 := Di rfl rfl (by decide) (by kernel_rfl)
instance : Au Tryz.prog 46 1 1 := Di rfl rfl (by decide) (by kernel_rfl)
instance : B6 Tryz.prog 52 [(0, 1), (1, 1)] := ⟨Am Tryz.prog 52, by kernel_rfl, fun _ => by kernel_rfl⟩
instance : Au Tryz.prog 52 0 0 := Di rfl rfl (by decide) (by kernel_rfl)
instance : Au Tryz.prog 52 1 1 := Di rfl rfl (by decide) (by kernel_rfl)
instance : B6 Tryz.prog 53 [(0, 1), (1, 1)] := ⟨Am Tryz.prog 53, by kernel_rfl, fun _ => by kernel_rfl⟩
instance : Au Tryz.prog 53 0 0 := Di rfl rfl (by decide) (by kernel_rfl)
instance : Au Tryz.prog 53 1 1 := Di rfl rfl (by decide) (by kernel_rfl)
instance : B6 Tryz.prog 62 [(0, 1), (1, 1)] := ⟨Am Tryz.prog 62, by kernel_rfl, fun _ => by kernel_rfl⟩
instance : Au Tryz.prog 62 0 0 := Di rfl rfl (by decide) (by kernel_rfl)
instance : Au Tryz.prog 62 1 1 := Di rfl rfl (by decide) (by kernel_rfl)
instance : B6 Tryz.prog 63 [(0, 1), (1, 1)] := ⟨Am Tryz.prog 63, by kernel_rfl, fun _ => by kernel_rfl⟩
instance : Au Tryz.prog 63 0 0 := Di rfl rfl (by decide) (by kernel_rfl)
instance : Au Tryz.prog 63 1 1 := Di rfl rfl (by decide) (by kernel_rfl)
instance : B6 Tryz.prog 68 [(0, 1), (1, 1)] := ⟨Am Tryz.prog 68, by kernel_rfl, fun _ => by kernel_rfl⟩
instance : Au Tryz.prog 68 0 0 := Di rfl rfl (by decide) (by kernel_rfl)
instance : Au Tryz.prog 68 1 1 := Di rfl rfl (by decide) (by kernel_rfl)
instance : B6 Tryz.prog 69 [(0, 1), (1, 1)] := ⟨Am Tryz.prog 69, by kernel_rfl, fun _ => by kernel_rfl⟩
instance : Au Tryz.prog 69 0 0 := Di rfl rfl (by decide) (by kernel_rfl)
instance : Au Tryz.prog 69 1 1 := Di rfl rfl (by decide) (by kernel_rfl)
instance : B6 Tryz.prog 73 [(0, 1), (1, 1)] := ⟨Am Tryz.prog 73, by kernel_rfl, fun _ => by kernel_rfl⟩
instance : Au Tryz.prog 73 0 0 := Di rfl rfl (by decide) (by kernel_rfl)
instance : Au Tryz.prog 73 1 1 := Di rfl rfl (by decide) (by kernel_rfl)
instance : B6 Tryz.prog 74 [(0, 1), (1, 1)] := ⟨Am Tryz.prog 74, by kernel_rfl, fun _ => by kernel_rfl⟩
instance : Au Tryz.prog 74 0 0 := Di rfl rfl (by decide) (by kernel_rfl)
instance : Au Tryz.prog 74 1 1 := Di rfl rfl (by decide) (by kernel_rfl)
instance : B6 Tryz.prog 76 [(0, 1), (1, 1), (2, 1), (3, 2), (5, 1), (6, 1)] := ⟨Am Tryz.prog 76, by kernel_rfl, fun _ => by kernel_rfl⟩
instance : Au Tryz.prog 76 0 0 := Di rfl rfl (by decide) (by kernel_rfl)
instance : Au Tryz.prog 76 1 1 := Di rfl rfl (by decide) (by kernel_rfl)
instance : Au Tryz.prog 76 2 2 := Di rfl rfl (by decide) (by kernel_rfl)
instance : Au Tryz.prog 76 3 3 := Di rfl rfl (by decide) (by kernel_rfl)
instance : Au Tryz.prog 76 4 5 := Di rfl rfl (by decide) (by kernel_rfl)
instance : Au Tryz.prog 76 5 6 := Di rfl rfl (by decide) (by kernel_rfl)
instance : B6 Tryz.prog 77 [(0, 1), (1, 1), (2, 1), (3, 2), (5, 1), (6, 1)] := ⟨Am Tryz.prog 77, by kernel_rfl, fun _ => by kernel_rfl⟩
instance : Au Tryz.prog 77 0 0 := Di rfl rfl (by decide) (by kernel_rfl)
instance : Au Tryz.prog 77 1 1 := Di rfl rfl (by decide) (by kernel_rfl)
instance : Au Tryz.prog 77 2 2 := Di rfl rfl (by decide) (by kernel_rfl)
instance : Au Tryz.prog 77 3 3 := Di rfl rfl (by decide) (by kernel_rfl)
instance : Au Tryz.prog 77 4 5 := Di rfl rfl (by decide) (by kernel_rfl)
instance : Au Tryz.prog 77 5 6 := Di rfl rfl (by decide) (by kernel_rfl)
instance : B6 Tryz.prog 87 [(0, 1), (1, 1)] := ⟨Am Tryz.prog 87, by kernel_rfl, fun _ => by kernel_rfl⟩
instance : Au Tryz.prog 87 0 0 := Di rfl rfl (by decide) (by kernel_rfl)
instance : Au Tryz.prog 87 1 1 := Di rfl rfl (by decide) (by kernel_rfl)
instance : B6 Tryz.prog 88 [(0, 1), (1, 1)] := ⟨Am Tryz.prog 88, by kernel_rfl, fun _ => by kernel_rfl⟩
instance : Au Tryz.prog 88 0 0 := Di rfl rfl (by decide) (by kernel_rfl)
instance : Au Tryz.prog 88 1 1 := Di rfl rfl (by decide) (by kernel_rfl)
instance : B6 Tryz.prog 106 [(0, 1), (1, 1), (2, 1), (3, 1)] := ⟨Am Tryz.prog 106, by kernel_rfl, fun _ => by kernel_rfl⟩
instance : Au Tryz.prog 106 0 0 := Di rfl rfl (by decide) (by kernel_rfl)
instance : Au Tryz.prog 106 1 1 := Di rfl rfl (by decide) (by kernel_rfl)
instance : Au Tryz.prog 106 2 2 := Di rfl rfl (by decide) (by kernel_rfl)
instance : Au Tryz.prog 106 3 3 := Di rfl rfl (by decide) (by kernel_rfl)
instance : B6 Tryz.prog 107 [(0, 1), (1, 1), (2, 1), (3, 1)] := ⟨Am Tryz.prog 107, by kernel_rfl, fun _ => by kernel_rfl⟩
instance : Au Tryz.prog 107 0 0 := Di rfl rfl (by decide) (by kernel_rfl)
instance : Au Tryz.prog 107 1 1 := Di rfl rfl (by decide) (by kernel_rfl)
instance : Au Tryz.prog 107 2 2 := Di rfl rfl (by decide) (by kernel_rfl)
instance : Au Tryz.prog 107 3 3 := Di rfl rfl (by decide) (by kernel_rfl)
instance : B6 Tryz.prog 123 [(0, 1), (1, 1)] := ⟨Am Tryz.prog 123, by kernel_rfl, fun _ => by kernel_rfl⟩
instance : Au Tryz.prog 123 0 0 := Di rfl rfl (by decide) (by kernel_rfl)
instance : Au Tryz.prog 123 1 1 := Di rfl rfl (by decide) (by kernel_rfl)
instance : B6 Tryz.prog 124 [(0, 1), (1, 1)] := ⟨Am Tryz.prog 124, by kernel_rfl, fun _ => by kernel_rfl⟩
instance : Au Tryz.prog 124 0 0 := Di rfl rfl (by decide) (by kernel_rfl)
instance : Au Tryz.prog 124 1 1 := Di rfl rfl (by decide) (by kernel_rfl)
instance : B6 Tryz.prog 149 [(0, 1), (1, 1), (2, 1)] := ⟨Am Tryz.prog 149, by kernel_rfl, fun _ => by kernel_rfl⟩
instance : Au Tryz.prog 149 0 0 := Di rfl rfl (by decide) (by kernel_rfl)
instance : Au Tryz.prog 149 1 1 := Di rfl rfl (by decide) (by kernel_rfl)
instance : Au Tryz.prog 149 2 2 := Di rfl rfl (by decide) (by kernel_rfl)
instance : B6 Tryz.prog 150 [(0, 1), (1, 1), (2, 1)] := ⟨Am Tryz.prog 150, by kernel_rfl, fun _ => by kernel_rfl⟩
instance : Au Tryz.prog 150 0 0 := Di rfl rfl (by decide) (by kernel_rfl)
instance : Au Tryz.prog 150 1 1 := Di rfl rfl (by decide) (by kernel_rfl)
instance : Au Tryz.prog 150 2 2 := Di rfl rfl (by decide) (by kernel_rfl)
instance : B6 Tryz.prog 186 [(0, 1), (1, 1), (2, 1)] := ⟨Am Tryz.prog 186, by kernel_rfl, fun _ => by kernel_rfl⟩
instance : Au Tryz.prog 186 0 0 := Di rfl rfl (by decide) (by kernel_rfl)
instance : Au Tryz.prog 186 1 1 := Di rfl rfl (by decide) (by kernel_rfl)
instance : Au Tryz.prog 186 2 2 := Di rfl rfl (by decide) (by kernel_rfl)
instance : B6 Tryz.prog 187 [(0, 1), (1, 1), (2, 1)] := ⟨Am Tryz.prog 187, by kernel_rfl, fun _ => by kernel_rfl⟩
instance : Au Tryz.prog 187 0 0 := Di rfl rfl (by decide) (by kernel_rfl)
instance : Au Tryz.prog 187 1 1 := Di rfl rfl (by decide) (by kernel_rfl)
instance : Au Tryz.prog 187 2 2 := Di rfl rfl (by decide) (by kernel_rfl)
instance : B6 Tryz.prog 197 [(0, 1)] := ⟨Am Tryz.prog 197, by kernel_rfl, fun _ => by kernel_rfl⟩
instance : Au Tryz.prog 197 0 0 := Di rfl rfl (by decide) (by kernel_rfl)
instance : B6 Tryz.prog 198 [(0, 1)] := ⟨Am Tryz.prog 198, by kernel_rfl, fun _ => by kernel_rfl⟩
instance : Au Tryz.prog 198 0 0 := Di rfl rfl (by decide) (by kernel_rfl)
instance : B6 Tryz.prog 202 [(0, 1), (1, 1), (2, 1), (3, 1)] := ⟨Am Tryz.prog 202, by kernel_rfl, fun _ => by kernel_rfl⟩
instance : Au Tryz.prog 202 0 0 := Di rfl rfl (by decide) (by kernel_rfl)
instance : Au Tryz.prog 202 1 1 := Di rfl rfl (by decide) (by kernel_rfl)
instance : Au Tryz.prog 202 2 2 := Di rfl rfl (by decide) (by kernel_rfl)
instance : Au Tryz.prog 202 3 3 := Di rfl rfl (by decide) (by kernel_rfl)
instance : B6 Tryz.prog 203 [(0, 1), (1, 1), (2, 1), (3, 1)] := ⟨Am Tryz.prog 203, by kernel_rfl, fun _ => by kernel_rfl⟩
instance : Au Tryz.prog 203 0 0 := Di rfl rfl (by decide) (by kernel_rfl)
instance : Au Tryz.prog 203 1 1 := Di rfl rfl (by decide) (by kernel_rfl)
instance : Au Tryz.prog 203 2 2 := Di rfl rfl (by decide) (by kernel_rfl)
instance : Au Tryz.prog 203 3 3 := Di rfl rfl (by decide) (by kernel_rfl)
instance : B6 Tryz.prog 205 [(0, 0)] := ⟨Am Tryz.prog 205, by kernel_rfl, fun _ => by kernel_rfl⟩
instance : B6 Tryz.prog 206 [(0, 0)] := ⟨Am Tryz.prog 206, by kernel_rfl, fun _ => by kernel_rfl⟩
instance : B6 Tryz.prog 212 [(0, 1), (1, 1), (2, 1), (3, 1), (4, 1), (5, 1), (6, 1), (7, 1), (8, 1), (9, 1), (10, 1)] := ⟨Am Tryz.prog 212, by kernel_rfl, fun _ => by kernel_rfl⟩
instance : Au Tryz.prog 212 0 0 := Di rfl rfl (by decide) (by kernel_rfl)
instance : Au Tryz.prog 212 1 1 := Di rfl rfl (by decide) (by kernel_rfl)
instance : Au Tryz.prog 212 2 2 := Di rfl rfl (by decide) (by kernel_rfl)
instance : Au Tryz.prog 212 3 3 := Di rfl rfl (by decide) (by kernel_rfl)
instance : Au Tryz.prog 212 4 4 := Di rfl rfl (by decide) (by kernel_rfl)
instance : Au Tryz.prog 212 5 5 := Di rfl rfl (by decide) (by kernel_rfl)
instance : Au Tryz.prog 212 6 6 := Di rfl rfl (by decide) (by kernel_rfl)
instance : Au Tryz.prog 212 7 7 := Di rfl rfl (by decide) (by kernel_rfl)
instance : Au Tryz.prog 212 8 8 := Di rfl rfl (by decide) (by kernel_rfl)
instance : Au Tryz.prog 212 9 9 := Di rfl rfl (by decide) (by kernel_rfl)
instance : Au Tryz.prog 212 10 10 := Di rfl rfl (by decide) (by kernel_rfl)
instance : B6 Tryz.prog 213 [(0, 1), (1, 1), (2, 1), (3, 1), (4, 1), (5, 1), (6, 1), (7, 1), (8, 1), (9, 1), (10, 1)] := ⟨Am Tryz.prog 213, by kernel_rfl, fun _ => by kernel_rfl⟩
instance : Au Tryz.prog 213 0 0 := Di rfl rfl (by decide) (by kernel_rfl)
instance : Au Tryz.prog 213 1 1 := Di rfl rfl (by decide) (by kernel_rfl)
instance : Au Tryz.prog 213 2 2 := Di rfl rfl (by decide) (by kernel_rfl)
instance : Au Tryz.prog 213 3 3 := Di rfl rfl (by decide) (by kernel_rfl)
instance : Au Tryz.prog 213 4 4 := Di rfl rfl (by decide) (by kernel_rfl)
instance : Au Tryz.prog 213 5 5 := Di rfl rfl (by decide) (by kernel_rfl)
instance : Au Tryz.prog 213 6 6 := Di rfl rfl (by decide) (by kernel_rfl)
instance : Au Tryz.prog 213 7 7 := Di rfl rfl (by decide) (by kernel_rfl)
instance : Au Tryz.prog 213 8 8 := Di rfl rfl (by decide) (by kernel_rfl)
instance : Au Tryz.prog 213 9 9 := Di rfl rfl (by decide) (by kernel_rfl)
instance : Au Tryz.prog 213 10 10 := Di rfl rfl (by decide) (by kernel_rfl)
end Go.Proofs.YtfddjcmeejjhiaaGreatDoor
