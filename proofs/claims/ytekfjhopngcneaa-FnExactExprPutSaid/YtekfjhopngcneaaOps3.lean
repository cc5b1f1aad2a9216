
/- More rules: 'make', a store into one cell of a row, tests of bools. No conditions. -/
import Derived.Test.YtekfjhopngcneaaOps2
import Derived.Laws.MakeOwn
namespace Go.Proofs.Ytekfjhopngcneaa
set_option maxRecDepth 100000
set_option linter.unusedVariables false
set_option linter.unusedSimpArgs false

section rules
variable {P : Program} {f : FuncId} {n : Nat} {I₀ : Heap} {Q : Post} {k : List Item} {E : Env} {I : Heap} {L : Own}
variable {ops : Array Oper} {d : Nat} {ty : TypeId} {pos : String} {af : Array Edge} {g : Option (Nat × Bool)} {l : List Oper}

theorem run_eqGuard_bool {op : BinOp} {T : TypeId} {x y : Operand} {a b : Bool} (w : World) : (eqGuard op T x y (.bool a) (.bool b)).run P w = .ok () w := by
  unfold eqGuard; split <;> rfl
def cmpBool : BinOp → Bool → Bool → Option Bool
  | .eql, a, b => some (a == b)
  | .neq, a, b => some (!(a == b))
  | _, _, _ => none
theorem y_cmpb {S : World → Prop} {op : BinOp} {T T' sz bb : Nat} {z : List Value} [ht : TyIs P T .bool sz bb z] {x y : Operand} {a b r : Bool} (hx : opd E x = some (.bool a)) (hy : opd E y = some (.bool b)) (hr : cmpBool op a b = some r) :
    Yld P E S ⟨some d, .binOp op T x y T', ty, pos, af, g⟩ (.bool r) := fun ac w he _ => by
  simp only [execOp, he.eval hx, he.eval hy]
  refine run_bind_ok (a := _) (w' := w) ?_ |>.trans rfl
  rw [run_bind_ok (run_eqGuard_bool w)]
  have h : ∀ d : Nat, (Op.equalIn (d + 1) T (.bool a) (.bool b)).run P w = .ok (a == b) w := fun d => by
    unfold Op.equalIn
    rw [run_bind_ok (run_underlying ht.und w)]
    rfl
  cases op <;> simp only [cmpBool, Option.some.injEq, reduceCtorEq] at hr
  · subst hr
    simp only [binOp, Op.equal]
    exact run_bind_ok (h 9999) |>.trans rfl
  · subst hr
    simp only [binOp, Op.equal]
    exact run_bind_ok (h 9999) |>.trans rfl
theorem o_cmpb {op : BinOp} {T T' sz bb : Nat} {z : List Value} [ht : TyIs P T .bool sz bb z] {x y : Operand} {a b r : Bool} (hx : opd E x = some (.bool a)) (hy : opd E y = some (.bool b)) (hr : cmpBool op a b = some r) (hg : Wants ops E g) (hdn : Nat.blt d n = true)
    (h : RunO P f n I₀ Q ops l k ((d, .bool r) :: E) I L) : RunO P f n I₀ Q ops (⟨some d, .binOp op T x y T', ty, pos, af, g⟩ :: l) k E I L := o_yld (y_cmpb hx hy hr) hg hdn h

/-- 'make([]T, m)' where T takes one cell. -/
theorem o_make {T e : TypeId} {sz bb ebb : Nat} {z : List Value} {ez : Value} {dd : TypeDesc} [ht : TyIs P T (.slice e) sz bb z] [hte : TyIs P e dd 1 ebb [ez]] {x y : Operand} {m : Nat}
    (hx : opd E x = some (.int .i64 (m : Nat))) (hy : opd E y = some (.int .i64 (m : Nat))) (hb : ebb * m ≤ 281474976710656) (hm63 : m ≤ 9223372036854775807) (hg : Wants ops E g) (hdn : Nat.blt d n = true)
    (h : ∀ b, RunO P f n I₀ Q ops l k ((d, .slice (some ⟨b, 0, none⟩) m m) :: E) I ((b, .cells (List.replicate m ez).toArray e (0, 0)) :: L)) :
    RunO P f n I₀ Q ops (⟨some d, .makeSlice T x y, ty, pos, af, g⟩ :: l) k E I L := by
  refine o_stepX rfl hdn (fun a he => hg.wanted a he) fun a w he hm => ?_
  obtain ⟨i, zv, hi, hs, hb', hz, hzc⟩ := hte.info
  have hbi : (i.bytes : Int) * (m : Int) ≤ 281474976710656 := by
    rw [hb', ← Int.natCast_mul]; omega
  have hr := Go.run_make (P := P) w T e i zv ht.und hi hz .i64 .i64 m m (by omega) (Int.le_refl _) hbi (by omega)
  refine ⟨_, _, I, (w.heap.size, .cells (List.replicate m ez).toArray e (0, 0)) :: L, ?_, hm.alloc _, h _⟩
  simp only [execOp, he.eval hx, he.eval hy]
  refine run_bind_ok (a := .slice (some ⟨w.heap.size, 0, none⟩) m m) (w' := { w with heap := w.heap.push (.cells (List.replicate m ez).toArray e (0, 0)) }) ?_ |>.trans rfl
  rw [hr]
  have hzz : zv.cells = #[ez] := by rw [← Array.toArray_toList (xs := zv.cells), hzc]
  have hc : Go.madeCells zv.cells ((m : Int).toNat * i.size) = (List.replicate m ez).toArray := by
    rw [hs, hzz]
    apply Array.ext'
    simp [Go.madeCells, List.eq_replicate_iff, Nat.mod_one]
  rw [hc]
  rfl

theorem y_indexAddr' {S : World → Prop} {T e : TypeId} {sz bb esz ebb : Nat} {z ez : List Value} {dd : TypeDesc} [ht : TyIs P T (.slice e) sz bb z] [hte : TyIs P e dd esz ebb ez] {x y : Operand} {oa : Option Addr} {ad : Addr} {m c : Nat} {i : Int}
    (hx : opd E x = some (.slice oa m c)) (hy : opd E y = some (.int .i64 i)) (i' : Nat) (hi : i = i') (him : i' < m) (hoa : oa = some ad) : Yld P E S ⟨some d, .indexAddr T x y, ty, pos, af, g⟩ (.pointer (some (ad.add (i' * esz)))) :=
  y_indexAddr (hoa ▸ hx) hy i' hi him

theorem putN_one {v : Value} : ∀ {o : Nat} {cs : List Value}, o < cs.length → plainCell v = true → valCells v = some [v] → putN o [v] cs = some (cs.set o v)
  | 0, c :: cs, _, _, _ => by simp [putN, overN]
  | o + 1, c :: cs, h, hp, hv => by simp [putN, putN_one (o := o) (cs := cs) (by simpa using h) hp hv]
end rules
end Go.Proofs.Ytekfjhopngcneaa
