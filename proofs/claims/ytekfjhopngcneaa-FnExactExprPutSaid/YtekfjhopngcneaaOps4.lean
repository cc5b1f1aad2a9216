
/- More rules: division, remainder, exclusive or, bytes as numbers, lists of bytes. No conditions. -/
import Derived.Test.YtekfjhopngcneaaOps3
namespace Go.Proofs.Ytekfjhopngcneaa
set_option maxRecDepth 100000
set_option linter.unusedVariables false
set_option linter.unusedSimpArgs false

section rules
variable {P : Program} {f : FuncId} {n : Nat} {I₀ : Heap} {Q : Post} {k : List Item} {E : Env} {I : Heap} {L : Own}
variable {ops : Array Oper} {d : Nat} {ty : TypeId} {pos : String} {af : Array Edge} {g : Option (Nat × Bool)} {l : List Oper}

theorem y_rem {S : World → Prop} {T T' : TypeId} {x y : Operand} {a b : Nat} (hx : opd E x = some (.int .i64 (a : Nat))) (hy : opd E y = some (.int .i64 (b : Nat))) (hb : 0 < b) :
    Yld P E S ⟨some d, .binOp .rem T x y T', ty, pos, af, g⟩ (.int .i64 ((a % b : Nat))) := fun ac w he _ => by
  simp only [execOp, he.eval hx, he.eval hy]
  refine run_bind_ok (a := _) (w' := w) ?_ |>.trans rfl
  rw [run_bind_ok (run_eqGuard_int w)]
  have h0 : ¬ ((b : Int) = 0) := by omega
  have h1 : ((a : Int).tmod (b : Int)) = ((a % b : Nat) : Int) := by rw [Int.ofNat_tmod]
  simp only [binOp, Op.intDiv, if_neg h0, h1, ne_eq, not_true_eq_false, if_false]; rfl
theorem o_rem {T T' : TypeId} {x y : Operand} {a b : Nat} (hx : opd E x = some (.int .i64 (a : Nat))) (hy : opd E y = some (.int .i64 (b : Nat))) (hb : 0 < b) (hg : Wants ops E g) (hdn : Nat.blt d n = true)
    (h : RunO P f n I₀ Q ops l k ((d, .int .i64 ((a % b : Nat))) :: E) I L) : RunO P f n I₀ Q ops (⟨some d, .binOp .rem T x y T', ty, pos, af, g⟩ :: l) k E I L := o_yld (y_rem hx hy hb) hg hdn h
theorem y_quo {S : World → Prop} {T T' : TypeId} {x y : Operand} {a b : Nat} (hx : opd E x = some (.int .i64 (a : Nat))) (hy : opd E y = some (.int .i64 (b : Nat))) (hb : 0 < b) (ha : a ≤ 9223372036854775807) :
    Yld P E S ⟨some d, .binOp .quo T x y T', ty, pos, af, g⟩ (.int .i64 ((a / b : Nat))) := fun ac w he _ => by
  simp only [execOp, he.eval hx, he.eval hy]
  refine run_bind_ok (a := _) (w' := w) ?_ |>.trans rfl
  rw [run_bind_ok (run_eqGuard_int w)]
  have h0 : ¬ ((b : Int) = 0) := by omega
  have h1 : ((a : Int).tdiv (b : Int)) = ((a / b : Nat) : Int) := by rw [Int.ofNat_tdiv]
  have h2 : IntKind.i64.wrap ((a / b : Nat) : Int) = ((a / b : Nat) : Int) := by
    obtain ⟨q, hq, hle⟩ : ∃ q, q = a / b ∧ q ≤ a := ⟨_, rfl, Nat.div_le_self a b⟩
    rw [← hq]; exact wrap_i64 (by omega)
  simp only [binOp, Op.intDiv, if_neg h0, h1, h2, ne_eq, not_true_eq_false, if_false]; rfl
theorem o_quo {T T' : TypeId} {x y : Operand} {a b : Nat} (hx : opd E x = some (.int .i64 (a : Nat))) (hy : opd E y = some (.int .i64 (b : Nat))) (hb : 0 < b) (ha : a ≤ 9223372036854775807) (hg : Wants ops E g) (hdn : Nat.blt d n = true)
    (h : RunO P f n I₀ Q ops l k ((d, .int .i64 ((a / b : Nat))) :: E) I L) : RunO P f n I₀ Q ops (⟨some d, .binOp .quo T x y T', ty, pos, af, g⟩ :: l) k E I L := o_yld (y_quo hx hy hb ha) hg hdn h
theorem y_xor {S : World → Prop} {T T' : TypeId} {x y : Operand} {a b : Nat} (hx : opd E x = some (.int .i64 (a : Nat))) (hy : opd E y = some (.int .i64 (b : Nat))) (ha : a ≤ 9223372036854775807) (hb : b ≤ 9223372036854775807) :
    Yld P E S ⟨some d, .binOp .xor T x y T', ty, pos, af, g⟩ (.int .i64 ((a ^^^ b : Nat))) := fun ac w he _ => by
  simp only [execOp, he.eval hx, he.eval hy]
  refine run_bind_ok (a := _) (w' := w) ?_ |>.trans rfl
  rw [run_bind_ok (run_eqGuard_int w)]
  have hn : ∀ c : Nat, c ≤ 9223372036854775807 → (BitVec.ofInt 64 (c : Int)).toNat = c := fun c hc => by
    rw [BitVec.ofInt_natCast, BitVec.toNat_ofNat]; exact Nat.mod_eq_of_lt (by omega)
  have hlt : a ^^^ b < 2 ^ 63 := Nat.xor_lt_two_pow (by omega) (by omega)
  have h1 : (BitVec.ofInt IntKind.i64.bits (a : Int) ^^^ BitVec.ofInt IntKind.i64.bits (b : Int)).toNat = a ^^^ b := by
    show (BitVec.ofInt 64 (a : Int) ^^^ BitVec.ofInt 64 (b : Int)).toNat = _
    rw [BitVec.toNat_xor, hn a ha, hn b hb]
  have h2 : IntKind.i64.wrap ((a ^^^ b : Nat) : Int) = ((a ^^^ b : Nat) : Int) := wrap_i64 (by omega)
  simp only [binOp, Op.intBits, h1, h2, ne_eq, not_true_eq_false, if_false]; rfl
theorem o_xor {T T' : TypeId} {x y : Operand} {a b : Nat} (hx : opd E x = some (.int .i64 (a : Nat))) (hy : opd E y = some (.int .i64 (b : Nat))) (ha : a ≤ 9223372036854775807) (hb : b ≤ 9223372036854775807) (hg : Wants ops E g) (hdn : Nat.blt d n = true)
    (h : RunO P f n I₀ Q ops l k ((d, .int .i64 ((a ^^^ b : Nat))) :: E) I L) : RunO P f n I₀ Q ops (⟨some d, .binOp .xor T x y T', ty, pos, af, g⟩ :: l) k E I L := o_yld (y_xor hx hy ha hb) hg hdn h

/-- A byte as a number. -/
theorem y_byteInt {S : World → Prop} {src dst sz bb sz2 bb2 : Nat} {z z2 : List Value} [hs : TyIs P src (.int .u8) sz bb z] [hd : TyIs P dst (.int .i64) sz2 bb2 z2] {x : Operand} {a : Nat} (hx : opd E x = some (.int .u8 (a : Nat))) (ha : a < 256) :
    Yld P E S ⟨some d, .convert src dst x, ty, pos, af, g⟩ (.int .i64 (a : Nat)) := fun ac w he _ => by
  simp only [execOp, he.eval hx]
  refine run_bind_ok (a := .int .i64 (a : Nat)) (w' := w) ?_ |>.trans rfl
  unfold convert
  rw [run_bind_ok (run_underlying hs.und w), run_bind_ok (run_underlying hd.und w)]
  simp only [Conv.intToInt]
  rw [wrap_i64 (by omega)]
  rfl
theorem o_byteInt {src dst sz bb sz2 bb2 : Nat} {z z2 : List Value} [hs : TyIs P src (.int .u8) sz bb z] [hd : TyIs P dst (.int .i64) sz2 bb2 z2] {x : Operand} {a : Nat} (hx : opd E x = some (.int .u8 (a : Nat))) (ha : a < 256) (hg : Wants ops E g) (hdn : Nat.blt d n = true)
    (h : RunO P f n I₀ Q ops l k ((d, .int .i64 (a : Nat)) :: E) I L) : RunO P f n I₀ Q ops (⟨some d, .convert src dst x, ty, pos, af, g⟩ :: l) k E I L := o_yld (y_byteInt hx ha) hg hdn h
end rules

/-- A list of bytes as it comes in. -/
structure Bytes (I : Heap) (oa : Option Addr) (l : List UInt8) (c : Nat) : Prop where
  still : ∀ x, oa = some x → Still I x (l.map bv)
  nil : oa = none → l = []
  cap : l.length ≤ c
  len : l.length ≤ 9223372036854775807
theorem Bytes.mono {I I' : Heap} {oa : Option Addr} {l : List UInt8} {c : Nat} (hle : HLe I I') (h : Bytes I oa l c) : Bytes I' oa l c :=
  ⟨fun x hx => (h.still x hx).mono hle, h.nil, h.cap, h.len⟩
theorem Bytes.at {I : Heap} {oa : Option Addr} {l : List UInt8} {c : Nat} (h : Bytes I oa l c) (i : Nat) (hi : i < l.length) : ∃ x, oa = some x ∧ Still I (x.add (i * 1)) [.int .u8 (l[i].toNat : Nat)] := by
  cases oa with
  | none => have := h.nil rfl; subst this; simp at hi
  | some x =>
    refine ⟨x, rfl, (h.still x rfl).part (i * 1) ?_⟩
    intro j hj
    obtain rfl : j = 0 := by simpa using hj
    simp [hi, bv]
end Go.Proofs.Ytekfjhopngcneaa
