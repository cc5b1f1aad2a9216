/- The shelf's law on small numbers in decimals, laid at this program in plain words by the kit's lay-plain.mjs. No conditions. -/
import Derived.Test.YtmjjhbnkjafhdaaDoorG9
import Derived.Shelf.Strconv.Itoa3
import Derived.Test.YtmjjhbnkjafhdaaDoorProg
namespace Go.Proofs.YtmjjhbnkjafhdaaDoor
open Go.Shelf
def lays171_ren : Go.Shelf.Ren := ⟨fun | 171 => 63 | 243 => 71 | 246 => 75 | 283 => 77 | 284 => 78 | 285 => 79 | 286 => 80 | 129 => 82 | 317 => 81 | 318 => 83 | 319 => 84 | 320 => 85 | 337 => 86 | 338 => 87 | n => n, fun | 3 => 3 | 9 => 9 | 2 => 2 | 4 => 4 | 171 => 98 | 0 => 0 | 53 => 99 | 37 => 54 | 5 => 5 | 173 => 102 | 212 => 106 | 51 => 107 | 20 => 20 | 213 => 108 | 46 => 110 | 232 => 113 | 233 => 114 | n => n, fun | 17 => 0 | 18 => 1 | 19 => 2 | n => n⟩
theorem lays171 : Go.Proofs.Lays.n171 Tryd.prog lays171_ren := {
  mixed := by kernel_rfl
  f129 := Tryd.func82.trans (congrArg some (by kernel_rfl))
  f171 := Tryd.func63.trans (congrArg some (by kernel_rfl))
  f243 := Tryd.func71.trans (congrArg some (by kernel_rfl))
  f246 := Tryd.func75.trans (congrArg some (by kernel_rfl))
  f283 := Tryd.func77.trans (congrArg some (by kernel_rfl))
  f284 := Tryd.func78.trans (congrArg some (by kernel_rfl))
  f285 := Tryd.func79.trans (congrArg some (by kernel_rfl))
  f286 := Tryd.func80.trans (congrArg some (by kernel_rfl))
  f317 := Tryd.func81.trans (congrArg some (by kernel_rfl))
  f318 := Tryd.func83.trans (congrArg some (by kernel_rfl))
  f319 := Tryd.func84.trans (congrArg some (by kernel_rfl))
  f320 := Tryd.func85.trans (congrArg some (by kernel_rfl))
  f337 := Tryd.func86.trans (congrArg some (by kernel_rfl))
  f338 := Tryd.func87.trans (congrArg some (by kernel_rfl))
  t0 := Tryd.underlying0
  a0 := Tryd.isAgg0
  z0 := Tryd.sizeOf0
  v0 := Tryd.zeroValue0
  t2 := Tryd.underlying2
  a2 := Tryd.isAgg2
  z2 := Tryd.sizeOf2
  v2 := Tryd.zeroValue2
  t3 := Tryd.underlying3
  a3 := Tryd.isAgg3
  z3 := Tryd.sizeOf3
  v3 := Tryd.zeroValue3
  t4 := Tryd.underlying4
  a4 := Tryd.isAgg4
  z4 := Tryd.sizeOf4
  v4 := Tryd.zeroValue4
  t5 := Tryd.underlying5
  a5 := Tryd.isAgg5
  z5 := Tryd.sizeOf5
  v5 := Tryd.zeroValue5
  t9 := Tryd.underlying9
  a9 := Tryd.isAgg9
  z9 := Tryd.sizeOf9
  v9 := Tryd.zeroValue9
  t20 := Tryd.underlying20
  a20 := Tryd.isAgg20
  z20 := Tryd.sizeOf20
  v20 := Tryd.zeroValue20
  t37 := Tryd.underlying54
  a37 := Tryd.isAgg54
  z37 := Tryd.sizeOf54
  v37 := Tryd.zeroValue54
  t46 := Tryd.underlying110
  a46 := Tryd.isAgg110
  z46 := Tryd.sizeOf110
  v46 := Tryd.zeroValue110
  t51 := Tryd.underlying107
  a51 := Tryd.isAgg107
  z51 := Tryd.sizeOf107
  v51 := Tryd.zeroValue107
  t53 := Tryd.underlying99
  a53 := Tryd.isAgg99
  z53 := Tryd.sizeOf99
  v53 := Tryd.zeroValue99
  t171 := Tryd.underlying98
  a171 := Tryd.isAgg98
  z171 := Tryd.sizeOf98
  v171 := Tryd.zeroValue98
  t173 := Tryd.underlying102
  a173 := Tryd.isAgg102
  z173 := Tryd.sizeOf102
  v173 := Tryd.zeroValue102
  t212 := Tryd.underlying106
  a212 := Tryd.isAgg106
  z212 := Tryd.sizeOf106
  v212 := Tryd.zeroValue106
  t213 := Tryd.underlying108
  a213 := Tryd.isAgg108
  z213 := Tryd.sizeOf108
  t232 := Tryd.underlying113
  a232 := Tryd.isAgg113
  z232 := Tryd.sizeOf113
  v232 := Tryd.zeroValue113
  t233 := Tryd.underlying114
  a233 := Tryd.isAgg114
  z233 := Tryd.sizeOf114
  v233 := Tryd.zeroValue114
  g17 := by kernel_rfl
  g18 := by kernel_rfl
  g19 := by kernel_rfl }
end Go.Proofs.YtmjjhbnkjafhdaaDoor


/- Numbers in decimals. No conditions. -/
namespace Go.Proofs.YtmjjhbnkjafhdaaDoor
set_option maxRecDepth 100000
set_option linter.unusedVariables false
set_option linter.unusedSimpArgs false

/-- A number in decimals. -/
def decT (n : Nat) : Txt := if n < 10 then [UInt8.ofNat (48 + n)] else decT (n / 10) ++ [UInt8.ofNat (48 + n % 10)]
theorem decT_small {n : Nat} (h : n < 10) : decT n = [UInt8.ofNat (48 + n)] := by rw [decT, if_pos h]
theorem decT_big {n : Nat} (h : ¬ n < 10) : decT n = decT (n / 10) ++ [UInt8.ofNat (48 + n % 10)] := by rw [decT, if_neg h]
end Go.Proofs.YtmjjhbnkjafhdaaDoor


/- Small numbers in decimals, by the library. No conditions. -/
namespace Go.Proofs.YtmjjhbnkjafhdaaDoor
set_option maxRecDepth 100000
set_option linter.unusedVariables false
set_option linter.unusedSimpArgs false

theorem dec_small : ∀ i : Nat, i < 100 → Lib.decDigits i = decT i := by decide +kernel
theorem f_strconv_Itoa (i : Nat) (hi : i < 100) (I : Heap) (L : Own) : Fun Tryd.prog 63 [.int .i64 (i : Nat)] I L (Only (.string (str (decT i))) I L) := by
  refine ⟨fun w hm => (Any.strconv_Itoa_small lays171 i hi w).mono ?_⟩
  rintro e w' ⟨rfl, rfl⟩
  refine ⟨_, I, L, rfl, .refl _, hm, ?_⟩
  rw [dec_small i hi]
  exact ⟨rfl, rfl, rfl⟩
end Go.Proofs.YtmjjhbnkjafhdaaDoor


/- Types as they are drawn. No conditions. -/
namespace Go.Proofs.YtmjjhbnkjafhdaaDoor
set_option maxRecDepth 100000
set_option linter.unusedVariables false
set_option linter.unusedSimpArgs false

def kT : Nat → Nat
  | 0 => 0
  | d + 1 => 2 + 2 * kT d
def bT : Nat → Nat
  | 0 => 1
  | d + 1 => 5 + 2 * bT d
end Go.Proofs.YtmjjhbnkjafhdaaDoor


/- More rules: a number as a byte, bytes as a text. No conditions. -/
namespace Go.Proofs.YtmjjhbnkjafhdaaDoor
set_option linter.unusedVariables false
set_option linter.unusedSimpArgs false

section rules
variable {P : Program} {f : FuncId} {n : Nat} {I₀ : Heap} {Q : Post} {k : List Item} {E : Env} {I : Heap} {L : Own}
variable {ops : Array Oper} {d : Nat} {ty : TypeId} {pos : String} {af : Array Edge} {g : Option (Nat × Bool)} {l : List Oper}
theorem wrap_u8 {m : Int} (h : 0 ≤ m ∧ m < 256) : IntKind.u8.wrap m = m := by
  simp [IntKind.wrap, IntKind.bits, IntKind.signed]; omega
/-- A number as a byte. -/
theorem y_intByte {S : World → Prop} {src dst sz bb sz2 bb2 : Nat} {z z2 : List Value} [hs : TyIs P src (.int .i64) sz bb z] [hd : TyIs P dst (.int .u8) sz2 bb2 z2] {x : Operand} {a : Nat} (hx : opd E x = some (.int .i64 (a : Nat))) (ha : a < 256) :
    Yld P E S ⟨some d, .convert src dst x, ty, pos, af, g⟩ (.int .u8 (a : Nat)) := fun ac w he _ => by
  simp only [execOp, he.eval hx]
  refine run_bind_ok (a := .int .u8 (a : Nat)) (w' := w) ?_ |>.trans rfl
  unfold convert
  rw [run_bind_ok (run_underlying hs.und w), run_bind_ok (run_underlying hd.und w)]
  simp only [Conv.intToInt]
  rw [wrap_u8 (by omega)]
  rfl
theorem o_intByte {src dst sz bb sz2 bb2 : Nat} {z z2 : List Value} [hs : TyIs P src (.int .i64) sz bb z] [hd : TyIs P dst (.int .u8) sz2 bb2 z2] {x : Operand} {a : Nat} (hx : opd E x = some (.int .i64 (a : Nat))) (ha : a < 256) (hg : Wants ops E g) (hdn : Nat.blt d n = true)
    (h : RunO P f n I₀ Q ops l k ((d, .int .u8 (a : Nat)) :: E) I L) : RunO P f n I₀ Q ops (⟨some d, .convert src dst x, ty, pos, af, g⟩ :: l) k E I L := o_yld (y_intByte hx ha) hg hdn h
/-- One byte as a text. -/
theorem y_byteStr {src dst e sz bb sz2 bb2 sz3 bb3 : Nat} {z z2 z3 : List Value} [hs : TyIs P src (.slice e) sz bb z] [he : TyIs P e (.int .u8) sz3 bb3 z3] [hd : TyIs P dst .string sz2 bb2 z2] {x : Operand} {ad : Addr} {c a : Nat} (hx : opd E x = some (.slice (some ad) 1 c)) (hr : Reads I L ad [.int .u8 (a : Nat)]) :
    Yld P E (Mem I L) ⟨some d, .convert src dst x, ty, pos, af, g⟩ (.string (str [UInt8.ofNat a])) := fun ac w he' hm => by
  simp only [execOp, he'.eval hx]
  refine run_bind_ok (a := .string (str [UInt8.ofNat a])) (w' := w) ?_ |>.trans rfl
  unfold convert
  rw [run_bind_ok (run_underlying hs.und w), run_bind_ok (run_underlying hd.und w)]
  simp only []
  rw [run_bind_ok (run_underlying he.und w)]
  simp only [Conv.bytesToString]
  have hl : (loadCells ad 1).run P w = .ok [Value.int .u8 (a : Nat)].toArray w := run_loadCells [.int .u8 (a : Nat)] (hr w hm)
  rw [run_bind_ok hl]
  rfl
end rules
end Go.Proofs.YtmjjhbnkjafhdaaDoor


/- Numbers in decimals, by the reference; scopes of drawn expressions. No conditions. -/
namespace Go.Proofs.YtmjjhbnkjafhdaaDoor
set_option maxRecDepth 100000
set_option linter.unusedVariables false
set_option linter.unusedSimpArgs false

theorem decT_le {n : Nat} (h : n ≤ 1000000000) : (decT n).length ≤ 12 := by
  have key : ∀ (k m : Nat), m < 10 ^ (k + 1) → (decT m).length ≤ k + 1 := by
    intro k
    induction k with
    | zero => intro m hm; rw [decT_small (by omega)]; simp
    | succ k ih =>
      intro m hm
      by_cases h1 : m < 10
      · rw [decT_small h1]; simp
      · rw [decT_big h1, List.length_append]
        have := ih (m / 10) (by rw [Nat.pow_succ] at hm; omega)
        simp only [List.length_cons, List.length_nil]; omega
  exact Nat.le_trans (key 10 n (by omega)) (by decide)
theorem g_l6Dec : ∀ (k n : Nat) (_ : n < k) (_ : n ≤ 1000000000) (I : Heap) (L : Own), Fun Tryd.prog 54 [.int .i64 (n : Nat)] I L (Only (.string (str (decT n))) I L) := by
  intro k
  induction k with
  | zero => intro n h; omega
  | succ k ihk =>
    intro n hlt hn I L
    refine fun_intro (by simp) ?_
    refine s_seq ?_
    refine o_enter rfl ?_
    refine o_assign rfl .free rfl ?_
    refine o_done ?_
    refine s_seq ?_
    refine s_seq ?_
    refine o_enter rfl ?_
    refine o_move rfl .free rfl ?_
    refine o_cmp rfl rfl rfl .free rfl ?_
    refine o_done ?_
    first | refine s_fp rfl (by omega) ?_ | refine s_fn rfl (by omega) ?_ | refine s_false (by simp [look, opd, *]) ?_
    refine s_skip ?_
    refine s_seq ?_
    refine s_seq ?_
    refine o_enter rfl ?_
    refine o_move rfl .free rfl ?_
    refine o_cmp rfl rfl rfl .free rfl ?_
    refine o_done ?_
    first | refine s_fp rfl (by omega) ?_ | refine s_fn rfl (by omega) ?_ | refine s_false (by simp [look, opd, *]) ?_
    refine s_skip ?_
    refine s_seq ?_
    refine s_seq ?_
    refine o_enter rfl ?_
    refine o_move rfl .free rfl ?_
    refine o_cmp rfl rfl rfl .free rfl ?_
    refine o_done ?_
    refine s_cond rfl ?_ ?_
    · intro c2
      try simp only [nb] at c2
      refine s_seq ?_
      have h10 : n < 10 := by omega
      refine o_enter rfl ?_
      refine o_move rfl .free rfl ?_
      refine o_arith rfl rfl rfl (by omega) .free rfl ?_
      refine o_put (t := 14) (v' := .int .i64 ((48 + n : Nat))) rfl (by congr 1) ?_
      refine o_intByte rfl (by omega) .free rfl ?_
      refine o_lits rfl rfl (by rfl) (by rfl) (by rfl) (by decide) (by decide) (by rfl) .free rfl ?_
      intro b16
      refine o_yld (y_byteStr rfl (reads_ownL (by first | exact m0 | exact m1 | exact m2 | exact m3 | exact m4 | exact m5 | exact m6 | exact List.mem_append_right _ m0 | exact List.mem_append_right _ m1 | exact List.mem_append_right _ m2 | exact List.mem_append_right _ m3 | exact .tail _ (List.mem_append_right _ m0) | exact .tail _ (List.mem_append_right _ m1) | exact .tail _ (List.mem_append_right _ m2) | exact .tail _ (List.mem_append_right _ m3)) (by rfl))) .free rfl ?_
      refine o_assign rfl .free rfl ?_
      refine o_done ?_
      refine s_ret (.tmp rfl .nil) ?_
      refine only rfl ?_
      rw [decT_small h10]; rfl
    intro c2
    try simp only [nb] at c2
    refine s_skip ?_
    refine s_seq ?_
    have h10 : ¬ n < 10 := by omega
    obtain ⟨q, hq, hq2⟩ : ∃ q, q = n / 10 ∧ q < n := ⟨_, rfl, by omega⟩
    obtain ⟨r, hr, hr2⟩ : ∃ r, r = n % 10 ∧ r < 10 := ⟨_, rfl, Nat.mod_lt _ (by omega)⟩
    have hdl := decT_le (n := q) (by omega)
    refine d_all 11 rfl rfl ?_
    refine d_takeA 0 rfl (by kernel_rfl) rfl (.inr heldx) (y_move rfl) .free rfl ?_
    refine d_takeA 1 rfl (by kernel_rfl) rfl (.inr heldx) (y_quo (b := 10) rfl rfl (by omega) (by omega)) .free rfl ?_
    refine d_put (t := 19) (v' := .int .i64 (q : Nat)) rfl (by rw [hq]) ?_
    refine d_takeA 3 rfl (by kernel_rfl) rfl (.inr heldx) (y_move rfl) .free rfl ?_
    refine d_takeA 4 rfl (by kernel_rfl) rfl (.inr heldx) (y_rem (b := 10) rfl rfl (by omega)) .free rfl ?_
    refine d_put (t := 22) (v' := .int .i64 (r : Nat)) rfl (by rw [hr]) ?_
    refine d_takeA 5 rfl (by kernel_rfl) rfl (.inr heldx) (y_arith rfl rfl rfl (by omega)) .free rfl ?_
    refine d_put (t := 23) (v' := .int .i64 ((48 + r : Nat))) rfl (by congr 1) ?_
    refine d_takeA 6 rfl (by kernel_rfl) rfl (.inr heldx) (y_intByte rfl (by omega)) .free rfl ?_
    refine d_two 2 7 (by kernel_rfl) ?_ ?_
    · skip
      refine i_call 2 rfl rfl rfl .free rfl (ihk q (by omega) (by omega) _ _) ?_
      rintro _ _ _ _ ⟨rfl, rfl, rfl⟩
      refine ⟨(.inr heldx), ?_⟩
      refine d_lits 7 rfl (by kernel_rfl) rfl rfl rfl (by rfl) (by rfl) (by rfl) (by decide) (by decide) (by rfl) .free rfl (.inr heldx) ?_
      intro b25
      refine d_yld 8 rfl (by kernel_rfl) rfl (y_byteStr rfl (reads_ownL (by first | exact m0 | exact m1 | exact m2 | exact m3 | exact m4 | exact m5 | exact m6 | exact List.mem_append_right _ m0 | exact List.mem_append_right _ m1 | exact List.mem_append_right _ m2 | exact List.mem_append_right _ m3 | exact .tail _ (List.mem_append_right _ m0) | exact .tail _ (List.mem_append_right _ m1) | exact .tail _ (List.mem_append_right _ m2) | exact .tail _ (List.mem_append_right _ m3)) (by rfl))) .free rfl (.inr heldx) ?_
      refine d_takeA 9 rfl (by kernel_rfl) rfl (.inr heldx) (y_concat rfl rfl (by first | omega | (simp only [List.length_append, List.length_cons, List.length_nil]; omega) | (simp; omega))) .free rfl ?_
      refine d_takeA 10 rfl (by kernel_rfl) rfl (.inr heldx) (y_assign rfl) .free rfl ?_
      refine d_done (by kernel_rfl) ?_
      refine s_ret (.tmp rfl .nil) ?_
      refine only rfl ?_
      rw [decT_big h10, ← hq, ← hr]; rfl
    · skip
      refine i_lits 7 rfl rfl rfl rfl (by rfl) (by rfl) (by rfl) (by decide) (by decide) (by rfl) .free rfl (.inr heldx) ?_
      intro b25
      refine d_two 2 8 (by kernel_rfl) ?_ ?_
      · skip
        refine i_call 2 rfl rfl rfl .free rfl (ihk q (by omega) (by omega) _ _) ?_
        rintro _ _ _ _ ⟨rfl, rfl, rfl⟩
        refine ⟨(.inr heldx), ?_⟩
        refine d_yld 8 rfl (by kernel_rfl) rfl (y_byteStr rfl (reads_ownL (by first | exact m0 | exact m1 | exact m2 | exact m3 | exact m4 | exact m5 | exact m6 | exact List.mem_append_right _ m0 | exact List.mem_append_right _ m1 | exact List.mem_append_right _ m2 | exact List.mem_append_right _ m3 | exact .tail _ (List.mem_append_right _ m0) | exact .tail _ (List.mem_append_right _ m1) | exact .tail _ (List.mem_append_right _ m2) | exact .tail _ (List.mem_append_right _ m3)) (by rfl))) .free rfl (.inr heldx) ?_
        refine d_takeA 9 rfl (by kernel_rfl) rfl (.inr heldx) (y_concat rfl rfl (by first | omega | (simp only [List.length_append, List.length_cons, List.length_nil]; omega) | (simp; omega))) .free rfl ?_
        refine d_takeA 10 rfl (by kernel_rfl) rfl (.inr heldx) (y_assign rfl) .free rfl ?_
        refine d_done (by kernel_rfl) ?_
        refine s_ret (.tmp rfl .nil) ?_
        refine only rfl ?_
        rw [decT_big h10, ← hq, ← hr]; rfl
      · skip
        refine i_yld 8 rfl rfl (y_byteStr rfl (reads_ownL (by first | exact m0 | exact m1 | exact m2 | exact m3 | exact m4 | exact m5 | exact m6 | exact List.mem_append_right _ m0 | exact List.mem_append_right _ m1 | exact List.mem_append_right _ m2 | exact List.mem_append_right _ m3 | exact .tail _ (List.mem_append_right _ m0) | exact .tail _ (List.mem_append_right _ m1) | exact .tail _ (List.mem_append_right _ m2) | exact .tail _ (List.mem_append_right _ m3)) (by rfl))) .free rfl (.inr heldx) ?_
        refine d_call 2 rfl (by kernel_rfl) rfl rfl .free rfl (ihk q (by omega) (by omega) _ _) ?_
        rintro _ _ _ _ ⟨rfl, rfl, rfl⟩
        refine ⟨(.inr heldx), ?_⟩
        refine d_takeA 9 rfl (by kernel_rfl) rfl (.inr heldx) (y_concat rfl rfl (by first | omega | (simp only [List.length_append, List.length_cons, List.length_nil]; omega) | (simp; omega))) .free rfl ?_
        refine d_takeA 10 rfl (by kernel_rfl) rfl (.inr heldx) (y_assign rfl) .free rfl ?_
        refine d_done (by kernel_rfl) ?_
        refine s_ret (.tmp rfl .nil) ?_
        refine only rfl ?_
        rw [decT_big h10, ← hq, ← hr]; rfl
end Go.Proofs.YtmjjhbnkjafhdaaDoor


/- Parts of expressions are expressions; what is counted and put. No conditions. -/
namespace Go.Proofs.YtmjjhbnkjafhdaaDoor
set_option maxRecDepth 100000
set_option linter.unusedVariables false
set_option linter.unusedSimpArgs false

/-- How many expressions an expression and its parts are. -/
def Ex.many : Ex → Nat
  | .num _ => 1
  | .name _ => 1
  | .bin _ a b => 1 + a.many + b.many
  | .ite a b c => 1 + a.many + b.many + c.many
  | .lt _ a b => 1 + a.many + b.many
  | .fn _ _ _ _ b => 1 + b.many
  | .un _ a => 1 + a.many
/-- What an expression begins with. -/
def Ex.hd : Ex → Txt
  | .num _ => [110, 117, 109, 98, 101, 114]
  | .name _ => [110, 97, 109, 101]
  | e => e.tree.head
def headOf (s : Txt) : Txt := match exOf s with
  | some e => e.hd
  | none => []
def kidsOf (s : Txt) : Option (List Txt) := (exOf s).map fun e => e.sub.map fun a => a.tree.text
def manyOf (s : Txt) : Int := match exOf s with
  | some e => (e.many : Nat)
  | none => -1
def sizeOfT (s : Txt) : Int := match parse s with
  | some t => (t.size : Nat)
  | none => -1
end Go.Proofs.YtmjjhbnkjafhdaaDoor


/- Plain names. No conditions. -/
namespace Go.Proofs.YtmjjhbnkjafhdaaDoor
set_option maxRecDepth 100000
set_option linter.unusedVariables false
set_option linter.unusedSimpArgs false

/-- The number of decimals. -/
def numT (s : Txt) : Nat := s.foldl (fun a c => 10 * a + (c.toNat - 48)) 0
theorem numT_app (s : Txt) (c : UInt8) : numT (s ++ [c]) = 10 * numT s + (c.toNat - 48) := by simp [numT]
theorem digit_val {d : Nat} (h : d < 10) : (UInt8.ofNat (48 + d)).toNat - 48 = d := by
  have : (UInt8.ofNat (48 + d)).toNat = 48 + d := by simp [UInt8.toNat_ofNat]; omega
  omega
theorem numT_decT : ∀ n : Nat, numT (decT n) = n := by
  intro n
  induction n using Nat.strongRecOn with
  | _ n ih =>
    by_cases h : n < 10
    · rw [decT_small h]
      show 10 * 0 + ((UInt8.ofNat (48 + n)).toNat - 48) = n
      rw [digit_val h]; omega
    · rw [decT_big h, numT_app, ih (n / 10) (by omega), digit_val (Nat.mod_lt _ (by omega))]
      omega
theorem decT_inj {a b : Nat} (h : decT a = decT b) : a = b := by
  have := congrArg numT h
  rwa [numT_decT, numT_decT] at this
def nm (c : UInt8) (n : Nat) : Txt := c :: decT n
theorem nm_inj {c : UInt8} {a b : Nat} (h : nm c a = nm c b) : a = b := decT_inj (List.cons.inj h).2
/-- How many of the first 'n' names are barred. -/
def hits (c : UInt8) (av : List Txt) (n : Nat) : Nat := ((List.range n).filter fun k => decide (nm c k ∈ av)).length
theorem hits_succ (c : UInt8) (av : List Txt) (n : Nat) : hits c av (n + 1) = hits c av n + (if nm c n ∈ av then 1 else 0) := by
  unfold hits
  rw [List.range_succ, List.filter_append]
  by_cases h : nm c n ∈ av <;> simp [h]
theorem sub_length : ∀ {l m : List Txt}, l.Nodup → (∀ x ∈ l, x ∈ m) → l.length ≤ m.length
  | [], m, _, _ => Nat.zero_le _
  | x :: l, m, hn, hs => by
    obtain ⟨h1, h2⟩ := List.nodup_cons.1 hn
    have hx := hs x (.head _)
    have := sub_length (l := l) (m := m.erase x) h2 fun y hy => by
      have hne : y ≠ x := by rintro rfl; exact h1 hy
      exact (List.mem_erase_of_ne hne).2 (hs y (.tail _ hy))
    rw [List.length_erase_of_mem hx] at this
    have := List.length_pos_of_mem hx
    simp only [List.length_cons]; omega
theorem hits_le (c : UInt8) (av : List Txt) (n : Nat) : hits c av n ≤ av.length := by
  unfold hits
  rw [← List.length_map (f := nm c)]
  refine sub_length ?_ ?_
  · have h1 : ((List.range n).filter fun k => decide (nm c k ∈ av)).Nodup := List.nodup_range.filter _
    unfold List.Nodup at h1 ⊢
    rw [List.pairwise_map]
    exact h1.imp fun h e => h (nm_inj e)
  · intro x hx
    obtain ⟨k, hk, rfl⟩ := List.mem_map.1 hx
    simpa using (List.mem_filter.1 hk).2
/-- The next number whose name is not barred. -/
def frs (c : UInt8) (av : List Txt) : Nat → Nat → Nat
  | 0, n => n
  | k + 1, n => if nm c n ∈ av then frs c av k (n + 1) else n
theorem frs_hits {c : UInt8} {av : List Txt} : ∀ {k n : Nat}, av.length ≤ hits c av n + k → nm c (frs c av k n) ∉ av ∧ n ≤ frs c av k n ∧ frs c av k n + hits c av n = n + hits c av (frs c av k n)
  | 0, n, h => by
    have h1 := hits_le c av (n + 1)
    rw [hits_succ] at h1
    refine ⟨fun hm => ?_, Nat.le_refl _, rfl⟩
    simp only [frs] at hm
    rw [if_pos hm] at h1; omega
  | k + 1, n, h => by
    simp only [frs]
    by_cases hm : nm c n ∈ av
    · rw [if_pos hm]
      have h2 := hits_succ c av n
      rw [if_pos hm] at h2
      obtain ⟨h3, h4, h5⟩ := frs_hits (c := c) (av := av) (k := k) (n := n + 1) (by omega)
      exact ⟨h3, by omega, by omega⟩
    · rw [if_neg hm]; exact ⟨hm, Nat.le_refl _, rfl⟩
def fr (c : UInt8) (av : List Txt) (n : Nat) : Nat := frs c av av.length n
theorem fr_facts (c : UInt8) (av : List Txt) (n : Nat) : nm c (fr c av n) ∉ av ∧ n ≤ fr c av n ∧ fr c av n + hits c av n = n + hits c av (fr c av n) := frs_hits (by omega)
theorem fr_hits_succ (c : UInt8) (av : List Txt) (n : Nat) : fr c av n + 1 + hits c av n = n + 1 + hits c av (fr c av n + 1) := by
  obtain ⟨h1, h2, h3⟩ := fr_facts c av n
  have := hits_succ c av (fr c av n)
  rw [if_neg h1] at this; omega
theorem frs_stop {c : UInt8} {av : List Txt} : ∀ {k n m : Nat}, (∀ j, n ≤ j → j < m → nm c j ∈ av) → n ≤ m → m ≤ n + k → nm c m ∉ av → frs c av k n = m
  | 0, n, m, _, h1, h2, _ => by simp only [frs]; omega
  | k + 1, n, m, h, h1, h2, h3 => by
    simp only [frs]
    by_cases hm : nm c n ∈ av
    · rw [if_pos hm]
      have : n ≠ m := by rintro rfl; exact h3 hm
      exact frs_stop (fun j a b => h j (by omega) b) (by omega) (by omega) h3
    · rw [if_neg hm]
      by_cases he : n = m
      · exact he
      · exact absurd (h n (Nat.le_refl _) (by omega)) hm
theorem fr_stop {c : UInt8} {av : List Txt} {n m : Nat} (h : ∀ j, n ≤ j → j < m → nm c j ∈ av) (h1 : n ≤ m) (h3 : nm c m ∉ av) : fr c av n = m := by
  obtain ⟨g1, g2, g3⟩ := fr_facts c av n
  by_cases hlt : fr c av n < m
  · exact absurd (h _ g2 hlt) g1
  · have hmm : m ≤ fr c av n := by omega
    have key : ∀ d, hits c av (n + d) ≤ hits c av n + d := by
      intro d
      induction d with
      | zero => exact Nat.le_refl _
      | succ d ih => rw [← Nat.add_assoc, hits_succ]; split <;> omega
    have h5 : m ≤ n + av.length := by
      have e1 : ∀ d, n + d ≤ m → hits c av (n + d) = hits c av n + d := by
        intro d hd
        induction d with
        | zero => rfl
        | succ d ih =>
          rw [← Nat.add_assoc, hits_succ, if_pos (h (n + d) (by omega) (by omega)), ih (by omega)]; omega
      have e2 := e1 (m - n) (by omega)
      have e3 := hits_le c av (n + (m - n))
      omega
    exact frs_stop h h1 h5 h3

/-- The expression with plain names, and the next number. -/
def Ex.pl (av : List Txt) : Ex → List Txt → List Txt → Nat → Ex × Nat
  | .num s, _, _, n => (.num s, n)
  | .name s, f, t, n => (.name (match lastIdx f s with | some i => t.getD i [] | none => s), n)
  | .bin o a b, f, t, n => let p := a.pl av f t n; let q := b.pl av f t p.2; (.bin o p.1 q.1, q.2)
  | .ite a b c, f, t, n => let p := a.pl av f t n; let q := b.pl av f t p.2; let r := c.pl av f t q.2; (.ite p.1 q.1 r.1, r.2)
  | .lt x a b, f, t, n => let k := fr 120 av n; let p := a.pl av f t (k + 1); let q := b.pl av (f ++ [x]) (t ++ [nm 120 k]) p.2; (.lt (nm 120 k) p.1 q.1, q.2)
  | .fn g x s u b, f, t, n => let k := fr 120 av n; let j := fr 120 av (k + 1); let p := b.pl av (f ++ [g, x]) (t ++ [nm 120 k, nm 120 j]) (j + 1); (.fn (nm 120 k) (nm 120 j) s u p.1, p.2)
  | .un o a, f, t, n => let p := a.pl av f t n; (.un o p.1, p.2)
/-- How many names are bound. -/
def Ex.nb : Ex → Nat
  | .num _ => 0
  | .name _ => 0
  | .bin _ a b => a.nb + b.nb
  | .ite a b c => a.nb + b.nb + c.nb
  | .lt _ a b => 1 + a.nb + b.nb
  | .fn _ _ _ _ b => 2 + b.nb
  | .un _ a => a.nb
theorem Ex.pl_hits (av : List Txt) : ∀ (e : Ex) (f t : List Txt) (n : Nat), n ≤ (e.pl av f t n).2 ∧ (e.pl av f t n).2 + hits 120 av n = n + e.nb + hits 120 av (e.pl av f t n).2
  | .num s, f, t, n => ⟨Nat.le_refl _, by simp [Ex.pl, Ex.nb]⟩
  | .name s, f, t, n => ⟨Nat.le_refl _, by simp [Ex.pl, Ex.nb]⟩
  | .bin o a b, f, t, n => by
    have h1 := a.pl_hits av f t n
    have h2 := b.pl_hits av f t (a.pl av f t n).2
    simp only [Ex.pl, Ex.nb]; omega
  | .ite a b c, f, t, n => by
    have h1 := a.pl_hits av f t n
    have h2 := b.pl_hits av f t (a.pl av f t n).2
    have h3 := c.pl_hits av f t (b.pl av f t (a.pl av f t n).2).2
    simp only [Ex.pl, Ex.nb]; omega
  | .lt x a b, f, t, n => by
    have h0 := fr_hits_succ 120 av n
    have h00 := (fr_facts 120 av n).2.1
    have h1 := a.pl_hits av f t (fr 120 av n + 1)
    have h2 := b.pl_hits av (f ++ [x]) (t ++ [nm 120 (fr 120 av n)]) (a.pl av f t (fr 120 av n + 1)).2
    simp only [Ex.pl, Ex.nb]; omega
  | .fn g x s u b, f, t, n => by
    have h0 := fr_hits_succ 120 av n
    have h00 := (fr_facts 120 av n).2.1
    have h1 := fr_hits_succ 120 av (fr 120 av n + 1)
    have h11 := (fr_facts 120 av (fr 120 av n + 1)).2.1
    have h2 := b.pl_hits av (f ++ [g, x]) (t ++ [nm 120 (fr 120 av n), nm 120 (fr 120 av (fr 120 av n + 1))]) (fr 120 av (fr 120 av n + 1) + 1)
    simp only [Ex.pl, Ex.nb]; omega
  | .un o a, f, t, n => by
    have h1 := a.pl_hits av f t n
    simp only [Ex.pl, Ex.nb]; omega
theorem Ex.pl_size (av : List Txt) : ∀ (e : Ex) (f t : List Txt) (n : Nat), (e.pl av f t n).1.size = e.size ∧ (e.pl av f t n).1.tree.depth = e.tree.depth ∧ (e.pl av f t n).1.many = e.many
  | .num s, f, t, n => ⟨rfl, rfl, rfl⟩
  | .name s, f, t, n => ⟨rfl, rfl, rfl⟩
  | .bin o a b, f, t, n => by
    obtain ⟨h1, h2, h3⟩ := a.pl_size av f t n
    obtain ⟨g1, g2, g3⟩ := b.pl_size av f t (a.pl av f t n).2
    simp only [Ex.pl, Ex.size, Ex.many, Ex.tree, Tree.depth, depthL, List.isEmpty_cons, cond_false, h1, h2, h3, g1, g2, g3, and_self]
  | .ite a b c, f, t, n => by
    obtain ⟨h1, h2, h3⟩ := a.pl_size av f t n
    obtain ⟨g1, g2, g3⟩ := b.pl_size av f t (a.pl av f t n).2
    obtain ⟨k1, k2, k3⟩ := c.pl_size av f t (b.pl av f t (a.pl av f t n).2).2
    simp only [Ex.pl, Ex.size, Ex.many, Ex.tree, Tree.depth, depthL, List.isEmpty_cons, cond_false, h1, h2, h3, g1, g2, g3, k1, k2, k3, and_self]
  | .lt x a b, f, t, n => by
    obtain ⟨h1, h2, h3⟩ := a.pl_size av f t (fr 120 av n + 1)
    obtain ⟨g1, g2, g3⟩ := b.pl_size av (f ++ [x]) (t ++ [nm 120 (fr 120 av n)]) (a.pl av f t (fr 120 av n + 1)).2
    simp only [Ex.pl, Ex.size, Ex.many, Ex.tree, Tree.depth, depthL, List.isEmpty_cons, List.isEmpty_nil, cond_true, cond_false, h1, h2, h3, g1, g2, g3, and_self]
  | .fn g x s u b, f, t, n => by
    obtain ⟨g1, g2, g3⟩ := b.pl_size av (f ++ [g, x]) (t ++ [nm 120 (fr 120 av n), nm 120 (fr 120 av (fr 120 av n + 1))]) (fr 120 av (fr 120 av n + 1) + 1)
    simp only [Ex.pl, Ex.size, Ex.many, Ex.tree, Tree.depth, depthL, List.isEmpty_cons, List.isEmpty_nil, cond_true, cond_false, g1, g2, g3, and_self]
  | .un o a, f, t, n => by
    obtain ⟨h1, h2, h3⟩ := a.pl_size av f t n
    simp only [Ex.pl, Ex.size, Ex.many, Ex.tree, Tree.depth, depthL, List.isEmpty_cons, cond_false, h1, h2, h3, and_self]
/-- How many names stand in an expression. -/
theorem Ex.nb_occ : ∀ (e : Ex) (bd : List Txt), 3 * (e.nb + (e.occ bd).length) ≤ 2 * e.size + 1
  | .num s, bd => by simp [Ex.nb, Ex.occ, Ex.size]
  | .name s, bd => by simp only [Ex.nb, Ex.occ, Ex.size]; split <;> simp
  | .bin o a b, bd => by have := a.nb_occ bd; have := b.nb_occ bd; simp only [Ex.nb, Ex.occ, Ex.size, List.length_append]; omega
  | .ite a b c, bd => by have := a.nb_occ bd; have := b.nb_occ bd; have := c.nb_occ bd; simp only [Ex.nb, Ex.occ, Ex.size, List.length_append]; omega
  | .lt x a b, bd => by have := a.nb_occ bd; have := b.nb_occ (bd ++ [x]); simp only [Ex.nb, Ex.occ, Ex.size, List.length_append]; omega
  | .fn f x s t b, bd => by have := b.nb_occ (bd ++ [f, x]); have := s.size_pos; have := t.size_pos; simp only [Ex.nb, Ex.occ, Ex.size]; omega
  | .un o a, bd => by have := a.nb_occ bd; simp only [Ex.nb, Ex.occ, Ex.size]; omega
end Go.Proofs.YtmjjhbnkjafhdaaDoor


/- Expressions with plain names are expressions. No conditions. -/
namespace Go.Proofs.YtmjjhbnkjafhdaaDoor
set_option maxRecDepth 100000
set_option linter.unusedVariables false
set_option linter.unusedSimpArgs false

theorem digit_of {d : Nat} (h : d < 10) : digit (UInt8.ofNat (48 + d)) = true := by
  have : (UInt8.ofNat (48 + d)).toNat = 48 + d := by simp [UInt8.toNat_ofNat]; omega
  simp only [digit, this, Bool.and_eq_true, decide_eq_true_eq]; omega
theorem decT_digits : ∀ n : Nat, (decT n).all digit = true := by
  intro n
  induction n using Nat.strongRecOn with
  | _ n ih =>
    by_cases h : n < 10
    · rw [decT_small h]; simp only [List.all_cons, List.all_nil, Bool.and_true]; exact digit_of h
    · rw [decT_big h, List.all_append, ih (n / 10) (by omega)]
      simp only [List.all_cons, List.all_nil, Bool.and_true, Bool.true_and]; exact digit_of (Nat.mod_lt n (by omega))
theorem decT_len {n : Nat} (h : n < 1000) : (decT n).length ≤ 3 := by
  by_cases h1 : n < 10
  · rw [decT_small h1]; simp
  · rw [decT_big h1, List.length_append]
    by_cases h2 : n / 10 < 10
    · rw [decT_small h2]; simp
    · rw [decT_big h2, List.length_append, decT_small (show n / 10 / 10 < 10 by omega)]; simp
theorem nm_name {c : UInt8} {n : Nat} (hc : lower c = true) (h : n < 1000) : isName (nm c n) = true := by
  have := decT_len h
  simp [nm, isName, hc, decT_digits n, this]
def namesL (l : List Txt) : Prop := ∀ s ∈ l, isName s = true
theorem namesL.add {l m : List Txt} (h : namesL l) (h' : namesL m) : namesL (l ++ m) := by
  intro s hs
  rcases List.mem_append.1 hs with hs | hs
  · exact h s hs
  · exact h' s hs
theorem Ex.pl_ok {av : List Txt} : ∀ {e : Ex} {f t : List Txt} {n : Nat}, e.ok = true → namesL t → f.length = t.length → n + e.nb + av.length ≤ 900 + hits 120 av n → (e.pl av f t n).1.ok = true
  | .num s, f, t, n, h, _, _, _ => h
  | .name s, f, t, n, h, ht, hl, _ => by
    simp only [Ex.pl, Ex.ok]
    cases hi : lastIdx f s with
    | none => exact h
    | some i =>
      have h1 := (lastAt_lt (show lastAt f s f.length = some i from hi)).1
      have h2 : i < t.length := by omega
      show isName (t.getD i []) = true
      rw [show t.getD i [] = t[i] by simp [h2]]
      exact ht _ (List.getElem_mem h2)
  | .bin o a b, f, t, n, h, ht, hl, hn => by
    simp only [Ex.ok, Bool.and_eq_true] at h
    simp only [Ex.nb] at hn
    have h1 := a.pl_hits av f t n
    have h2 := hits_le 120 av (a.pl av f t n).2
    simp only [Ex.pl, Ex.ok, Bool.and_eq_true]
    exact ⟨Ex.pl_ok h.1 ht hl (by omega), Ex.pl_ok h.2 ht hl (by omega)⟩
  | .ite a b c, f, t, n, h, ht, hl, hn => by
    simp only [Ex.ok, Bool.and_eq_true] at h
    simp only [Ex.nb] at hn
    have h1 := a.pl_hits av f t n
    have h2 := b.pl_hits av f t (a.pl av f t n).2
    have h3 := hits_le 120 av (a.pl av f t n).2
    have h4 := hits_le 120 av (b.pl av f t (a.pl av f t n).2).2
    simp only [Ex.pl, Ex.ok, Bool.and_eq_true]
    exact ⟨⟨Ex.pl_ok h.1.1 ht hl (by omega), Ex.pl_ok h.1.2 ht hl (by omega)⟩, Ex.pl_ok h.2 ht hl (by omega)⟩
  | .lt x a b, f, t, n, h, ht, hl, hn => by
    simp only [Ex.ok, Bool.and_eq_true] at h
    simp only [Ex.nb] at hn
    have h0 := fr_hits_succ 120 av n
    have h1 := a.pl_hits av f t (fr 120 av n + 1)
    have h2 := hits_le 120 av (fr 120 av n + 1)
    have h3 := hits_le 120 av (a.pl av f t (fr 120 av n + 1)).2
    have h4 := hits_le 120 av n
    have hz : isName (nm 120 (fr 120 av n)) = true := nm_name (by decide) (by omega)
    simp only [Ex.pl, Ex.ok, Bool.and_eq_true]
    exact ⟨⟨hz, Ex.pl_ok h.1.2 ht hl (by omega)⟩, Ex.pl_ok h.2 (ht.add fun s hs => by rw [List.mem_singleton.1 hs]; exact hz) (by simp [hl]) (by omega)⟩
  | .fn g x s u b, f, t, n, h, ht, hl, hn => by
    simp only [Ex.ok, Bool.and_eq_true, decide_eq_true_eq] at h
    obtain ⟨⟨⟨⟨⟨h1, h2⟩, h3⟩, h4⟩, h5⟩, h6⟩ := h
    simp only [Ex.nb] at hn
    have k0 := fr_hits_succ 120 av n
    have k1 := fr_hits_succ 120 av (fr 120 av n + 1)
    have k2 := hits_le 120 av (fr 120 av n + 1)
    have k3 := hits_le 120 av (fr 120 av (fr 120 av n + 1) + 1)
    have k5 := hits_le 120 av n
    have k4 := (fr_facts 120 av (fr 120 av n + 1)).2.1
    have hz1 : isName (nm 120 (fr 120 av n)) = true := nm_name (by decide) (by omega)
    have hz2 : isName (nm 120 (fr 120 av (fr 120 av n + 1))) = true := nm_name (by decide) (by omega)
    simp only [Ex.pl, Ex.ok, Bool.and_eq_true, decide_eq_true_eq]
    refine ⟨⟨⟨⟨⟨hz1, hz2⟩, fun e => ?_⟩, h4⟩, h5⟩, Ex.pl_ok h6 (ht.add fun s hs => ?_) (by simp [hl]) (by omega)⟩
    · have := nm_inj e; omega
    · simp only [List.mem_cons, List.not_mem_nil, or_false] at hs
      rcases hs with rfl | rfl
      · exact hz1
      · exact hz2
  | .un o a, f, t, n, h, ht, hl, hn => by
    simp only [Ex.pl, Ex.ok]
    exact Ex.pl_ok (e := a) h ht hl (by simpa [Ex.nb] using hn)
theorem B5.txt_len (o : B5) : o.txt.length ≤ 4 := by cases o <;> decide
theorem U2.txt_len (o : U2) : o.txt.length ≤ 3 := by cases o <;> decide
/-- An expression's text is short. -/
theorem Ex.len_size : ∀ {e : Ex}, e.ok = true → e.tree.len + 1 ≤ 8 * e.size
  | .num s, h => by
    have h : isNum s = true := h
    have : s.length ≤ 4 := by
      simp only [isNum, Bool.or_eq_true, Bool.and_eq_true, decide_eq_true_eq] at h
      rcases h with h | h
      · rw [h]; decide
      · have h1 := h.1.1.2
        unfold unsign at h1
        split at h1
        · simp only [List.length_drop] at h1; omega
        · omega
    simp only [Ex.tree, Tree.len, List.isEmpty_nil, cond_true, Ex.size]; omega
  | .name s, h => by
    have := isName_len (show isName s = true from h)
    simp only [Ex.tree, Tree.len, List.isEmpty_nil, cond_true, Ex.size]; omega
  | .bin o a b, h => by
    simp only [Ex.ok, Bool.and_eq_true] at h
    have h1 := Ex.len_size h.1; have h2 := Ex.len_size h.2; have h3 := o.txt_len
    simp only [Ex.tree, Tree.len, lenL, List.isEmpty_nil, List.isEmpty_cons, cond_true, cond_false, Ex.size]; omega
  | .ite a b c, h => by
    simp only [Ex.ok, Bool.and_eq_true] at h
    have h1 := Ex.len_size h.1.1; have h2 := Ex.len_size h.1.2; have h3 := Ex.len_size h.2
    simp only [Ex.tree, Tree.len, lenL, List.isEmpty_nil, List.isEmpty_cons, cond_true, cond_false, Ex.size, tIf, List.length_cons, List.length_nil]; omega
  | .lt x a b, h => by
    simp only [Ex.ok, Bool.and_eq_true] at h
    have h1 := Ex.len_size h.1.2; have h2 := Ex.len_size h.2; have h3 := isName_len h.1.1
    simp only [Ex.tree, Tree.len, lenL, List.isEmpty_nil, List.isEmpty_cons, cond_true, cond_false, Ex.size, tLet, List.length_cons, List.length_nil]; omega
  | .fn f x s t b, h => by
    simp only [Ex.ok, Bool.and_eq_true, decide_eq_true_eq] at h
    obtain ⟨⟨⟨⟨⟨h1, h2⟩, h3⟩, h4⟩, h5⟩, h6⟩ := h
    have k1 := Ex.len_size h6; have k2 := isName_len h1; have k3 := isName_len h2
    have k4 := s.tree_small; have k5 := t.tree_small; have k6 := s.size_pos; have k7 := t.size_pos
    simp only [Ex.tree, Tree.len, lenL, List.isEmpty_nil, List.isEmpty_cons, cond_true, cond_false, Ex.size, tFun, List.length_cons, List.length_nil]; omega
  | .un o a, h => by
    have h1 := Ex.len_size (e := a) h; have h3 := o.txt_len
    simp only [Ex.tree, Tree.len, lenL, List.isEmpty_nil, List.isEmpty_cons, cond_true, cond_false, Ex.size]; omega
/-- The plain one of an expression. -/
def Ex.plain (e : Ex) : Ex := (e.pl e.free [] [] 0).1
theorem addAll_len' (l m : List Txt) : (addAll l m).length ≤ l.length + m.length := by
  induction m generalizing l with
  | nil => exact Nat.le_refl _
  | cons s m ih =>
    have h1 : (addOnce l s).length ≤ l.length + 1 := by unfold addOnce; split <;> simp
    have h2 := ih (addOnce l s)
    simp only [addAll, List.foldl_cons, List.length_cons] at *
    omega
theorem plain_room {e : Ex} (h : e.size ≤ 120) : e.nb + e.free.length ≤ 80 := by
  have h1 := e.nb_occ []
  have h2 := addAll_len' [] (e.occ [])
  simp only [List.length_nil, Nat.zero_add] at h2
  have h3 : e.free.length ≤ (e.occ []).length := h2
  omega
theorem plain_fine {e : Ex} (h : e.fine = true) : e.plain.fine = true := by
  simp only [Ex.fine, Bool.and_eq_true, decide_eq_true_eq, Tree.fits] at h
  obtain ⟨h1, h2, h3⟩ := e.pl_size e.free [] [] 0
  have hr := plain_room h.1.2
  have hok : e.plain.ok = true := Ex.pl_ok h.1.1 (fun s hs => by cases hs) rfl (by omega)
  have hl := Ex.len_size hok
  have h4 : e.plain.size = e.size := h1
  have h5 : e.plain.tree.depth = e.tree.depth := h2
  simp only [Ex.fine, Bool.and_eq_true, decide_eq_true_eq, Tree.fits]
  exact ⟨⟨hok, by omega⟩, by omega, by omega⟩
def plainOf (s : Txt) : Option Txt := (exOf s).map fun e => e.plain.tree.text
end Go.Proofs.YtmjjhbnkjafhdaaDoor


/- Fresh plain names, by the program and by the reference. No conditions. -/
namespace Go.Proofs.YtmjjhbnkjafhdaaDoor
set_option maxRecDepth 100000
set_option linter.unusedVariables false
set_option linter.unusedSimpArgs false

def lookOr (l m : List Txt) (s : Txt) : Txt := match lastIdx l s with
  | some i => m.getD i []
  | none => s
theorem g_l2Look {I : Heap} {oa ob : Option Addr} {l m : List Txt} {c c' : Nat} (h : Strs I oa l c) (h' : Strs I ob m c') (hlm : l.length = m.length) (s : Txt) (L : Own) :
    Fun Tryd.prog 31 [.slice oa l.length c, .slice ob m.length c', .string (str s)] I L (Only (.string (str (lookOr l m s))) I L) := by
  have hlen := h.len
  unfold maxN at hlen
  refine fun_intro (by simp) ?_
  refine s_seq ?_
  refine o_enter rfl ?_
  refine o_assign rfl .free rfl ?_
  refine o_done ?_
  refine s_seq ?_
  refine s_seq ?_
  refine o_enter rfl ?_
  refine o_move rfl .free rfl ?_
  refine o_len_slice rfl .free rfl ?_
  refine o_arith rfl rfl rfl (by omega) .free rfl ?_
  refine o_assign rfl .free rfl ?_
  refine o_done ?_
  refine s_block ?_
  refine s_while (X := Nat) (fun n => n) (fun n => [(0, .slice oa l.length c), (1, .slice ob m.length c'), (2, .string (str s)), (7, .int .i64 ((n : Int) - 1))]) (fun _ => I) (fun _ => L) (fun n => n ≤ l.length ∧ lastIdx l s = lastAt l s n) l.length ⟨Nat.le_refl _, rfl⟩ ⟨rfl, rfl, rfl, rfl, trivial⟩ drops ?_
  rintro n ⟨hn, hl⟩ ih
  refine s_seq ?_
  refine s_seq ?_
  refine o_enter rfl ?_
  refine o_move rfl .free rfl ?_
  refine o_cmp rfl rfl rfl .free rfl ?_
  refine o_done ?_
  first | refine s_if rfl ?_ ?_ | refine s_ifn rfl ?_ ?_ | refine s_cond rfl ?_ ?_
  · intro c0
    obtain ⟨k, rfl⟩ : ∃ k, n = k + 1 := ⟨n - 1, by omega⟩
    obtain ⟨x, hx, hst⟩ := h.at k (by omega)
    obtain ⟨y, hy, hst'⟩ := h'.at k (by omega)
    refine s_put (t := 7) (v' := .int .i64 (k : Nat)) rfl (by congr 1; omega) ?_
    simp only [lastAt, List.getD_eq_getElem?_getD, List.getElem?_eq_getElem (show k < l.length by omega), Option.getD_some] at hl
    refine s_skip ?_
    refine s_seq ?_
    refine s_block ?_
    refine s_seq ?_
    refine o_enter rfl ?_
    refine o_move rfl .free rfl ?_
    refine o_move rfl .free rfl ?_
    refine o_indexAddr' rfl rfl _ rfl (by first | omega | exact lt_of (by assumption) (by decide) | (simp; done) | (simp; omega) | decide | (simp at *; omega)) (by first | rfl | assumption) .free rfl ?_
    refine o_lS rfl .free rfl ?_
    refine o_move rfl .free rfl ?_
    refine o_cmps rfl rfl rfl .free rfl ?_
    refine o_done ?_
    first | refine s_if rfl ?_ ?_ | refine s_ifn rfl ?_ ?_ | refine s_cond rfl ?_ ?_
    · intro c1
      refine s_seq ?_
      refine o_enter rfl ?_
      refine o_move rfl .free rfl ?_
      refine o_move rfl .free rfl ?_
      refine o_indexAddr' rfl rfl _ rfl (by first | omega | exact lt_of (by assumption) (by decide) | (simp; done) | (simp; omega) | decide | (simp at *; omega)) (by first | rfl | assumption) .free rfl ?_
      refine o_lS rfl .free rfl ?_
      refine o_assign rfl .free rfl ?_
      refine o_done ?_
      refine s_ret (.tmp rfl .nil) ?_
      refine only rfl ?_
      rw [if_pos (by assumption)] at hl
      simp only [lookOr, hl]; simp [retOne, show k < m.length by omega]
    intro c1
    refine s_skip ?_
    refine s_inBlock ?_
    refine o_enter rfl ?_
    refine o_move rfl .free rfl ?_
    refine o_arith rfl rfl rfl (by omega) .free rfl ?_
    refine o_assign rfl .free rfl ?_
    refine o_done ?_
    refine s_env (E' := [(0, .slice oa l.length c), (1, .slice ob m.length c'), (2, .string (str s)), (7, .int .i64 ((k : Int) - 1))]) ⟨rfl, rfl, rfl, rfl, trivial⟩ (ih k ⟨by omega, ?_⟩ (by omega))
    rw [hl, if_neg (by assumption)]
  intro c0
  refine s_exit rfl ?_
  refine s_seq ?_
  refine o_enter rfl ?_
  refine o_move rfl .free rfl ?_
  refine o_assign rfl .free rfl ?_
  refine o_done ?_
  refine s_ret (.tmp rfl .nil) ?_
  refine only rfl ?_
  obtain rfl : n = 0 := by omega
  simp only [lookOr, hl, lastAt]; rfl
theorem g_l1Atom (s : Txt) (I : Heap) (L : Own) : Fun Tryd.prog 30 [.string (str s)] I L (Only (.agg [.string (str s), .slice none 0 0].toArray) I L) := by
  refine fun_intro (by simp) ?_
  refine s_seq ?_
  refine o_enter rfl ?_
  refine o_alloc .free rfl ?_
  intro b2
  refine o_done ?_
  refine s_seq ?_
  refine o_enter rfl ?_
  refine o_move rfl .free rfl ?_
  refine o_struct rfl rfl rfl .free rfl ?_
  refine o_st rfl rfl rfl rfl .free ?_
  refine o_done ?_
  refine s_ret (.c rfl .nil) ?_
  refine only rfl ?_
  rfl
theorem fr_le (c : UInt8) (av : List Txt) (n : Nat) : fr c av n ≤ n + av.length := by
  have h1 := (fr_facts c av n).2.2
  have h2 := hits_le c av (fr c av n)
  omega
/-- The reference's namer. -/
def rn (b : Nat) (oa : Option Addr) (av : List Txt) (c n : Nat) : Nat × Obj := (b, .cells [.slice oa av.length c, .int .i64 (n : Nat)].toArray 45 (0, 0))
theorem g_l2Fresh {I : Heap} {oa : Option Addr} {av : List Txt} {c : Nat} (hav : Strs I oa av c) (b n : Nat) (hn : n + av.length ≤ 900) (L : Own) :
    Fun Tryd.prog 32 [.pointer (some ⟨b, 0, none⟩)] I (rn b oa av c n :: L) (fun v I' L' => v = .string (str (nm 120 (fr 120 av n))) ∧ I = I' ∧ L' = rn b oa av c (fr 120 av n + 1) :: L) := by
  obtain ⟨f1, f2, f3⟩ := fr_facts 120 av n
  have f4 := fr_le 120 av n
  refine fun_intro (by simp) ?_
  refine s_seq ?_
  refine o_enter rfl ?_
  refine o_assign rfl .free rfl ?_
  refine o_done ?_
  refine s_block ?_
  refine s_while (X := Nat) (fun m => fr 120 av n + 1 - m) (fun m => [(0, .pointer (some ⟨b, 0, none⟩))]) (fun _ => I) (fun m => rn b oa av c m :: L) (fun m => n ≤ m ∧ m ≤ fr 120 av n ∧ ∀ j, n ≤ j → j < m → nm 120 j ∈ av) n ⟨Nat.le_refl _, f2, fun j h1 h2 => absurd h2 (by omega)⟩ ⟨rfl, trivial⟩ (fun _ h => h) ?_
  rintro m ⟨hm1, hm2, hm3⟩ ih
  unfold rn
  have hdl := decT_len (n := m) (by omega)
  refine s_block ?_
  refine s_seq ?_
  refine o_enter rfl ?_
  refine o_move rfl .free rfl ?_
  refine o_nilCheck rfl .free rfl ?_
  first | refine o_fieldAddr rfl .free rfl ?_ | refine o_fieldAddr' rfl .free rfl ?_
  refine o_lJ rfl .free rfl ?_
  refine o_call rfl .free rfl (g_l6Dec _ m (Nat.lt_succ_self _) (by omega) _ _) ?_
  rintro _ _ _ _ ⟨rfl, rfl, rfl⟩
  refine o_concat rfl rfl (by first | omega | (simp only [List.length_append, List.length_cons, List.length_nil]; omega) | (simp; omega)) .free rfl ?_
  refine o_assign rfl .free rfl ?_
  refine o_done ?_
  refine s_seq ?_
  refine o_enter rfl ?_
  refine o_move rfl .free rfl ?_
  refine o_move rfl .free rfl ?_
  refine o_nilCheck rfl .free rfl ?_
  first | refine o_fieldAddr rfl .free rfl ?_ | refine o_fieldAddr' rfl .free rfl ?_
  refine o_lJ rfl .free rfl ?_
  refine o_arith rfl rfl rfl (by omega) .free rfl ?_
  refine o_nilCheck rfl .free rfl ?_
  first | refine o_fieldAddr rfl .free rfl ?_ | refine o_fieldAddr' rfl .free rfl ?_
  refine o_st rfl rfl rfl rfl .free ?_
  refine o_done ?_
  refine s_seq ?_
  refine o_enter rfl ?_
  refine o_move rfl .free rfl ?_
  refine o_nilCheck rfl .free rfl ?_
  first | refine o_fieldAddr rfl .free rfl ?_ | refine o_fieldAddr' rfl .free rfl ?_
  refine o_lJ rfl .free rfl ?_
  refine o_move rfl .free rfl ?_
  refine o_call rfl .free rfl (g_l1Has (hav.rd _) c (nm 120 m)) ?_
  rintro _ _ _ _ ⟨rfl, rfl, rfl⟩
  refine o_not rfl .free rfl ?_
  refine o_done ?_
  refine s_cond rfl ?_ ?_
  · intro c0
    try simp only [nb] at c0
    refine s_seq ?_
    refine o_enter rfl ?_
    refine o_move rfl .free rfl ?_
    refine o_assign rfl .free rfl ?_
    refine o_done ?_
    refine s_ret (.tmp rfl .nil) ?_
    have hfm : fr 120 av n = m := fr_stop hm3 hm1 c0
    exact ⟨I, _, .refl _, fun _ h => h, by rw [hfm]; rfl, rfl, by rw [hfm]; rfl⟩
  intro c0
  try simp only [nb] at c0
  refine s_skip ?_
  refine s_inBlock ?_
  have hne : m ≠ fr 120 av n := fun e => f1 (e ▸ c0)
  refine s_env (E' := [(0, .pointer (some ⟨b, 0, none⟩))]) ⟨rfl, trivial⟩ (ih (m + 1) ⟨by omega, by omega, fun j h1 h2 => ?_⟩ (by omega))
  by_cases hj : j = m
  · subst hj; exact c0
  · exact hm3 j h1 (by omega)
/-- The program's namer. -/
def pn (b : Nat) (oa : Option Addr) (av : List Txt) (c g n : Nat) : Nat × Obj := (b, .cells [.slice oa av.length c, .int .i64 (g : Nat), .int .i64 (n : Nat)].toArray 51 (0, 0))
theorem f_plainer_name {I : Heap} {oa : Option Addr} {av : List Txt} {c : Nat} (hav : Strs I oa av c) (b g n : Nat) (hn : fr 120 av n < 100) (hg : g ≤ 1000000) (L : Own) :
    Fun Tryd.prog 45 [.pointer (some ⟨b, 0, none⟩)] I (pn b oa av c g n :: L) (fun v I' L' => v = .string (str (nm 120 (fr 120 av n))) ∧ I = I' ∧ L' = pn b oa av c (g + 1) (fr 120 av n + 1) :: L) := by
  obtain ⟨f1, f2, f3⟩ := fr_facts 120 av n
  refine fun_intro (by simp) ?_
  refine s_seq ?_
  refine o_enter rfl ?_
  refine o_assign rfl .free rfl ?_
  refine o_done ?_
  refine s_block ?_
  refine s_while (X := Nat) (fun m => fr 120 av n + 1 - m) (fun m => [(0, .pointer (some ⟨b, 0, none⟩))]) (fun _ => I) (fun m => pn b oa av c g m :: L) (fun m => n ≤ m ∧ m ≤ fr 120 av n ∧ ∀ j, n ≤ j → j < m → nm 120 j ∈ av) n ⟨Nat.le_refl _, f2, fun j h1 h2 => absurd h2 (by omega)⟩ ⟨rfl, trivial⟩ (fun _ h => h) ?_
  rintro m ⟨hm1, hm2, hm3⟩ ih
  unfold pn
  have hdl := decT_len (n := m) (by omega)
  refine s_block ?_
  refine s_seq ?_
  refine o_enter rfl ?_
  refine o_move rfl .free rfl ?_
  refine o_nilCheck rfl .free rfl ?_
  first | refine o_fieldAddr rfl .free rfl ?_ | refine o_fieldAddr' rfl .free rfl ?_
  refine o_lJ rfl .free rfl ?_
  refine o_call rfl .free rfl (f_strconv_Itoa m (by omega) _ _) ?_
  rintro _ _ _ _ ⟨rfl, rfl, rfl⟩
  refine o_concat rfl rfl (by first | omega | (simp only [List.length_append, List.length_cons, List.length_nil]; omega) | (simp; omega)) .free rfl ?_
  refine o_assign rfl .free rfl ?_
  refine o_done ?_
  refine s_seq ?_
  refine o_enter rfl ?_
  refine o_move rfl .free rfl ?_
  refine o_nilCheck rfl .free rfl ?_
  first | refine o_fieldAddr rfl .free rfl ?_ | refine o_fieldAddr' rfl .free rfl ?_
  refine o_lJ rfl .free rfl ?_
  refine o_arith rfl rfl rfl (by omega) .free rfl ?_
  refine o_nilCheck rfl .free rfl ?_
  first | refine o_fieldAddr rfl .free rfl ?_ | refine o_fieldAddr' rfl .free rfl ?_
  refine o_st rfl rfl rfl rfl .free ?_
  refine o_done ?_
  refine s_seq ?_
  refine o_enter rfl ?_
  refine o_move rfl .free rfl ?_
  refine o_nilCheck rfl .free rfl ?_
  first | refine o_fieldAddr rfl .free rfl ?_ | refine o_fieldAddr' rfl .free rfl ?_
  refine o_lJ rfl .free rfl ?_
  refine o_move rfl .free rfl ?_
  refine o_call rfl .free rfl (f_slices_Contains (hav.rd _) c (nm 120 m)) ?_
  rintro _ _ _ _ ⟨rfl, rfl, rfl⟩
  refine o_not rfl .free rfl ?_
  refine o_done ?_
  refine s_cond rfl ?_ ?_
  · intro c0
    try simp only [nb] at c0
    refine s_seq ?_
    refine o_enter rfl ?_
    refine o_move rfl .free rfl ?_
    refine o_nilCheck rfl .free rfl ?_
    first | refine o_fieldAddr rfl .free rfl ?_ | refine o_fieldAddr' rfl .free rfl ?_
    refine o_lJ rfl .free rfl ?_
    refine o_arith rfl rfl rfl (by omega) .free rfl ?_
    refine o_nilCheck rfl .free rfl ?_
    first | refine o_fieldAddr rfl .free rfl ?_ | refine o_fieldAddr' rfl .free rfl ?_
    refine o_st rfl rfl rfl rfl .free ?_
    refine o_done ?_
    refine s_seq ?_
    refine o_enter rfl ?_
    refine o_move rfl .free rfl ?_
    refine o_assign rfl .free rfl ?_
    refine o_done ?_
    refine s_ret (.tmp rfl .nil) ?_
    have hfm : fr 120 av n = m := fr_stop hm3 hm1 c0
    exact ⟨I, _, .refl _, fun _ h => h, by rw [hfm]; rfl, rfl, by rw [hfm]; rfl⟩
  intro c0
  try simp only [nb] at c0
  refine s_skip ?_
  refine s_inBlock ?_
  have hne : m ≠ fr 120 av n := fun e => f1 (e ▸ c0)
  refine s_env (E' := [(0, .pointer (some ⟨b, 0, none⟩))]) ⟨rfl, trivial⟩ (ih (m + 1) ⟨by omega, by omega, fun j h1 h2 => ?_⟩ (by omega))
  by_cases hj : j = m
  · subst hj; exact c0
  · exact hm3 j h1 (by omega)
end Go.Proofs.YtmjjhbnkjafhdaaDoor


/- An expression put for a name. No conditions. -/
namespace Go.Proofs.YtmjjhbnkjafhdaaDoor
set_option maxRecDepth 100000
set_option linter.unusedVariables false
set_option linter.unusedSimpArgs false

end Go.Proofs.YtmjjhbnkjafhdaaDoor


/- Plain names given to an expression, by the program. No conditions. -/
namespace Go.Proofs.YtmjjhbnkjafhdaaDoor
set_option maxRecDepth 100000
set_option linter.unusedVariables false
set_option linter.unusedSimpArgs false

def PE (b : Nat) (oa : Option Addr) (av : List Txt) (c g : Nat) (p : Ex × Nat) (L : Own) : Post := fun v I' L' => ∃ cs, v = .agg (List.toArray cs) ∧ Rep I' p.1.tree cs ∧ L' = pn b oa av c g p.2 :: L
theorem nm_len {n : Nat} (h : n < 1000) : (nm 120 n).length ≤ maxN := Ex.name_len (nm_name (by decide) h)
set_option maxHeartbeats 2000000 in
theorem f_plainer_expr : ∀ (n : Nat) {I : Heap} {e : Ex} {cs : List Value} (_ : SizeOf.sizeOf e < n) (_ : Rep I e.tree cs) (_ : e.ok = true) {f t : List Txt} {of ot : Option Addr} {cf ct : Nat} (_ : Strs I of f cf) (_ : Strs I ot t ct) (_ : f.length = t.length) (_ : namesL f) (_ : f.length + 2 * e.size ≤ 100000)
    {oa : Option Addr} {av : List Txt} {c : Nat} (_ : Strs I oa av c) (b g k : Nat) (_ : k + e.nb + av.length ≤ 90 + hits 120 av k) (_ : g + e.nb ≤ 100000) (L : Own),
    Fun Tryd.prog 20 [.pointer (some ⟨b, 0, none⟩), .agg cs.toArray, .slice of f.length cf, .slice ot t.length ct] I (pn b oa av c g k :: L) (PE b oa av c (g + e.nb) (e.pl av f t k) L) := by
  intro n
  induction n with
  | zero => intro I e cs h; omega
  | succ n ihn =>
    intro I e cs hlt h hok f t of ot cf ct hfr hto hft hnf hfl ov av cv hav bp g k hk hg L
    obtain ⟨oa, c, oaf, cf1, rfl, hf, hcl, hcs⟩ := h.cells
    have hle : HLe I I := .refl _
    have ha := hf.alen
    have hh0 := hits_le 120 av k
    refine fun_intro (by simp) ?_
    refine s_seq ?_
    refine o_enter rfl ?_
    refine o_box rfl rfl .free rfl ?_
    intro b5
    refine o_alloc .free rfl ?_
    intro b8
    refine o_done ?_
    refine s_seq ?_
    refine s_seq ?_
    refine o_enter rfl ?_
    refine o_lOS rfl .free rfl ?_
    refine o_call rfl .free rfl (f_form_isAtom hf.rep _) ?_
    rintro _ _ _ _ ⟨rfl, rfl, rfl⟩
    refine o_done ?_
    refine s_cond rfl ?_ ?_
    · intro c0
      try simp only [nb] at c0
      have hb : e.bare = true := by rw [Ex.bare_parts]; exact c0
      refine s_seq ?_
      refine s_seq ?_
      refine o_enter rfl ?_
      refine o_move rfl .free rfl ?_
      refine o_fieldAddr rfl .free rfl ?_
      refine o_lO1 rfl .free rfl ?_
      refine o_call rfl .free rfl (f_lastIndex hfr e.tree.atom _) ?_
      rintro _ _ _ _ ⟨rfl, rfl, rfl⟩
      refine o_assign rfl .free rfl ?_
      refine o_done ?_
      refine s_seq ?_
      refine o_enter rfl ?_
      refine o_move rfl .free rfl ?_
      refine o_cmp rfl rfl rfl .free rfl ?_
      refine o_done ?_
      refine s_cond rfl ?_ ?_
      · intro c1
        try simp only [nb] at c1
        obtain ⟨i, hi⟩ : ∃ i, lastIdx f e.tree.atom = some i := by
          cases hi : lastIdx f e.tree.atom with
          | none => rw [hi] at c1; simp [idxVal] at c1
          | some i => exact ⟨i, rfl⟩
        have hil := (lastAt_lt (show lastAt f e.tree.atom f.length = some i from hi)).1
        have hit : i < t.length := by omega
        have hst := hto.st i hit
        rw [hi]
        refine s_seq ?_
        refine o_enter rfl ?_
        refine o_move rfl .free rfl ?_
        refine o_move rfl .free rfl ?_
        first | refine o_ixD rfl rfl _ rfl .free rfl ?_ | refine o_ixP rfl rfl _ rfl .free rfl ?_
        refine o_lI1 rfl .free rfl ?_
        refine o_call rfl .free rfl (f_atom (t.getD i []) (by rw [show t.getD i [] = t[i] by simp [hit]]; exact hto.each _ (List.getElem_mem _)) _ _) ?_
        rintro _ _ _ _ ⟨rfl, rfl, rfl⟩
        refine o_st rfl rfl rfl rfl .free ?_
        refine o_done ?_
        refine s_ret (.c rfl .nil) ?_
        cases e with
        | name s =>
          have hi : lastIdx f s = some i := hi
          refine ⟨I, _, .refl _, fun w h => Mem.sub (L' := pn bp ov av cv g k :: L) (by repeat (first | exact List.Sublist.refl _ | apply List.Sublist.cons_cons | apply List.Sublist.cons)) h, _, rfl, ?_, rfl⟩
          show Rep I (.node (match lastIdx f s with | some i => t.getD i [] | none => s) []) _
          rw [hi]
          exact .ofAtom (show (t.getD i []).length ≤ maxN by rw [show t.getD i [] = t[i] by simp [hit]]; exact hto.each _ (List.getElem_mem _))
        | num s =>
          have h1 := name_not_num (hnf s (lastAt_mem hi))
          rw [show isNum s = true from hok] at h1; cases h1
        | _ => cases hb
      intro c1
      try simp only [nb] at c1
      refine s_skip ?_
      refine s_seq ?_
      refine o_enter rfl ?_
      refine o_lOS rfl .free rfl ?_
      refine o_st rfl rfl rfl rfl .free ?_
      refine o_done ?_
      refine s_ret (.c rfl .nil) ?_
      cases e with
      | name s =>
        have hi : lastIdx f s = none := by
          cases hi : lastIdx f s with
          | none => rfl
          | some i => rw [show lastIdx f (Ex.name s).tree.atom = some i from hi] at c1; simp [idxVal] at c1
        refine ⟨I, _, .refl _, fun w h => Mem.sub (L' := pn bp ov av cv g k :: L) (by repeat (first | exact List.Sublist.refl _ | apply List.Sublist.cons_cons | apply List.Sublist.cons)) h, _, rfl, ?_, rfl⟩
        show Rep I (.node (match lastIdx f s with | some i => t.getD i [] | none => s) []) _
        rw [hi]; exact hf.rep
      | num s => exact ⟨I, _, .refl _, fun w h => Mem.sub (L' := pn bp ov av cv g k :: L) (by repeat (first | exact List.Sublist.refl _ | apply List.Sublist.cons_cons | apply List.Sublist.cons)) h, _, rfl, hf.rep, rfl⟩
      | _ => cases hb
    intro c0
    try simp only [nb] at c0
    have hb : e.bare = false := by rw [Ex.bare_parts]; exact c0
    have hsh := e.shapes hb
    have hok0 := hok
    have hpos : 0 < e.tree.parts.length := by
      rw [Ex.bare_parts] at hb
      have : e.tree.parts ≠ [] := by intro hh; rw [hh] at hb; cases hb
      exact List.length_pos_iff.2 this
    obtain ⟨xa, rfl⟩ : ∃ xa, oa = some xa := ⟨_, some_oad hf.nil hpos⟩
    have hp := hf.len
    refine s_skip ?_
    refine s_seq ?_
    refine o_enter rfl ?_
    refine o_fieldAddr rfl .free rfl ?_
    refine o_lO1 rfl .free rfl ?_
    refine o_call rfl .free rfl (f_slices_Clone (hcs _ rfl) (by have := hcl.length; omega) hcl.plain hpos hp _) ?_
    rintro _ _ _ _ ⟨bc, sp, cc, rfl, hcc, rfl, rfl⟩
    refine o_struct rfl rfl rfl .free rfl ?_
    refine o_alloc .free rfl ?_
    intro b10
    refine o_st rfl rfl rfl rfl .free ?_
    refine o_done ?_
    refine s_seq ?_
    rcases hsh with ⟨o, a, b, rfl⟩ | ⟨a, b, d, rfl⟩ | ⟨z, a, b, rfl⟩ | ⟨h1, z, s, u, b, rfl⟩ | ⟨o, a, rfl⟩
    · skip
      have hlen : (Ex.bin o a b).tree.parts.length = 3 := rfl
      have hki := kids_bin o a b
      have hhd : (Ex.bin o a b).tree.head = o.txt := rfl
      simp only [Ex.bin.sizeOf_spec] at hlt
      simp only [Ex.ok, Bool.and_eq_true, decide_eq_true_eq] at hok
      simp only [Ex.nb] at hk hg ⊢
      simp only [Ex.size] at hfl
      obtain ⟨_, hrl⟩ : ∃ _ : True, RepL I (Ex.bin o a b).tree.parts _ := ⟨trivial, hcl⟩
      simp only [show (Ex.bin o a b).tree.parts = [.node o.txt [], a.tree, b.tree] from rfl, cellsF, List.cons_append, List.nil_append] at hrl ⊢
      refine s_mem (fun w h => h.f4) ?_
      refine o_enter rfl ?_
      refine o_assign rfl .free rfl ?_
      refine o_done ?_
      refine s_seq ?_
      refine s_seq ?_
      refine o_enter rfl ?_
      refine o_lOS rfl .free rfl ?_
      refine o_call rfl .free rfl (f_form_head hf.rep _) ?_
      rintro _ _ _ _ ⟨rfl, rfl, rfl⟩
      refine o_done ?_
      refine s_block ?_
      refine s_seq ?_
      refine o_enter rfl ?_
      refine o_cmps rfl rfl rfl .free rfl ?_
      refine o_assign rfl .free rfl ?_
      refine o_done ?_
      first | refine s_fp rfl (by rw [hhd]; cases o <;> decide) ?_ | refine s_fn rfl (by rw [hhd]; cases o <;> decide) ?_ | refine s_false (by simp [look, opd, *]) ?_
      refine s_seq ?_
      refine o_enter rfl ?_
      refine o_cmps rfl rfl rfl .free rfl ?_
      refine o_assign rfl .free rfl ?_
      refine o_done ?_
      first | refine s_fp rfl (by rw [hhd]; cases o <;> decide) ?_ | refine s_fn rfl (by rw [hhd]; cases o <;> decide) ?_ | refine s_false (by simp [look, opd, *]) ?_
      refine s_skip ?_
      refine s_inBlock ?_
      refine s_seq ?_
      refine s_seq ?_
      refine o_enter rfl ?_
      refine o_lOS rfl .free rfl ?_
      refine o_call rfl .free rfl (f_form_kids hf.rep _) ?_
      rintro _ J _ e0 ⟨ok, ck, rfl, hk1, rfl⟩
      have hf := hf.mono e0
      have hfr := hfr.mono e0
      have hto := hto.mono e0
      have hav := hav.mono e0
      have hle := hle.trans e0
      rw [hki] at hk1
      rw [hki]
      refine o_len_slice rfl .free rfl ?_
      refine o_move rfl .free rfl ?_
      refine o_done ?_
      refine s_block ?_
      refine s_loop ?_
      refine s_seq ?_
      refine o_enter rfl ?_
      refine o_cmp rfl rfl rfl .free rfl ?_
      refine o_done ?_
      refine s_seq ?_
      refine s_condT rfl (by first | rfl | decide | (simp; done) | omega) ?_
      refine s_skip ?_
      refine s_seq ?_
      refine s_block ?_
      refine s_seq ?_
      refine o_enter rfl ?_
      first | refine o_ixD rfl rfl _ rfl .free rfl ?_ | refine o_ixP rfl rfl _ rfl .free rfl ?_
      refine o_lI1 rfl .free rfl ?_
      refine o_assign rfl .free rfl ?_
      refine o_done ?_
      refine s_seq ?_
      refine o_enter rfl ?_
      refine o_move rfl .free rfl ?_
      refine o_move rfl .free rfl ?_
      refine o_assign rfl .free rfl ?_
      refine o_assign rfl .free rfl ?_
      refine o_done ?_
      refine s_seq ?_
      refine s_seq ?_
      refine o_enter rfl ?_
      refine o_lOS rfl .free rfl ?_
      refine o_move rfl .free rfl ?_
      refine o_call rfl .free rfl (f_form_bound hf.rep hok0 _ _) ?_
      rintro _ J1 _ e1 ⟨o1, k1, rfl, hs1, rfl⟩
      have hf := hf.mono e1
      have hfr := hfr.mono e1
      have hto := hto.mono e1
      have hav := hav.mono e1
      have hle := hle.trans e1
      have hk1 := hk1.mono e1
      refine o_assign rfl .free rfl ?_
      refine o_done ?_
      refine s_seq ?_
      refine o_enter rfl ?_
      refine o_move rfl .free rfl ?_
      refine o_len_slice rfl .free rfl ?_
      refine o_cmp rfl rfl rfl .free rfl ?_
      refine o_done ?_
      first | refine s_fp rfl (by simp [Ex.binds]) ?_ | refine s_fn rfl (by simp [Ex.binds]) ?_ | refine s_false (by simp [look, opd, *]) ?_
      refine s_skip ?_
      refine s_here fun hlr => ?_
      have hpl := a.pl_hits av (f) (t) k
      refine d_tl 14 rfl rfl ?_
      refine d_takeA 0 rfl (by kernel_rfl) rfl (.inr heldx) (y_fieldAddr rfl) .free rfl ?_
      refine d_take 1 [13] rfl (by kernel_rfl) rfl heldx (y_lO1 rfl) .free rfl ?_
      refine d_takeA 2 rfl (by kernel_rfl) rfl (.inr heldx) (y_move rfl) .free rfl ?_
      refine d_takeA 3 rfl (by kernel_rfl) rfl (.inr heldx) (y_move rfl) .free rfl ?_
      refine d_takeA 4 rfl (by kernel_rfl) rfl (.inr heldx) (y_fieldAddr rfl) .free rfl ?_
      refine d_take 5 [13] rfl (by kernel_rfl) rfl heldx (y_lO1 rfl) .free rfl ?_
      refine d_takeA 6 rfl (by kernel_rfl) rfl (.inr heldx) (y_move rfl) .free rfl ?_
      first | refine d_takeA 7 rfl (by kernel_rfl) rfl (.inr heldx) (y_ixD rfl rfl _ rfl) .free rfl ?_ | refine d_takeA 7 rfl (by kernel_rfl) rfl (.inr heldx) (y_ixP rfl rfl _ rfl) .free rfl ?_
      refine d_take 8 [13] rfl (by kernel_rfl) rfl heldx (y_lIS rfl) .free rfl ?_
      refine d_takeA 9 rfl (by kernel_rfl) rfl (.inr heldx) (y_move rfl) .free rfl ?_
      refine d_takeA 10 rfl (by kernel_rfl) rfl (.inr heldx) (y_move rfl) .free rfl ?_
      refine d_call 11 rfl (by kernel_rfl) rfl rfl .free rfl (ihn (f := f) (t := t) (by omega) (hf.as 1 a.tree (by omega) rfl) hok.1 hfr hto (by simp [hft]) hnf (by first | omega | (simp only [List.length_append, List.length_cons, List.length_nil]; omega)) hav bp _ _ (by omega) (by omega) _) ?_
      rintro _ J2 _ e2 ⟨cs2, rfl, hr_0, rfl⟩
      obtain ⟨o2, k2, _, rfl, -⟩ := hr_0.open
      have hlr := hlr.trans e2
      have hf := hf.mono e2
      have hfr := hfr.mono e2
      have hto := hto.mono e2
      have hav := hav.mono e2
      have hle := hle.trans e2
      have hk1 := hk1.mono e2
      refine ⟨(.inr heldx), ?_⟩
      first | refine d_takeA 12 rfl (by kernel_rfl) rfl (.inr heldx) (y_ixD rfl rfl _ rfl) .free rfl ?_ | refine d_takeA 12 rfl (by kernel_rfl) rfl (.inr heldx) (y_ixP rfl rfl _ rfl) .free rfl ?_
      refine d_st 13 rfl (by kernel_rfl) rfl rfl rfl rfl rfl .free (.inl (by kernel_rfl)) ?_
      refine d_done (by kernel_rfl) ?_
      refine s_inBlock ?_
      refine o_enter rfl ?_
      refine o_arith rfl rfl rfl (by omega) .free rfl ?_
      refine o_move rfl .free rfl ?_
      refine o_done ?_
      refine s_round ?_
      refine s_seq ?_
      refine o_enter rfl ?_
      refine o_cmp rfl rfl rfl .free rfl ?_
      refine o_done ?_
      refine s_seq ?_
      refine s_condT rfl (by first | rfl | decide | (simp; done) | omega) ?_
      refine s_skip ?_
      refine s_seq ?_
      refine s_block ?_
      refine s_seq ?_
      refine o_enter rfl ?_
      first | refine o_ixD rfl rfl _ rfl .free rfl ?_ | refine o_ixP rfl rfl _ rfl .free rfl ?_
      refine o_lI1 rfl .free rfl ?_
      refine o_assign rfl .free rfl ?_
      refine o_done ?_
      refine s_seq ?_
      refine o_enter rfl ?_
      refine o_move rfl .free rfl ?_
      refine o_move rfl .free rfl ?_
      refine o_assign rfl .free rfl ?_
      refine o_assign rfl .free rfl ?_
      refine o_done ?_
      refine s_seq ?_
      refine s_seq ?_
      refine o_enter rfl ?_
      refine o_lOS rfl .free rfl ?_
      refine o_move rfl .free rfl ?_
      refine o_call rfl .free rfl (f_form_bound hf.rep hok0 _ _) ?_
      rintro _ J1 _ e1 ⟨o1, k1, rfl, hs1, rfl⟩
      have hf := hf.mono e1
      have hfr := hfr.mono e1
      have hto := hto.mono e1
      have hav := hav.mono e1
      have hle := hle.trans e1
      have hk1 := hk1.mono e1
      have hr_0 := hr_0.mono e1
      refine o_assign rfl .free rfl ?_
      refine o_done ?_
      refine s_seq ?_
      refine o_enter rfl ?_
      refine o_move rfl .free rfl ?_
      refine o_len_slice rfl .free rfl ?_
      refine o_cmp rfl rfl rfl .free rfl ?_
      refine o_done ?_
      first | refine s_fp rfl (by simp [Ex.binds]) ?_ | refine s_fn rfl (by simp [Ex.binds]) ?_ | refine s_false (by simp [look, opd, *]) ?_
      refine s_skip ?_
      refine s_here fun hlr => ?_
      have hpl := b.pl_hits av (f) (t) (a.pl av (f) (t) k).2
      refine d_tl 14 rfl rfl ?_
      refine d_takeA 0 rfl (by kernel_rfl) rfl (.inr heldx) (y_fieldAddr rfl) .free rfl ?_
      refine d_take 1 [13] rfl (by kernel_rfl) rfl heldx (y_lO1 rfl) .free rfl ?_
      refine d_takeA 2 rfl (by kernel_rfl) rfl (.inr heldx) (y_move rfl) .free rfl ?_
      refine d_takeA 3 rfl (by kernel_rfl) rfl (.inr heldx) (y_move rfl) .free rfl ?_
      refine d_takeA 4 rfl (by kernel_rfl) rfl (.inr heldx) (y_fieldAddr rfl) .free rfl ?_
      refine d_take 5 [13] rfl (by kernel_rfl) rfl heldx (y_lO1 rfl) .free rfl ?_
      refine d_takeA 6 rfl (by kernel_rfl) rfl (.inr heldx) (y_move rfl) .free rfl ?_
      first | refine d_takeA 7 rfl (by kernel_rfl) rfl (.inr heldx) (y_ixD rfl rfl _ rfl) .free rfl ?_ | refine d_takeA 7 rfl (by kernel_rfl) rfl (.inr heldx) (y_ixP rfl rfl _ rfl) .free rfl ?_
      refine d_take 8 [13] rfl (by kernel_rfl) rfl heldx (y_lIS rfl) .free rfl ?_
      refine d_takeA 9 rfl (by kernel_rfl) rfl (.inr heldx) (y_move rfl) .free rfl ?_
      refine d_takeA 10 rfl (by kernel_rfl) rfl (.inr heldx) (y_move rfl) .free rfl ?_
      refine d_call 11 rfl (by kernel_rfl) rfl rfl .free rfl (ihn (f := f) (t := t) (by omega) (hf.as 2 b.tree (by omega) rfl) hok.2 hfr hto (by simp [hft]) hnf (by first | omega | (simp only [List.length_append, List.length_cons, List.length_nil]; omega)) hav bp _ _ (by omega) (by omega) _) ?_
      rintro _ J2 _ e2 ⟨cs2, rfl, hr_1, rfl⟩
      obtain ⟨o2, k2, _, rfl, -⟩ := hr_1.open
      have hlr := hlr.trans e2
      have hf := hf.mono e2
      have hfr := hfr.mono e2
      have hto := hto.mono e2
      have hav := hav.mono e2
      have hle := hle.trans e2
      have hk1 := hk1.mono e2
      have hr_0 := hr_0.mono e2
      refine ⟨(.inr heldx), ?_⟩
      first | refine d_takeA 12 rfl (by kernel_rfl) rfl (.inr heldx) (y_ixD rfl rfl _ rfl) .free rfl ?_ | refine d_takeA 12 rfl (by kernel_rfl) rfl (.inr heldx) (y_ixP rfl rfl _ rfl) .free rfl ?_
      refine d_st 13 rfl (by kernel_rfl) rfl rfl rfl rfl rfl .free (.inl (by kernel_rfl)) ?_
      refine d_done (by kernel_rfl) ?_
      refine s_inBlock ?_
      refine o_enter rfl ?_
      refine o_arith rfl rfl rfl (by omega) .free rfl ?_
      refine o_move rfl .free rfl ?_
      refine o_done ?_
      refine s_round ?_
      refine s_seq ?_
      refine o_enter rfl ?_
      refine o_cmp rfl rfl rfl .free rfl ?_
      refine o_done ?_
      refine s_seq ?_
      refine s_condF rfl (by first | rfl | decide | (simp; done) | omega) ?_
      refine s_exit rfl ?_
      refine s_seq ?_
      refine o_enter rfl ?_
      refine o_lOS rfl .free rfl ?_
      refine o_st rfl rfl rfl rfl .free ?_
      refine o_done ?_
      refine s_mem (fun w h => h.f2) (s_freeze ?_)
      intro hz
      have hf := hf.mono hz
      refine s_ret (.c rfl .nil) ?_
      exact ⟨_, _, hle.trans hz, fun w h => Mem.sub (L' := pn bp ov av cv _ _ :: L) (by repeat (first | exact List.Sublist.refl _ | apply List.Sublist.cons_cons | apply List.Sublist.cons)) h, _, rfl, .mk' rfl (.cons (hf.as 0 (.node o.txt []) (by omega) rfl) (.cons (hr_0.mono hz) (.cons (hr_1.mono hz) (.nil)))) (fun y hy => by cases hy; exact still_set (xs := [_, _, _, _, _, _])) (by simp) hcc (by simp [maxN]) (by simp [maxN]), by first | rfl | (simp only [Nat.add_assoc]; rfl)⟩
    · skip
      have hlen : (Ex.ite a b d).tree.parts.length = 4 := rfl
      have hki := kids_ite a b d
      have hhd : (Ex.ite a b d).tree.head = tIf := rfl
      simp only [Ex.ite.sizeOf_spec] at hlt
      simp only [Ex.ok, Bool.and_eq_true, decide_eq_true_eq] at hok
      simp only [Ex.nb] at hk hg ⊢
      simp only [Ex.size] at hfl
      obtain ⟨_, hrl⟩ : ∃ _ : True, RepL I (Ex.ite a b d).tree.parts _ := ⟨trivial, hcl⟩
      simp only [show (Ex.ite a b d).tree.parts = [.node tIf [], a.tree, b.tree, d.tree] from rfl, cellsF, List.cons_append, List.nil_append] at hrl ⊢
      refine s_mem (fun w h => h.f4) ?_
      refine o_enter rfl ?_
      refine o_assign rfl .free rfl ?_
      refine o_done ?_
      refine s_seq ?_
      refine s_seq ?_
      refine o_enter rfl ?_
      refine o_lOS rfl .free rfl ?_
      refine o_call rfl .free rfl (f_form_head hf.rep _) ?_
      rintro _ _ _ _ ⟨rfl, rfl, rfl⟩
      refine o_done ?_
      refine s_block ?_
      refine s_seq ?_
      refine o_enter rfl ?_
      refine o_cmps rfl rfl rfl .free rfl ?_
      refine o_assign rfl .free rfl ?_
      refine o_done ?_
      first | refine s_fp rfl (by rw [hhd]; decide) ?_ | refine s_fn rfl (by rw [hhd]; decide) ?_ | refine s_false (by simp [look, opd, *]) ?_
      refine s_seq ?_
      refine o_enter rfl ?_
      refine o_cmps rfl rfl rfl .free rfl ?_
      refine o_assign rfl .free rfl ?_
      refine o_done ?_
      first | refine s_fp rfl (by rw [hhd]; decide) ?_ | refine s_fn rfl (by rw [hhd]; decide) ?_ | refine s_false (by simp [look, opd, *]) ?_
      refine s_skip ?_
      refine s_inBlock ?_
      refine s_seq ?_
      refine s_seq ?_
      refine o_enter rfl ?_
      refine o_lOS rfl .free rfl ?_
      refine o_call rfl .free rfl (f_form_kids hf.rep _) ?_
      rintro _ J _ e0 ⟨ok, ck, rfl, hk1, rfl⟩
      have hf := hf.mono e0
      have hfr := hfr.mono e0
      have hto := hto.mono e0
      have hav := hav.mono e0
      have hle := hle.trans e0
      rw [hki] at hk1
      rw [hki]
      refine o_len_slice rfl .free rfl ?_
      refine o_move rfl .free rfl ?_
      refine o_done ?_
      refine s_block ?_
      refine s_loop ?_
      refine s_seq ?_
      refine o_enter rfl ?_
      refine o_cmp rfl rfl rfl .free rfl ?_
      refine o_done ?_
      refine s_seq ?_
      refine s_condT rfl (by first | rfl | decide | (simp; done) | omega) ?_
      refine s_skip ?_
      refine s_seq ?_
      refine s_block ?_
      refine s_seq ?_
      refine o_enter rfl ?_
      first | refine o_ixD rfl rfl _ rfl .free rfl ?_ | refine o_ixP rfl rfl _ rfl .free rfl ?_
      refine o_lI1 rfl .free rfl ?_
      refine o_assign rfl .free rfl ?_
      refine o_done ?_
      refine s_seq ?_
      refine o_enter rfl ?_
      refine o_move rfl .free rfl ?_
      refine o_move rfl .free rfl ?_
      refine o_assign rfl .free rfl ?_
      refine o_assign rfl .free rfl ?_
      refine o_done ?_
      refine s_seq ?_
      refine s_seq ?_
      refine o_enter rfl ?_
      refine o_lOS rfl .free rfl ?_
      refine o_move rfl .free rfl ?_
      refine o_call rfl .free rfl (f_form_bound hf.rep hok0 _ _) ?_
      rintro _ J1 _ e1 ⟨o1, k1, rfl, hs1, rfl⟩
      have hf := hf.mono e1
      have hfr := hfr.mono e1
      have hto := hto.mono e1
      have hav := hav.mono e1
      have hle := hle.trans e1
      have hk1 := hk1.mono e1
      refine o_assign rfl .free rfl ?_
      refine o_done ?_
      refine s_seq ?_
      refine o_enter rfl ?_
      refine o_move rfl .free rfl ?_
      refine o_len_slice rfl .free rfl ?_
      refine o_cmp rfl rfl rfl .free rfl ?_
      refine o_done ?_
      first | refine s_fp rfl (by simp [Ex.binds]) ?_ | refine s_fn rfl (by simp [Ex.binds]) ?_ | refine s_false (by simp [look, opd, *]) ?_
      refine s_skip ?_
      refine s_here fun hlr => ?_
      have hpl := a.pl_hits av (f) (t) k
      refine d_tl 14 rfl rfl ?_
      refine d_takeA 0 rfl (by kernel_rfl) rfl (.inr heldx) (y_fieldAddr rfl) .free rfl ?_
      refine d_take 1 [13] rfl (by kernel_rfl) rfl heldx (y_lO1 rfl) .free rfl ?_
      refine d_takeA 2 rfl (by kernel_rfl) rfl (.inr heldx) (y_move rfl) .free rfl ?_
      refine d_takeA 3 rfl (by kernel_rfl) rfl (.inr heldx) (y_move rfl) .free rfl ?_
      refine d_takeA 4 rfl (by kernel_rfl) rfl (.inr heldx) (y_fieldAddr rfl) .free rfl ?_
      refine d_take 5 [13] rfl (by kernel_rfl) rfl heldx (y_lO1 rfl) .free rfl ?_
      refine d_takeA 6 rfl (by kernel_rfl) rfl (.inr heldx) (y_move rfl) .free rfl ?_
      first | refine d_takeA 7 rfl (by kernel_rfl) rfl (.inr heldx) (y_ixD rfl rfl _ rfl) .free rfl ?_ | refine d_takeA 7 rfl (by kernel_rfl) rfl (.inr heldx) (y_ixP rfl rfl _ rfl) .free rfl ?_
      refine d_take 8 [13] rfl (by kernel_rfl) rfl heldx (y_lIS rfl) .free rfl ?_
      refine d_takeA 9 rfl (by kernel_rfl) rfl (.inr heldx) (y_move rfl) .free rfl ?_
      refine d_takeA 10 rfl (by kernel_rfl) rfl (.inr heldx) (y_move rfl) .free rfl ?_
      refine d_call 11 rfl (by kernel_rfl) rfl rfl .free rfl (ihn (f := f) (t := t) (by omega) (hf.as 1 a.tree (by omega) rfl) hok.1.1 hfr hto (by simp [hft]) hnf (by first | omega | (simp only [List.length_append, List.length_cons, List.length_nil]; omega)) hav bp _ _ (by omega) (by omega) _) ?_
      rintro _ J2 _ e2 ⟨cs2, rfl, hr_0, rfl⟩
      obtain ⟨o2, k2, _, rfl, -⟩ := hr_0.open
      have hlr := hlr.trans e2
      have hf := hf.mono e2
      have hfr := hfr.mono e2
      have hto := hto.mono e2
      have hav := hav.mono e2
      have hle := hle.trans e2
      have hk1 := hk1.mono e2
      refine ⟨(.inr heldx), ?_⟩
      first | refine d_takeA 12 rfl (by kernel_rfl) rfl (.inr heldx) (y_ixD rfl rfl _ rfl) .free rfl ?_ | refine d_takeA 12 rfl (by kernel_rfl) rfl (.inr heldx) (y_ixP rfl rfl _ rfl) .free rfl ?_
      refine d_st 13 rfl (by kernel_rfl) rfl rfl rfl rfl rfl .free (.inl (by kernel_rfl)) ?_
      refine d_done (by kernel_rfl) ?_
      refine s_inBlock ?_
      refine o_enter rfl ?_
      refine o_arith rfl rfl rfl (by omega) .free rfl ?_
      refine o_move rfl .free rfl ?_
      refine o_done ?_
      refine s_round ?_
      refine s_seq ?_
      refine o_enter rfl ?_
      refine o_cmp rfl rfl rfl .free rfl ?_
      refine o_done ?_
      refine s_seq ?_
      refine s_condT rfl (by first | rfl | decide | (simp; done) | omega) ?_
      refine s_skip ?_
      refine s_seq ?_
      refine s_block ?_
      refine s_seq ?_
      refine o_enter rfl ?_
      first | refine o_ixD rfl rfl _ rfl .free rfl ?_ | refine o_ixP rfl rfl _ rfl .free rfl ?_
      refine o_lI1 rfl .free rfl ?_
      refine o_assign rfl .free rfl ?_
      refine o_done ?_
      refine s_seq ?_
      refine o_enter rfl ?_
      refine o_move rfl .free rfl ?_
      refine o_move rfl .free rfl ?_
      refine o_assign rfl .free rfl ?_
      refine o_assign rfl .free rfl ?_
      refine o_done ?_
      refine s_seq ?_
      refine s_seq ?_
      refine o_enter rfl ?_
      refine o_lOS rfl .free rfl ?_
      refine o_move rfl .free rfl ?_
      refine o_call rfl .free rfl (f_form_bound hf.rep hok0 _ _) ?_
      rintro _ J1 _ e1 ⟨o1, k1, rfl, hs1, rfl⟩
      have hf := hf.mono e1
      have hfr := hfr.mono e1
      have hto := hto.mono e1
      have hav := hav.mono e1
      have hle := hle.trans e1
      have hk1 := hk1.mono e1
      have hr_0 := hr_0.mono e1
      refine o_assign rfl .free rfl ?_
      refine o_done ?_
      refine s_seq ?_
      refine o_enter rfl ?_
      refine o_move rfl .free rfl ?_
      refine o_len_slice rfl .free rfl ?_
      refine o_cmp rfl rfl rfl .free rfl ?_
      refine o_done ?_
      first | refine s_fp rfl (by simp [Ex.binds]) ?_ | refine s_fn rfl (by simp [Ex.binds]) ?_ | refine s_false (by simp [look, opd, *]) ?_
      refine s_skip ?_
      refine s_here fun hlr => ?_
      have hpl := b.pl_hits av (f) (t) (a.pl av (f) (t) k).2
      refine d_tl 14 rfl rfl ?_
      refine d_takeA 0 rfl (by kernel_rfl) rfl (.inr heldx) (y_fieldAddr rfl) .free rfl ?_
      refine d_take 1 [13] rfl (by kernel_rfl) rfl heldx (y_lO1 rfl) .free rfl ?_
      refine d_takeA 2 rfl (by kernel_rfl) rfl (.inr heldx) (y_move rfl) .free rfl ?_
      refine d_takeA 3 rfl (by kernel_rfl) rfl (.inr heldx) (y_move rfl) .free rfl ?_
      refine d_takeA 4 rfl (by kernel_rfl) rfl (.inr heldx) (y_fieldAddr rfl) .free rfl ?_
      refine d_take 5 [13] rfl (by kernel_rfl) rfl heldx (y_lO1 rfl) .free rfl ?_
      refine d_takeA 6 rfl (by kernel_rfl) rfl (.inr heldx) (y_move rfl) .free rfl ?_
      first | refine d_takeA 7 rfl (by kernel_rfl) rfl (.inr heldx) (y_ixD rfl rfl _ rfl) .free rfl ?_ | refine d_takeA 7 rfl (by kernel_rfl) rfl (.inr heldx) (y_ixP rfl rfl _ rfl) .free rfl ?_
      refine d_take 8 [13] rfl (by kernel_rfl) rfl heldx (y_lIS rfl) .free rfl ?_
      refine d_takeA 9 rfl (by kernel_rfl) rfl (.inr heldx) (y_move rfl) .free rfl ?_
      refine d_takeA 10 rfl (by kernel_rfl) rfl (.inr heldx) (y_move rfl) .free rfl ?_
      refine d_call 11 rfl (by kernel_rfl) rfl rfl .free rfl (ihn (f := f) (t := t) (by omega) (hf.as 2 b.tree (by omega) rfl) hok.1.2 hfr hto (by simp [hft]) hnf (by first | omega | (simp only [List.length_append, List.length_cons, List.length_nil]; omega)) hav bp _ _ (by omega) (by omega) _) ?_
      rintro _ J2 _ e2 ⟨cs2, rfl, hr_1, rfl⟩
      obtain ⟨o2, k2, _, rfl, -⟩ := hr_1.open
      have hlr := hlr.trans e2
      have hf := hf.mono e2
      have hfr := hfr.mono e2
      have hto := hto.mono e2
      have hav := hav.mono e2
      have hle := hle.trans e2
      have hk1 := hk1.mono e2
      have hr_0 := hr_0.mono e2
      refine ⟨(.inr heldx), ?_⟩
      first | refine d_takeA 12 rfl (by kernel_rfl) rfl (.inr heldx) (y_ixD rfl rfl _ rfl) .free rfl ?_ | refine d_takeA 12 rfl (by kernel_rfl) rfl (.inr heldx) (y_ixP rfl rfl _ rfl) .free rfl ?_
      refine d_st 13 rfl (by kernel_rfl) rfl rfl rfl rfl rfl .free (.inl (by kernel_rfl)) ?_
      refine d_done (by kernel_rfl) ?_
      refine s_inBlock ?_
      refine o_enter rfl ?_
      refine o_arith rfl rfl rfl (by omega) .free rfl ?_
      refine o_move rfl .free rfl ?_
      refine o_done ?_
      refine s_round ?_
      refine s_seq ?_
      refine o_enter rfl ?_
      refine o_cmp rfl rfl rfl .free rfl ?_
      refine o_done ?_
      refine s_seq ?_
      refine s_condT rfl (by first | rfl | decide | (simp; done) | omega) ?_
      refine s_skip ?_
      refine s_seq ?_
      refine s_block ?_
      refine s_seq ?_
      refine o_enter rfl ?_
      first | refine o_ixD rfl rfl _ rfl .free rfl ?_ | refine o_ixP rfl rfl _ rfl .free rfl ?_
      refine o_lI1 rfl .free rfl ?_
      refine o_assign rfl .free rfl ?_
      refine o_done ?_
      refine s_seq ?_
      refine o_enter rfl ?_
      refine o_move rfl .free rfl ?_
      refine o_move rfl .free rfl ?_
      refine o_assign rfl .free rfl ?_
      refine o_assign rfl .free rfl ?_
      refine o_done ?_
      refine s_seq ?_
      refine s_seq ?_
      refine o_enter rfl ?_
      refine o_lOS rfl .free rfl ?_
      refine o_move rfl .free rfl ?_
      refine o_call rfl .free rfl (f_form_bound hf.rep hok0 _ _) ?_
      rintro _ J1 _ e1 ⟨o1, k1, rfl, hs1, rfl⟩
      have hf := hf.mono e1
      have hfr := hfr.mono e1
      have hto := hto.mono e1
      have hav := hav.mono e1
      have hle := hle.trans e1
      have hk1 := hk1.mono e1
      have hr_0 := hr_0.mono e1
      have hr_1 := hr_1.mono e1
      refine o_assign rfl .free rfl ?_
      refine o_done ?_
      refine s_seq ?_
      refine o_enter rfl ?_
      refine o_move rfl .free rfl ?_
      refine o_len_slice rfl .free rfl ?_
      refine o_cmp rfl rfl rfl .free rfl ?_
      refine o_done ?_
      first | refine s_fp rfl (by simp [Ex.binds]) ?_ | refine s_fn rfl (by simp [Ex.binds]) ?_ | refine s_false (by simp [look, opd, *]) ?_
      refine s_skip ?_
      refine s_here fun hlr => ?_
      have hpl := d.pl_hits av (f) (t) (b.pl av (f) (t) (a.pl av (f) (t) k).2).2
      refine d_tl 14 rfl rfl ?_
      refine d_takeA 0 rfl (by kernel_rfl) rfl (.inr heldx) (y_fieldAddr rfl) .free rfl ?_
      refine d_take 1 [13] rfl (by kernel_rfl) rfl heldx (y_lO1 rfl) .free rfl ?_
      refine d_takeA 2 rfl (by kernel_rfl) rfl (.inr heldx) (y_move rfl) .free rfl ?_
      refine d_takeA 3 rfl (by kernel_rfl) rfl (.inr heldx) (y_move rfl) .free rfl ?_
      refine d_takeA 4 rfl (by kernel_rfl) rfl (.inr heldx) (y_fieldAddr rfl) .free rfl ?_
      refine d_take 5 [13] rfl (by kernel_rfl) rfl heldx (y_lO1 rfl) .free rfl ?_
      refine d_takeA 6 rfl (by kernel_rfl) rfl (.inr heldx) (y_move rfl) .free rfl ?_
      first | refine d_takeA 7 rfl (by kernel_rfl) rfl (.inr heldx) (y_ixD rfl rfl _ rfl) .free rfl ?_ | refine d_takeA 7 rfl (by kernel_rfl) rfl (.inr heldx) (y_ixP rfl rfl _ rfl) .free rfl ?_
      refine d_take 8 [13] rfl (by kernel_rfl) rfl heldx (y_lIS rfl) .free rfl ?_
      refine d_takeA 9 rfl (by kernel_rfl) rfl (.inr heldx) (y_move rfl) .free rfl ?_
      refine d_takeA 10 rfl (by kernel_rfl) rfl (.inr heldx) (y_move rfl) .free rfl ?_
      refine d_call 11 rfl (by kernel_rfl) rfl rfl .free rfl (ihn (f := f) (t := t) (by omega) (hf.as 3 d.tree (by omega) rfl) hok.2 hfr hto (by simp [hft]) hnf (by first | omega | (simp only [List.length_append, List.length_cons, List.length_nil]; omega)) hav bp _ _ (by omega) (by omega) _) ?_
      rintro _ J2 _ e2 ⟨cs2, rfl, hr_2, rfl⟩
      obtain ⟨o2, k2, _, rfl, -⟩ := hr_2.open
      have hlr := hlr.trans e2
      have hf := hf.mono e2
      have hfr := hfr.mono e2
      have hto := hto.mono e2
      have hav := hav.mono e2
      have hle := hle.trans e2
      have hk1 := hk1.mono e2
      have hr_0 := hr_0.mono e2
      have hr_1 := hr_1.mono e2
      refine ⟨(.inr heldx), ?_⟩
      first | refine d_takeA 12 rfl (by kernel_rfl) rfl (.inr heldx) (y_ixD rfl rfl _ rfl) .free rfl ?_ | refine d_takeA 12 rfl (by kernel_rfl) rfl (.inr heldx) (y_ixP rfl rfl _ rfl) .free rfl ?_
      refine d_st 13 rfl (by kernel_rfl) rfl rfl rfl rfl rfl .free (.inl (by kernel_rfl)) ?_
      refine d_done (by kernel_rfl) ?_
      refine s_inBlock ?_
      refine o_enter rfl ?_
      refine o_arith rfl rfl rfl (by omega) .free rfl ?_
      refine o_move rfl .free rfl ?_
      refine o_done ?_
      refine s_round ?_
      refine s_seq ?_
      refine o_enter rfl ?_
      refine o_cmp rfl rfl rfl .free rfl ?_
      refine o_done ?_
      refine s_seq ?_
      refine s_condF rfl (by first | rfl | decide | (simp; done) | omega) ?_
      refine s_exit rfl ?_
      refine s_seq ?_
      refine o_enter rfl ?_
      refine o_lOS rfl .free rfl ?_
      refine o_st rfl rfl rfl rfl .free ?_
      refine o_done ?_
      refine s_mem (fun w h => h.f2) (s_freeze ?_)
      intro hz
      have hf := hf.mono hz
      refine s_ret (.c rfl .nil) ?_
      exact ⟨_, _, hle.trans hz, fun w h => Mem.sub (L' := pn bp ov av cv _ _ :: L) (by repeat (first | exact List.Sublist.refl _ | apply List.Sublist.cons_cons | apply List.Sublist.cons)) h, _, rfl, .mk' rfl (.cons (hf.as 0 (.node tIf []) (by omega) rfl) (.cons (hr_0.mono hz) (.cons (hr_1.mono hz) (.cons (hr_2.mono hz) (.nil))))) (fun y hy => by cases hy; exact still_set (xs := [_, _, _, _, _, _, _, _])) (by simp) hcc (by simp [maxN]) (by simp [maxN]), by first | rfl | (simp only [Nat.add_assoc]; rfl)⟩
    · skip
      have hlen : (Ex.lt z a b).tree.parts.length = 4 := rfl
      have hki := kids_lt' z a b
      have hhd : (Ex.lt z a b).tree.head = tLet := rfl
      simp only [Ex.lt.sizeOf_spec] at hlt
      simp only [Ex.ok, Bool.and_eq_true, decide_eq_true_eq] at hok
      simp only [Ex.nb] at hk hg ⊢
      simp only [Ex.size] at hfl
      obtain ⟨_, hrl⟩ : ∃ _ : True, RepL I (Ex.lt z a b).tree.parts _ := ⟨trivial, hcl⟩
      simp only [show (Ex.lt z a b).tree.parts = [.node tLet [], .node z [], a.tree, b.tree] from rfl, cellsF, List.cons_append, List.nil_append] at hrl ⊢
      refine s_mem (fun w h => h.f4) ?_
      refine o_enter rfl ?_
      refine o_assign rfl .free rfl ?_
      refine o_done ?_
      refine s_seq ?_
      refine s_seq ?_
      refine o_enter rfl ?_
      refine o_lOS rfl .free rfl ?_
      refine o_call rfl .free rfl (f_form_head hf.rep _) ?_
      rintro _ _ _ _ ⟨rfl, rfl, rfl⟩
      refine o_done ?_
      refine s_block ?_
      refine s_seq ?_
      refine o_enter rfl ?_
      refine o_cmps rfl rfl rfl .free rfl ?_
      refine o_assign rfl .free rfl ?_
      refine o_done ?_
      first | refine s_tp rfl (by rw [hhd]; rfl) ?_ | refine s_tn rfl (by rw [hhd]; rfl) ?_ | refine s_true (by simp [look, opd, *]) ?_
      refine s_seq ?_
      obtain ⟨x1, x2, x3⟩ := fr_facts 120 av k
      have x4 := fr_hits_succ 120 av k
      have x5 := hits_le 120 av (fr 120 av k)
      have x6 := hits_le 120 av (fr 120 av k + 1)
      refine o_enter rfl ?_
      refine o_move rfl .free rfl ?_
      refine o_call rfl .free rfl (f_plainer_name hav bp g k (by omega) (by omega) _) ?_
      rintro _ _ _ _ ⟨rfl, rfl, rfl⟩
      have hnl1 := nm_len (n := fr 120 av k) (by omega)
      generalize hn1e : nm 120 (fr 120 av k) = n1 at hnl1 ⊢
      refine o_lits rfl rfl (by rfl) (by rfl) (by rfl) (by decide) (by decide) (by rfl) .free rfl ?_
      intro b41
      refine o_freezeLit [n1] (by simp [maxN]) (by intro y hy; rw [List.mem_singleton.1 hy]; exact hnl1) ?_
      intro J1 ez hnm
      have hn0 := hnm.st 0 (by simp)
      have hf := hf.mono ez
      have hfr := hfr.mono ez
      have hto := hto.mono ez
      have hav := hav.mono ez
      have hle := hle.trans ez
      refine o_assign rfl .free rfl ?_
      refine o_done ?_
      refine d_all 8 rfl rfl ?_
      refine d_takeA 0 rfl (by kernel_rfl) rfl (.inr heldx) (y_fieldAddr rfl) .free rfl ?_
      refine d_take 1 [7] rfl (by kernel_rfl) rfl heldx (y_lO1 rfl) .free rfl ?_
      refine d_takeA 2 rfl (by kernel_rfl) rfl (.inr heldx) (y_move rfl) .free rfl ?_
      first | refine d_takeA 3 rfl (by kernel_rfl) rfl (.inr heldx) (y_ixD rfl rfl 0 rfl) .free rfl ?_ | refine d_takeA 3 rfl (by kernel_rfl) rfl (.inr heldx) (y_ixP rfl rfl 0 rfl) .free rfl ?_
      refine d_take 4 [7] rfl (by kernel_rfl) rfl heldx (y_lI1 rfl) .free rfl ?_
      refine d_call 5 rfl (by kernel_rfl) rfl rfl .free rfl (f_atom n1 hnl1 _ _) ?_
      rintro _ _ _ _ ⟨rfl, rfl, rfl⟩
      refine ⟨(.inr heldx), ?_⟩
      first | refine d_takeA 6 rfl (by kernel_rfl) rfl (.inr heldx) (y_ixD rfl rfl 1 rfl) .free rfl ?_ | refine d_takeA 6 rfl (by kernel_rfl) rfl (.inr heldx) (y_ixP rfl rfl 1 rfl) .free rfl ?_
      refine d_st 7 rfl (by kernel_rfl) rfl rfl rfl rfl rfl .free (.inl (by kernel_rfl)) ?_
      refine d_done (by kernel_rfl) ?_
      refine s_inBlock ?_
      refine s_seq ?_
      refine s_seq ?_
      refine o_enter rfl ?_
      refine o_lOS rfl .free rfl ?_
      refine o_call rfl .free rfl (f_form_kids hf.rep _) ?_
      rintro _ J _ e0 ⟨ok, ck, rfl, hk1, rfl⟩
      have hf := hf.mono e0
      have hfr := hfr.mono e0
      have hto := hto.mono e0
      have hav := hav.mono e0
      have hle := hle.trans e0
      rw [hki] at hk1
      rw [hki]
      have hnm := hnm.mono e0
      refine o_len_slice rfl .free rfl ?_
      refine o_move rfl .free rfl ?_
      refine o_done ?_
      refine s_block ?_
      refine s_loop ?_
      refine s_seq ?_
      refine o_enter rfl ?_
      refine o_cmp rfl rfl rfl .free rfl ?_
      refine o_done ?_
      refine s_seq ?_
      refine s_condT rfl (by first | rfl | decide | (simp; done) | omega) ?_
      refine s_skip ?_
      refine s_seq ?_
      refine s_block ?_
      refine s_seq ?_
      refine o_enter rfl ?_
      first | refine o_ixD rfl rfl _ rfl .free rfl ?_ | refine o_ixP rfl rfl _ rfl .free rfl ?_
      refine o_lI1 rfl .free rfl ?_
      refine o_assign rfl .free rfl ?_
      refine o_done ?_
      refine s_seq ?_
      refine o_enter rfl ?_
      refine o_move rfl .free rfl ?_
      refine o_move rfl .free rfl ?_
      refine o_assign rfl .free rfl ?_
      refine o_assign rfl .free rfl ?_
      refine o_done ?_
      refine s_seq ?_
      refine s_seq ?_
      refine o_enter rfl ?_
      refine o_lOS rfl .free rfl ?_
      refine o_move rfl .free rfl ?_
      refine o_call rfl .free rfl (f_form_bound hf.rep hok0 _ _) ?_
      rintro _ J1 _ e1 ⟨o1, k1, rfl, hs1, rfl⟩
      have hf := hf.mono e1
      have hfr := hfr.mono e1
      have hto := hto.mono e1
      have hav := hav.mono e1
      have hle := hle.trans e1
      have hk1 := hk1.mono e1
      have hnm := hnm.mono e1
      refine o_assign rfl .free rfl ?_
      refine o_done ?_
      refine s_seq ?_
      refine o_enter rfl ?_
      refine o_move rfl .free rfl ?_
      refine o_len_slice rfl .free rfl ?_
      refine o_cmp rfl rfl rfl .free rfl ?_
      refine o_done ?_
      first | refine s_fp rfl (by simp [Ex.binds]) ?_ | refine s_fn rfl (by simp [Ex.binds]) ?_ | refine s_false (by simp [look, opd, *]) ?_
      refine s_skip ?_
      refine s_here fun hlr => ?_
      have hpl := a.pl_hits av (f) (t) (fr 120 av k + 1)
      refine d_tl 14 rfl rfl ?_
      refine d_takeA 0 rfl (by kernel_rfl) rfl (.inr heldx) (y_fieldAddr rfl) .free rfl ?_
      refine d_take 1 [13] rfl (by kernel_rfl) rfl heldx (y_lO1 rfl) .free rfl ?_
      refine d_takeA 2 rfl (by kernel_rfl) rfl (.inr heldx) (y_move rfl) .free rfl ?_
      refine d_takeA 3 rfl (by kernel_rfl) rfl (.inr heldx) (y_move rfl) .free rfl ?_
      refine d_takeA 4 rfl (by kernel_rfl) rfl (.inr heldx) (y_fieldAddr rfl) .free rfl ?_
      refine d_take 5 [13] rfl (by kernel_rfl) rfl heldx (y_lO1 rfl) .free rfl ?_
      refine d_takeA 6 rfl (by kernel_rfl) rfl (.inr heldx) (y_move rfl) .free rfl ?_
      first | refine d_takeA 7 rfl (by kernel_rfl) rfl (.inr heldx) (y_ixD rfl rfl _ rfl) .free rfl ?_ | refine d_takeA 7 rfl (by kernel_rfl) rfl (.inr heldx) (y_ixP rfl rfl _ rfl) .free rfl ?_
      refine d_take 8 [13] rfl (by kernel_rfl) rfl heldx (y_lIS rfl) .free rfl ?_
      refine d_takeA 9 rfl (by kernel_rfl) rfl (.inr heldx) (y_move rfl) .free rfl ?_
      refine d_takeA 10 rfl (by kernel_rfl) rfl (.inr heldx) (y_move rfl) .free rfl ?_
      refine d_call 11 rfl (by kernel_rfl) rfl rfl .free rfl (ihn (f := f) (t := t) (by omega) (hf.as 2 a.tree (by omega) rfl) hok.1.2 hfr hto (by simp [hft]) hnf (by first | omega | (simp only [List.length_append, List.length_cons, List.length_nil]; omega)) hav bp _ _ (by omega) (by omega) _) ?_
      rintro _ J2 _ e2 ⟨cs2, rfl, hr_0, rfl⟩
      obtain ⟨o2, k2, _, rfl, -⟩ := hr_0.open
      have hlr := hlr.trans e2
      have hf := hf.mono e2
      have hfr := hfr.mono e2
      have hto := hto.mono e2
      have hav := hav.mono e2
      have hle := hle.trans e2
      have hk1 := hk1.mono e2
      have hnm := hnm.mono e2
      refine ⟨(.inr heldx), ?_⟩
      first | refine d_takeA 12 rfl (by kernel_rfl) rfl (.inr heldx) (y_ixD rfl rfl _ rfl) .free rfl ?_ | refine d_takeA 12 rfl (by kernel_rfl) rfl (.inr heldx) (y_ixP rfl rfl _ rfl) .free rfl ?_
      refine d_st 13 rfl (by kernel_rfl) rfl rfl rfl rfl rfl .free (.inl (by kernel_rfl)) ?_
      refine d_done (by kernel_rfl) ?_
      refine s_inBlock ?_
      refine o_enter rfl ?_
      refine o_arith rfl rfl rfl (by omega) .free rfl ?_
      refine o_move rfl .free rfl ?_
      refine o_done ?_
      refine s_round ?_
      refine s_seq ?_
      refine o_enter rfl ?_
      refine o_cmp rfl rfl rfl .free rfl ?_
      refine o_done ?_
      refine s_seq ?_
      refine s_condT rfl (by first | rfl | decide | (simp; done) | omega) ?_
      refine s_skip ?_
      refine s_seq ?_
      refine s_block ?_
      refine s_seq ?_
      refine o_enter rfl ?_
      first | refine o_ixD rfl rfl _ rfl .free rfl ?_ | refine o_ixP rfl rfl _ rfl .free rfl ?_
      refine o_lI1 rfl .free rfl ?_
      refine o_assign rfl .free rfl ?_
      refine o_done ?_
      refine s_seq ?_
      refine o_enter rfl ?_
      refine o_move rfl .free rfl ?_
      refine o_move rfl .free rfl ?_
      refine o_assign rfl .free rfl ?_
      refine o_assign rfl .free rfl ?_
      refine o_done ?_
      refine s_seq ?_
      refine s_seq ?_
      refine o_enter rfl ?_
      refine o_lOS rfl .free rfl ?_
      refine o_move rfl .free rfl ?_
      refine o_call rfl .free rfl (f_form_bound hf.rep hok0 _ _) ?_
      rintro _ J1 _ e1 ⟨o1, k1, rfl, hs1, rfl⟩
      have hf := hf.mono e1
      have hfr := hfr.mono e1
      have hto := hto.mono e1
      have hav := hav.mono e1
      have hle := hle.trans e1
      have hk1 := hk1.mono e1
      have hr_0 := hr_0.mono e1
      have hnm := hnm.mono e1
      refine o_assign rfl .free rfl ?_
      refine o_done ?_
      refine s_seq ?_
      refine o_enter rfl ?_
      refine o_move rfl .free rfl ?_
      refine o_len_slice rfl .free rfl ?_
      refine o_cmp rfl rfl rfl .free rfl ?_
      refine o_done ?_
      first | refine s_tp rfl (by simp [Ex.binds]) ?_ | refine s_tn rfl (by simp [Ex.binds]) ?_ | refine s_true (by simp [look, opd, *]) ?_
      refine o_enter rfl ?_
      refine o_move rfl .free rfl ?_
      refine o_move rfl .free rfl ?_
      refine o_lits rfl rfl (by rfl) (by rfl) (by rfl) (by decide) (by decide) (by rfl) .free rfl ?_
      intro b87
      refine o_freeze ?_
      intro ez
      have hf := hf.mono ez
      have hfr := hfr.mono ez
      have hto := hto.mono ez
      have hav := hav.mono ez
      have hle := hle.trans ez
      have hk1 := hk1.mono ez
      have hr_0 := hr_0.mono ez
      have hnm := hnm.mono ez
      refine o_call rfl .free rfl (f_slices_Concat (still_set (xs := [.slice of f.length cf, .slice o1 (List.length _) k1]) (ys := [])) hfr (hs1.mono ez) (Ex.binds_room0 (by omega)) _) ?_
      rintro _ J3 _ e3 ⟨o3, k3, rfl, hs3, rfl⟩
      have hf := hf.mono e3
      have hfr := hfr.mono e3
      have hto := hto.mono e3
      have hav := hav.mono e3
      have hle := hle.trans e3
      have hk1 := hk1.mono e3
      have hr_0 := hr_0.mono e3
      have hnm := hnm.mono e3
      refine o_move rfl .free rfl ?_
      refine o_move rfl .free rfl ?_
      refine o_lits rfl rfl (by rfl) (by rfl) (by rfl) (by decide) (by decide) (by rfl) .free rfl ?_
      intro b91
      refine o_freeze ?_
      intro ey
      have hf := hf.mono ey
      have hfr := hfr.mono ey
      have hto := hto.mono ey
      have hav := hav.mono ey
      have hle := hle.trans ey
      have hk1 := hk1.mono ey
      have hr_0 := hr_0.mono ey
      have hnm := hnm.mono ey
      have hs3 := hs3.mono ey
      refine o_call rfl .free rfl (f_slices_Concat (m := [n1]) (still_set (xs := [.slice ot t.length ct, .slice (some ⟨_, 0, none⟩) (List.length _) _]) (ys := [])) hto hnm (show t.length + 1 ≤ maxN by unfold maxN; omega) _) ?_
      rintro _ J4 _ e4 ⟨o4, k4, rfl, hs4, rfl⟩
      have hf := hf.mono e4
      have hfr := hfr.mono e4
      have hto := hto.mono e4
      have hav := hav.mono e4
      have hle := hle.trans e4
      have hk1 := hk1.mono e4
      have hr_0 := hr_0.mono e4
      have hnm := hnm.mono e4
      have hs3 := hs3.mono e4
      refine o_assign rfl .free rfl ?_
      refine o_assign rfl .free rfl ?_
      refine o_done ?_
      refine s_here fun hlr => ?_
      have hpl := b.pl_hits av (f ++ [z]) (t ++ [n1]) (a.pl av (f) (t) (fr 120 av k + 1)).2
      refine d_tl 14 rfl rfl ?_
      refine d_takeA 0 rfl (by kernel_rfl) rfl (.inr heldx) (y_fieldAddr rfl) .free rfl ?_
      refine d_take 1 [13] rfl (by kernel_rfl) rfl heldx (y_lO1 rfl) .free rfl ?_
      refine d_takeA 2 rfl (by kernel_rfl) rfl (.inr heldx) (y_move rfl) .free rfl ?_
      refine d_takeA 3 rfl (by kernel_rfl) rfl (.inr heldx) (y_move rfl) .free rfl ?_
      refine d_takeA 4 rfl (by kernel_rfl) rfl (.inr heldx) (y_fieldAddr rfl) .free rfl ?_
      refine d_take 5 [13] rfl (by kernel_rfl) rfl heldx (y_lO1 rfl) .free rfl ?_
      refine d_takeA 6 rfl (by kernel_rfl) rfl (.inr heldx) (y_move rfl) .free rfl ?_
      first | refine d_takeA 7 rfl (by kernel_rfl) rfl (.inr heldx) (y_ixD rfl rfl _ rfl) .free rfl ?_ | refine d_takeA 7 rfl (by kernel_rfl) rfl (.inr heldx) (y_ixP rfl rfl _ rfl) .free rfl ?_
      refine d_take 8 [13] rfl (by kernel_rfl) rfl heldx (y_lIS rfl) .free rfl ?_
      refine d_takeA 9 rfl (by kernel_rfl) rfl (.inr heldx) (y_move rfl) .free rfl ?_
      refine d_takeA 10 rfl (by kernel_rfl) rfl (.inr heldx) (y_move rfl) .free rfl ?_
      refine d_call 11 rfl (by kernel_rfl) rfl rfl .free rfl (ihn (f := f ++ [z]) (t := t ++ [n1]) (by omega) (hf.as 3 b.tree (by omega) rfl) hok.2 hs3 hs4 (by simp [hft]) (hnf.add (by intro y hy; rw [List.mem_singleton.1 hy]; exact hok.1.1)) (by first | omega | (simp only [List.length_append, List.length_cons, List.length_nil]; omega)) hav bp _ _ (by omega) (by omega) _) ?_
      rintro _ J2 _ e2 ⟨cs2, rfl, hr_1, rfl⟩
      obtain ⟨o2, k2, _, rfl, -⟩ := hr_1.open
      have hlr := hlr.trans e2
      have hf := hf.mono e2
      have hfr := hfr.mono e2
      have hto := hto.mono e2
      have hav := hav.mono e2
      have hle := hle.trans e2
      have hk1 := hk1.mono e2
      have hr_0 := hr_0.mono e2
      have hnm := hnm.mono e2
      refine ⟨(.inr heldx), ?_⟩
      first | refine d_takeA 12 rfl (by kernel_rfl) rfl (.inr heldx) (y_ixD rfl rfl _ rfl) .free rfl ?_ | refine d_takeA 12 rfl (by kernel_rfl) rfl (.inr heldx) (y_ixP rfl rfl _ rfl) .free rfl ?_
      refine d_st 13 rfl (by kernel_rfl) rfl rfl rfl rfl rfl .free (.inl (by kernel_rfl)) ?_
      refine d_done (by kernel_rfl) ?_
      refine s_inBlock ?_
      refine o_enter rfl ?_
      refine o_arith rfl rfl rfl (by omega) .free rfl ?_
      refine o_move rfl .free rfl ?_
      refine o_done ?_
      refine s_round ?_
      refine s_seq ?_
      refine o_enter rfl ?_
      refine o_cmp rfl rfl rfl .free rfl ?_
      refine o_done ?_
      refine s_seq ?_
      refine s_condF rfl (by first | rfl | decide | (simp; done) | omega) ?_
      refine s_exit rfl ?_
      refine s_seq ?_
      refine o_enter rfl ?_
      refine o_lOS rfl .free rfl ?_
      refine o_st rfl rfl rfl rfl .free ?_
      refine o_done ?_
      refine s_mem (fun w h => h.f2) (s_freeze ?_)
      intro hz
      have hf := hf.mono hz
      refine s_ret (.c rfl .nil) ?_
      subst hn1e
      exact ⟨_, _, hle.trans hz, fun w h => Mem.sub (L' := pn bp ov av cv _ _ :: L) (by repeat (first | exact List.Sublist.refl _ | apply List.Sublist.cons_cons | apply List.Sublist.cons)) h, _, rfl, .mk' rfl (.cons (hf.as 0 (.node tLet []) (by omega) rfl) (.cons (.ofAtom hnl1) (.cons (hr_0.mono hz) (.cons (hr_1.mono hz) (.nil))))) (fun y hy => by cases hy; exact still_set (xs := [_, _, _, _, _, _, _, _])) (by simp) hcc (by simp [maxN]) (by simp [maxN]), by first | rfl | (simp only [Nat.add_assoc]; rfl)⟩
    · skip
      have hlen : (Ex.fn h1 z s u b).tree.parts.length = 6 := rfl
      have hki := kids_fn h1 z s u b
      have hhd : (Ex.fn h1 z s u b).tree.head = tFun := rfl
      simp only [Ex.fn.sizeOf_spec] at hlt
      simp only [Ex.ok, Bool.and_eq_true, decide_eq_true_eq] at hok
      simp only [Ex.nb] at hk hg ⊢
      simp only [Ex.size] at hfl
      obtain ⟨_, hrl⟩ : ∃ _ : True, RepL I (Ex.fn h1 z s u b).tree.parts _ := ⟨trivial, hcl⟩
      simp only [show (Ex.fn h1 z s u b).tree.parts = [.node tFun [], .node h1 [], .node z [], s.tree, u.tree, b.tree] from rfl, cellsF, List.cons_append, List.nil_append] at hrl ⊢
      refine s_mem (fun w h => h.f4) ?_
      refine o_enter rfl ?_
      refine o_assign rfl .free rfl ?_
      refine o_done ?_
      refine s_seq ?_
      refine s_seq ?_
      refine o_enter rfl ?_
      refine o_lOS rfl .free rfl ?_
      refine o_call rfl .free rfl (f_form_head hf.rep _) ?_
      rintro _ _ _ _ ⟨rfl, rfl, rfl⟩
      refine o_done ?_
      refine s_block ?_
      refine s_seq ?_
      refine o_enter rfl ?_
      refine o_cmps rfl rfl rfl .free rfl ?_
      refine o_assign rfl .free rfl ?_
      refine o_done ?_
      first | refine s_fp rfl (by rw [hhd]; decide) ?_ | refine s_fn rfl (by rw [hhd]; decide) ?_ | refine s_false (by simp [look, opd, *]) ?_
      refine s_seq ?_
      refine o_enter rfl ?_
      refine o_cmps rfl rfl rfl .free rfl ?_
      refine o_assign rfl .free rfl ?_
      refine o_done ?_
      first | refine s_tp rfl (by rw [hhd]; rfl) ?_ | refine s_tn rfl (by rw [hhd]; rfl) ?_ | refine s_true (by simp [look, opd, *]) ?_
      refine s_seq ?_
      obtain ⟨x1, x2, x3⟩ := fr_facts 120 av k
      have x4 := fr_hits_succ 120 av k
      have x5 := hits_le 120 av (fr 120 av k)
      have x6 := hits_le 120 av (fr 120 av k + 1)
      obtain ⟨y1, y2, y3⟩ := fr_facts 120 av (fr 120 av k + 1)
      have y4 := fr_hits_succ 120 av (fr 120 av k + 1)
      have y5 := hits_le 120 av (fr 120 av (fr 120 av k + 1))
      have y6 := hits_le 120 av (fr 120 av (fr 120 av k + 1) + 1)
      refine o_enter rfl ?_
      refine o_move rfl .free rfl ?_
      refine o_call rfl .free rfl (f_plainer_name hav bp g k (by omega) (by omega) _) ?_
      rintro _ _ _ _ ⟨rfl, rfl, rfl⟩
      have hnl1 := nm_len (n := fr 120 av k) (by omega)
      generalize hn1e : nm 120 (fr 120 av k) = n1 at hnl1 ⊢
      refine o_move rfl .free rfl ?_
      refine o_call rfl .free rfl (f_plainer_name hav bp (g + 1) (fr 120 av k + 1) (by omega) (by omega) _) ?_
      rintro _ _ _ _ ⟨rfl, rfl, rfl⟩
      have hnl2 := nm_len (n := fr 120 av (fr 120 av k + 1)) (by omega)
      generalize hn2e : nm 120 (fr 120 av (fr 120 av k + 1)) = n2 at hnl2 ⊢
      refine o_lits rfl rfl (by rfl) (by rfl) (by rfl) (by decide) (by decide) (by rfl) .free rfl ?_
      intro b55
      refine o_freezeLit [n1, n2] (by simp [maxN]) (by intro y hy; simp only [List.mem_cons, List.not_mem_nil, or_false] at hy; rcases hy with rfl | rfl; exact hnl1; exact hnl2) ?_
      intro J1 ez hnm
      have hn0 := hnm.st 0 (by simp)
      have hn1 := hnm.st 1 (by simp)
      have hf := hf.mono ez
      have hfr := hfr.mono ez
      have hto := hto.mono ez
      have hav := hav.mono ez
      have hle := hle.trans ez
      refine o_assign rfl .free rfl ?_
      refine o_done ?_
      refine d_all 16 rfl rfl ?_
      refine d_takeA 0 rfl (by kernel_rfl) rfl (.inr heldx) (y_fieldAddr rfl) .free rfl ?_
      refine d_take 1 [13] rfl (by kernel_rfl) rfl heldx (y_lO1 rfl) .free rfl ?_
      refine d_takeA 2 rfl (by kernel_rfl) rfl (.inr heldx) (y_fieldAddr rfl) .free rfl ?_
      refine d_takeA 4 rfl (by kernel_rfl) rfl (.inr heldx) (y_move rfl) .free rfl ?_
      first | refine d_takeA 5 rfl (by kernel_rfl) rfl (.inr heldx) (y_ixD rfl rfl 0 rfl) .free rfl ?_ | refine d_takeA 5 rfl (by kernel_rfl) rfl (.inr heldx) (y_ixP rfl rfl 0 rfl) .free rfl ?_
      refine d_take 6 [13] rfl (by kernel_rfl) rfl heldx (y_lI1 rfl) .free rfl ?_
      refine d_takeA 8 rfl (by kernel_rfl) rfl (.inr heldx) (y_move rfl) .free rfl ?_
      first | refine d_takeA 9 rfl (by kernel_rfl) rfl (.inr heldx) (y_ixD rfl rfl 1 rfl) .free rfl ?_ | refine d_takeA 9 rfl (by kernel_rfl) rfl (.inr heldx) (y_ixP rfl rfl 1 rfl) .free rfl ?_
      refine d_take 10 [13] rfl (by kernel_rfl) rfl heldx (y_lI1 rfl) .free rfl ?_
      refine d_two 3 7 (by kernel_rfl) ?_ ?_
      · skip
        refine i_yld 3 rfl rfl (y_lO1 rfl) .free rfl (.inr heldx) ?_
        refine d_call 7 rfl (by kernel_rfl) rfl rfl .free rfl (f_atom n1 hnl1 _ _) ?_
        rintro _ _ _ _ ⟨rfl, rfl, rfl⟩
        refine ⟨(.inr heldx), ?_⟩
        refine d_call 11 rfl (by kernel_rfl) rfl rfl .free rfl (f_atom n2 hnl2 _ _) ?_
        rintro _ _ _ _ ⟨rfl, rfl, rfl⟩
        refine ⟨(.inr heldx), ?_⟩
        first | refine d_takeA 12 rfl (by kernel_rfl) rfl (.inr heldx) (y_ixD rfl rfl 1 rfl) .free rfl ?_ | refine d_takeA 12 rfl (by kernel_rfl) rfl (.inr heldx) (y_ixP rfl rfl 1 rfl) .free rfl ?_
        refine d_st 13 rfl (by kernel_rfl) rfl rfl rfl rfl rfl .free (.inl (by kernel_rfl)) ?_
        first | refine d_takeA 14 rfl (by kernel_rfl) rfl (.inl (by kernel_rfl)) (y_ixD rfl rfl 2 rfl) .free rfl ?_ | refine d_takeA 14 rfl (by kernel_rfl) rfl (.inl (by kernel_rfl)) (y_ixP rfl rfl 2 rfl) .free rfl ?_
        refine d_st 15 rfl (by kernel_rfl) rfl rfl rfl rfl rfl .free (.inl (by kernel_rfl)) ?_
        refine d_done (by kernel_rfl) ?_
        refine s_inBlock ?_
        refine s_seq ?_
        refine s_seq ?_
        refine o_enter rfl ?_
        refine o_lOS rfl .free rfl ?_
        refine o_call rfl .free rfl (f_form_kids hf.rep _) ?_
        rintro _ J _ e0 ⟨ok, ck, rfl, hk1, rfl⟩
        have hf := hf.mono e0
        have hfr := hfr.mono e0
        have hto := hto.mono e0
        have hav := hav.mono e0
        have hle := hle.trans e0
        rw [hki] at hk1
        rw [hki]
        have hnm := hnm.mono e0
        refine o_len_slice rfl .free rfl ?_
        refine o_move rfl .free rfl ?_
        refine o_done ?_
        refine s_block ?_
        refine s_loop ?_
        refine s_seq ?_
        refine o_enter rfl ?_
        refine o_cmp rfl rfl rfl .free rfl ?_
        refine o_done ?_
        refine s_seq ?_
        refine s_condT rfl (by first | rfl | decide | (simp; done) | omega) ?_
        refine s_skip ?_
        refine s_seq ?_
        refine s_block ?_
        refine s_seq ?_
        refine o_enter rfl ?_
        first | refine o_ixD rfl rfl _ rfl .free rfl ?_ | refine o_ixP rfl rfl _ rfl .free rfl ?_
        refine o_lI1 rfl .free rfl ?_
        refine o_assign rfl .free rfl ?_
        refine o_done ?_
        refine s_seq ?_
        refine o_enter rfl ?_
        refine o_move rfl .free rfl ?_
        refine o_move rfl .free rfl ?_
        refine o_assign rfl .free rfl ?_
        refine o_assign rfl .free rfl ?_
        refine o_done ?_
        refine s_seq ?_
        refine s_seq ?_
        refine o_enter rfl ?_
        refine o_lOS rfl .free rfl ?_
        refine o_move rfl .free rfl ?_
        refine o_call rfl .free rfl (f_form_bound hf.rep hok0 _ _) ?_
        rintro _ J1 _ e1 ⟨o1, k1, rfl, hs1, rfl⟩
        have hf := hf.mono e1
        have hfr := hfr.mono e1
        have hto := hto.mono e1
        have hav := hav.mono e1
        have hle := hle.trans e1
        have hk1 := hk1.mono e1
        have hnm := hnm.mono e1
        refine o_assign rfl .free rfl ?_
        refine o_done ?_
        refine s_seq ?_
        refine o_enter rfl ?_
        refine o_move rfl .free rfl ?_
        refine o_len_slice rfl .free rfl ?_
        refine o_cmp rfl rfl rfl .free rfl ?_
        refine o_done ?_
        first | refine s_tp rfl (by simp [Ex.binds]) ?_ | refine s_tn rfl (by simp [Ex.binds]) ?_ | refine s_true (by simp [look, opd, *]) ?_
        refine o_enter rfl ?_
        refine o_move rfl .free rfl ?_
        refine o_move rfl .free rfl ?_
        refine o_lits rfl rfl (by rfl) (by rfl) (by rfl) (by decide) (by decide) (by rfl) .free rfl ?_
        intro b87
        refine o_freeze ?_
        intro ez
        have hf := hf.mono ez
        have hfr := hfr.mono ez
        have hto := hto.mono ez
        have hav := hav.mono ez
        have hle := hle.trans ez
        have hk1 := hk1.mono ez
        have hnm := hnm.mono ez
        refine o_call rfl .free rfl (f_slices_Concat (still_set (xs := [.slice of f.length cf, .slice o1 (List.length _) k1]) (ys := [])) hfr (hs1.mono ez) (Ex.binds_room0 (by omega)) _) ?_
        rintro _ J3 _ e3 ⟨o3, k3, rfl, hs3, rfl⟩
        have hf := hf.mono e3
        have hfr := hfr.mono e3
        have hto := hto.mono e3
        have hav := hav.mono e3
        have hle := hle.trans e3
        have hk1 := hk1.mono e3
        have hnm := hnm.mono e3
        refine o_move rfl .free rfl ?_
        refine o_move rfl .free rfl ?_
        refine o_lits rfl rfl (by rfl) (by rfl) (by rfl) (by decide) (by decide) (by rfl) .free rfl ?_
        intro b91
        refine o_freeze ?_
        intro ey
        have hf := hf.mono ey
        have hfr := hfr.mono ey
        have hto := hto.mono ey
        have hav := hav.mono ey
        have hle := hle.trans ey
        have hk1 := hk1.mono ey
        have hnm := hnm.mono ey
        have hs3 := hs3.mono ey
        refine o_call rfl .free rfl (f_slices_Concat (m := [n1, n2]) (still_set (xs := [.slice ot t.length ct, .slice (some ⟨_, 0, none⟩) (List.length _) _]) (ys := [])) hto hnm (show t.length + 2 ≤ maxN by unfold maxN; omega) _) ?_
        rintro _ J4 _ e4 ⟨o4, k4, rfl, hs4, rfl⟩
        have hf := hf.mono e4
        have hfr := hfr.mono e4
        have hto := hto.mono e4
        have hav := hav.mono e4
        have hle := hle.trans e4
        have hk1 := hk1.mono e4
        have hnm := hnm.mono e4
        have hs3 := hs3.mono e4
        refine o_assign rfl .free rfl ?_
        refine o_assign rfl .free rfl ?_
        refine o_done ?_
        refine s_here fun hlr => ?_
        have hpl := b.pl_hits av (f ++ [h1, z]) (t ++ [n1, n2]) (fr 120 av (fr 120 av k + 1) + 1)
        refine d_tl 14 rfl rfl ?_
        refine d_takeA 0 rfl (by kernel_rfl) rfl (.inr heldx) (y_fieldAddr rfl) .free rfl ?_
        refine d_take 1 [13] rfl (by kernel_rfl) rfl heldx (y_lO1 rfl) .free rfl ?_
        refine d_takeA 2 rfl (by kernel_rfl) rfl (.inr heldx) (y_move rfl) .free rfl ?_
        refine d_takeA 3 rfl (by kernel_rfl) rfl (.inr heldx) (y_move rfl) .free rfl ?_
        refine d_takeA 4 rfl (by kernel_rfl) rfl (.inr heldx) (y_fieldAddr rfl) .free rfl ?_
        refine d_take 5 [13] rfl (by kernel_rfl) rfl heldx (y_lO1 rfl) .free rfl ?_
        refine d_takeA 6 rfl (by kernel_rfl) rfl (.inr heldx) (y_move rfl) .free rfl ?_
        first | refine d_takeA 7 rfl (by kernel_rfl) rfl (.inr heldx) (y_ixD rfl rfl _ rfl) .free rfl ?_ | refine d_takeA 7 rfl (by kernel_rfl) rfl (.inr heldx) (y_ixP rfl rfl _ rfl) .free rfl ?_
        refine d_take 8 [13] rfl (by kernel_rfl) rfl heldx (y_lIS rfl) .free rfl ?_
        refine d_takeA 9 rfl (by kernel_rfl) rfl (.inr heldx) (y_move rfl) .free rfl ?_
        refine d_takeA 10 rfl (by kernel_rfl) rfl (.inr heldx) (y_move rfl) .free rfl ?_
        refine d_call 11 rfl (by kernel_rfl) rfl rfl .free rfl (ihn (f := f ++ [h1, z]) (t := t ++ [n1, n2]) (by omega) (hf.as 5 b.tree (by omega) rfl) hok.2 hs3 hs4 (by simp [hft]) (hnf.add (by intro y hy; simp only [List.mem_cons, List.not_mem_nil, or_false] at hy; rcases hy with rfl | rfl; exact hok.1.1.1.1.1; exact hok.1.1.1.1.2)) (by first | omega | (simp only [List.length_append, List.length_cons, List.length_nil]; omega)) hav bp _ _ (by omega) (by omega) _) ?_
        rintro _ J2 _ e2 ⟨cs2, rfl, hr_0, rfl⟩
        obtain ⟨o2, k2, _, rfl, -⟩ := hr_0.open
        have hlr := hlr.trans e2
        have hf := hf.mono e2
        have hfr := hfr.mono e2
        have hto := hto.mono e2
        have hav := hav.mono e2
        have hle := hle.trans e2
        have hk1 := hk1.mono e2
        have hnm := hnm.mono e2
        refine ⟨(.inr heldx), ?_⟩
        first | refine d_takeA 12 rfl (by kernel_rfl) rfl (.inr heldx) (y_ixD rfl rfl _ rfl) .free rfl ?_ | refine d_takeA 12 rfl (by kernel_rfl) rfl (.inr heldx) (y_ixP rfl rfl _ rfl) .free rfl ?_
        refine d_st 13 rfl (by kernel_rfl) rfl rfl rfl rfl rfl .free (.inl (by kernel_rfl)) ?_
        refine d_done (by kernel_rfl) ?_
        refine s_inBlock ?_
        refine o_enter rfl ?_
        refine o_arith rfl rfl rfl (by omega) .free rfl ?_
        refine o_move rfl .free rfl ?_
        refine o_done ?_
        refine s_round ?_
        refine s_seq ?_
        refine o_enter rfl ?_
        refine o_cmp rfl rfl rfl .free rfl ?_
        refine o_done ?_
        refine s_seq ?_
        refine s_condF rfl (by first | rfl | decide | (simp; done) | omega) ?_
        refine s_exit rfl ?_
        refine s_seq ?_
        refine o_enter rfl ?_
        refine o_lOS rfl .free rfl ?_
        refine o_st rfl rfl rfl rfl .free ?_
        refine o_done ?_
        refine s_mem (fun w h => h.f2) (s_freeze ?_)
        intro hz
        have hf := hf.mono hz
        refine s_ret (.c rfl .nil) ?_
        subst hn1e hn2e
        exact ⟨_, _, hle.trans hz, fun w h => Mem.sub (L' := pn bp ov av cv _ _ :: L) (by repeat (first | exact List.Sublist.refl _ | apply List.Sublist.cons_cons | apply List.Sublist.cons)) h, _, rfl, .mk' rfl (.cons (hf.as 0 (.node tFun []) (by omega) rfl) (.cons (.ofAtom hnl1) (.cons (.ofAtom hnl2) (.cons (hf.as 3 (s.tree) (by omega) rfl) (.cons (hf.as 4 (u.tree) (by omega) rfl) (.cons (hr_0.mono hz) (.nil))))))) (fun y hy => by cases hy; exact still_set (xs := [_, _, _, _, _, _, _, _, _, _, _, _])) (by simp) hcc (by simp [maxN]) (by simp [maxN]), by rw [show g + (2 + b.nb) = g + 1 + 1 + b.nb by omega]; rfl⟩
      · skip
        refine i_call 7 rfl rfl rfl .free rfl (f_atom n1 hnl1 _ _) ?_
        rintro _ _ _ _ ⟨rfl, rfl, rfl⟩
        refine ⟨(.inr heldx), ?_⟩
        refine d_two 3 11 (by kernel_rfl) ?_ ?_
        · skip
          refine i_yld 3 rfl rfl (y_lO1 rfl) .free rfl (.inr heldx) ?_
          refine d_call 11 rfl (by kernel_rfl) rfl rfl .free rfl (f_atom n2 hnl2 _ _) ?_
          rintro _ _ _ _ ⟨rfl, rfl, rfl⟩
          refine ⟨(.inr heldx), ?_⟩
          first | refine d_takeA 12 rfl (by kernel_rfl) rfl (.inr heldx) (y_ixD rfl rfl 1 rfl) .free rfl ?_ | refine d_takeA 12 rfl (by kernel_rfl) rfl (.inr heldx) (y_ixP rfl rfl 1 rfl) .free rfl ?_
          refine d_st 13 rfl (by kernel_rfl) rfl rfl rfl rfl rfl .free (.inl (by kernel_rfl)) ?_
          first | refine d_takeA 14 rfl (by kernel_rfl) rfl (.inl (by kernel_rfl)) (y_ixD rfl rfl 2 rfl) .free rfl ?_ | refine d_takeA 14 rfl (by kernel_rfl) rfl (.inl (by kernel_rfl)) (y_ixP rfl rfl 2 rfl) .free rfl ?_
          refine d_st 15 rfl (by kernel_rfl) rfl rfl rfl rfl rfl .free (.inl (by kernel_rfl)) ?_
          refine d_done (by kernel_rfl) ?_
          refine s_inBlock ?_
          refine s_seq ?_
          refine s_seq ?_
          refine o_enter rfl ?_
          refine o_lOS rfl .free rfl ?_
          refine o_call rfl .free rfl (f_form_kids hf.rep _) ?_
          rintro _ J _ e0 ⟨ok, ck, rfl, hk1, rfl⟩
          have hf := hf.mono e0
          have hfr := hfr.mono e0
          have hto := hto.mono e0
          have hav := hav.mono e0
          have hle := hle.trans e0
          rw [hki] at hk1
          rw [hki]
          have hnm := hnm.mono e0
          refine o_len_slice rfl .free rfl ?_
          refine o_move rfl .free rfl ?_
          refine o_done ?_
          refine s_block ?_
          refine s_loop ?_
          refine s_seq ?_
          refine o_enter rfl ?_
          refine o_cmp rfl rfl rfl .free rfl ?_
          refine o_done ?_
          refine s_seq ?_
          refine s_condT rfl (by first | rfl | decide | (simp; done) | omega) ?_
          refine s_skip ?_
          refine s_seq ?_
          refine s_block ?_
          refine s_seq ?_
          refine o_enter rfl ?_
          first | refine o_ixD rfl rfl _ rfl .free rfl ?_ | refine o_ixP rfl rfl _ rfl .free rfl ?_
          refine o_lI1 rfl .free rfl ?_
          refine o_assign rfl .free rfl ?_
          refine o_done ?_
          refine s_seq ?_
          refine o_enter rfl ?_
          refine o_move rfl .free rfl ?_
          refine o_move rfl .free rfl ?_
          refine o_assign rfl .free rfl ?_
          refine o_assign rfl .free rfl ?_
          refine o_done ?_
          refine s_seq ?_
          refine s_seq ?_
          refine o_enter rfl ?_
          refine o_lOS rfl .free rfl ?_
          refine o_move rfl .free rfl ?_
          refine o_call rfl .free rfl (f_form_bound hf.rep hok0 _ _) ?_
          rintro _ J1 _ e1 ⟨o1, k1, rfl, hs1, rfl⟩
          have hf := hf.mono e1
          have hfr := hfr.mono e1
          have hto := hto.mono e1
          have hav := hav.mono e1
          have hle := hle.trans e1
          have hk1 := hk1.mono e1
          have hnm := hnm.mono e1
          refine o_assign rfl .free rfl ?_
          refine o_done ?_
          refine s_seq ?_
          refine o_enter rfl ?_
          refine o_move rfl .free rfl ?_
          refine o_len_slice rfl .free rfl ?_
          refine o_cmp rfl rfl rfl .free rfl ?_
          refine o_done ?_
          first | refine s_tp rfl (by simp [Ex.binds]) ?_ | refine s_tn rfl (by simp [Ex.binds]) ?_ | refine s_true (by simp [look, opd, *]) ?_
          refine o_enter rfl ?_
          refine o_move rfl .free rfl ?_
          refine o_move rfl .free rfl ?_
          refine o_lits rfl rfl (by rfl) (by rfl) (by rfl) (by decide) (by decide) (by rfl) .free rfl ?_
          intro b87
          refine o_freeze ?_
          intro ez
          have hf := hf.mono ez
          have hfr := hfr.mono ez
          have hto := hto.mono ez
          have hav := hav.mono ez
          have hle := hle.trans ez
          have hk1 := hk1.mono ez
          have hnm := hnm.mono ez
          refine o_call rfl .free rfl (f_slices_Concat (still_set (xs := [.slice of f.length cf, .slice o1 (List.length _) k1]) (ys := [])) hfr (hs1.mono ez) (Ex.binds_room0 (by omega)) _) ?_
          rintro _ J3 _ e3 ⟨o3, k3, rfl, hs3, rfl⟩
          have hf := hf.mono e3
          have hfr := hfr.mono e3
          have hto := hto.mono e3
          have hav := hav.mono e3
          have hle := hle.trans e3
          have hk1 := hk1.mono e3
          have hnm := hnm.mono e3
          refine o_move rfl .free rfl ?_
          refine o_move rfl .free rfl ?_
          refine o_lits rfl rfl (by rfl) (by rfl) (by rfl) (by decide) (by decide) (by rfl) .free rfl ?_
          intro b91
          refine o_freeze ?_
          intro ey
          have hf := hf.mono ey
          have hfr := hfr.mono ey
          have hto := hto.mono ey
          have hav := hav.mono ey
          have hle := hle.trans ey
          have hk1 := hk1.mono ey
          have hnm := hnm.mono ey
          have hs3 := hs3.mono ey
          refine o_call rfl .free rfl (f_slices_Concat (m := [n1, n2]) (still_set (xs := [.slice ot t.length ct, .slice (some ⟨_, 0, none⟩) (List.length _) _]) (ys := [])) hto hnm (show t.length + 2 ≤ maxN by unfold maxN; omega) _) ?_
          rintro _ J4 _ e4 ⟨o4, k4, rfl, hs4, rfl⟩
          have hf := hf.mono e4
          have hfr := hfr.mono e4
          have hto := hto.mono e4
          have hav := hav.mono e4
          have hle := hle.trans e4
          have hk1 := hk1.mono e4
          have hnm := hnm.mono e4
          have hs3 := hs3.mono e4
          refine o_assign rfl .free rfl ?_
          refine o_assign rfl .free rfl ?_
          refine o_done ?_
          refine s_here fun hlr => ?_
          have hpl := b.pl_hits av (f ++ [h1, z]) (t ++ [n1, n2]) (fr 120 av (fr 120 av k + 1) + 1)
          refine d_tl 14 rfl rfl ?_
          refine d_takeA 0 rfl (by kernel_rfl) rfl (.inr heldx) (y_fieldAddr rfl) .free rfl ?_
          refine d_take 1 [13] rfl (by kernel_rfl) rfl heldx (y_lO1 rfl) .free rfl ?_
          refine d_takeA 2 rfl (by kernel_rfl) rfl (.inr heldx) (y_move rfl) .free rfl ?_
          refine d_takeA 3 rfl (by kernel_rfl) rfl (.inr heldx) (y_move rfl) .free rfl ?_
          refine d_takeA 4 rfl (by kernel_rfl) rfl (.inr heldx) (y_fieldAddr rfl) .free rfl ?_
          refine d_take 5 [13] rfl (by kernel_rfl) rfl heldx (y_lO1 rfl) .free rfl ?_
          refine d_takeA 6 rfl (by kernel_rfl) rfl (.inr heldx) (y_move rfl) .free rfl ?_
          first | refine d_takeA 7 rfl (by kernel_rfl) rfl (.inr heldx) (y_ixD rfl rfl _ rfl) .free rfl ?_ | refine d_takeA 7 rfl (by kernel_rfl) rfl (.inr heldx) (y_ixP rfl rfl _ rfl) .free rfl ?_
          refine d_take 8 [13] rfl (by kernel_rfl) rfl heldx (y_lIS rfl) .free rfl ?_
          refine d_takeA 9 rfl (by kernel_rfl) rfl (.inr heldx) (y_move rfl) .free rfl ?_
          refine d_takeA 10 rfl (by kernel_rfl) rfl (.inr heldx) (y_move rfl) .free rfl ?_
          refine d_call 11 rfl (by kernel_rfl) rfl rfl .free rfl (ihn (f := f ++ [h1, z]) (t := t ++ [n1, n2]) (by omega) (hf.as 5 b.tree (by omega) rfl) hok.2 hs3 hs4 (by simp [hft]) (hnf.add (by intro y hy; simp only [List.mem_cons, List.not_mem_nil, or_false] at hy; rcases hy with rfl | rfl; exact hok.1.1.1.1.1; exact hok.1.1.1.1.2)) (by first | omega | (simp only [List.length_append, List.length_cons, List.length_nil]; omega)) hav bp _ _ (by omega) (by omega) _) ?_
          rintro _ J2 _ e2 ⟨cs2, rfl, hr_0, rfl⟩
          obtain ⟨o2, k2, _, rfl, -⟩ := hr_0.open
          have hlr := hlr.trans e2
          have hf := hf.mono e2
          have hfr := hfr.mono e2
          have hto := hto.mono e2
          have hav := hav.mono e2
          have hle := hle.trans e2
          have hk1 := hk1.mono e2
          have hnm := hnm.mono e2
          refine ⟨(.inr heldx), ?_⟩
          first | refine d_takeA 12 rfl (by kernel_rfl) rfl (.inr heldx) (y_ixD rfl rfl _ rfl) .free rfl ?_ | refine d_takeA 12 rfl (by kernel_rfl) rfl (.inr heldx) (y_ixP rfl rfl _ rfl) .free rfl ?_
          refine d_st 13 rfl (by kernel_rfl) rfl rfl rfl rfl rfl .free (.inl (by kernel_rfl)) ?_
          refine d_done (by kernel_rfl) ?_
          refine s_inBlock ?_
          refine o_enter rfl ?_
          refine o_arith rfl rfl rfl (by omega) .free rfl ?_
          refine o_move rfl .free rfl ?_
          refine o_done ?_
          refine s_round ?_
          refine s_seq ?_
          refine o_enter rfl ?_
          refine o_cmp rfl rfl rfl .free rfl ?_
          refine o_done ?_
          refine s_seq ?_
          refine s_condF rfl (by first | rfl | decide | (simp; done) | omega) ?_
          refine s_exit rfl ?_
          refine s_seq ?_
          refine o_enter rfl ?_
          refine o_lOS rfl .free rfl ?_
          refine o_st rfl rfl rfl rfl .free ?_
          refine o_done ?_
          refine s_mem (fun w h => h.f2) (s_freeze ?_)
          intro hz
          have hf := hf.mono hz
          refine s_ret (.c rfl .nil) ?_
          subst hn1e hn2e
          exact ⟨_, _, hle.trans hz, fun w h => Mem.sub (L' := pn bp ov av cv _ _ :: L) (by repeat (first | exact List.Sublist.refl _ | apply List.Sublist.cons_cons | apply List.Sublist.cons)) h, _, rfl, .mk' rfl (.cons (hf.as 0 (.node tFun []) (by omega) rfl) (.cons (.ofAtom hnl1) (.cons (.ofAtom hnl2) (.cons (hf.as 3 (s.tree) (by omega) rfl) (.cons (hf.as 4 (u.tree) (by omega) rfl) (.cons (hr_0.mono hz) (.nil))))))) (fun y hy => by cases hy; exact still_set (xs := [_, _, _, _, _, _, _, _, _, _, _, _])) (by simp) hcc (by simp [maxN]) (by simp [maxN]), by rw [show g + (2 + b.nb) = g + 1 + 1 + b.nb by omega]; rfl⟩
        · skip
          refine i_call 11 rfl rfl rfl .free rfl (f_atom n2 hnl2 _ _) ?_
          rintro _ _ _ _ ⟨rfl, rfl, rfl⟩
          refine ⟨(.inr heldx), ?_⟩
          first | refine d_takeA 12 rfl (by kernel_rfl) rfl (.inr heldx) (y_ixD rfl rfl 1 rfl) .free rfl ?_ | refine d_takeA 12 rfl (by kernel_rfl) rfl (.inr heldx) (y_ixP rfl rfl 1 rfl) .free rfl ?_
          refine d_two 3 13 (by kernel_rfl) ?_ ?_
          · skip
            refine i_yld 3 rfl rfl (y_lO1 rfl) .free rfl (.inr heldx) ?_
            refine d_st 13 rfl (by kernel_rfl) rfl rfl rfl rfl rfl .free (.inl (by kernel_rfl)) ?_
            first | refine d_takeA 14 rfl (by kernel_rfl) rfl (.inl (by kernel_rfl)) (y_ixD rfl rfl 2 rfl) .free rfl ?_ | refine d_takeA 14 rfl (by kernel_rfl) rfl (.inl (by kernel_rfl)) (y_ixP rfl rfl 2 rfl) .free rfl ?_
            refine d_st 15 rfl (by kernel_rfl) rfl rfl rfl rfl rfl .free (.inl (by kernel_rfl)) ?_
            refine d_done (by kernel_rfl) ?_
            refine s_inBlock ?_
            refine s_seq ?_
            refine s_seq ?_
            refine o_enter rfl ?_
            refine o_lOS rfl .free rfl ?_
            refine o_call rfl .free rfl (f_form_kids hf.rep _) ?_
            rintro _ J _ e0 ⟨ok, ck, rfl, hk1, rfl⟩
            have hf := hf.mono e0
            have hfr := hfr.mono e0
            have hto := hto.mono e0
            have hav := hav.mono e0
            have hle := hle.trans e0
            rw [hki] at hk1
            rw [hki]
            have hnm := hnm.mono e0
            refine o_len_slice rfl .free rfl ?_
            refine o_move rfl .free rfl ?_
            refine o_done ?_
            refine s_block ?_
            refine s_loop ?_
            refine s_seq ?_
            refine o_enter rfl ?_
            refine o_cmp rfl rfl rfl .free rfl ?_
            refine o_done ?_
            refine s_seq ?_
            refine s_condT rfl (by first | rfl | decide | (simp; done) | omega) ?_
            refine s_skip ?_
            refine s_seq ?_
            refine s_block ?_
            refine s_seq ?_
            refine o_enter rfl ?_
            first | refine o_ixD rfl rfl _ rfl .free rfl ?_ | refine o_ixP rfl rfl _ rfl .free rfl ?_
            refine o_lI1 rfl .free rfl ?_
            refine o_assign rfl .free rfl ?_
            refine o_done ?_
            refine s_seq ?_
            refine o_enter rfl ?_
            refine o_move rfl .free rfl ?_
            refine o_move rfl .free rfl ?_
            refine o_assign rfl .free rfl ?_
            refine o_assign rfl .free rfl ?_
            refine o_done ?_
            refine s_seq ?_
            refine s_seq ?_
            refine o_enter rfl ?_
            refine o_lOS rfl .free rfl ?_
            refine o_move rfl .free rfl ?_
            refine o_call rfl .free rfl (f_form_bound hf.rep hok0 _ _) ?_
            rintro _ J1 _ e1 ⟨o1, k1, rfl, hs1, rfl⟩
            have hf := hf.mono e1
            have hfr := hfr.mono e1
            have hto := hto.mono e1
            have hav := hav.mono e1
            have hle := hle.trans e1
            have hk1 := hk1.mono e1
            have hnm := hnm.mono e1
            refine o_assign rfl .free rfl ?_
            refine o_done ?_
            refine s_seq ?_
            refine o_enter rfl ?_
            refine o_move rfl .free rfl ?_
            refine o_len_slice rfl .free rfl ?_
            refine o_cmp rfl rfl rfl .free rfl ?_
            refine o_done ?_
            first | refine s_tp rfl (by simp [Ex.binds]) ?_ | refine s_tn rfl (by simp [Ex.binds]) ?_ | refine s_true (by simp [look, opd, *]) ?_
            refine o_enter rfl ?_
            refine o_move rfl .free rfl ?_
            refine o_move rfl .free rfl ?_
            refine o_lits rfl rfl (by rfl) (by rfl) (by rfl) (by decide) (by decide) (by rfl) .free rfl ?_
            intro b87
            refine o_freeze ?_
            intro ez
            have hf := hf.mono ez
            have hfr := hfr.mono ez
            have hto := hto.mono ez
            have hav := hav.mono ez
            have hle := hle.trans ez
            have hk1 := hk1.mono ez
            have hnm := hnm.mono ez
            refine o_call rfl .free rfl (f_slices_Concat (still_set (xs := [.slice of f.length cf, .slice o1 (List.length _) k1]) (ys := [])) hfr (hs1.mono ez) (Ex.binds_room0 (by omega)) _) ?_
            rintro _ J3 _ e3 ⟨o3, k3, rfl, hs3, rfl⟩
            have hf := hf.mono e3
            have hfr := hfr.mono e3
            have hto := hto.mono e3
            have hav := hav.mono e3
            have hle := hle.trans e3
            have hk1 := hk1.mono e3
            have hnm := hnm.mono e3
            refine o_move rfl .free rfl ?_
            refine o_move rfl .free rfl ?_
            refine o_lits rfl rfl (by rfl) (by rfl) (by rfl) (by decide) (by decide) (by rfl) .free rfl ?_
            intro b91
            refine o_freeze ?_
            intro ey
            have hf := hf.mono ey
            have hfr := hfr.mono ey
            have hto := hto.mono ey
            have hav := hav.mono ey
            have hle := hle.trans ey
            have hk1 := hk1.mono ey
            have hnm := hnm.mono ey
            have hs3 := hs3.mono ey
            refine o_call rfl .free rfl (f_slices_Concat (m := [n1, n2]) (still_set (xs := [.slice ot t.length ct, .slice (some ⟨_, 0, none⟩) (List.length _) _]) (ys := [])) hto hnm (show t.length + 2 ≤ maxN by unfold maxN; omega) _) ?_
            rintro _ J4 _ e4 ⟨o4, k4, rfl, hs4, rfl⟩
            have hf := hf.mono e4
            have hfr := hfr.mono e4
            have hto := hto.mono e4
            have hav := hav.mono e4
            have hle := hle.trans e4
            have hk1 := hk1.mono e4
            have hnm := hnm.mono e4
            have hs3 := hs3.mono e4
            refine o_assign rfl .free rfl ?_
            refine o_assign rfl .free rfl ?_
            refine o_done ?_
            refine s_here fun hlr => ?_
            have hpl := b.pl_hits av (f ++ [h1, z]) (t ++ [n1, n2]) (fr 120 av (fr 120 av k + 1) + 1)
            refine d_tl 14 rfl rfl ?_
            refine d_takeA 0 rfl (by kernel_rfl) rfl (.inr heldx) (y_fieldAddr rfl) .free rfl ?_
            refine d_take 1 [13] rfl (by kernel_rfl) rfl heldx (y_lO1 rfl) .free rfl ?_
            refine d_takeA 2 rfl (by kernel_rfl) rfl (.inr heldx) (y_move rfl) .free rfl ?_
            refine d_takeA 3 rfl (by kernel_rfl) rfl (.inr heldx) (y_move rfl) .free rfl ?_
            refine d_takeA 4 rfl (by kernel_rfl) rfl (.inr heldx) (y_fieldAddr rfl) .free rfl ?_
            refine d_take 5 [13] rfl (by kernel_rfl) rfl heldx (y_lO1 rfl) .free rfl ?_
            refine d_takeA 6 rfl (by kernel_rfl) rfl (.inr heldx) (y_move rfl) .free rfl ?_
            first | refine d_takeA 7 rfl (by kernel_rfl) rfl (.inr heldx) (y_ixD rfl rfl _ rfl) .free rfl ?_ | refine d_takeA 7 rfl (by kernel_rfl) rfl (.inr heldx) (y_ixP rfl rfl _ rfl) .free rfl ?_
            refine d_take 8 [13] rfl (by kernel_rfl) rfl heldx (y_lIS rfl) .free rfl ?_
            refine d_takeA 9 rfl (by kernel_rfl) rfl (.inr heldx) (y_move rfl) .free rfl ?_
            refine d_takeA 10 rfl (by kernel_rfl) rfl (.inr heldx) (y_move rfl) .free rfl ?_
            refine d_call 11 rfl (by kernel_rfl) rfl rfl .free rfl (ihn (f := f ++ [h1, z]) (t := t ++ [n1, n2]) (by omega) (hf.as 5 b.tree (by omega) rfl) hok.2 hs3 hs4 (by simp [hft]) (hnf.add (by intro y hy; simp only [List.mem_cons, List.not_mem_nil, or_false] at hy; rcases hy with rfl | rfl; exact hok.1.1.1.1.1; exact hok.1.1.1.1.2)) (by first | omega | (simp only [List.length_append, List.length_cons, List.length_nil]; omega)) hav bp _ _ (by omega) (by omega) _) ?_
            rintro _ J2 _ e2 ⟨cs2, rfl, hr_0, rfl⟩
            obtain ⟨o2, k2, _, rfl, -⟩ := hr_0.open
            have hlr := hlr.trans e2
            have hf := hf.mono e2
            have hfr := hfr.mono e2
            have hto := hto.mono e2
            have hav := hav.mono e2
            have hle := hle.trans e2
            have hk1 := hk1.mono e2
            have hnm := hnm.mono e2
            refine ⟨(.inr heldx), ?_⟩
            first | refine d_takeA 12 rfl (by kernel_rfl) rfl (.inr heldx) (y_ixD rfl rfl _ rfl) .free rfl ?_ | refine d_takeA 12 rfl (by kernel_rfl) rfl (.inr heldx) (y_ixP rfl rfl _ rfl) .free rfl ?_
            refine d_st 13 rfl (by kernel_rfl) rfl rfl rfl rfl rfl .free (.inl (by kernel_rfl)) ?_
            refine d_done (by kernel_rfl) ?_
            refine s_inBlock ?_
            refine o_enter rfl ?_
            refine o_arith rfl rfl rfl (by omega) .free rfl ?_
            refine o_move rfl .free rfl ?_
            refine o_done ?_
            refine s_round ?_
            refine s_seq ?_
            refine o_enter rfl ?_
            refine o_cmp rfl rfl rfl .free rfl ?_
            refine o_done ?_
            refine s_seq ?_
            refine s_condF rfl (by first | rfl | decide | (simp; done) | omega) ?_
            refine s_exit rfl ?_
            refine s_seq ?_
            refine o_enter rfl ?_
            refine o_lOS rfl .free rfl ?_
            refine o_st rfl rfl rfl rfl .free ?_
            refine o_done ?_
            refine s_mem (fun w h => h.f2) (s_freeze ?_)
            intro hz
            have hf := hf.mono hz
            refine s_ret (.c rfl .nil) ?_
            subst hn1e hn2e
            exact ⟨_, _, hle.trans hz, fun w h => Mem.sub (L' := pn bp ov av cv _ _ :: L) (by repeat (first | exact List.Sublist.refl _ | apply List.Sublist.cons_cons | apply List.Sublist.cons)) h, _, rfl, .mk' rfl (.cons (hf.as 0 (.node tFun []) (by omega) rfl) (.cons (.ofAtom hnl1) (.cons (.ofAtom hnl2) (.cons (hf.as 3 (s.tree) (by omega) rfl) (.cons (hf.as 4 (u.tree) (by omega) rfl) (.cons (hr_0.mono hz) (.nil))))))) (fun y hy => by cases hy; exact still_set (xs := [_, _, _, _, _, _, _, _, _, _, _, _])) (by simp) hcc (by simp [maxN]) (by simp [maxN]), by rw [show g + (2 + b.nb) = g + 1 + 1 + b.nb by omega]; rfl⟩
          · skip
            refine i_st 13 rfl rfl rfl rfl rfl rfl .free (.inl (by kernel_rfl)) ?_
            refine d_yld 3 rfl (by kernel_rfl) rfl (y_lO1 rfl) .free rfl (.inl (by kernel_rfl)) ?_
            first | refine d_takeA 14 rfl (by kernel_rfl) rfl (.inl (by kernel_rfl)) (y_ixD rfl rfl 2 rfl) .free rfl ?_ | refine d_takeA 14 rfl (by kernel_rfl) rfl (.inl (by kernel_rfl)) (y_ixP rfl rfl 2 rfl) .free rfl ?_
            refine d_st 15 rfl (by kernel_rfl) rfl rfl rfl rfl rfl .free (.inl (by kernel_rfl)) ?_
            refine d_done (by kernel_rfl) ?_
            refine s_inBlock ?_
            refine s_seq ?_
            refine s_seq ?_
            refine o_enter rfl ?_
            refine o_lOS rfl .free rfl ?_
            refine o_call rfl .free rfl (f_form_kids hf.rep _) ?_
            rintro _ J _ e0 ⟨ok, ck, rfl, hk1, rfl⟩
            have hf := hf.mono e0
            have hfr := hfr.mono e0
            have hto := hto.mono e0
            have hav := hav.mono e0
            have hle := hle.trans e0
            rw [hki] at hk1
            rw [hki]
            have hnm := hnm.mono e0
            refine o_len_slice rfl .free rfl ?_
            refine o_move rfl .free rfl ?_
            refine o_done ?_
            refine s_block ?_
            refine s_loop ?_
            refine s_seq ?_
            refine o_enter rfl ?_
            refine o_cmp rfl rfl rfl .free rfl ?_
            refine o_done ?_
            refine s_seq ?_
            refine s_condT rfl (by first | rfl | decide | (simp; done) | omega) ?_
            refine s_skip ?_
            refine s_seq ?_
            refine s_block ?_
            refine s_seq ?_
            refine o_enter rfl ?_
            first | refine o_ixD rfl rfl _ rfl .free rfl ?_ | refine o_ixP rfl rfl _ rfl .free rfl ?_
            refine o_lI1 rfl .free rfl ?_
            refine o_assign rfl .free rfl ?_
            refine o_done ?_
            refine s_seq ?_
            refine o_enter rfl ?_
            refine o_move rfl .free rfl ?_
            refine o_move rfl .free rfl ?_
            refine o_assign rfl .free rfl ?_
            refine o_assign rfl .free rfl ?_
            refine o_done ?_
            refine s_seq ?_
            refine s_seq ?_
            refine o_enter rfl ?_
            refine o_lOS rfl .free rfl ?_
            refine o_move rfl .free rfl ?_
            refine o_call rfl .free rfl (f_form_bound hf.rep hok0 _ _) ?_
            rintro _ J1 _ e1 ⟨o1, k1, rfl, hs1, rfl⟩
            have hf := hf.mono e1
            have hfr := hfr.mono e1
            have hto := hto.mono e1
            have hav := hav.mono e1
            have hle := hle.trans e1
            have hk1 := hk1.mono e1
            have hnm := hnm.mono e1
            refine o_assign rfl .free rfl ?_
            refine o_done ?_
            refine s_seq ?_
            refine o_enter rfl ?_
            refine o_move rfl .free rfl ?_
            refine o_len_slice rfl .free rfl ?_
            refine o_cmp rfl rfl rfl .free rfl ?_
            refine o_done ?_
            first | refine s_tp rfl (by simp [Ex.binds]) ?_ | refine s_tn rfl (by simp [Ex.binds]) ?_ | refine s_true (by simp [look, opd, *]) ?_
            refine o_enter rfl ?_
            refine o_move rfl .free rfl ?_
            refine o_move rfl .free rfl ?_
            refine o_lits rfl rfl (by rfl) (by rfl) (by rfl) (by decide) (by decide) (by rfl) .free rfl ?_
            intro b87
            refine o_freeze ?_
            intro ez
            have hf := hf.mono ez
            have hfr := hfr.mono ez
            have hto := hto.mono ez
            have hav := hav.mono ez
            have hle := hle.trans ez
            have hk1 := hk1.mono ez
            have hnm := hnm.mono ez
            refine o_call rfl .free rfl (f_slices_Concat (still_set (xs := [.slice of f.length cf, .slice o1 (List.length _) k1]) (ys := [])) hfr (hs1.mono ez) (Ex.binds_room0 (by omega)) _) ?_
            rintro _ J3 _ e3 ⟨o3, k3, rfl, hs3, rfl⟩
            have hf := hf.mono e3
            have hfr := hfr.mono e3
            have hto := hto.mono e3
            have hav := hav.mono e3
            have hle := hle.trans e3
            have hk1 := hk1.mono e3
            have hnm := hnm.mono e3
            refine o_move rfl .free rfl ?_
            refine o_move rfl .free rfl ?_
            refine o_lits rfl rfl (by rfl) (by rfl) (by rfl) (by decide) (by decide) (by rfl) .free rfl ?_
            intro b91
            refine o_freeze ?_
            intro ey
            have hf := hf.mono ey
            have hfr := hfr.mono ey
            have hto := hto.mono ey
            have hav := hav.mono ey
            have hle := hle.trans ey
            have hk1 := hk1.mono ey
            have hnm := hnm.mono ey
            have hs3 := hs3.mono ey
            refine o_call rfl .free rfl (f_slices_Concat (m := [n1, n2]) (still_set (xs := [.slice ot t.length ct, .slice (some ⟨_, 0, none⟩) (List.length _) _]) (ys := [])) hto hnm (show t.length + 2 ≤ maxN by unfold maxN; omega) _) ?_
            rintro _ J4 _ e4 ⟨o4, k4, rfl, hs4, rfl⟩
            have hf := hf.mono e4
            have hfr := hfr.mono e4
            have hto := hto.mono e4
            have hav := hav.mono e4
            have hle := hle.trans e4
            have hk1 := hk1.mono e4
            have hnm := hnm.mono e4
            have hs3 := hs3.mono e4
            refine o_assign rfl .free rfl ?_
            refine o_assign rfl .free rfl ?_
            refine o_done ?_
            refine s_here fun hlr => ?_
            have hpl := b.pl_hits av (f ++ [h1, z]) (t ++ [n1, n2]) (fr 120 av (fr 120 av k + 1) + 1)
            refine d_tl 14 rfl rfl ?_
            refine d_takeA 0 rfl (by kernel_rfl) rfl (.inr heldx) (y_fieldAddr rfl) .free rfl ?_
            refine d_take 1 [13] rfl (by kernel_rfl) rfl heldx (y_lO1 rfl) .free rfl ?_
            refine d_takeA 2 rfl (by kernel_rfl) rfl (.inr heldx) (y_move rfl) .free rfl ?_
            refine d_takeA 3 rfl (by kernel_rfl) rfl (.inr heldx) (y_move rfl) .free rfl ?_
            refine d_takeA 4 rfl (by kernel_rfl) rfl (.inr heldx) (y_fieldAddr rfl) .free rfl ?_
            refine d_take 5 [13] rfl (by kernel_rfl) rfl heldx (y_lO1 rfl) .free rfl ?_
            refine d_takeA 6 rfl (by kernel_rfl) rfl (.inr heldx) (y_move rfl) .free rfl ?_
            first | refine d_takeA 7 rfl (by kernel_rfl) rfl (.inr heldx) (y_ixD rfl rfl _ rfl) .free rfl ?_ | refine d_takeA 7 rfl (by kernel_rfl) rfl (.inr heldx) (y_ixP rfl rfl _ rfl) .free rfl ?_
            refine d_take 8 [13] rfl (by kernel_rfl) rfl heldx (y_lIS rfl) .free rfl ?_
            refine d_takeA 9 rfl (by kernel_rfl) rfl (.inr heldx) (y_move rfl) .free rfl ?_
            refine d_takeA 10 rfl (by kernel_rfl) rfl (.inr heldx) (y_move rfl) .free rfl ?_
            refine d_call 11 rfl (by kernel_rfl) rfl rfl .free rfl (ihn (f := f ++ [h1, z]) (t := t ++ [n1, n2]) (by omega) (hf.as 5 b.tree (by omega) rfl) hok.2 hs3 hs4 (by simp [hft]) (hnf.add (by intro y hy; simp only [List.mem_cons, List.not_mem_nil, or_false] at hy; rcases hy with rfl | rfl; exact hok.1.1.1.1.1; exact hok.1.1.1.1.2)) (by first | omega | (simp only [List.length_append, List.length_cons, List.length_nil]; omega)) hav bp _ _ (by omega) (by omega) _) ?_
            rintro _ J2 _ e2 ⟨cs2, rfl, hr_0, rfl⟩
            obtain ⟨o2, k2, _, rfl, -⟩ := hr_0.open
            have hlr := hlr.trans e2
            have hf := hf.mono e2
            have hfr := hfr.mono e2
            have hto := hto.mono e2
            have hav := hav.mono e2
            have hle := hle.trans e2
            have hk1 := hk1.mono e2
            have hnm := hnm.mono e2
            refine ⟨(.inr heldx), ?_⟩
            first | refine d_takeA 12 rfl (by kernel_rfl) rfl (.inr heldx) (y_ixD rfl rfl _ rfl) .free rfl ?_ | refine d_takeA 12 rfl (by kernel_rfl) rfl (.inr heldx) (y_ixP rfl rfl _ rfl) .free rfl ?_
            refine d_st 13 rfl (by kernel_rfl) rfl rfl rfl rfl rfl .free (.inl (by kernel_rfl)) ?_
            refine d_done (by kernel_rfl) ?_
            refine s_inBlock ?_
            refine o_enter rfl ?_
            refine o_arith rfl rfl rfl (by omega) .free rfl ?_
            refine o_move rfl .free rfl ?_
            refine o_done ?_
            refine s_round ?_
            refine s_seq ?_
            refine o_enter rfl ?_
            refine o_cmp rfl rfl rfl .free rfl ?_
            refine o_done ?_
            refine s_seq ?_
            refine s_condF rfl (by first | rfl | decide | (simp; done) | omega) ?_
            refine s_exit rfl ?_
            refine s_seq ?_
            refine o_enter rfl ?_
            refine o_lOS rfl .free rfl ?_
            refine o_st rfl rfl rfl rfl .free ?_
            refine o_done ?_
            refine s_mem (fun w h => h.f2) (s_freeze ?_)
            intro hz
            have hf := hf.mono hz
            refine s_ret (.c rfl .nil) ?_
            subst hn1e hn2e
            exact ⟨_, _, hle.trans hz, fun w h => Mem.sub (L' := pn bp ov av cv _ _ :: L) (by repeat (first | exact List.Sublist.refl _ | apply List.Sublist.cons_cons | apply List.Sublist.cons)) h, _, rfl, .mk' rfl (.cons (hf.as 0 (.node tFun []) (by omega) rfl) (.cons (.ofAtom hnl1) (.cons (.ofAtom hnl2) (.cons (hf.as 3 (s.tree) (by omega) rfl) (.cons (hf.as 4 (u.tree) (by omega) rfl) (.cons (hr_0.mono hz) (.nil))))))) (fun y hy => by cases hy; exact still_set (xs := [_, _, _, _, _, _, _, _, _, _, _, _])) (by simp) hcc (by simp [maxN]) (by simp [maxN]), by rw [show g + (2 + b.nb) = g + 1 + 1 + b.nb by omega]; rfl⟩
    · skip
      have hlen : (Ex.un o a).tree.parts.length = 2 := rfl
      have hki := kids_un o a
      have hhd : (Ex.un o a).tree.head = o.txt := rfl
      simp only [Ex.un.sizeOf_spec] at hlt
      simp only [Ex.ok, Bool.and_eq_true, decide_eq_true_eq] at hok
      simp only [Ex.nb] at hk hg ⊢
      simp only [Ex.size] at hfl
      obtain ⟨_, hrl⟩ : ∃ _ : True, RepL I (Ex.un o a).tree.parts _ := ⟨trivial, hcl⟩
      simp only [show (Ex.un o a).tree.parts = [.node o.txt [], a.tree] from rfl, cellsF, List.cons_append, List.nil_append] at hrl ⊢
      refine s_mem (fun w h => h.f4) ?_
      refine o_enter rfl ?_
      refine o_assign rfl .free rfl ?_
      refine o_done ?_
      refine s_seq ?_
      refine s_seq ?_
      refine o_enter rfl ?_
      refine o_lOS rfl .free rfl ?_
      refine o_call rfl .free rfl (f_form_head hf.rep _) ?_
      rintro _ _ _ _ ⟨rfl, rfl, rfl⟩
      refine o_done ?_
      refine s_block ?_
      refine s_seq ?_
      refine o_enter rfl ?_
      refine o_cmps rfl rfl rfl .free rfl ?_
      refine o_assign rfl .free rfl ?_
      refine o_done ?_
      first | refine s_fp rfl (by rw [hhd]; cases o <;> decide) ?_ | refine s_fn rfl (by rw [hhd]; cases o <;> decide) ?_ | refine s_false (by simp [look, opd, *]) ?_
      refine s_seq ?_
      refine o_enter rfl ?_
      refine o_cmps rfl rfl rfl .free rfl ?_
      refine o_assign rfl .free rfl ?_
      refine o_done ?_
      first | refine s_fp rfl (by rw [hhd]; cases o <;> decide) ?_ | refine s_fn rfl (by rw [hhd]; cases o <;> decide) ?_ | refine s_false (by simp [look, opd, *]) ?_
      refine s_skip ?_
      refine s_inBlock ?_
      refine s_seq ?_
      refine s_seq ?_
      refine o_enter rfl ?_
      refine o_lOS rfl .free rfl ?_
      refine o_call rfl .free rfl (f_form_kids hf.rep _) ?_
      rintro _ J _ e0 ⟨ok, ck, rfl, hk1, rfl⟩
      have hf := hf.mono e0
      have hfr := hfr.mono e0
      have hto := hto.mono e0
      have hav := hav.mono e0
      have hle := hle.trans e0
      rw [hki] at hk1
      rw [hki]
      refine o_len_slice rfl .free rfl ?_
      refine o_move rfl .free rfl ?_
      refine o_done ?_
      refine s_block ?_
      refine s_loop ?_
      refine s_seq ?_
      refine o_enter rfl ?_
      refine o_cmp rfl rfl rfl .free rfl ?_
      refine o_done ?_
      refine s_seq ?_
      refine s_condT rfl (by first | rfl | decide | (simp; done) | omega) ?_
      refine s_skip ?_
      refine s_seq ?_
      refine s_block ?_
      refine s_seq ?_
      refine o_enter rfl ?_
      first | refine o_ixD rfl rfl _ rfl .free rfl ?_ | refine o_ixP rfl rfl _ rfl .free rfl ?_
      refine o_lI1 rfl .free rfl ?_
      refine o_assign rfl .free rfl ?_
      refine o_done ?_
      refine s_seq ?_
      refine o_enter rfl ?_
      refine o_move rfl .free rfl ?_
      refine o_move rfl .free rfl ?_
      refine o_assign rfl .free rfl ?_
      refine o_assign rfl .free rfl ?_
      refine o_done ?_
      refine s_seq ?_
      refine s_seq ?_
      refine o_enter rfl ?_
      refine o_lOS rfl .free rfl ?_
      refine o_move rfl .free rfl ?_
      refine o_call rfl .free rfl (f_form_bound hf.rep hok0 _ _) ?_
      rintro _ J1 _ e1 ⟨o1, k1, rfl, hs1, rfl⟩
      have hf := hf.mono e1
      have hfr := hfr.mono e1
      have hto := hto.mono e1
      have hav := hav.mono e1
      have hle := hle.trans e1
      have hk1 := hk1.mono e1
      refine o_assign rfl .free rfl ?_
      refine o_done ?_
      refine s_seq ?_
      refine o_enter rfl ?_
      refine o_move rfl .free rfl ?_
      refine o_len_slice rfl .free rfl ?_
      refine o_cmp rfl rfl rfl .free rfl ?_
      refine o_done ?_
      first | refine s_fp rfl (by simp [Ex.binds]) ?_ | refine s_fn rfl (by simp [Ex.binds]) ?_ | refine s_false (by simp [look, opd, *]) ?_
      refine s_skip ?_
      refine s_here fun hlr => ?_
      have hpl := a.pl_hits av (f) (t) k
      refine d_tl 14 rfl rfl ?_
      refine d_takeA 0 rfl (by kernel_rfl) rfl (.inr heldx) (y_fieldAddr rfl) .free rfl ?_
      refine d_take 1 [13] rfl (by kernel_rfl) rfl heldx (y_lO1 rfl) .free rfl ?_
      refine d_takeA 2 rfl (by kernel_rfl) rfl (.inr heldx) (y_move rfl) .free rfl ?_
      refine d_takeA 3 rfl (by kernel_rfl) rfl (.inr heldx) (y_move rfl) .free rfl ?_
      refine d_takeA 4 rfl (by kernel_rfl) rfl (.inr heldx) (y_fieldAddr rfl) .free rfl ?_
      refine d_take 5 [13] rfl (by kernel_rfl) rfl heldx (y_lO1 rfl) .free rfl ?_
      refine d_takeA 6 rfl (by kernel_rfl) rfl (.inr heldx) (y_move rfl) .free rfl ?_
      first | refine d_takeA 7 rfl (by kernel_rfl) rfl (.inr heldx) (y_ixD rfl rfl _ rfl) .free rfl ?_ | refine d_takeA 7 rfl (by kernel_rfl) rfl (.inr heldx) (y_ixP rfl rfl _ rfl) .free rfl ?_
      refine d_take 8 [13] rfl (by kernel_rfl) rfl heldx (y_lIS rfl) .free rfl ?_
      refine d_takeA 9 rfl (by kernel_rfl) rfl (.inr heldx) (y_move rfl) .free rfl ?_
      refine d_takeA 10 rfl (by kernel_rfl) rfl (.inr heldx) (y_move rfl) .free rfl ?_
      refine d_call 11 rfl (by kernel_rfl) rfl rfl .free rfl (ihn (f := f) (t := t) (by omega) (hf.as 1 a.tree (by omega) rfl) hok hfr hto (by simp [hft]) hnf (by first | omega | (simp only [List.length_append, List.length_cons, List.length_nil]; omega)) hav bp _ _ (by omega) (by omega) _) ?_
      rintro _ J2 _ e2 ⟨cs2, rfl, hr_0, rfl⟩
      obtain ⟨o2, k2, _, rfl, -⟩ := hr_0.open
      have hlr := hlr.trans e2
      have hf := hf.mono e2
      have hfr := hfr.mono e2
      have hto := hto.mono e2
      have hav := hav.mono e2
      have hle := hle.trans e2
      have hk1 := hk1.mono e2
      refine ⟨(.inr heldx), ?_⟩
      first | refine d_takeA 12 rfl (by kernel_rfl) rfl (.inr heldx) (y_ixD rfl rfl _ rfl) .free rfl ?_ | refine d_takeA 12 rfl (by kernel_rfl) rfl (.inr heldx) (y_ixP rfl rfl _ rfl) .free rfl ?_
      refine d_st 13 rfl (by kernel_rfl) rfl rfl rfl rfl rfl .free (.inl (by kernel_rfl)) ?_
      refine d_done (by kernel_rfl) ?_
      refine s_inBlock ?_
      refine o_enter rfl ?_
      refine o_arith rfl rfl rfl (by omega) .free rfl ?_
      refine o_move rfl .free rfl ?_
      refine o_done ?_
      refine s_round ?_
      refine s_seq ?_
      refine o_enter rfl ?_
      refine o_cmp rfl rfl rfl .free rfl ?_
      refine o_done ?_
      refine s_seq ?_
      refine s_condF rfl (by first | rfl | decide | (simp; done) | omega) ?_
      refine s_exit rfl ?_
      refine s_seq ?_
      refine o_enter rfl ?_
      refine o_lOS rfl .free rfl ?_
      refine o_st rfl rfl rfl rfl .free ?_
      refine o_done ?_
      refine s_mem (fun w h => h.f2) (s_freeze ?_)
      intro hz
      have hf := hf.mono hz
      refine s_ret (.c rfl .nil) ?_
      exact ⟨_, _, hle.trans hz, fun w h => Mem.sub (L' := pn bp ov av cv _ _ :: L) (by repeat (first | exact List.Sublist.refl _ | apply List.Sublist.cons_cons | apply List.Sublist.cons)) h, _, rfl, .mk' rfl (.cons (hf.as 0 (.node o.txt []) (by omega) rfl) (.cons (hr_0.mono hz) (.nil))) (fun y hy => by cases hy; exact still_set (xs := [_, _, _, _])) (by simp) hcc (by simp [maxN]) (by simp [maxN]), by first | rfl | (simp only [Nat.add_assoc]; rfl)⟩
end Go.Proofs.YtmjjhbnkjafhdaaDoor


/- 'ExprPlain', by the program. No conditions. -/
namespace Go.Proofs.YtmjjhbnkjafhdaaDoor
set_option maxRecDepth 100000
set_option linter.unusedVariables false
set_option linter.unusedSimpArgs false

theorem plainOf_some {s : Txt} {e : Ex} (h : exOf s = some e) : plainOf s = some e.plain.tree.text := by unfold plainOf; rw [h]; rfl
theorem plainOf_none {s : Txt} (h : exOf s = none) : plainOf s = none := by unfold plainOf; rw [h]; rfl
theorem f_form_plain {I : Heap} {e : Ex} {cs : List Value} (h : Rep I e.tree cs) (hfine : e.fine = true) (L : Own) : Fun Tryd.prog 10 [.agg cs.toArray] I L (fun v I' L' => ∃ ds, v = .tuple #[.agg (List.toArray ds), .bool true] ∧ Rep I' e.plain.tree ds ∧ L = L') := by
  obtain ⟨oa, c, oaf, cf, rfl, hf⟩ := h.at'
  have hpf := plain_fine hfine
  have hf2 := hfine
  simp only [Ex.fine, Bool.and_eq_true, decide_eq_true_eq, Tree.fits] at hf2
  have hf3 := hpf
  simp only [Ex.fine, Bool.and_eq_true, decide_eq_true_eq, Tree.fits] at hf3
  have hroom := plain_room hf2.1.2
  refine fun_intro (by simp) ?_
  refine s_seq ?_
  refine o_enter rfl ?_
  refine o_box rfl rfl .free rfl ?_
  intro b1
  refine o_alloc .free rfl ?_
  intro b2
  refine o_assign rfl .free rfl ?_
  refine o_done ?_
  refine s_seq ?_
  refine o_enter rfl ?_
  refine o_lOS rfl .free rfl ?_
  refine o_call rfl .free rfl (f_form_freeNames hf.rep hf2.1.1 (by omega) _) ?_
  rintro _ J1 _ e1 ⟨ov, cv, rfl, hav, rfl⟩
  have hf := hf.mono e1
  refine o_struct rfl rfl rfl .free rfl ?_
  refine o_box rfl rfl .free rfl ?_
  intro b9
  refine o_assign rfl .free rfl ?_
  refine o_done ?_
  refine s_seq ?_
  refine o_enter rfl ?_
  refine o_move rfl .free rfl ?_
  refine o_lOS rfl .free rfl ?_
  refine o_mem (L' := pn b9 ov e.free cv 0 0 :: _) (fun w h => h) ?_
  refine o_call rfl .free rfl (f_plainer_expr _ (Nat.lt_succ_self _) hf.rep hf2.1.1 (strs_nil _) (strs_nil _) rfl (fun s hs => by cases hs) (by simp; omega) hav b9 0 0 (by omega) (by omega) _) ?_
  rintro _ J2 _ e2 ⟨ds, rfl, hr, rfl⟩
  have hr : Rep J2 e.plain.tree ds := hr
  obtain ⟨od, cd, _, rfl, -⟩ := hr.open
  have hle := e1.trans e2
  unfold pn
  refine o_alloc .free rfl ?_
  intro b5
  refine o_st rfl rfl rfl rfl .free ?_
  refine o_done ?_
  refine s_seq ?_
  refine d_all 12 rfl rfl ?_
  refine d_take 0 [10] rfl (by kernel_rfl) rfl heldx (y_lOS rfl) .free rfl ?_
  refine d_takeA 1 rfl (by kernel_rfl) rfl (.inr heldx) (y_move rfl) .free rfl ?_
  refine d_takeA 2 rfl (by kernel_rfl) rfl (.inr heldx) (y_nilCheck rfl) .free rfl ?_
  first | refine d_takeA 3 rfl (by kernel_rfl) rfl (.inr heldx) (y_fieldAddr rfl) .free rfl ?_ | refine d_takeA 3 rfl (by kernel_rfl) rfl (.inr heldx) (y_fieldAddr' rfl) .free rfl ?_
  refine d_take 4 [5, 6, 8, 10] rfl (by kernel_rfl) rfl heldx (y_lJ rfl) .free rfl ?_
  refine d_takeA 5 rfl (by kernel_rfl) rfl (.inr heldx) (y_cmp rfl rfl rfl) .free rfl ?_
  refine d_takeA 6 rfl (by kernel_rfl) rfl (.inr heldx) (y_move rfl) .free rfl ?_
  apply d_and 19 22 rfl
  · intro g3_7 hk
    try simp only [nb] at g3_7
    refine d_take 7 [8, 10] rfl (by kernel_rfl) rfl heldx (y_lOS rfl) (.met rfl rfl) rfl ?_
    refine d_call 8 rfl (by kernel_rfl) rfl rfl (.met rfl rfl) rfl (f_fine hr hf3.1.1 (by omega) _) ?_
    rintro _ _ _ _ ⟨rfl, rfl, rfl⟩
    refine ⟨(.inr heldx), ?_⟩
    refine d_takeA 9 rfl (by kernel_rfl) rfl (.inr heldx) (y_pick_true rfl rfl) .free rfl ?_
    exact d_fin 2 rfl rfl hk
  · intro _ hk
    refine d_takeskip 7 rfl (by kernel_rfl) rfl (.inr heldx) rfl rfl rfl ?_
    refine d_takeskip 8 rfl (by kernel_rfl) rfl (.inr heldx) rfl rfl rfl ?_
    refine d_takeA 9 rfl (by kernel_rfl) rfl (.inr heldx) (y_pick_false rfl rfl) .free rfl ?_
    exact d_fin 2 rfl rfl hk
  refine d_st 10 rfl (by kernel_rfl) rfl rfl rfl rfl rfl .free (.inl (by kernel_rfl)) ?_
  refine d_takeA 11 rfl (by kernel_rfl) rfl (.inl (by kernel_rfl)) (y_assign rfl) .free rfl ?_
  refine d_done (by kernel_rfl) ?_
  refine s_ret (.c rfl (.tmp rfl .nil)) ?_
  refine ⟨J2, L, hle, drops, _, ?_, hr, rfl⟩
  rw [hpf]; simp [retOne]; omega
theorem f_ExprPlain (s : Txt) (hs : s.length ≤ maxN) (I : Heap) (L : Own) : Fun Tryd.prog 5 [.string (str s)] I L (EL (plainOf s) L) := by
  refine fun_intro (by simp) ?_
  refine s_seq ?_
  refine o_enter rfl ?_
  refine o_assign rfl .free rfl ?_
  refine o_assign rfl .free rfl ?_
  refine o_done ?_
  refine s_seq ?_
  refine o_enter rfl ?_
  refine o_move rfl .free rfl ?_
  refine o_call rfl .free rfl (f_readExpr s hs _ _) ?_
  rintro _ J _ hleJ ⟨t, cs, ok, rfl, hrep, rfl, hpf⟩
  obtain ⟨oc, cc, _, rfl, -⟩ := hrep.open
  refine o_move rfl .free rfl ?_
  refine o_extract rfl rfl .free rfl ?_
  refine o_extract rfl rfl .free rfl ?_
  refine o_alloc .free rfl ?_
  intro b4
  refine o_st rfl rfl rfl rfl .free ?_
  refine o_assign rfl .free rfl ?_
  refine o_done ?_
  refine s_seq ?_
  refine s_seq ?_
  refine o_enter rfl ?_
  refine o_move rfl .free rfl ?_
  refine o_not rfl .free rfl ?_
  refine o_done ?_
  refine s_cond rfl ?_ ?_
  · intro c0
    try simp only [nb] at c0
    refine s_seq ?_
    refine o_enter rfl ?_
    refine o_assign rfl .free rfl ?_
    refine o_assign rfl .free rfl ?_
    refine o_done ?_
    refine s_ret (.tmp rfl (.tmp rfl .nil)) ?_
    exact ⟨J, L, hleJ, drops, by rw [plainOf_none (RX_none hpf c0)]; rfl, rfl⟩
  intro c0
  try simp only [nb] at c0
  obtain ⟨e, he, rfl, hok, hlen, hfine, htxt⟩ := RX_some hpf c0
  have hpl := plainOf_some he
  have hf3 := plain_fine hfine
  simp only [Ex.fine, Bool.and_eq_true, decide_eq_true_eq, Tree.fits] at hf3
  refine s_skip ?_
  refine s_seq ?_
  refine o_enter rfl ?_
  refine o_lOS rfl .free rfl ?_
  refine o_call rfl .free rfl (f_form_plain hrep hfine _) ?_
  rintro _ J2 _ e2 ⟨ds, rfl, hr, rfl⟩
  obtain ⟨od, cd, _, rfl, -⟩ := hr.open
  refine o_move rfl .free rfl ?_
  refine o_extract rfl rfl .free rfl ?_
  refine o_extract rfl rfl .free rfl ?_
  refine o_alloc .free rfl ?_
  intro b6
  refine o_st rfl rfl rfl rfl .free ?_
  refine o_assign rfl .free rfl ?_
  refine o_done ?_
  refine s_seq ?_
  refine s_seq ?_
  refine o_enter rfl ?_
  refine o_move rfl .free rfl ?_
  refine o_not rfl .free rfl ?_
  refine o_done ?_
  first | refine s_fp rfl (by simp) ?_ | refine s_fn rfl (by simp) ?_ | refine s_false (by simp [look, opd, *]) ?_
  refine s_skip ?_
  refine s_seq ?_
  refine o_enter rfl ?_
  refine o_lOS rfl .free rfl ?_
  refine o_call rfl .free rfl (f_form_text hr (by rw [Tree.text_len]; unfold maxN; omega) _) ?_
  rintro _ _ _ _ ⟨rfl, rfl, rfl⟩
  refine o_assign rfl .free rfl ?_
  refine o_assign rfl .free rfl ?_
  refine o_done ?_
  refine s_ret (.tmp rfl (.tmp rfl .nil)) ?_
  exact ⟨J2, L, hleJ.trans e2, drops, by rw [hpl]; rfl, rfl⟩
end Go.Proofs.YtmjjhbnkjafhdaaDoor


/- Regions that draw their order: a state that several orders come to, told once. No conditions. -/
namespace Go.Proofs.YtmjjhbnkjafhdaaDoor
set_option maxRecDepth 100000
set_option linter.unusedVariables false
set_option linter.unusedSimpArgs false

theorem d_state {P : Program} {f : FuncId} {n : Nat} {I₀ : Heap} {Q : Post} {k : List Item} {E : Env} {I : Heap} {L : Own} {ops : Array Oper} {S : World → Prop} {fuel : Nat} {listed : Array Bool} {X : Type} (fu : Nat) (ls : Array Bool) (E' : X → Env) (L' : X → Own → Own) (R : X → Prop)
    (hk : ∀ x, R x → RunW P f n I₀ Q ops S fu ls k (E' x ++ E) I (L' x L)) (h : (∀ x, R x → RunW P f n I₀ Q ops S fu ls k (E' x ++ E) I (L' x L)) → RunW P f n I₀ Q ops S fuel listed k E I L) : RunW P f n I₀ Q ops S fuel listed k E I L := h hk
section
variable {I : Heap} {A B C D L : Own} {w : World}
theorem Mem.seg2 (h : Mem I (A ++ (B ++ L)) w) : Mem I (B ++ (A ++ L)) w := h.perm (List.perm_append_comm_assoc _ _ _)
theorem Mem.seg3 (h : Mem I (A ++ (B ++ (C ++ L))) w) : Mem I (C ++ (A ++ (B ++ L))) w := h.perm ((List.Perm.append_left A (List.perm_append_comm_assoc _ _ _)).trans (List.perm_append_comm_assoc _ _ _))
theorem Mem.ins3 (h : Mem I (A ++ (B ++ (C ++ L))) w) : Mem I (B ++ (C ++ (A ++ L))) w := h.perm ((List.perm_append_comm_assoc _ _ _).trans (List.Perm.append_left B (List.perm_append_comm_assoc _ _ _)))
theorem Mem.ins4 (h : Mem I (A ++ (B ++ (C ++ (D ++ L)))) w) : Mem I (B ++ (C ++ (D ++ (A ++ L)))) w := h.perm (((List.perm_append_comm_assoc _ _ _).trans (List.Perm.append_left B (List.perm_append_comm_assoc _ _ _))).trans (List.Perm.append_left B (List.Perm.append_left C (List.perm_append_comm_assoc _ _ _))))
end
end Go.Proofs.YtmjjhbnkjafhdaaDoor
