/- Numbers and heads of steps. No conditions. -/
import Derived.Test.YtfddjcmeejjhiaaGreatDoorG10
namespace Go.Proofs.YtfddjcmeejjhiaaGreatDoor
set_option maxRecDepth 100000
set_option linter.unusedVariables false
set_option linter.unusedSimpArgs false

section
variable {P : Program} {f : FuncId} {n : Nat} {I₀ : Heap} {Q : Post} {k : List Item} {E : Env} {I : Heap} {L : Own} {ops : Array Oper} {d : Nat} {ty : TypeId} {pos : String} {af : Array Edge} {g : Option (Nat × Bool)} {l : List Oper}
theorem o_remZ {T T' : TypeId} {x y : Operand} {a : Int} {b : Nat} (hx : opd E x = some (.int .i64 a)) (hy : opd E y = some (.int .i64 (b : Nat))) (hb : 0 < b) (hg : Wants ops E g) (hdn : Nat.blt d n = true)
  (h : RunO P f n I₀ Q ops l k ((d, .int .i64 (a.tmod (b : Nat))) :: E) I L) : RunO P f n I₀ Q ops (⟨some d, .binOp .rem T x y T', ty, pos, af, g⟩ :: l) k E I L := o_yld (fun ac w he _ => by
 simp only [execOp, he.eval hx, he.eval hy]
 refine run_bind_ok (a := _) (w' := w) ?_ |>.trans rfl
 rw [run_bind_ok (run_eqGuard_int w)]
 have h0 : ¬ ((b : Int) = 0) := by omega
 simp only [binOp, Op.intDiv, if_neg h0, ne_eq, not_true_eq_false, if_false]; rfl) hg hdn h
end
theorem tmod_in (a : Int) : -1000 < a.tmod 1000 ∧ a.tmod 1000 < 1000 := by
 have h1 := Int.lt_tmod_of_pos a (b := 1000) (by decide)
 have h2 := Int.tmod_lt_of_pos a (b := 1000) (by decide)
 omega
theorem f_short (n : Int) (h0 : -2000000 ≤ n) (h1 : n ≤ 2000000) (I : Heap) (L : Own) : Fun Tryz.prog 130 [.int .i64 n] I L (Only (.int .i64 (shortN n)) I L) := by
 have hb := tmod_in (n + 500)
 have hb2 := tmod_in ((n + 500).tmod 1000 + 1000)
 refine fun_intro (by simp) ?_
 refine Se rfl (Oa rfl (o_done (Se rfl (Om rfl ?_))))
 refine Or rfl rfl rfl ?_
 refine o_remZ (b := 1000) rfl rfl (by decide) .free rfl ?_
 refine o_arith (a := (n + 500).tmod 1000) rfl rfl rfl (by omega) .free rfl ?_
 refine o_remZ (a := (n + 500).tmod 1000 + 1000) (b := 1000) rfl rfl (by decide) .free rfl ?_
 refine o_arith (a := ((n + 500).tmod 1000 + 1000).tmod 1000) rfl rfl rfl (by omega) .free rfl ?_
 refine Oa rfl (o_done (s_ret (.tmp rfl .nil) ?_))
 refine only rfl ?_
 exact congrArg (Value.int .i64) (shortN_go n)
theorem g_l4Short (n : Int) (h0 : -2000000 ≤ n) (h1 : n ≤ 2000000) (I : Heap) (L : Own) : Fun Tryz.prog 152 [.int .i64 n] I L (Only (.int .i64 (shortN n)) I L) := by
 have hb := tmod_in (n + 500)
 have hb2 := tmod_in ((n + 500).tmod 1000 + 1000)
 refine fun_intro (by simp) ?_
 refine Se rfl (Oa rfl (o_done (Se rfl (Om rfl ?_))))
 refine Or rfl rfl rfl ?_
 refine o_remZ (b := 1000) rfl rfl (by decide) .free rfl ?_
 refine o_arith (a := (n + 500).tmod 1000) rfl rfl rfl (by omega) .free rfl ?_
 refine o_remZ (a := (n + 500).tmod 1000 + 1000) (b := 1000) rfl rfl (by decide) .free rfl ?_
 refine o_arith (a := ((n + 500).tmod 1000 + 1000).tmod 1000) rfl rfl rfl (by omega) .free rfl ?_
 refine Oa rfl (o_done (s_ret (.tmp rfl .nil) ?_))
 refine only rfl ?_
 exact congrArg (Value.int .i64) (shortN_go n)
theorem mul_in {x y : Int} (hx : -999 ≤ x ∧ x ≤ 999) (hy : -999 ≤ y ∧ y ≤ 999) : -998001 ≤ x * y ∧ x * y ≤ 998001 := by
 have h1 : (x * y).natAbs ≤ 999 * 999 := by rw [Int.natAbs_mul]; exact Nat.mul_le_mul (by omega) (by omega)
 omega
theorem calc_add {o : B5} (h : o.txt = [43]) (x y : Int) : o.calc x y = x + y := by
 obtain rfl : o = .add := B5.txt_inj (o' := .add) h
 rfl
theorem calc_sub {o : B5} (h : o.txt = [45]) (x y : Int) : o.calc x y = x - y := by
 obtain rfl : o = .sub := B5.txt_inj (o' := .sub) h
 rfl
theorem calc_mul {o : B5} (h1 : ¬ o.txt = [43]) (h2 : ¬ o.txt = [45]) (x y : Int) : o.calc x y = x * y := by
 cases o with
 | add => exact absurd rfl h1
 | sub => exact absurd rfl h2
 | _ => rfl
theorem f_reckon {I : Heap} (ht : Tab I) (o : B5) {a b : Txt} (ha : isNum a = true) (hb : isNum b = true) (L : Own) : Fun Tryz.prog 87 [.string (str o.txt), .string (str a), .string (str b)] I L (Only (.string (str (reck o a b))) I L) := by
 have xa := numVal_in ha
 have xb := numVal_in hb
 have hm := mul_in xa xb
 refine fun_intro (by simp) ?_
 refine Se rfl (Oa rfl (o_done (Se rfl (Om rfl ?_))))
 refine o_call rfl .free rfl (f_number a ha _ _) ?_
 rintro _ _ _ _ ⟨rfl, rfl, rfl⟩
 refine Om rfl ?_
 refine o_call rfl .free rfl (f_number b hb _ _) ?_
 rintro _ _ _ _ ⟨rfl, rfl, rfl⟩
 refine Oa rfl (Oa rfl (o_done (s_seq (Se rfl (Om rfl (o_done (s_block (Se rfl (Od rfl rfl rfl (Oa rfl (o_done ?_)))))))))))
 refine s_cond rfl ?_ ?_
 ·intro c0
  try simp only [nb] at c0
  refine o_enter rfl (Om rfl (Om rfl ?_))
  refine Or rfl rfl rfl ?_
  refine Oa rfl (o_done (s_inBlock (Se rfl (Om rfl ?_))))
  refine o_call rfl .free rfl (f_short _ (by omega) (by omega) _ _) ?_
  rintro _ _ _ _ ⟨rfl, rfl, rfl⟩
  refine o_call rfl .free rfl (f_strconv_ItoaT ht _ (by have := shortN_in (numVal a + numVal b); have := shortN_in (numVal a - numVal b); have := shortN_in (numVal a * numVal b); omega) (by have := shortN_in (numVal a + numVal b); have := shortN_in (numVal a - numVal b); have := shortN_in (numVal a * numVal b); omega) _) ?_
  rintro _ _ _ _ ⟨rfl, rfl, rfl⟩
  refine Oa rfl (o_done (s_ret (.tmp rfl .nil) ?_))
  refine only rfl ?_
  unfold reck
  first
   | (rw [calc_add c0]; done)
   | (rw [calc_sub c1]; done)
   | (rw [calc_mul c0 c1]; done)
   | (rw [calc_add c0]; rfl)
   | (rw [calc_sub c1]; rfl)
   | (rw [calc_mul c0 c1]; rfl)
 intro c0
 try simp only [nb] at c0
 refine Se rfl (Od rfl rfl rfl (Oa rfl (o_done ?_)))
 refine s_cond rfl ?_ ?_
 ·intro c1
  try simp only [nb] at c1
  refine o_enter rfl (Om rfl (Om rfl ?_))
  refine Or rfl rfl rfl ?_
  refine Oa rfl (o_done (s_inBlock (Se rfl (Om rfl ?_))))
  refine o_call rfl .free rfl (f_short _ (by omega) (by omega) _ _) ?_
  rintro _ _ _ _ ⟨rfl, rfl, rfl⟩
  refine o_call rfl .free rfl (f_strconv_ItoaT ht _ (by have := shortN_in (numVal a + numVal b); have := shortN_in (numVal a - numVal b); have := shortN_in (numVal a * numVal b); omega) (by have := shortN_in (numVal a + numVal b); have := shortN_in (numVal a - numVal b); have := shortN_in (numVal a * numVal b); omega) _) ?_
  rintro _ _ _ _ ⟨rfl, rfl, rfl⟩
  refine Oa rfl (o_done (s_ret (.tmp rfl .nil) ?_))
  refine only rfl ?_
  unfold reck
  first
   | (rw [calc_add c0]; done)
   | (rw [calc_sub c1]; done)
   | (rw [calc_mul c0 c1]; done)
   | (rw [calc_add c0]; rfl)
   | (rw [calc_sub c1]; rfl)
   | (rw [calc_mul c0 c1]; rfl)
 intro c1
 try simp only [nb] at c1
 refine o_enter rfl (Om rfl (Om rfl ?_))
 refine Or rfl rfl rfl ?_
 refine Oa rfl (o_done (s_inBlock (Se rfl (Om rfl ?_))))
 refine o_call rfl .free rfl (f_short _ (by omega) (by omega) _ _) ?_
 rintro _ _ _ _ ⟨rfl, rfl, rfl⟩
 refine o_call rfl .free rfl (f_strconv_ItoaT ht _ (by have := shortN_in (numVal a + numVal b); have := shortN_in (numVal a - numVal b); have := shortN_in (numVal a * numVal b); omega) (by have := shortN_in (numVal a + numVal b); have := shortN_in (numVal a - numVal b); have := shortN_in (numVal a * numVal b); omega) _) ?_
 rintro _ _ _ _ ⟨rfl, rfl, rfl⟩
 refine Oa rfl (o_done (s_ret (.tmp rfl .nil) ?_))
 refine only rfl ?_
 unfold reck
 first
  | (rw [calc_add c0]; done)
  | (rw [calc_sub c1]; done)
  | (rw [calc_mul c0 c1]; done)
  | (rw [calc_add c0]; rfl)
  | (rw [calc_sub c1]; rfl)
  | (rw [calc_mul c0 c1]; rfl)
theorem g_l4Count (o : B5) (x y : Int) (hx : -999 ≤ x ∧ x ≤ 999) (hy : -999 ≤ y ∧ y ≤ 999) (I : Heap) (L : Own) : Fun Tryz.prog 117 [.string (str o.txt), .int .i64 x, .int .i64 y] I L (Only (.int .i64 (shortN (o.calc x y))) I L) := by
 have hm := mul_in hx hy
 refine fun_intro (by simp) ?_
 refine Se rfl (Oa rfl (o_done (s_seq (Se rfl (Om rfl (o_done (s_block (Se rfl (Od rfl rfl rfl (Oa rfl (o_done ?_)))))))))))
 refine s_cond rfl ?_ ?_
 ·intro c0
  try simp only [nb] at c0
  refine Se rfl (Om rfl (Om rfl ?_))
  refine Or rfl rfl rfl ?_
  refine o_call rfl .free rfl (g_l4Short _ (by omega) (by omega) _ _) ?_
  rintro _ _ _ _ ⟨rfl, rfl, rfl⟩
  refine Oa rfl (o_done (s_ret (.tmp rfl .nil) ?_))
  refine only rfl ?_
  rw [calc_add c0]; rfl
 intro c0
 try simp only [nb] at c0
 refine Se rfl (Od rfl rfl rfl (Oa rfl (o_done ?_)))
 refine s_cond rfl ?_ ?_
 ·intro c1
  try simp only [nb] at c1
  refine Se rfl (Om rfl (Om rfl ?_))
  refine Or rfl rfl rfl ?_
  refine o_call rfl .free rfl (g_l4Short _ (by omega) (by omega) _ _) ?_
  rintro _ _ _ _ ⟨rfl, rfl, rfl⟩
  refine Oa rfl (o_done (s_ret (.tmp rfl .nil) ?_))
  refine only rfl ?_
  rw [calc_sub c1]; rfl
 intro c1
 try simp only [nb] at c1
 refine s_skip (s_inBlock (Se rfl (Om rfl (Om rfl ?_))))
 refine Or rfl rfl rfl ?_
 refine o_call rfl .free rfl (g_l4Short _ (by omega) (by omega) _ _) ?_
 rintro _ _ _ _ ⟨rfl, rfl, rfl⟩
 refine Oa rfl (o_done (s_ret (.tmp rfl .nil) ?_))
 refine only rfl ?_
 rw [calc_mul c0 c1]; rfl
/-- What is evaluated ahead of a step. -/
def evT (t : Tree) : List Nat := if t.head = tIf then [1] else if t.head = tLet then [2] else if t.head = tFun then [] else kids t
theorem f_form_evaluated {I : Heap} {t : Tree} {cs : List Value} (h : Rep I t cs) (L : Own) : Fun Tryz.prog 84 [.agg cs.toArray] I L (KD (evT t) L) := by
 obtain ⟨oa, c, vs, rfl, hrl, hs, hn, hc, ha, hp⟩ := h.open
 refine fun_intro (by simp) ?_
 refine Se rfl ?_
 refine o_box rfl rfl .free rfl ?_
 intro b1
 refine Oa rfl (o_done (s_seq (Se rfl ?_)))
 refine o_lOS rfl .free rfl ?_
 refine o_call rfl .free rfl (f_form_head h _) ?_
 rintro _ _ _ _ ⟨rfl, rfl, rfl⟩
 refine o_done (s_block (Se rfl (Od rfl rfl rfl (Oa rfl (o_done ?_)))))
 refine s_cond rfl ?_ ?_
 ·intro c0
  try simp only [nb] at c0
  refine Se rfl ?_
  refine Ol rfl rfl ?_
  intro b7
  refine Oa rfl (o_done ?_)
  refine s_freeze ?_
  intro hz
  refine s_ret (.tmp rfl .nil) ?_
  refine ⟨_, L, hz, fun _ h => h.drop, KD_lit (l := [1]) ?_⟩
  unfold evT tIf tLet tFun; rw [if_pos c0]
 intro c0
 try simp only [nb] at c0
 refine Se rfl (Od rfl rfl rfl (Oa rfl (o_done ?_)))
 refine s_cond rfl ?_ ?_
 ·intro c1
  try simp only [nb] at c1
  refine Se rfl ?_
  refine Ol rfl rfl ?_
  intro b10
  refine Oa rfl (o_done ?_)
  refine s_freeze ?_
  intro hz
  refine s_ret (.tmp rfl .nil) ?_
  refine ⟨_, L, hz, fun _ h => h.drop, KD_lit (l := [2]) ?_⟩
  unfold evT tIf tLet tFun; rw [if_neg c0, if_pos c1]
 intro c1
 try simp only [nb] at c1
 refine Se rfl (Od rfl rfl rfl (Oa rfl (o_done ?_)))
 refine s_cond rfl ?_ ?_
 ·intro c2
  try simp only [nb] at c2
  refine Se rfl (Oa rfl (o_done (s_ret (.tmp rfl .nil) ?_)))
  have hk : evT t = [] := by unfold evT tIf tLet tFun; rw [if_neg c0, if_neg c1, if_pos c2]
  exact ⟨I, L, .refl _, fun _ h => h.drop, none, 0, by rw [hk]; rfl, ⟨by simp, fun _ => hk, by rw [hk]; simp⟩, rfl⟩
 intro c2
 try simp only [nb] at c2
 refine s_skip (s_inBlock (Se rfl ?_))
 refine o_lOS rfl .free rfl ?_
 refine o_call rfl .free rfl (f_form_kids h _) ?_
 rintro _ J _ e1 ⟨o1, k1, rfl, hk, rfl⟩
 refine Oa rfl (o_done (s_ret (.tmp rfl .nil) ?_))
 have hke : evT t = kids t := by unfold evT tIf tLet tFun; rw [if_neg c0, if_neg c1, if_neg c2]
 exact ⟨J, L, e1, fun _ h => h.drop, o1, k1, by rw [hke]; rfl, by rw [hke]; exact hk, rfl⟩
def eag (h : Txt) : List Nat := if h = tIf ∨ h = tFst ∨ h = tSnd then [1] else if h = tLet then [2] else if h = tFun then [] else [1, 2]
theorem g_l4Eager (s : Txt) (I : Heap) (L : Own) : Fun Tryz.prog 70 [.string (str s)] I L (KD (eag s) L) := by
 refine fun_intro (by simp) ?_
 refine Se rfl (Oa rfl (o_done (s_seq (Se rfl (Om rfl (o_done (s_block (s_seq (Se rfl (Od rfl rfl rfl (Oa rfl (o_done ?_))))))))))))
 refine s_cond rfl ?_ ?_
 ·intro c0
  try simp only [nb] at c0
  refine s_skip ?_
  first | refine s_tp rfl (by first | assumption | omega) ?_ | refine s_tn rfl (by first | assumption | omega) ?_ | refine s_true (by simp [look, opd, *]) ?_
  refine Se rfl ?_
  refine Ol rfl rfl ?_
  intro b8
  refine Oa rfl (o_done ?_)
  refine s_freeze ?_
  intro hz
  refine s_ret (.tmp rfl .nil) ?_
  refine ⟨_, L, hz, fun _ h => h, KD_lit (l := [1]) ?_⟩
  unfold eag tIf tFst tSnd
  simp [*]
 intro c0
 try simp only [nb] at c0
 refine Se rfl (Od rfl rfl rfl (Oa rfl (o_done ?_)))
 refine s_cond rfl ?_ ?_
 ·intro c1
  try simp only [nb] at c1
  refine s_skip ?_
  first | refine s_tp rfl (by first | assumption | omega) ?_ | refine s_tn rfl (by first | assumption | omega) ?_ | refine s_true (by simp [look, opd, *]) ?_
  refine Se rfl ?_
  refine Ol rfl rfl ?_
  intro b8
  refine Oa rfl (o_done ?_)
  refine s_freeze ?_
  intro hz
  refine s_ret (.tmp rfl .nil) ?_
  refine ⟨_, L, hz, fun _ h => h, KD_lit (l := [1]) ?_⟩
  unfold eag tIf tFst tSnd
  simp [*]
 intro c1
 try simp only [nb] at c1
 refine o_enter rfl (Od rfl rfl rfl (Oa rfl (o_done ?_)))
 refine s_cond rfl ?_ ?_
 ·intro c2
  try simp only [nb] at c2
  refine Se rfl ?_
  refine Ol rfl rfl ?_
  intro b8
  refine Oa rfl (o_done ?_)
  refine s_freeze ?_
  intro hz
  refine s_ret (.tmp rfl .nil) ?_
  refine ⟨_, L, hz, fun _ h => h, KD_lit (l := [1]) ?_⟩
  unfold eag tIf tFst tSnd
  simp [*]
 intro c2
 try simp only [nb] at c2
 refine Se rfl (Od rfl rfl rfl (Oa rfl (o_done ?_)))
 refine s_cond rfl ?_ ?_
 ·intro c3
  try simp only [nb] at c3
  refine Se rfl ?_
  refine Ol rfl rfl ?_
  intro b11
  refine Oa rfl (o_done ?_)
  refine s_freeze ?_
  intro hz
  refine s_ret (.tmp rfl .nil) ?_
  refine ⟨_, L, hz, fun _ h => h, KD_lit (l := [2]) ?_⟩
  unfold eag tIf tFst tSnd tLet
  simp [*]
 intro c3
 try simp only [nb] at c3
 refine Se rfl (Od rfl rfl rfl (Oa rfl (o_done ?_)))
 refine s_cond rfl ?_ ?_
 ·intro c4
  try simp only [nb] at c4
  refine Se rfl ?_
  refine o_lits0 .free rfl ?_
  intro b14
  refine Oa rfl (o_done ?_)
  refine s_freeze ?_
  intro hz
  refine s_ret (.tmp rfl .nil) ?_
  refine ⟨_, L, hz, fun _ h => h, KD_lit (l := []) ?_⟩
  unfold eag tIf tFst tSnd tLet tFun
  simp [*]
 intro c4
 try simp only [nb] at c4
 refine s_skip (s_inBlock (Se rfl ?_))
 refine Ol rfl rfl ?_
 intro b15
 refine Oa rfl (o_done ?_)
 refine s_freeze ?_
 intro hz
 refine s_ret (.tmp rfl .nil) ?_
 refine ⟨_, L, hz, fun _ h => h, KD_lit (l := [1, 2]) ?_⟩
 unfold eag tIf tFst tSnd tLet tFun
 simp [*]
theorem g_l4Pick {I : Heap} (n : Int) {t u : Tree} {cs ds : List Value} (h : Rep I t cs) (h' : Rep I u ds) (L : Own) : Fun Tryz.prog 118 [.int .i64 n, .agg cs.toArray, .agg ds.toArray] I L (RP (if n = 0 then t else u) L) := by
 obtain ⟨oa, c, _, rfl, -⟩ := h.open
 obtain ⟨ob, c', _, rfl, -⟩ := h'.open
 refine fun_intro (by simp) ?_
 refine Se rfl ?_
 refine o_box rfl rfl .free rfl ?_
 intro b4
 refine o_box rfl rfl .free rfl ?_
 intro b5
 refine o_alloc .free rfl ?_
 intro b6
 refine o_done (s_seq (Se rfl (Om rfl (Oc rfl rfl rfl (o_done ?_)))))
 refine s_cond rfl ?_ ?_
 ·intro c0
  try simp only [nb] at c0
  refine Se rfl ?_
  refine o_lOS rfl .free rfl ?_
  refine o_st rfl rfl rfl rfl .free ?_
  refine o_done ?_
  refine s_ret (.c rfl .nil) ?_
  exact ⟨I, L, .refl _, drops, _, rfl, by rw [if_pos c0]; exact h, rfl⟩
 intro c0
 try simp only [nb] at c0
 refine s_skip (Se rfl ?_)
 refine o_lOS rfl .free rfl ?_
 refine o_st rfl rfl rfl rfl .free ?_
 refine o_done ?_
 refine s_ret (.c rfl .nil) ?_
 exact ⟨I, L, .refl _, drops, _, rfl, by rw [if_neg c0]; exact h', rfl⟩
theorem g_l6DecZ (n : Int) (h0 : -1000000 ≤ n) (h1 : n ≤ 1000000) (I : Heap) (L : Own) : Fun Tryz.prog 100 [.int .i64 n] I L (Only (.string (str (intT n))) I L) := by
 by_cases hn : n < 0
 ·have hd := decT_le (n := n.natAbs) (by omega)
  refine fun_intro (by simp) ?_
  refine Se rfl (Oa rfl (o_done (s_seq (Se rfl (Om rfl (Oc rfl rfl rfl (o_done ?_)))))))
  first | refine s_fp rfl (by omega) ?_ | refine s_fn rfl (by omega) ?_ | refine s_false (by simp [look, opd, *]) ?_
  refine s_skip (s_seq (Se rfl (Om rfl (Oc rfl rfl rfl (o_done ?_)))))
  first | refine s_tp rfl (hn) ?_ | refine s_tn rfl (hn) ?_ | refine s_true (by simp [look, opd, *]) ?_
  refine Se rfl (Om rfl ?_)
  refine o_neg rfl (by omega) .free rfl ?_
  refine o_put (t := 8) (v' := .int .i64 (n.natAbs : Nat)) rfl (by congr 1; omega) ?_
  refine o_call rfl .free rfl (g_l6Dec _ n.natAbs (Nat.lt_succ_self _) (by omega) _ _) ?_
  rintro _ _ _ _ ⟨rfl, rfl, rfl⟩
  refine Ok rfl rfl ?_
  refine Oa rfl (o_done (s_ret (.tmp rfl .nil) ?_))
  refine only rfl ?_
  unfold intT; rw [if_pos hn]; rfl
 ·obtain ⟨m, rfl⟩ : ∃ m : Nat, n = (m : Nat) := ⟨n.toNat, by omega⟩
  rw [intT_nat]
  exact g_l6Dec _ m (Nat.lt_succ_self _) (by omega) I L
/-- What a step leaves: some form; the expression behind the step, if there is one. -/
def SP (o : Option Ex) (L : Own) : Post := fun v I' L' => ∃ (t : Tree) (ds : List Value), v = .tuple #[.agg (List.toArray ds), .bool o.isSome] ∧ Rep I' t ds ∧ (∀ e', o = some e' → t = e'.tree) ∧ L = L'
def StepH (N : Nat) : Prop := ∀ {I : Heap} (_ : Tab I) {e : Ex} {cs : List Value} (_ : SizeOf.sizeOf e < N) (_ : Rep I e.tree cs) (_ : e.ok = true) (L : Own), Fun Tryz.prog 44 [.agg cs.toArray] I L (SP e.step L)
theorem Ex.of_pair {e : Ex} (h : e.tree.head = tPair) : ∃ p q, e = .bin .pair p q := by
 cases e with
 | num s => cases h
 | name s => cases h
 | bin o p q => obtain rfl : o = .pair := B5.txt_inj (o' := .pair) h; exact ⟨p, q, rfl⟩
 | ite a b c => exact absurd h (by decide : ¬ tIf = tPair)
 | lt x a b => exact absurd h (by decide : ¬ tLet = tPair)
 | fn f x s t b => exact absurd h (by decide : ¬ tFun = tPair)
 | un o a => exact absurd (show o.txt = tPair from h) (by cases o <;> decide)
theorem bare_val {e : Ex} (h : e.tree.parts.isEmpty = true) (hv : e.value = true) : ∃ s, e = .num s := by
 cases e with
 | num s => exact ⟨s, rfl⟩
 | name s => cases hv
 | _ => cases h
theorem reck_len (o : B5) (p q : Txt) : (reck o p q).length ≤ maxN := by have := isNum_len (reck_num o p q).1; unfold maxN; omega
theorem SP.none' {I : Heap} {o : Option Ex} {L : Own} (ho : o = none) : SP o L (.tuple #[.agg (List.toArray [.string (str []), .slice none 0 0]), .bool false]) I L :=
 ⟨.node [] [], _, by rw [ho]; rfl, .ofAtom (by decide), fun e' h => (by rw [ho] at h; cases h), rfl⟩
theorem step_none_map {α β : Type} {o : Option α} {f : α → β} {p : Option β} (h : p = o.map f) : p.isSome = o.isSome := by rw [h]; cases o <;> rfl
set_option maxHeartbeats 1000000 in
theorem fstep_bin {N : Nat} (ihn : StepH N) {o : B5} {a b : Ex} {I : Heap} (ht : Tab I) {cs : List Value} (hlt : SizeOf.sizeOf (Ex.bin o a b) < N + 1) (h : Rep I (Ex.bin o a b).tree cs) (hok : (Ex.bin o a b).ok = true) (L : Own) :
  Fun Tryz.prog 44 [.agg cs.toArray] I L (SP (Ex.bin o a b).step L) := by
 obtain ⟨oa, c, oaf, cf, rfl, hf, hcl, hcs⟩ := h.cells
 have hpos : 0 < (Ex.bin o a b).tree.parts.length := by show 0 < 3; decide
 obtain ⟨xa, rfl⟩ : ∃ xa, oa = some xa := ⟨_, some_oad hf.nil hpos⟩
 have hlen : (Ex.bin o a b).tree.parts.length = 3 := rfl
 have hp := hf.len
 have hev : evT (Ex.bin o a b).tree = [1, 2] := by cases o <;> rfl
 simp only [Ex.bin.sizeOf_spec] at hlt
 have hok0 := hok
 simp only [Ex.ok, Bool.and_eq_true, decide_eq_true_eq] at hok
 obtain ⟨_, hrl⟩ : ∃ _ : True, RepL I (Ex.bin o a b).tree.parts _ := ⟨trivial, hcl⟩
 simp only [show (Ex.bin o a b).tree.parts = [.node o.txt [], a.tree, b.tree] from rfl, cellsF, List.cons_append, List.nil_append] at hrl
 refine fun_intro (by simp) ?_
 refine Se rfl ?_
 refine o_box rfl rfl .free rfl ?_
 intro b1
 refine o_alloc .free rfl ?_
 intro b2
 refine Oa rfl (o_done (s_seq (Se rfl ?_)))
 refine o_lOS rfl .free rfl ?_
 refine o_call rfl .free rfl (f_form_evaluated hf.rep _) ?_
 rintro _ J0 _ e0 ⟨ok, ck, rfl, hk, rfl⟩
 have hf := hf.mono e0
 have ht := ht.mono e0
 have hle := e0
 rw [hev] at hk
 rw [hev]
 refine On rfl (Om rfl (o_done (s_block ?_)))
 refine s_loop ?_
 refine Se rfl (Oc rfl rfl rfl (o_done (s_seq ?_)))
 refine s_condT rfl (by first | rfl | decide | (simp; done) | omega) ?_
 refine s_skip (s_seq (s_block (Se rfl ?_)))
 first | refine o_ixD rfl rfl _ rfl .free rfl ?_ | refine o_ixP rfl rfl _ rfl .free rfl ?_
 refine o_lI1 rfl .free rfl ?_
 refine Oa rfl (o_done (s_seq (Se rfl (Oh rfl ?_))))
 refine o_lO1 rfl .free rfl ?_
 refine Om rfl ?_
 first | refine o_ixD rfl rfl _ rfl .free rfl ?_ | refine o_ixP rfl rfl _ rfl .free rfl ?_
 refine o_lIS rfl .free rfl ?_
 refine o_call rfl .free rfl (f_form_isValue _ (Nat.lt_succ_self _) (hf.as 1 a.tree (by omega) rfl) hok.1 _) ?_
 rintro _ _ _ _ ⟨rfl, rfl, rfl⟩
 refine o_done ?_
 refine s_cond rfl ?_ ?_
 ·intro c1
  try simp only [nb] at c1
  have hva : a.value = true := c1
  refine s_exit rfl ?_
  refine o_enter rfl ?_
  refine Or rfl rfl rfl ?_
  refine Om rfl (o_done ?_)
  refine s_round ?_
  refine Se rfl (Oc rfl rfl rfl (o_done (s_seq ?_)))
  refine s_condT rfl (by first | rfl | decide | (simp; done) | omega) ?_
  refine s_skip (s_seq (s_block (Se rfl ?_)))
  first | refine o_ixD rfl rfl _ rfl .free rfl ?_ | refine o_ixP rfl rfl _ rfl .free rfl ?_
  refine o_lI1 rfl .free rfl ?_
  refine Oa rfl (o_done (s_seq (Se rfl (Oh rfl ?_))))
  refine o_lO1 rfl .free rfl ?_
  refine Om rfl ?_
  first | refine o_ixD rfl rfl _ rfl .free rfl ?_ | refine o_ixP rfl rfl _ rfl .free rfl ?_
  refine o_lIS rfl .free rfl ?_
  refine o_call rfl .free rfl (f_form_isValue _ (Nat.lt_succ_self _) (hf.as 2 b.tree (by omega) rfl) hok.2 _) ?_
  rintro _ _ _ _ ⟨rfl, rfl, rfl⟩
  refine o_done ?_
  refine s_cond rfl ?_ ?_
  ·intro c1
   try simp only [nb] at c1
   have hvb : b.value = true := c1
   refine s_exit rfl ?_
   refine o_enter rfl ?_
   refine Or rfl rfl rfl ?_
   refine Om rfl (o_done ?_)
   refine s_round ?_
   refine Se rfl (Oc rfl rfl rfl (o_done (s_seq ?_)))
   refine s_condF rfl (by first | rfl | decide | (simp; done) | omega) ?_
   refine s_exit rfl ?_
   refine s_seq (s_seq ?_)
   rcases o with _ | _ | _ | _ | _
   ·skip
    refine o_enter rfl ?_
    refine o_lOS rfl .free rfl ?_
    refine o_call rfl .free rfl (f_form_head hf.rep _) ?_
    rintro _ _ _ _ ⟨rfl, rfl, rfl⟩
    rw [show (Ex.bin .add a b).tree.head = [43] from rfl]
    have hturn : (Ex.bin .add a b).step = (Ex.bin .add a b).turn := by simp only [Ex.step, hva, hvb, Bool.true_eq_false, if_false]
    refine o_done (s_block (s_seq (Se rfl (Od rfl rfl rfl (Oa rfl (o_done ?_))))))
    first | refine s_tp rfl (rfl) ?_ | refine s_tn rfl (rfl) ?_ | refine s_true (by simp [look, opd, *]) ?_
    refine s_skip ?_
    first | refine s_tp rfl (rfl) ?_ | refine s_tn rfl (rfl) ?_ | refine s_true (by simp [look, opd, *]) ?_
    refine s_seq ?_
    refine d_all 12 rfl rfl ?_
    refine d_cutL (X := Nat × Nat) (fun x => [(1, .pointer (some ⟨b1, 0, none⟩)), (2, .pointer (some ⟨b2, 0, none⟩)), (3, .bool false), (9, .pointer (some ⟨x.1, 0, none⟩)), (10, .pointer (some ⟨x.2, 0, none⟩))]) (fun x => J0) (fun x => [(x.2, .cells [.string (str b.tree.atom), .slice (oaf 2) b.tree.parts.length (cf 2)].toArray 39 (0, 0)), (x.1, .cells [.string (str a.tree.atom), .slice (oaf 1) a.tree.parts.length (cf 1)].toArray 39 (0, 0))]) (fun x => True) ?_ ?_
    ·rintro ⟨b9, b10⟩ -
     simp only [List.cons_append, List.nil_append]
     refine Se rfl ?_
     refine o_lJ rfl .free rfl ?_
     refine o_call rfl .free rfl (f_form_isAtom (hf.as 1 a.tree (by omega) rfl) _) ?_
     rintro _ _ _ _ ⟨rfl, rfl, rfl⟩
     refine Om rfl ?_
     apply o_and 64 67 rfl
     ·intro g15_3 hk
      try simp only [nb] at g15_3
      refine o_lJ rfl (.met rfl rfl) rfl ?_
      refine o_call rfl (.met rfl rfl) rfl (f_form_isAtom (hf.as 2 b.tree (by omega) rfl) _) ?_
      rintro _ _ _ _ ⟨rfl, rfl, rfl⟩
      refine Ot rfl rfl ?_
      exact o_fin 2 rfl rfl hk
     ·intro _ hk
      refine o_skips 2 rfl ?_
      refine Of rfl rfl ?_
      exact o_fin 2 rfl rfl hk
     refine o_done ?_
     refine s_cond rfl ?_ ?_
     ·intro c5
      try simp only [nb] at c5
      have hbb : a.tree.parts.isEmpty = true ∧ b.tree.parts.isEmpty = true := by simpa using c5
      obtain ⟨p, rfl⟩ := bare_val hbb.1 hva
      obtain ⟨q, rfl⟩ := bare_val hbb.2 hvb
      refine s_seq ?_
      refine d_all 10 rfl rfl ?_
      refine Dt 0 [8] rfl (y_lOS rfl) ?_
      first | refine Da 2 rfl (y_fieldAddr rfl) ?_ | refine Da 2 rfl (y_fieldAddr' rfl) ?_
      refine Dt 3 [8] rfl (y_lJ rfl) ?_
      first | refine Da 4 rfl (y_fieldAddr rfl) ?_ | refine Da 4 rfl (y_fieldAddr' rfl) ?_
      refine Dt 5 [8] rfl (y_lJ rfl) ?_
      refine d_call 1 rfl (by kernel_rfl) rfl rfl .free rfl (f_form_head hf.rep _) ?_
      rintro _ _ _ _ ⟨rfl, rfl, rfl⟩
      refine ⟨(.inr heldx), ?_⟩
      refine d_call 6 rfl (by kernel_rfl) rfl rfl .free rfl (f_reckon ht .add (a := p) (b := q) hok.1 hok.2 _) ?_
      rintro _ _ _ _ ⟨rfl, rfl, rfl⟩
      refine ⟨(.inr heldx), ?_⟩
      refine d_call 7 rfl (by kernel_rfl) rfl rfl .free rfl (f_atom (reck .add p q) (reck_len _ _ _) _ _) ?_
      rintro _ _ _ _ ⟨rfl, rfl, rfl⟩
      refine ⟨(.inr heldx), ?_⟩
      refine d_st 8 rfl (by kernel_rfl) rfl rfl rfl rfl rfl .free (.inl (by kernel_rfl)) ?_
      refine d_takeA 9 rfl (by kernel_rfl) rfl (.inl (by kernel_rfl)) (y_assign rfl) .free rfl ?_
      refine d_done (by kernel_rfl) ?_
      refine s_ret (.c rfl (.tmp rfl .nil)) ?_
      refine ⟨_, L, hle, drops, .node (reck .add p q) [], _, by rw [hturn]; rfl, .ofAtom (reck_len _ _ _), fun e' he' => ?_, rfl⟩
      rw [hturn] at he'
      obtain rfl := Option.some.inj he'
      rfl
     intro c5
     try simp only [nb] at c5
     have hno : (Ex.bin .add a b).turn = none := by
      cases hty : (Ex.bin .add a b).turn with
      | none => rfl
      | some e' =>
       rcases turn_bin hty with ⟨f, y, s, t, g, ho, rfl, rfl⟩ | ⟨p, q, ho, rfl, rfl, rfl⟩
       ·cases ho
       ·exact absurd c5 (by simp [Ex.tree, Tree.parts])
     refine s_skip (s_inBlock (Se rfl ?_))
     refine o_struct rfl rfl rfl .free rfl ?_
     refine o_st rfl rfl rfl rfl .free ?_
     refine Oa rfl (o_done ?_)
     refine s_ret (.c rfl (.tmp rfl .nil)) ?_
     exact ⟨_, L, hle, drops, SP.none' (by rw [hturn, hno])⟩
    ·intro hkk
     skip
     refine Da 0 rfl (y_fieldAddr rfl) ?_
     refine Dt 1 [10] rfl (y_lO1 rfl) ?_
     first | refine Da 2 rfl (y_ixD rfl rfl 1 rfl) ?_ | refine Da 2 rfl (y_ixP rfl rfl 1 rfl) ?_
     refine Dt 3 [10] rfl (y_lIS rfl) ?_
     refine Da 4 rfl (y_fieldAddr rfl) ?_
     refine d_three 5 8 9 (by kernel_rfl) ?_ ?_ ?_
     ·skip
      refine i_yld 5 rfl rfl (y_lO1 rfl) .free rfl (.inr heldx) ?_
      first | refine Da 6 rfl (y_ixD rfl rfl 2 rfl) ?_ | refine Da 6 rfl (y_ixP rfl rfl 2 rfl) ?_
      refine d_three 7 8 9 (by kernel_rfl) ?_ ?_ ?_
      ·skip
       refine i_yld 7 rfl rfl (y_lIS rfl) .free rfl (.inr heldx) ?_
       refine d_two 8 9 (by kernel_rfl) ?_ ?_
       ·skip
        refine i_alloc 8 rfl rfl .free rfl (.inr heldx) ?_
        intro b9
        refine d_alloc 9 rfl (by kernel_rfl) rfl .free rfl (.inr heldx) ?_
        intro b10
        refine d_st 10 rfl (by kernel_rfl) rfl rfl rfl rfl rfl .free (.inl (by kernel_rfl)) ?_
        refine d_st 11 rfl (by kernel_rfl) rfl rfl rfl rfl rfl .free (.inl (by kernel_rfl)) ?_
        refine d_done (by kernel_rfl) ?_
        exact s_env (E' := [(1, _), (2, _), (3, _), (9, _), (10, _)]) ⟨rfl, rfl, rfl, rfl, rfl, trivial⟩ (s_mem (by first | exact fun _ h => h | exact fun _ h => h.perm2) (hkk ⟨b9, b10⟩ trivial))
       ·skip
        refine i_alloc 9 rfl rfl .free rfl (.inr heldx) ?_
        intro b10
        refine d_alloc 8 rfl (by kernel_rfl) rfl .free rfl (.inr heldx) ?_
        intro b9
        refine d_st 10 rfl (by kernel_rfl) rfl rfl rfl rfl rfl .free (.inl (by kernel_rfl)) ?_
        refine d_st 11 rfl (by kernel_rfl) rfl rfl rfl rfl rfl .free (.inl (by kernel_rfl)) ?_
        refine d_done (by kernel_rfl) ?_
        exact s_env (E' := [(1, _), (2, _), (3, _), (9, _), (10, _)]) ⟨rfl, rfl, rfl, rfl, rfl, trivial⟩ (s_mem (by first | exact fun _ h => h | exact fun _ h => h.perm2) (hkk ⟨b9, b10⟩ trivial))
      ·skip
       refine i_alloc 8 rfl rfl .free rfl (.inr heldx) ?_
       intro b9
       refine d_two 7 9 (by kernel_rfl) ?_ ?_
       ·skip
        refine i_yld 7 rfl rfl (y_lIS rfl) .free rfl (.inr heldx) ?_
        refine d_alloc 9 rfl (by kernel_rfl) rfl .free rfl (.inr heldx) ?_
        intro b10
        refine d_st 10 rfl (by kernel_rfl) rfl rfl rfl rfl rfl .free (.inl (by kernel_rfl)) ?_
        refine d_st 11 rfl (by kernel_rfl) rfl rfl rfl rfl rfl .free (.inl (by kernel_rfl)) ?_
        refine d_done (by kernel_rfl) ?_
        exact s_env (E' := [(1, _), (2, _), (3, _), (9, _), (10, _)]) ⟨rfl, rfl, rfl, rfl, rfl, trivial⟩ (s_mem (by first | exact fun _ h => h | exact fun _ h => h.perm2) (hkk ⟨b9, b10⟩ trivial))
       ·skip
        refine i_alloc 9 rfl rfl .free rfl (.inr heldx) ?_
        intro b10
        refine d_two 7 10 (by kernel_rfl) ?_ ?_
        ·skip
         refine i_yld 7 rfl rfl (y_lIS rfl) .free rfl (.inr heldx) ?_
         refine d_st 10 rfl (by kernel_rfl) rfl rfl rfl rfl rfl .free (.inl (by kernel_rfl)) ?_
         refine d_st 11 rfl (by kernel_rfl) rfl rfl rfl rfl rfl .free (.inl (by kernel_rfl)) ?_
         refine d_done (by kernel_rfl) ?_
         exact s_env (E' := [(1, _), (2, _), (3, _), (9, _), (10, _)]) ⟨rfl, rfl, rfl, rfl, rfl, trivial⟩ (s_mem (by first | exact fun _ h => h | exact fun _ h => h.perm2) (hkk ⟨b9, b10⟩ trivial))
        ·skip
         refine i_st 10 rfl rfl rfl rfl rfl rfl .free (.inl (by kernel_rfl)) ?_
         refine d_yld 7 rfl (by kernel_rfl) rfl (y_lIS rfl) .free rfl (.inl (by kernel_rfl)) ?_
         refine d_st 11 rfl (by kernel_rfl) rfl rfl rfl rfl rfl .free (.inl (by kernel_rfl)) ?_
         refine d_done (by kernel_rfl) ?_
         exact s_env (E' := [(1, _), (2, _), (3, _), (9, _), (10, _)]) ⟨rfl, rfl, rfl, rfl, rfl, trivial⟩ (s_mem (by first | exact fun _ h => h | exact fun _ h => h.perm2) (hkk ⟨b9, b10⟩ trivial))
      ·skip
       refine i_alloc 9 rfl rfl .free rfl (.inr heldx) ?_
       intro b10
       refine d_two 7 8 (by kernel_rfl) ?_ ?_
       ·skip
        refine i_yld 7 rfl rfl (y_lIS rfl) .free rfl (.inr heldx) ?_
        refine d_alloc 8 rfl (by kernel_rfl) rfl .free rfl (.inr heldx) ?_
        intro b9
        refine d_st 10 rfl (by kernel_rfl) rfl rfl rfl rfl rfl .free (.inl (by kernel_rfl)) ?_
        refine d_st 11 rfl (by kernel_rfl) rfl rfl rfl rfl rfl .free (.inl (by kernel_rfl)) ?_
        refine d_done (by kernel_rfl) ?_
        exact s_env (E' := [(1, _), (2, _), (3, _), (9, _), (10, _)]) ⟨rfl, rfl, rfl, rfl, rfl, trivial⟩ (s_mem (by first | exact fun _ h => h | exact fun _ h => h.perm2) (hkk ⟨b9, b10⟩ trivial))
       ·skip
        refine i_alloc 8 rfl rfl .free rfl (.inr heldx) ?_
        intro b9
        refine d_two 7 10 (by kernel_rfl) ?_ ?_
        ·skip
         refine i_yld 7 rfl rfl (y_lIS rfl) .free rfl (.inr heldx) ?_
         refine d_st 10 rfl (by kernel_rfl) rfl rfl rfl rfl rfl .free (.inl (by kernel_rfl)) ?_
         refine d_st 11 rfl (by kernel_rfl) rfl rfl rfl rfl rfl .free (.inl (by kernel_rfl)) ?_
         refine d_done (by kernel_rfl) ?_
         exact s_env (E' := [(1, _), (2, _), (3, _), (9, _), (10, _)]) ⟨rfl, rfl, rfl, rfl, rfl, trivial⟩ (s_mem (by first | exact fun _ h => h | exact fun _ h => h.perm2) (hkk ⟨b9, b10⟩ trivial))
        ·skip
         refine i_st 10 rfl rfl rfl rfl rfl rfl .free (.inl (by kernel_rfl)) ?_
         refine d_yld 7 rfl (by kernel_rfl) rfl (y_lIS rfl) .free rfl (.inl (by kernel_rfl)) ?_
         refine d_st 11 rfl (by kernel_rfl) rfl rfl rfl rfl rfl .free (.inl (by kernel_rfl)) ?_
         refine d_done (by kernel_rfl) ?_
         exact s_env (E' := [(1, _), (2, _), (3, _), (9, _), (10, _)]) ⟨rfl, rfl, rfl, rfl, rfl, trivial⟩ (s_mem (by first | exact fun _ h => h | exact fun _ h => h.perm2) (hkk ⟨b9, b10⟩ trivial))
     ·skip
      refine i_alloc 8 rfl rfl .free rfl (.inr heldx) ?_
      intro b9
      refine d_two 5 9 (by kernel_rfl) ?_ ?_
      ·skip
       refine i_yld 5 rfl rfl (y_lO1 rfl) .free rfl (.inr heldx) ?_
       first | refine Da 6 rfl (y_ixD rfl rfl 2 rfl) ?_ | refine Da 6 rfl (y_ixP rfl rfl 2 rfl) ?_
       refine d_two 7 9 (by kernel_rfl) ?_ ?_
       ·skip
        refine i_yld 7 rfl rfl (y_lIS rfl) .free rfl (.inr heldx) ?_
        refine d_alloc 9 rfl (by kernel_rfl) rfl .free rfl (.inr heldx) ?_
        intro b10
        refine d_st 10 rfl (by kernel_rfl) rfl rfl rfl rfl rfl .free (.inl (by kernel_rfl)) ?_
        refine d_st 11 rfl (by kernel_rfl) rfl rfl rfl rfl rfl .free (.inl (by kernel_rfl)) ?_
        refine d_done (by kernel_rfl) ?_
        exact s_env (E' := [(1, _), (2, _), (3, _), (9, _), (10, _)]) ⟨rfl, rfl, rfl, rfl, rfl, trivial⟩ (s_mem (by first | exact fun _ h => h | exact fun _ h => h.perm2) (hkk ⟨b9, b10⟩ trivial))
       ·skip
        refine i_alloc 9 rfl rfl .free rfl (.inr heldx) ?_
        intro b10
        refine d_two 7 10 (by kernel_rfl) ?_ ?_
        ·skip
         refine i_yld 7 rfl rfl (y_lIS rfl) .free rfl (.inr heldx) ?_
         refine d_st 10 rfl (by kernel_rfl) rfl rfl rfl rfl rfl .free (.inl (by kernel_rfl)) ?_
         refine d_st 11 rfl (by kernel_rfl) rfl rfl rfl rfl rfl .free (.inl (by kernel_rfl)) ?_
         refine d_done (by kernel_rfl) ?_
         exact s_env (E' := [(1, _), (2, _), (3, _), (9, _), (10, _)]) ⟨rfl, rfl, rfl, rfl, rfl, trivial⟩ (s_mem (by first | exact fun _ h => h | exact fun _ h => h.perm2) (hkk ⟨b9, b10⟩ trivial))
        ·skip
         refine i_st 10 rfl rfl rfl rfl rfl rfl .free (.inl (by kernel_rfl)) ?_
         refine d_yld 7 rfl (by kernel_rfl) rfl (y_lIS rfl) .free rfl (.inl (by kernel_rfl)) ?_
         refine d_st 11 rfl (by kernel_rfl) rfl rfl rfl rfl rfl .free (.inl (by kernel_rfl)) ?_
         refine d_done (by kernel_rfl) ?_
         exact s_env (E' := [(1, _), (2, _), (3, _), (9, _), (10, _)]) ⟨rfl, rfl, rfl, rfl, rfl, trivial⟩ (s_mem (by first | exact fun _ h => h | exact fun _ h => h.perm2) (hkk ⟨b9, b10⟩ trivial))
      ·skip
       refine i_alloc 9 rfl rfl .free rfl (.inr heldx) ?_
       intro b10
       refine d_two 5 10 (by kernel_rfl) ?_ ?_
       ·skip
        refine i_yld 5 rfl rfl (y_lO1 rfl) .free rfl (.inr heldx) ?_
        first | refine Da 6 rfl (y_ixD rfl rfl 2 rfl) ?_ | refine Da 6 rfl (y_ixP rfl rfl 2 rfl) ?_
        refine d_two 7 10 (by kernel_rfl) ?_ ?_
        ·skip
         refine i_yld 7 rfl rfl (y_lIS rfl) .free rfl (.inr heldx) ?_
         refine d_st 10 rfl (by kernel_rfl) rfl rfl rfl rfl rfl .free (.inl (by kernel_rfl)) ?_
         refine d_st 11 rfl (by kernel_rfl) rfl rfl rfl rfl rfl .free (.inl (by kernel_rfl)) ?_
         refine d_done (by kernel_rfl) ?_
         exact s_env (E' := [(1, _), (2, _), (3, _), (9, _), (10, _)]) ⟨rfl, rfl, rfl, rfl, rfl, trivial⟩ (s_mem (by first | exact fun _ h => h | exact fun _ h => h.perm2) (hkk ⟨b9, b10⟩ trivial))
        ·skip
         refine i_st 10 rfl rfl rfl rfl rfl rfl .free (.inl (by kernel_rfl)) ?_
         refine d_yld 7 rfl (by kernel_rfl) rfl (y_lIS rfl) .free rfl (.inl (by kernel_rfl)) ?_
         refine d_st 11 rfl (by kernel_rfl) rfl rfl rfl rfl rfl .free (.inl (by kernel_rfl)) ?_
         refine d_done (by kernel_rfl) ?_
         exact s_env (E' := [(1, _), (2, _), (3, _), (9, _), (10, _)]) ⟨rfl, rfl, rfl, rfl, rfl, trivial⟩ (s_mem (by first | exact fun _ h => h | exact fun _ h => h.perm2) (hkk ⟨b9, b10⟩ trivial))
       ·skip
        refine i_st 10 rfl rfl rfl rfl rfl rfl .free (.inl (by kernel_rfl)) ?_
        refine d_yld 5 rfl (by kernel_rfl) rfl (y_lO1 rfl) .free rfl (.inl (by kernel_rfl)) ?_
        first | refine d_takeA 6 rfl (by kernel_rfl) rfl (.inl (by kernel_rfl)) (y_ixD rfl rfl 2 rfl) .free rfl ?_ | refine d_takeA 6 rfl (by kernel_rfl) rfl (.inl (by kernel_rfl)) (y_ixP rfl rfl 2 rfl) .free rfl ?_
        refine d_yld 7 rfl (by kernel_rfl) rfl (y_lIS rfl) .free rfl (.inl (by kernel_rfl)) ?_
        refine d_st 11 rfl (by kernel_rfl) rfl rfl rfl rfl rfl .free (.inl (by kernel_rfl)) ?_
        refine d_done (by kernel_rfl) ?_
        exact s_env (E' := [(1, _), (2, _), (3, _), (9, _), (10, _)]) ⟨rfl, rfl, rfl, rfl, rfl, trivial⟩ (s_mem (by first | exact fun _ h => h | exact fun _ h => h.perm2) (hkk ⟨b9, b10⟩ trivial))
     ·skip
      refine i_alloc 9 rfl rfl .free rfl (.inr heldx) ?_
      intro b10
      refine d_two 5 8 (by kernel_rfl) ?_ ?_
      ·skip
       refine i_yld 5 rfl rfl (y_lO1 rfl) .free rfl (.inr heldx) ?_
       first | refine Da 6 rfl (y_ixD rfl rfl 2 rfl) ?_ | refine Da 6 rfl (y_ixP rfl rfl 2 rfl) ?_
       refine d_two 7 8 (by kernel_rfl) ?_ ?_
       ·skip
        refine i_yld 7 rfl rfl (y_lIS rfl) .free rfl (.inr heldx) ?_
        refine d_alloc 8 rfl (by kernel_rfl) rfl .free rfl (.inr heldx) ?_
        intro b9
        refine d_st 10 rfl (by kernel_rfl) rfl rfl rfl rfl rfl .free (.inl (by kernel_rfl)) ?_
        refine d_st 11 rfl (by kernel_rfl) rfl rfl rfl rfl rfl .free (.inl (by kernel_rfl)) ?_
        refine d_done (by kernel_rfl) ?_
        exact s_env (E' := [(1, _), (2, _), (3, _), (9, _), (10, _)]) ⟨rfl, rfl, rfl, rfl, rfl, trivial⟩ (s_mem (by first | exact fun _ h => h | exact fun _ h => h.perm2) (hkk ⟨b9, b10⟩ trivial))
       ·skip
        refine i_alloc 8 rfl rfl .free rfl (.inr heldx) ?_
        intro b9
        refine d_two 7 10 (by kernel_rfl) ?_ ?_
        ·skip
         refine i_yld 7 rfl rfl (y_lIS rfl) .free rfl (.inr heldx) ?_
         refine d_st 10 rfl (by kernel_rfl) rfl rfl rfl rfl rfl .free (.inl (by kernel_rfl)) ?_
         refine d_st 11 rfl (by kernel_rfl) rfl rfl rfl rfl rfl .free (.inl (by kernel_rfl)) ?_
         refine d_done (by kernel_rfl) ?_
         exact s_env (E' := [(1, _), (2, _), (3, _), (9, _), (10, _)]) ⟨rfl, rfl, rfl, rfl, rfl, trivial⟩ (s_mem (by first | exact fun _ h => h | exact fun _ h => h.perm2) (hkk ⟨b9, b10⟩ trivial))
        ·skip
         refine i_st 10 rfl rfl rfl rfl rfl rfl .free (.inl (by kernel_rfl)) ?_
         refine d_yld 7 rfl (by kernel_rfl) rfl (y_lIS rfl) .free rfl (.inl (by kernel_rfl)) ?_
         refine d_st 11 rfl (by kernel_rfl) rfl rfl rfl rfl rfl .free (.inl (by kernel_rfl)) ?_
         refine d_done (by kernel_rfl) ?_
         exact s_env (E' := [(1, _), (2, _), (3, _), (9, _), (10, _)]) ⟨rfl, rfl, rfl, rfl, rfl, trivial⟩ (s_mem (by first | exact fun _ h => h | exact fun _ h => h.perm2) (hkk ⟨b9, b10⟩ trivial))
      ·skip
       refine i_alloc 8 rfl rfl .free rfl (.inr heldx) ?_
       intro b9
       refine d_two 5 10 (by kernel_rfl) ?_ ?_
       ·skip
        refine i_yld 5 rfl rfl (y_lO1 rfl) .free rfl (.inr heldx) ?_
        first | refine Da 6 rfl (y_ixD rfl rfl 2 rfl) ?_ | refine Da 6 rfl (y_ixP rfl rfl 2 rfl) ?_
        refine d_two 7 10 (by kernel_rfl) ?_ ?_
        ·skip
         refine i_yld 7 rfl rfl (y_lIS rfl) .free rfl (.inr heldx) ?_
         refine d_st 10 rfl (by kernel_rfl) rfl rfl rfl rfl rfl .free (.inl (by kernel_rfl)) ?_
         refine d_st 11 rfl (by kernel_rfl) rfl rfl rfl rfl rfl .free (.inl (by kernel_rfl)) ?_
         refine d_done (by kernel_rfl) ?_
         exact s_env (E' := [(1, _), (2, _), (3, _), (9, _), (10, _)]) ⟨rfl, rfl, rfl, rfl, rfl, trivial⟩ (s_mem (by first | exact fun _ h => h | exact fun _ h => h.perm2) (hkk ⟨b9, b10⟩ trivial))
        ·skip
         refine i_st 10 rfl rfl rfl rfl rfl rfl .free (.inl (by kernel_rfl)) ?_
         refine d_yld 7 rfl (by kernel_rfl) rfl (y_lIS rfl) .free rfl (.inl (by kernel_rfl)) ?_
         refine d_st 11 rfl (by kernel_rfl) rfl rfl rfl rfl rfl .free (.inl (by kernel_rfl)) ?_
         refine d_done (by kernel_rfl) ?_
         exact s_env (E' := [(1, _), (2, _), (3, _), (9, _), (10, _)]) ⟨rfl, rfl, rfl, rfl, rfl, trivial⟩ (s_mem (by first | exact fun _ h => h | exact fun _ h => h.perm2) (hkk ⟨b9, b10⟩ trivial))
       ·skip
        refine i_st 10 rfl rfl rfl rfl rfl rfl .free (.inl (by kernel_rfl)) ?_
        refine d_yld 5 rfl (by kernel_rfl) rfl (y_lO1 rfl) .free rfl (.inl (by kernel_rfl)) ?_
        first | refine d_takeA 6 rfl (by kernel_rfl) rfl (.inl (by kernel_rfl)) (y_ixD rfl rfl 2 rfl) .free rfl ?_ | refine d_takeA 6 rfl (by kernel_rfl) rfl (.inl (by kernel_rfl)) (y_ixP rfl rfl 2 rfl) .free rfl ?_
        refine d_yld 7 rfl (by kernel_rfl) rfl (y_lIS rfl) .free rfl (.inl (by kernel_rfl)) ?_
        refine d_st 11 rfl (by kernel_rfl) rfl rfl rfl rfl rfl .free (.inl (by kernel_rfl)) ?_
        refine d_done (by kernel_rfl) ?_
        exact s_env (E' := [(1, _), (2, _), (3, _), (9, _), (10, _)]) ⟨rfl, rfl, rfl, rfl, rfl, trivial⟩ (s_mem (by first | exact fun _ h => h | exact fun _ h => h.perm2) (hkk ⟨b9, b10⟩ trivial))
   ·skip
    refine o_enter rfl ?_
    refine o_lOS rfl .free rfl ?_
    refine o_call rfl .free rfl (f_form_head hf.rep _) ?_
    rintro _ _ _ _ ⟨rfl, rfl, rfl⟩
    rw [show (Ex.bin .sub a b).tree.head = [45] from rfl]
    have hturn : (Ex.bin .sub a b).step = (Ex.bin .sub a b).turn := by simp only [Ex.step, hva, hvb, Bool.true_eq_false, if_false]
    refine o_done (s_block (s_seq (Se rfl (Od rfl rfl rfl (Oa rfl (o_done ?_))))))
    first | refine s_fp rfl (by decide) ?_ | refine s_fn rfl (by decide) ?_ | refine s_false (by simp [look, opd, *]) ?_
    refine Se rfl (Od rfl rfl rfl (Oa rfl (o_done ?_)))
    first | refine s_tp rfl (rfl) ?_ | refine s_tn rfl (rfl) ?_ | refine s_true (by simp [look, opd, *]) ?_
    refine s_skip ?_
    first | refine s_tp rfl (rfl) ?_ | refine s_tn rfl (rfl) ?_ | refine s_true (by simp [look, opd, *]) ?_
    refine s_seq ?_
    refine d_all 12 rfl rfl ?_
    refine d_cutL (X := Nat × Nat) (fun x => [(1, .pointer (some ⟨b1, 0, none⟩)), (2, .pointer (some ⟨b2, 0, none⟩)), (3, .bool false), (9, .pointer (some ⟨x.1, 0, none⟩)), (10, .pointer (some ⟨x.2, 0, none⟩))]) (fun x => J0) (fun x => [(x.2, .cells [.string (str b.tree.atom), .slice (oaf 2) b.tree.parts.length (cf 2)].toArray 39 (0, 0)), (x.1, .cells [.string (str a.tree.atom), .slice (oaf 1) a.tree.parts.length (cf 1)].toArray 39 (0, 0))]) (fun x => True) ?_ ?_
    ·rintro ⟨b9, b10⟩ -
     simp only [List.cons_append, List.nil_append]
     refine Se rfl ?_
     refine o_lJ rfl .free rfl ?_
     refine o_call rfl .free rfl (f_form_isAtom (hf.as 1 a.tree (by omega) rfl) _) ?_
     rintro _ _ _ _ ⟨rfl, rfl, rfl⟩
     refine Om rfl ?_
     apply o_and 64 67 rfl
     ·intro g15_3 hk
      try simp only [nb] at g15_3
      refine o_lJ rfl (.met rfl rfl) rfl ?_
      refine o_call rfl (.met rfl rfl) rfl (f_form_isAtom (hf.as 2 b.tree (by omega) rfl) _) ?_
      rintro _ _ _ _ ⟨rfl, rfl, rfl⟩
      refine Ot rfl rfl ?_
      exact o_fin 2 rfl rfl hk
     ·intro _ hk
      refine o_skips 2 rfl ?_
      refine Of rfl rfl ?_
      exact o_fin 2 rfl rfl hk
     refine o_done ?_
     refine s_cond rfl ?_ ?_
     ·intro c5
      try simp only [nb] at c5
      have hbb : a.tree.parts.isEmpty = true ∧ b.tree.parts.isEmpty = true := by simpa using c5
      obtain ⟨p, rfl⟩ := bare_val hbb.1 hva
      obtain ⟨q, rfl⟩ := bare_val hbb.2 hvb
      refine s_seq ?_
      refine d_all 10 rfl rfl ?_
      refine Dt 0 [8] rfl (y_lOS rfl) ?_
      first | refine Da 2 rfl (y_fieldAddr rfl) ?_ | refine Da 2 rfl (y_fieldAddr' rfl) ?_
      refine Dt 3 [8] rfl (y_lJ rfl) ?_
      first | refine Da 4 rfl (y_fieldAddr rfl) ?_ | refine Da 4 rfl (y_fieldAddr' rfl) ?_
      refine Dt 5 [8] rfl (y_lJ rfl) ?_
      refine d_call 1 rfl (by kernel_rfl) rfl rfl .free rfl (f_form_head hf.rep _) ?_
      rintro _ _ _ _ ⟨rfl, rfl, rfl⟩
      refine ⟨(.inr heldx), ?_⟩
      refine d_call 6 rfl (by kernel_rfl) rfl rfl .free rfl (f_reckon ht .sub (a := p) (b := q) hok.1 hok.2 _) ?_
      rintro _ _ _ _ ⟨rfl, rfl, rfl⟩
      refine ⟨(.inr heldx), ?_⟩
      refine d_call 7 rfl (by kernel_rfl) rfl rfl .free rfl (f_atom (reck .sub p q) (reck_len _ _ _) _ _) ?_
      rintro _ _ _ _ ⟨rfl, rfl, rfl⟩
      refine ⟨(.inr heldx), ?_⟩
      refine d_st 8 rfl (by kernel_rfl) rfl rfl rfl rfl rfl .free (.inl (by kernel_rfl)) ?_
      refine d_takeA 9 rfl (by kernel_rfl) rfl (.inl (by kernel_rfl)) (y_assign rfl) .free rfl ?_
      refine d_done (by kernel_rfl) ?_
      refine s_ret (.c rfl (.tmp rfl .nil)) ?_
      refine ⟨_, L, hle, drops, .node (reck .sub p q) [], _, by rw [hturn]; rfl, .ofAtom (reck_len _ _ _), fun e' he' => ?_, rfl⟩
      rw [hturn] at he'
      obtain rfl := Option.some.inj he'
      rfl
     intro c5
     try simp only [nb] at c5
     have hno : (Ex.bin .sub a b).turn = none := by
      cases hty : (Ex.bin .sub a b).turn with
      | none => rfl
      | some e' =>
       rcases turn_bin hty with ⟨f, y, s, t, g, ho, rfl, rfl⟩ | ⟨p, q, ho, rfl, rfl, rfl⟩
       ·cases ho
       ·exact absurd c5 (by simp [Ex.tree, Tree.parts])
     refine s_skip (s_inBlock (Se rfl ?_))
     refine o_struct rfl rfl rfl .free rfl ?_
     refine o_st rfl rfl rfl rfl .free ?_
     refine Oa rfl (o_done ?_)
     refine s_ret (.c rfl (.tmp rfl .nil)) ?_
     exact ⟨_, L, hle, drops, SP.none' (by rw [hturn, hno])⟩
    ·intro hkk
     skip
     refine Da 0 rfl (y_fieldAddr rfl) ?_
     refine Dt 1 [10] rfl (y_lO1 rfl) ?_
     first | refine Da 2 rfl (y_ixD rfl rfl 1 rfl) ?_ | refine Da 2 rfl (y_ixP rfl rfl 1 rfl) ?_
     refine Dt 3 [10] rfl (y_lIS rfl) ?_
     refine Da 4 rfl (y_fieldAddr rfl) ?_
     refine d_three 5 8 9 (by kernel_rfl) ?_ ?_ ?_
     ·skip
      refine i_yld 5 rfl rfl (y_lO1 rfl) .free rfl (.inr heldx) ?_
      first | refine Da 6 rfl (y_ixD rfl rfl 2 rfl) ?_ | refine Da 6 rfl (y_ixP rfl rfl 2 rfl) ?_
      refine d_three 7 8 9 (by kernel_rfl) ?_ ?_ ?_
      ·skip
       refine i_yld 7 rfl rfl (y_lIS rfl) .free rfl (.inr heldx) ?_
       refine d_two 8 9 (by kernel_rfl) ?_ ?_
       ·skip
        refine i_alloc 8 rfl rfl .free rfl (.inr heldx) ?_
        intro b9
        refine d_alloc 9 rfl (by kernel_rfl) rfl .free rfl (.inr heldx) ?_
        intro b10
        refine d_st 10 rfl (by kernel_rfl) rfl rfl rfl rfl rfl .free (.inl (by kernel_rfl)) ?_
        refine d_st 11 rfl (by kernel_rfl) rfl rfl rfl rfl rfl .free (.inl (by kernel_rfl)) ?_
        refine d_done (by kernel_rfl) ?_
        exact s_env (E' := [(1, _), (2, _), (3, _), (9, _), (10, _)]) ⟨rfl, rfl, rfl, rfl, rfl, trivial⟩ (s_mem (by first | exact fun _ h => h | exact fun _ h => h.perm2) (hkk ⟨b9, b10⟩ trivial))
       ·skip
        refine i_alloc 9 rfl rfl .free rfl (.inr heldx) ?_
        intro b10
        refine d_alloc 8 rfl (by kernel_rfl) rfl .free rfl (.inr heldx) ?_
        intro b9
        refine d_st 10 rfl (by kernel_rfl) rfl rfl rfl rfl rfl .free (.inl (by kernel_rfl)) ?_
        refine d_st 11 rfl (by kernel_rfl) rfl rfl rfl rfl rfl .free (.inl (by kernel_rfl)) ?_
        refine d_done (by kernel_rfl) ?_
        exact s_env (E' := [(1, _), (2, _), (3, _), (9, _), (10, _)]) ⟨rfl, rfl, rfl, rfl, rfl, trivial⟩ (s_mem (by first | exact fun _ h => h | exact fun _ h => h.perm2) (hkk ⟨b9, b10⟩ trivial))
      ·skip
       refine i_alloc 8 rfl rfl .free rfl (.inr heldx) ?_
       intro b9
       refine d_two 7 9 (by kernel_rfl) ?_ ?_
       ·skip
        refine i_yld 7 rfl rfl (y_lIS rfl) .free rfl (.inr heldx) ?_
        refine d_alloc 9 rfl (by kernel_rfl) rfl .free rfl (.inr heldx) ?_
        intro b10
        refine d_st 10 rfl (by kernel_rfl) rfl rfl rfl rfl rfl .free (.inl (by kernel_rfl)) ?_
        refine d_st 11 rfl (by kernel_rfl) rfl rfl rfl rfl rfl .free (.inl (by kernel_rfl)) ?_
        refine d_done (by kernel_rfl) ?_
        exact s_env (E' := [(1, _), (2, _), (3, _), (9, _), (10, _)]) ⟨rfl, rfl, rfl, rfl, rfl, trivial⟩ (s_mem (by first | exact fun _ h => h | exact fun _ h => h.perm2) (hkk ⟨b9, b10⟩ trivial))
       ·skip
        refine i_alloc 9 rfl rfl .free rfl (.inr heldx) ?_
        intro b10
        refine d_two 7 10 (by kernel_rfl) ?_ ?_
        ·skip
         refine i_yld 7 rfl rfl (y_lIS rfl) .free rfl (.inr heldx) ?_
         refine d_st 10 rfl (by kernel_rfl) rfl rfl rfl rfl rfl .free (.inl (by kernel_rfl)) ?_
         refine d_st 11 rfl (by kernel_rfl) rfl rfl rfl rfl rfl .free (.inl (by kernel_rfl)) ?_
         refine d_done (by kernel_rfl) ?_
         exact s_env (E' := [(1, _), (2, _), (3, _), (9, _), (10, _)]) ⟨rfl, rfl, rfl, rfl, rfl, trivial⟩ (s_mem (by first | exact fun _ h => h | exact fun _ h => h.perm2) (hkk ⟨b9, b10⟩ trivial))
        ·skip
         refine i_st 10 rfl rfl rfl rfl rfl rfl .free (.inl (by kernel_rfl)) ?_
         refine d_yld 7 rfl (by kernel_rfl) rfl (y_lIS rfl) .free rfl (.inl (by kernel_rfl)) ?_
         refine d_st 11 rfl (by kernel_rfl) rfl rfl rfl rfl rfl .free (.inl (by kernel_rfl)) ?_
         refine d_done (by kernel_rfl) ?_
         exact s_env (E' := [(1, _), (2, _), (3, _), (9, _), (10, _)]) ⟨rfl, rfl, rfl, rfl, rfl, trivial⟩ (s_mem (by first | exact fun _ h => h | exact fun _ h => h.perm2) (hkk ⟨b9, b10⟩ trivial))
      ·skip
       refine i_alloc 9 rfl rfl .free rfl (.inr heldx) ?_
       intro b10
       refine d_two 7 8 (by kernel_rfl) ?_ ?_
       ·skip
        refine i_yld 7 rfl rfl (y_lIS rfl) .free rfl (.inr heldx) ?_
        refine d_alloc 8 rfl (by kernel_rfl) rfl .free rfl (.inr heldx) ?_
        intro b9
        refine d_st 10 rfl (by kernel_rfl) rfl rfl rfl rfl rfl .free (.inl (by kernel_rfl)) ?_
        refine d_st 11 rfl (by kernel_rfl) rfl rfl rfl rfl rfl .free (.inl (by kernel_rfl)) ?_
        refine d_done (by kernel_rfl) ?_
        exact s_env (E' := [(1, _), (2, _), (3, _), (9, _), (10, _)]) ⟨rfl, rfl, rfl, rfl, rfl, trivial⟩ (s_mem (by first | exact fun _ h => h | exact fun _ h => h.perm2) (hkk ⟨b9, b10⟩ trivial))
       ·skip
        refine i_alloc 8 rfl rfl .free rfl (.inr heldx) ?_
        intro b9
        refine d_two 7 10 (by kernel_rfl) ?_ ?_
        ·skip
         refine i_yld 7 rfl rfl (y_lIS rfl) .free rfl (.inr heldx) ?_
         refine d_st 10 rfl (by kernel_rfl) rfl rfl rfl rfl rfl .free (.inl (by kernel_rfl)) ?_
         refine d_st 11 rfl (by kernel_rfl) rfl rfl rfl rfl rfl .free (.inl (by kernel_rfl)) ?_
         refine d_done (by kernel_rfl) ?_
         exact s_env (E' := [(1, _), (2, _), (3, _), (9, _), (10, _)]) ⟨rfl, rfl, rfl, rfl, rfl, trivial⟩ (s_mem (by first | exact fun _ h => h | exact fun _ h => h.perm2) (hkk ⟨b9, b10⟩ trivial))
        ·skip
         refine i_st 10 rfl rfl rfl rfl rfl rfl .free (.inl (by kernel_rfl)) ?_
         refine d_yld 7 rfl (by kernel_rfl) rfl (y_lIS rfl) .free rfl (.inl (by kernel_rfl)) ?_
         refine d_st 11 rfl (by kernel_rfl) rfl rfl rfl rfl rfl .free (.inl (by kernel_rfl)) ?_
         refine d_done (by kernel_rfl) ?_
         exact s_env (E' := [(1, _), (2, _), (3, _), (9, _), (10, _)]) ⟨rfl, rfl, rfl, rfl, rfl, trivial⟩ (s_mem (by first | exact fun _ h => h | exact fun _ h => h.perm2) (hkk ⟨b9, b10⟩ trivial))
     ·skip
      refine i_alloc 8 rfl rfl .free rfl (.inr heldx) ?_
      intro b9
      refine d_two 5 9 (by kernel_rfl) ?_ ?_
      ·skip
       refine i_yld 5 rfl rfl (y_lO1 rfl) .free rfl (.inr heldx) ?_
       first | refine Da 6 rfl (y_ixD rfl rfl 2 rfl) ?_ | refine Da 6 rfl (y_ixP rfl rfl 2 rfl) ?_
       refine d_two 7 9 (by kernel_rfl) ?_ ?_
       ·skip
        refine i_yld 7 rfl rfl (y_lIS rfl) .free rfl (.inr heldx) ?_
        refine d_alloc 9 rfl (by kernel_rfl) rfl .free rfl (.inr heldx) ?_
        intro b10
        refine d_st 10 rfl (by kernel_rfl) rfl rfl rfl rfl rfl .free (.inl (by kernel_rfl)) ?_
        refine d_st 11 rfl (by kernel_rfl) rfl rfl rfl rfl rfl .free (.inl (by kernel_rfl)) ?_
        refine d_done (by kernel_rfl) ?_
        exact s_env (E' := [(1, _), (2, _), (3, _), (9, _), (10, _)]) ⟨rfl, rfl, rfl, rfl, rfl, trivial⟩ (s_mem (by first | exact fun _ h => h | exact fun _ h => h.perm2) (hkk ⟨b9, b10⟩ trivial))
       ·skip
        refine i_alloc 9 rfl rfl .free rfl (.inr heldx) ?_
        intro b10
        refine d_two 7 10 (by kernel_rfl) ?_ ?_
        ·skip
         refine i_yld 7 rfl rfl (y_lIS rfl) .free rfl (.inr heldx) ?_
         refine d_st 10 rfl (by kernel_rfl) rfl rfl rfl rfl rfl .free (.inl (by kernel_rfl)) ?_
         refine d_st 11 rfl (by kernel_rfl) rfl rfl rfl rfl rfl .free (.inl (by kernel_rfl)) ?_
         refine d_done (by kernel_rfl) ?_
         exact s_env (E' := [(1, _), (2, _), (3, _), (9, _), (10, _)]) ⟨rfl, rfl, rfl, rfl, rfl, trivial⟩ (s_mem (by first | exact fun _ h => h | exact fun _ h => h.perm2) (hkk ⟨b9, b10⟩ trivial))
        ·skip
         refine i_st 10 rfl rfl rfl rfl rfl rfl .free (.inl (by kernel_rfl)) ?_
         refine d_yld 7 rfl (by kernel_rfl) rfl (y_lIS rfl) .free rfl (.inl (by kernel_rfl)) ?_
         refine d_st 11 rfl (by kernel_rfl) rfl rfl rfl rfl rfl .free (.inl (by kernel_rfl)) ?_
         refine d_done (by kernel_rfl) ?_
         exact s_env (E' := [(1, _), (2, _), (3, _), (9, _), (10, _)]) ⟨rfl, rfl, rfl, rfl, rfl, trivial⟩ (s_mem (by first | exact fun _ h => h | exact fun _ h => h.perm2) (hkk ⟨b9, b10⟩ trivial))
      ·skip
       refine i_alloc 9 rfl rfl .free rfl (.inr heldx) ?_
       intro b10
       refine d_two 5 10 (by kernel_rfl) ?_ ?_
       ·skip
        refine i_yld 5 rfl rfl (y_lO1 rfl) .free rfl (.inr heldx) ?_
        first | refine Da 6 rfl (y_ixD rfl rfl 2 rfl) ?_ | refine Da 6 rfl (y_ixP rfl rfl 2 rfl) ?_
        refine d_two 7 10 (by kernel_rfl) ?_ ?_
        ·skip
         refine i_yld 7 rfl rfl (y_lIS rfl) .free rfl (.inr heldx) ?_
         refine d_st 10 rfl (by kernel_rfl) rfl rfl rfl rfl rfl .free (.inl (by kernel_rfl)) ?_
         refine d_st 11 rfl (by kernel_rfl) rfl rfl rfl rfl rfl .free (.inl (by kernel_rfl)) ?_
         refine d_done (by kernel_rfl) ?_
         exact s_env (E' := [(1, _), (2, _), (3, _), (9, _), (10, _)]) ⟨rfl, rfl, rfl, rfl, rfl, trivial⟩ (s_mem (by first | exact fun _ h => h | exact fun _ h => h.perm2) (hkk ⟨b9, b10⟩ trivial))
        ·skip
         refine i_st 10 rfl rfl rfl rfl rfl rfl .free (.inl (by kernel_rfl)) ?_
         refine d_yld 7 rfl (by kernel_rfl) rfl (y_lIS rfl) .free rfl (.inl (by kernel_rfl)) ?_
         refine d_st 11 rfl (by kernel_rfl) rfl rfl rfl rfl rfl .free (.inl (by kernel_rfl)) ?_
         refine d_done (by kernel_rfl) ?_
         exact s_env (E' := [(1, _), (2, _), (3, _), (9, _), (10, _)]) ⟨rfl, rfl, rfl, rfl, rfl, trivial⟩ (s_mem (by first | exact fun _ h => h | exact fun _ h => h.perm2) (hkk ⟨b9, b10⟩ trivial))
       ·skip
        refine i_st 10 rfl rfl rfl rfl rfl rfl .free (.inl (by kernel_rfl)) ?_
        refine d_yld 5 rfl (by kernel_rfl) rfl (y_lO1 rfl) .free rfl (.inl (by kernel_rfl)) ?_
        first | refine d_takeA 6 rfl (by kernel_rfl) rfl (.inl (by kernel_rfl)) (y_ixD rfl rfl 2 rfl) .free rfl ?_ | refine d_takeA 6 rfl (by kernel_rfl) rfl (.inl (by kernel_rfl)) (y_ixP rfl rfl 2 rfl) .free rfl ?_
        refine d_yld 7 rfl (by kernel_rfl) rfl (y_lIS rfl) .free rfl (.inl (by kernel_rfl)) ?_
        refine d_st 11 rfl (by kernel_rfl) rfl rfl rfl rfl rfl .free (.inl (by kernel_rfl)) ?_
        refine d_done (by kernel_rfl) ?_
        exact s_env (E' := [(1, _), (2, _), (3, _), (9, _), (10, _)]) ⟨rfl, rfl, rfl, rfl, rfl, trivial⟩ (s_mem (by first | exact fun _ h => h | exact fun _ h => h.perm2) (hkk ⟨b9, b10⟩ trivial))
     ·skip
      refine i_alloc 9 rfl rfl .free rfl (.inr heldx) ?_
      intro b10
      refine d_two 5 8 (by kernel_rfl) ?_ ?_
      ·skip
       refine i_yld 5 rfl rfl (y_lO1 rfl) .free rfl (.inr heldx) ?_
       first | refine Da 6 rfl (y_ixD rfl rfl 2 rfl) ?_ | refine Da 6 rfl (y_ixP rfl rfl 2 rfl) ?_
       refine d_two 7 8 (by kernel_rfl) ?_ ?_
       ·skip
        refine i_yld 7 rfl rfl (y_lIS rfl) .free rfl (.inr heldx) ?_
        refine d_alloc 8 rfl (by kernel_rfl) rfl .free rfl (.inr heldx) ?_
        intro b9
        refine d_st 10 rfl (by kernel_rfl) rfl rfl rfl rfl rfl .free (.inl (by kernel_rfl)) ?_
        refine d_st 11 rfl (by kernel_rfl) rfl rfl rfl rfl rfl .free (.inl (by kernel_rfl)) ?_
        refine d_done (by kernel_rfl) ?_
        exact s_env (E' := [(1, _), (2, _), (3, _), (9, _), (10, _)]) ⟨rfl, rfl, rfl, rfl, rfl, trivial⟩ (s_mem (by first | exact fun _ h => h | exact fun _ h => h.perm2) (hkk ⟨b9, b10⟩ trivial))
       ·skip
        refine i_alloc 8 rfl rfl .free rfl (.inr heldx) ?_
        intro b9
        refine d_two 7 10 (by kernel_rfl) ?_ ?_
        ·skip
         refine i_yld 7 rfl rfl (y_lIS rfl) .free rfl (.inr heldx) ?_
         refine d_st 10 rfl (by kernel_rfl) rfl rfl rfl rfl rfl .free (.inl (by kernel_rfl)) ?_
         refine d_st 11 rfl (by kernel_rfl) rfl rfl rfl rfl rfl .free (.inl (by kernel_rfl)) ?_
         refine d_done (by kernel_rfl) ?_
         exact s_env (E' := [(1, _), (2, _), (3, _), (9, _), (10, _)]) ⟨rfl, rfl, rfl, rfl, rfl, trivial⟩ (s_mem (by first | exact fun _ h => h | exact fun _ h => h.perm2) (hkk ⟨b9, b10⟩ trivial))
        ·skip
         refine i_st 10 rfl rfl rfl rfl rfl rfl .free (.inl (by kernel_rfl)) ?_
         refine d_yld 7 rfl (by kernel_rfl) rfl (y_lIS rfl) .free rfl (.inl (by kernel_rfl)) ?_
         refine d_st 11 rfl (by kernel_rfl) rfl rfl rfl rfl rfl .free (.inl (by kernel_rfl)) ?_
         refine d_done (by kernel_rfl) ?_
         exact s_env (E' := [(1, _), (2, _), (3, _), (9, _), (10, _)]) ⟨rfl, rfl, rfl, rfl, rfl, trivial⟩ (s_mem (by first | exact fun _ h => h | exact fun _ h => h.perm2) (hkk ⟨b9, b10⟩ trivial))
      ·skip
       refine i_alloc 8 rfl rfl .free rfl (.inr heldx) ?_
       intro b9
       refine d_two 5 10 (by kernel_rfl) ?_ ?_
       ·skip
        refine i_yld 5 rfl rfl (y_lO1 rfl) .free rfl (.inr heldx) ?_
        first | refine Da 6 rfl (y_ixD rfl rfl 2 rfl) ?_ | refine Da 6 rfl (y_ixP rfl rfl 2 rfl) ?_
        refine d_two 7 10 (by kernel_rfl) ?_ ?_
        ·skip
         refine i_yld 7 rfl rfl (y_lIS rfl) .free rfl (.inr heldx) ?_
         refine d_st 10 rfl (by kernel_rfl) rfl rfl rfl rfl rfl .free (.inl (by kernel_rfl)) ?_
         refine d_st 11 rfl (by kernel_rfl) rfl rfl rfl rfl rfl .free (.inl (by kernel_rfl)) ?_
         refine d_done (by kernel_rfl) ?_
         exact s_env (E' := [(1, _), (2, _), (3, _), (9, _), (10, _)]) ⟨rfl, rfl, rfl, rfl, rfl, trivial⟩ (s_mem (by first | exact fun _ h => h | exact fun _ h => h.perm2) (hkk ⟨b9, b10⟩ trivial))
        ·skip
         refine i_st 10 rfl rfl rfl rfl rfl rfl .free (.inl (by kernel_rfl)) ?_
         refine d_yld 7 rfl (by kernel_rfl) rfl (y_lIS rfl) .free rfl (.inl (by kernel_rfl)) ?_
         refine d_st 11 rfl (by kernel_rfl) rfl rfl rfl rfl rfl .free (.inl (by kernel_rfl)) ?_
         refine d_done (by kernel_rfl) ?_
         exact s_env (E' := [(1, _), (2, _), (3, _), (9, _), (10, _)]) ⟨rfl, rfl, rfl, rfl, rfl, trivial⟩ (s_mem (by first | exact fun _ h => h | exact fun _ h => h.perm2) (hkk ⟨b9, b10⟩ trivial))
       ·skip
        refine i_st 10 rfl rfl rfl rfl rfl rfl .free (.inl (by kernel_rfl)) ?_
        refine d_yld 5 rfl (by kernel_rfl) rfl (y_lO1 rfl) .free rfl (.inl (by kernel_rfl)) ?_
        first | refine d_takeA 6 rfl (by kernel_rfl) rfl (.inl (by kernel_rfl)) (y_ixD rfl rfl 2 rfl) .free rfl ?_ | refine d_takeA 6 rfl (by kernel_rfl) rfl (.inl (by kernel_rfl)) (y_ixP rfl rfl 2 rfl) .free rfl ?_
        refine d_yld 7 rfl (by kernel_rfl) rfl (y_lIS rfl) .free rfl (.inl (by kernel_rfl)) ?_
        refine d_st 11 rfl (by kernel_rfl) rfl rfl rfl rfl rfl .free (.inl (by kernel_rfl)) ?_
        refine d_done (by kernel_rfl) ?_
        exact s_env (E' := [(1, _), (2, _), (3, _), (9, _), (10, _)]) ⟨rfl, rfl, rfl, rfl, rfl, trivial⟩ (s_mem (by first | exact fun _ h => h | exact fun _ h => h.perm2) (hkk ⟨b9, b10⟩ trivial))
   ·skip
    refine o_enter rfl ?_
    refine o_lOS rfl .free rfl ?_
    refine o_call rfl .free rfl (f_form_head hf.rep _) ?_
    rintro _ _ _ _ ⟨rfl, rfl, rfl⟩
    rw [show (Ex.bin .mul a b).tree.head = [42] from rfl]
    have hturn : (Ex.bin .mul a b).step = (Ex.bin .mul a b).turn := by simp only [Ex.step, hva, hvb, Bool.true_eq_false, if_false]
    refine o_done (s_block (s_seq (Se rfl (Od rfl rfl rfl (Oa rfl (o_done ?_))))))
    first | refine s_fp rfl (by decide) ?_ | refine s_fn rfl (by decide) ?_ | refine s_false (by simp [look, opd, *]) ?_
    refine Se rfl (Od rfl rfl rfl (Oa rfl (o_done ?_)))
    first | refine s_fp rfl (by decide) ?_ | refine s_fn rfl (by decide) ?_ | refine s_false (by simp [look, opd, *]) ?_
    refine o_enter rfl (Od rfl rfl rfl (Oa rfl (o_done ?_)))
    first | refine s_tp rfl (rfl) ?_ | refine s_tn rfl (rfl) ?_ | refine s_true (by simp [look, opd, *]) ?_
    refine s_seq ?_
    refine d_all 12 rfl rfl ?_
    refine d_cutL (X := Nat × Nat) (fun x => [(1, .pointer (some ⟨b1, 0, none⟩)), (2, .pointer (some ⟨b2, 0, none⟩)), (3, .bool false), (9, .pointer (some ⟨x.1, 0, none⟩)), (10, .pointer (some ⟨x.2, 0, none⟩))]) (fun x => J0) (fun x => [(x.2, .cells [.string (str b.tree.atom), .slice (oaf 2) b.tree.parts.length (cf 2)].toArray 39 (0, 0)), (x.1, .cells [.string (str a.tree.atom), .slice (oaf 1) a.tree.parts.length (cf 1)].toArray 39 (0, 0))]) (fun x => True) ?_ ?_
    ·rintro ⟨b9, b10⟩ -
     simp only [List.cons_append, List.nil_append]
     refine Se rfl ?_
     refine o_lJ rfl .free rfl ?_
     refine o_call rfl .free rfl (f_form_isAtom (hf.as 1 a.tree (by omega) rfl) _) ?_
     rintro _ _ _ _ ⟨rfl, rfl, rfl⟩
     refine Om rfl ?_
     apply o_and 64 67 rfl
     ·intro g15_3 hk
      try simp only [nb] at g15_3
      refine o_lJ rfl (.met rfl rfl) rfl ?_
      refine o_call rfl (.met rfl rfl) rfl (f_form_isAtom (hf.as 2 b.tree (by omega) rfl) _) ?_
      rintro _ _ _ _ ⟨rfl, rfl, rfl⟩
      refine Ot rfl rfl ?_
      exact o_fin 2 rfl rfl hk
     ·intro _ hk
      refine o_skips 2 rfl ?_
      refine Of rfl rfl ?_
      exact o_fin 2 rfl rfl hk
     refine o_done ?_
     refine s_cond rfl ?_ ?_
     ·intro c5
      try simp only [nb] at c5
      have hbb : a.tree.parts.isEmpty = true ∧ b.tree.parts.isEmpty = true := by simpa using c5
      obtain ⟨p, rfl⟩ := bare_val hbb.1 hva
      obtain ⟨q, rfl⟩ := bare_val hbb.2 hvb
      refine s_seq ?_
      refine d_all 10 rfl rfl ?_
      refine Dt 0 [8] rfl (y_lOS rfl) ?_
      first | refine Da 2 rfl (y_fieldAddr rfl) ?_ | refine Da 2 rfl (y_fieldAddr' rfl) ?_
      refine Dt 3 [8] rfl (y_lJ rfl) ?_
      first | refine Da 4 rfl (y_fieldAddr rfl) ?_ | refine Da 4 rfl (y_fieldAddr' rfl) ?_
      refine Dt 5 [8] rfl (y_lJ rfl) ?_
      refine d_call 1 rfl (by kernel_rfl) rfl rfl .free rfl (f_form_head hf.rep _) ?_
      rintro _ _ _ _ ⟨rfl, rfl, rfl⟩
      refine ⟨(.inr heldx), ?_⟩
      refine d_call 6 rfl (by kernel_rfl) rfl rfl .free rfl (f_reckon ht .mul (a := p) (b := q) hok.1 hok.2 _) ?_
      rintro _ _ _ _ ⟨rfl, rfl, rfl⟩
      refine ⟨(.inr heldx), ?_⟩
      refine d_call 7 rfl (by kernel_rfl) rfl rfl .free rfl (f_atom (reck .mul p q) (reck_len _ _ _) _ _) ?_
      rintro _ _ _ _ ⟨rfl, rfl, rfl⟩
      refine ⟨(.inr heldx), ?_⟩
      refine d_st 8 rfl (by kernel_rfl) rfl rfl rfl rfl rfl .free (.inl (by kernel_rfl)) ?_
      refine d_takeA 9 rfl (by kernel_rfl) rfl (.inl (by kernel_rfl)) (y_assign rfl) .free rfl ?_
      refine d_done (by kernel_rfl) ?_
      refine s_ret (.c rfl (.tmp rfl .nil)) ?_
      refine ⟨_, L, hle, drops, .node (reck .mul p q) [], _, by rw [hturn]; rfl, .ofAtom (reck_len _ _ _), fun e' he' => ?_, rfl⟩
      rw [hturn] at he'
      obtain rfl := Option.some.inj he'
      rfl
     intro c5
     try simp only [nb] at c5
     have hno : (Ex.bin .mul a b).turn = none := by
      cases hty : (Ex.bin .mul a b).turn with
      | none => rfl
      | some e' =>
       rcases turn_bin hty with ⟨f, y, s, t, g, ho, rfl, rfl⟩ | ⟨p, q, ho, rfl, rfl, rfl⟩
       ·cases ho
       ·exact absurd c5 (by simp [Ex.tree, Tree.parts])
     refine s_skip (s_inBlock (Se rfl ?_))
     refine o_struct rfl rfl rfl .free rfl ?_
     refine o_st rfl rfl rfl rfl .free ?_
     refine Oa rfl (o_done ?_)
     refine s_ret (.c rfl (.tmp rfl .nil)) ?_
     exact ⟨_, L, hle, drops, SP.none' (by rw [hturn, hno])⟩
    ·intro hkk
     skip
     refine Da 0 rfl (y_fieldAddr rfl) ?_
     refine Dt 1 [10] rfl (y_lO1 rfl) ?_
     first | refine Da 2 rfl (y_ixD rfl rfl 1 rfl) ?_ | refine Da 2 rfl (y_ixP rfl rfl 1 rfl) ?_
     refine Dt 3 [10] rfl (y_lIS rfl) ?_
     refine Da 4 rfl (y_fieldAddr rfl) ?_
     refine d_three 5 8 9 (by kernel_rfl) ?_ ?_ ?_
     ·skip
      refine i_yld 5 rfl rfl (y_lO1 rfl) .free rfl (.inr heldx) ?_
      first | refine Da 6 rfl (y_ixD rfl rfl 2 rfl) ?_ | refine Da 6 rfl (y_ixP rfl rfl 2 rfl) ?_
      refine d_three 7 8 9 (by kernel_rfl) ?_ ?_ ?_
      ·skip
       refine i_yld 7 rfl rfl (y_lIS rfl) .free rfl (.inr heldx) ?_
       refine d_two 8 9 (by kernel_rfl) ?_ ?_
       ·skip
        refine i_alloc 8 rfl rfl .free rfl (.inr heldx) ?_
        intro b9
        refine d_alloc 9 rfl (by kernel_rfl) rfl .free rfl (.inr heldx) ?_
        intro b10
        refine d_st 10 rfl (by kernel_rfl) rfl rfl rfl rfl rfl .free (.inl (by kernel_rfl)) ?_
        refine d_st 11 rfl (by kernel_rfl) rfl rfl rfl rfl rfl .free (.inl (by kernel_rfl)) ?_
        refine d_done (by kernel_rfl) ?_
        exact s_env (E' := [(1, _), (2, _), (3, _), (9, _), (10, _)]) ⟨rfl, rfl, rfl, rfl, rfl, trivial⟩ (s_mem (by first | exact fun _ h => h | exact fun _ h => h.perm2) (hkk ⟨b9, b10⟩ trivial))
       ·skip
        refine i_alloc 9 rfl rfl .free rfl (.inr heldx) ?_
        intro b10
        refine d_alloc 8 rfl (by kernel_rfl) rfl .free rfl (.inr heldx) ?_
        intro b9
        refine d_st 10 rfl (by kernel_rfl) rfl rfl rfl rfl rfl .free (.inl (by kernel_rfl)) ?_
        refine d_st 11 rfl (by kernel_rfl) rfl rfl rfl rfl rfl .free (.inl (by kernel_rfl)) ?_
        refine d_done (by kernel_rfl) ?_
        exact s_env (E' := [(1, _), (2, _), (3, _), (9, _), (10, _)]) ⟨rfl, rfl, rfl, rfl, rfl, trivial⟩ (s_mem (by first | exact fun _ h => h | exact fun _ h => h.perm2) (hkk ⟨b9, b10⟩ trivial))
      ·skip
       refine i_alloc 8 rfl rfl .free rfl (.inr heldx) ?_
       intro b9
       refine d_two 7 9 (by kernel_rfl) ?_ ?_
       ·skip
        refine i_yld 7 rfl rfl (y_lIS rfl) .free rfl (.inr heldx) ?_
        refine d_alloc 9 rfl (by kernel_rfl) rfl .free rfl (.inr heldx) ?_
        intro b10
        refine d_st 10 rfl (by kernel_rfl) rfl rfl rfl rfl rfl .free (.inl (by kernel_rfl)) ?_
        refine d_st 11 rfl (by kernel_rfl) rfl rfl rfl rfl rfl .free (.inl (by kernel_rfl)) ?_
        refine d_done (by kernel_rfl) ?_
        exact s_env (E' := [(1, _), (2, _), (3, _), (9, _), (10, _)]) ⟨rfl, rfl, rfl, rfl, rfl, trivial⟩ (s_mem (by first | exact fun _ h => h | exact fun _ h => h.perm2) (hkk ⟨b9, b10⟩ trivial))
       ·skip
        refine i_alloc 9 rfl rfl .free rfl (.inr heldx) ?_
        intro b10
        refine d_two 7 10 (by kernel_rfl) ?_ ?_
        ·skip
         refine i_yld 7 rfl rfl (y_lIS rfl) .free rfl (.inr heldx) ?_
         refine d_st 10 rfl (by kernel_rfl) rfl rfl rfl rfl rfl .free (.inl (by kernel_rfl)) ?_
         refine d_st 11 rfl (by kernel_rfl) rfl rfl rfl rfl rfl .free (.inl (by kernel_rfl)) ?_
         refine d_done (by kernel_rfl) ?_
         exact s_env (E' := [(1, _), (2, _), (3, _), (9, _), (10, _)]) ⟨rfl, rfl, rfl, rfl, rfl, trivial⟩ (s_mem (by first | exact fun _ h => h | exact fun _ h => h.perm2) (hkk ⟨b9, b10⟩ trivial))
        ·skip
         refine i_st 10 rfl rfl rfl rfl rfl rfl .free (.inl (by kernel_rfl)) ?_
         refine d_yld 7 rfl (by kernel_rfl) rfl (y_lIS rfl) .free rfl (.inl (by kernel_rfl)) ?_
         refine d_st 11 rfl (by kernel_rfl) rfl rfl rfl rfl rfl .free (.inl (by kernel_rfl)) ?_
         refine d_done (by kernel_rfl) ?_
         exact s_env (E' := [(1, _), (2, _), (3, _), (9, _), (10, _)]) ⟨rfl, rfl, rfl, rfl, rfl, trivial⟩ (s_mem (by first | exact fun _ h => h | exact fun _ h => h.perm2) (hkk ⟨b9, b10⟩ trivial))
      ·skip
       refine i_alloc 9 rfl rfl .free rfl (.inr heldx) ?_
       intro b10
       refine d_two 7 8 (by kernel_rfl) ?_ ?_
       ·skip
        refine i_yld 7 rfl rfl (y_lIS rfl) .free rfl (.inr heldx) ?_
        refine d_alloc 8 rfl (by kernel_rfl) rfl .free rfl (.inr heldx) ?_
        intro b9
        refine d_st 10 rfl (by kernel_rfl) rfl rfl rfl rfl rfl .free (.inl (by kernel_rfl)) ?_
        refine d_st 11 rfl (by kernel_rfl) rfl rfl rfl rfl rfl .free (.inl (by kernel_rfl)) ?_
        refine d_done (by kernel_rfl) ?_
        exact s_env (E' := [(1, _), (2, _), (3, _), (9, _), (10, _)]) ⟨rfl, rfl, rfl, rfl, rfl, trivial⟩ (s_mem (by first | exact fun _ h => h | exact fun _ h => h.perm2) (hkk ⟨b9, b10⟩ trivial))
       ·skip
        refine i_alloc 8 rfl rfl .free rfl (.inr heldx) ?_
        intro b9
        refine d_two 7 10 (by kernel_rfl) ?_ ?_
        ·skip
         refine i_yld 7 rfl rfl (y_lIS rfl) .free rfl (.inr heldx) ?_
         refine d_st 10 rfl (by kernel_rfl) rfl rfl rfl rfl rfl .free (.inl (by kernel_rfl)) ?_
         refine d_st 11 rfl (by kernel_rfl) rfl rfl rfl rfl rfl .free (.inl (by kernel_rfl)) ?_
         refine d_done (by kernel_rfl) ?_
         exact s_env (E' := [(1, _), (2, _), (3, _), (9, _), (10, _)]) ⟨rfl, rfl, rfl, rfl, rfl, trivial⟩ (s_mem (by first | exact fun _ h => h | exact fun _ h => h.perm2) (hkk ⟨b9, b10⟩ trivial))
        ·skip
         refine i_st 10 rfl rfl rfl rfl rfl rfl .free (.inl (by kernel_rfl)) ?_
         refine d_yld 7 rfl (by kernel_rfl) rfl (y_lIS rfl) .free rfl (.inl (by kernel_rfl)) ?_
         refine d_st 11 rfl (by kernel_rfl) rfl rfl rfl rfl rfl .free (.inl (by kernel_rfl)) ?_
         refine d_done (by kernel_rfl) ?_
         exact s_env (E' := [(1, _), (2, _), (3, _), (9, _), (10, _)]) ⟨rfl, rfl, rfl, rfl, rfl, trivial⟩ (s_mem (by first | exact fun _ h => h | exact fun _ h => h.perm2) (hkk ⟨b9, b10⟩ trivial))
     ·skip
      refine i_alloc 8 rfl rfl .free rfl (.inr heldx) ?_
      intro b9
      refine d_two 5 9 (by kernel_rfl) ?_ ?_
      ·skip
       refine i_yld 5 rfl rfl (y_lO1 rfl) .free rfl (.inr heldx) ?_
       first | refine Da 6 rfl (y_ixD rfl rfl 2 rfl) ?_ | refine Da 6 rfl (y_ixP rfl rfl 2 rfl) ?_
       refine d_two 7 9 (by kernel_rfl) ?_ ?_
       ·skip
        refine i_yld 7 rfl rfl (y_lIS rfl) .free rfl (.inr heldx) ?_
        refine d_alloc 9 rfl (by kernel_rfl) rfl .free rfl (.inr heldx) ?_
        intro b10
        refine d_st 10 rfl (by kernel_rfl) rfl rfl rfl rfl rfl .free (.inl (by kernel_rfl)) ?_
        refine d_st 11 rfl (by kernel_rfl) rfl rfl rfl rfl rfl .free (.inl (by kernel_rfl)) ?_
        refine d_done (by kernel_rfl) ?_
        exact s_env (E' := [(1, _), (2, _), (3, _), (9, _), (10, _)]) ⟨rfl, rfl, rfl, rfl, rfl, trivial⟩ (s_mem (by first | exact fun _ h => h | exact fun _ h => h.perm2) (hkk ⟨b9, b10⟩ trivial))
       ·skip
        refine i_alloc 9 rfl rfl .free rfl (.inr heldx) ?_
        intro b10
        refine d_two 7 10 (by kernel_rfl) ?_ ?_
        ·skip
         refine i_yld 7 rfl rfl (y_lIS rfl) .free rfl (.inr heldx) ?_
         refine d_st 10 rfl (by kernel_rfl) rfl rfl rfl rfl rfl .free (.inl (by kernel_rfl)) ?_
         refine d_st 11 rfl (by kernel_rfl) rfl rfl rfl rfl rfl .free (.inl (by kernel_rfl)) ?_
         refine d_done (by kernel_rfl) ?_
         exact s_env (E' := [(1, _), (2, _), (3, _), (9, _), (10, _)]) ⟨rfl, rfl, rfl, rfl, rfl, trivial⟩ (s_mem (by first | exact fun _ h => h | exact fun _ h => h.perm2) (hkk ⟨b9, b10⟩ trivial))
        ·skip
         refine i_st 10 rfl rfl rfl rfl rfl rfl .free (.inl (by kernel_rfl)) ?_
         refine d_yld 7 rfl (by kernel_rfl) rfl (y_lIS rfl) .free rfl (.inl (by kernel_rfl)) ?_
         refine d_st 11 rfl (by kernel_rfl) rfl rfl rfl rfl rfl .free (.inl (by kernel_rfl)) ?_
         refine d_done (by kernel_rfl) ?_
         exact s_env (E' := [(1, _), (2, _), (3, _), (9, _), (10, _)]) ⟨rfl, rfl, rfl, rfl, rfl, trivial⟩ (s_mem (by first | exact fun _ h => h | exact fun _ h => h.perm2) (hkk ⟨b9, b10⟩ trivial))
      ·skip
       refine i_alloc 9 rfl rfl .free rfl (.inr heldx) ?_
       intro b10
       refine d_two 5 10 (by kernel_rfl) ?_ ?_
       ·skip
        refine i_yld 5 rfl rfl (y_lO1 rfl) .free rfl (.inr heldx) ?_
        first | refine Da 6 rfl (y_ixD rfl rfl 2 rfl) ?_ | refine Da 6 rfl (y_ixP rfl rfl 2 rfl) ?_
        refine d_two 7 10 (by kernel_rfl) ?_ ?_
        ·skip
         refine i_yld 7 rfl rfl (y_lIS rfl) .free rfl (.inr heldx) ?_
         refine d_st 10 rfl (by kernel_rfl) rfl rfl rfl rfl rfl .free (.inl (by kernel_rfl)) ?_
         refine d_st 11 rfl (by kernel_rfl) rfl rfl rfl rfl rfl .free (.inl (by kernel_rfl)) ?_
         refine d_done (by kernel_rfl) ?_
         exact s_env (E' := [(1, _), (2, _), (3, _), (9, _), (10, _)]) ⟨rfl, rfl, rfl, rfl, rfl, trivial⟩ (s_mem (by first | exact fun _ h => h | exact fun _ h => h.perm2) (hkk ⟨b9, b10⟩ trivial))
        ·skip
         refine i_st 10 rfl rfl rfl rfl rfl rfl .free (.inl (by kernel_rfl)) ?_
         refine d_yld 7 rfl (by kernel_rfl) rfl (y_lIS rfl) .free rfl (.inl (by kernel_rfl)) ?_
         refine d_st 11 rfl (by kernel_rfl) rfl rfl rfl rfl rfl .free (.inl (by kernel_rfl)) ?_
         refine d_done (by kernel_rfl) ?_
         exact s_env (E' := [(1, _), (2, _), (3, _), (9, _), (10, _)]) ⟨rfl, rfl, rfl, rfl, rfl, trivial⟩ (s_mem (by first | exact fun _ h => h | exact fun _ h => h.perm2) (hkk ⟨b9, b10⟩ trivial))
       ·skip
        refine i_st 10 rfl rfl rfl rfl rfl rfl .free (.inl (by kernel_rfl)) ?_
        refine d_yld 5 rfl (by kernel_rfl) rfl (y_lO1 rfl) .free rfl (.inl (by kernel_rfl)) ?_
        first | refine d_takeA 6 rfl (by kernel_rfl) rfl (.inl (by kernel_rfl)) (y_ixD rfl rfl 2 rfl) .free rfl ?_ | refine d_takeA 6 rfl (by kernel_rfl) rfl (.inl (by kernel_rfl)) (y_ixP rfl rfl 2 rfl) .free rfl ?_
        refine d_yld 7 rfl (by kernel_rfl) rfl (y_lIS rfl) .free rfl (.inl (by kernel_rfl)) ?_
        refine d_st 11 rfl (by kernel_rfl) rfl rfl rfl rfl rfl .free (.inl (by kernel_rfl)) ?_
        refine d_done (by kernel_rfl) ?_
        exact s_env (E' := [(1, _), (2, _), (3, _), (9, _), (10, _)]) ⟨rfl, rfl, rfl, rfl, rfl, trivial⟩ (s_mem (by first | exact fun _ h => h | exact fun _ h => h.perm2) (hkk ⟨b9, b10⟩ trivial))
     ·skip
      refine i_alloc 9 rfl rfl .free rfl (.inr heldx) ?_
      intro b10
      refine d_two 5 8 (by kernel_rfl) ?_ ?_
      ·skip
       refine i_yld 5 rfl rfl (y_lO1 rfl) .free rfl (.inr heldx) ?_
       first | refine Da 6 rfl (y_ixD rfl rfl 2 rfl) ?_ | refine Da 6 rfl (y_ixP rfl rfl 2 rfl) ?_
       refine d_two 7 8 (by kernel_rfl) ?_ ?_
       ·skip
        refine i_yld 7 rfl rfl (y_lIS rfl) .free rfl (.inr heldx) ?_
        refine d_alloc 8 rfl (by kernel_rfl) rfl .free rfl (.inr heldx) ?_
        intro b9
        refine d_st 10 rfl (by kernel_rfl) rfl rfl rfl rfl rfl .free (.inl (by kernel_rfl)) ?_
        refine d_st 11 rfl (by kernel_rfl) rfl rfl rfl rfl rfl .free (.inl (by kernel_rfl)) ?_
        refine d_done (by kernel_rfl) ?_
        exact s_env (E' := [(1, _), (2, _), (3, _), (9, _), (10, _)]) ⟨rfl, rfl, rfl, rfl, rfl, trivial⟩ (s_mem (by first | exact fun _ h => h | exact fun _ h => h.perm2) (hkk ⟨b9, b10⟩ trivial))
       ·skip
        refine i_alloc 8 rfl rfl .free rfl (.inr heldx) ?_
        intro b9
        refine d_two 7 10 (by kernel_rfl) ?_ ?_
        ·skip
         refine i_yld 7 rfl rfl (y_lIS rfl) .free rfl (.inr heldx) ?_
         refine d_st 10 rfl (by kernel_rfl) rfl rfl rfl rfl rfl .free (.inl (by kernel_rfl)) ?_
         refine d_st 11 rfl (by kernel_rfl) rfl rfl rfl rfl rfl .free (.inl (by kernel_rfl)) ?_
         refine d_done (by kernel_rfl) ?_
         exact s_env (E' := [(1, _), (2, _), (3, _), (9, _), (10, _)]) ⟨rfl, rfl, rfl, rfl, rfl, trivial⟩ (s_mem (by first | exact fun _ h => h | exact fun _ h => h.perm2) (hkk ⟨b9, b10⟩ trivial))
        ·skip
         refine i_st 10 rfl rfl rfl rfl rfl rfl .free (.inl (by kernel_rfl)) ?_
         refine d_yld 7 rfl (by kernel_rfl) rfl (y_lIS rfl) .free rfl (.inl (by kernel_rfl)) ?_
         refine d_st 11 rfl (by kernel_rfl) rfl rfl rfl rfl rfl .free (.inl (by kernel_rfl)) ?_
         refine d_done (by kernel_rfl) ?_
         exact s_env (E' := [(1, _), (2, _), (3, _), (9, _), (10, _)]) ⟨rfl, rfl, rfl, rfl, rfl, trivial⟩ (s_mem (by first | exact fun _ h => h | exact fun _ h => h.perm2) (hkk ⟨b9, b10⟩ trivial))
      ·skip
       refine i_alloc 8 rfl rfl .free rfl (.inr heldx) ?_
       intro b9
       refine d_two 5 10 (by kernel_rfl) ?_ ?_
       ·skip
        refine i_yld 5 rfl rfl (y_lO1 rfl) .free rfl (.inr heldx) ?_
        first | refine Da 6 rfl (y_ixD rfl rfl 2 rfl) ?_ | refine Da 6 rfl (y_ixP rfl rfl 2 rfl) ?_
        refine d_two 7 10 (by kernel_rfl) ?_ ?_
        ·skip
         refine i_yld 7 rfl rfl (y_lIS rfl) .free rfl (.inr heldx) ?_
         refine d_st 10 rfl (by kernel_rfl) rfl rfl rfl rfl rfl .free (.inl (by kernel_rfl)) ?_
         refine d_st 11 rfl (by kernel_rfl) rfl rfl rfl rfl rfl .free (.inl (by kernel_rfl)) ?_
         refine d_done (by kernel_rfl) ?_
         exact s_env (E' := [(1, _), (2, _), (3, _), (9, _), (10, _)]) ⟨rfl, rfl, rfl, rfl, rfl, trivial⟩ (s_mem (by first | exact fun _ h => h | exact fun _ h => h.perm2) (hkk ⟨b9, b10⟩ trivial))
        ·skip
         refine i_st 10 rfl rfl rfl rfl rfl rfl .free (.inl (by kernel_rfl)) ?_
         refine d_yld 7 rfl (by kernel_rfl) rfl (y_lIS rfl) .free rfl (.inl (by kernel_rfl)) ?_
         refine d_st 11 rfl (by kernel_rfl) rfl rfl rfl rfl rfl .free (.inl (by kernel_rfl)) ?_
         refine d_done (by kernel_rfl) ?_
         exact s_env (E' := [(1, _), (2, _), (3, _), (9, _), (10, _)]) ⟨rfl, rfl, rfl, rfl, rfl, trivial⟩ (s_mem (by first | exact fun _ h => h | exact fun _ h => h.perm2) (hkk ⟨b9, b10⟩ trivial))
       ·skip
        refine i_st 10 rfl rfl rfl rfl rfl rfl .free (.inl (by kernel_rfl)) ?_
        refine d_yld 5 rfl (by kernel_rfl) rfl (y_lO1 rfl) .free rfl (.inl (by kernel_rfl)) ?_
        first | refine d_takeA 6 rfl (by kernel_rfl) rfl (.inl (by kernel_rfl)) (y_ixD rfl rfl 2 rfl) .free rfl ?_ | refine d_takeA 6 rfl (by kernel_rfl) rfl (.inl (by kernel_rfl)) (y_ixP rfl rfl 2 rfl) .free rfl ?_
        refine d_yld 7 rfl (by kernel_rfl) rfl (y_lIS rfl) .free rfl (.inl (by kernel_rfl)) ?_
        refine d_st 11 rfl (by kernel_rfl) rfl rfl rfl rfl rfl .free (.inl (by kernel_rfl)) ?_
        refine d_done (by kernel_rfl) ?_
        exact s_env (E' := [(1, _), (2, _), (3, _), (9, _), (10, _)]) ⟨rfl, rfl, rfl, rfl, rfl, trivial⟩ (s_mem (by first | exact fun _ h => h | exact fun _ h => h.perm2) (hkk ⟨b9, b10⟩ trivial))
   ·skip
    refine o_enter rfl ?_
    refine o_lOS rfl .free rfl ?_
    refine o_call rfl .free rfl (f_form_head hf.rep _) ?_
    rintro _ _ _ _ ⟨rfl, rfl, rfl⟩
    rw [show (Ex.bin .call a b).tree.head = [99, 97, 108, 108] from rfl]
    have hturn : (Ex.bin .call a b).step = (Ex.bin .call a b).turn := by simp only [Ex.step, hva, hvb, Bool.true_eq_false, if_false]
    refine o_done (s_block (s_seq (Se rfl (Od rfl rfl rfl (Oa rfl (o_done ?_))))))
    first | refine s_fp rfl (by decide) ?_ | refine s_fn rfl (by decide) ?_ | refine s_false (by simp [look, opd, *]) ?_
    refine Se rfl (Od rfl rfl rfl (Oa rfl (o_done ?_)))
    first | refine s_fp rfl (by decide) ?_ | refine s_fn rfl (by decide) ?_ | refine s_false (by simp [look, opd, *]) ?_
    refine o_enter rfl (Od rfl rfl rfl (Oa rfl (o_done ?_)))
    first | refine s_fp rfl (by decide) ?_ | refine s_fn rfl (by decide) ?_ | refine s_false (by simp [look, opd, *]) ?_
    refine Se rfl (Od rfl rfl rfl (Oa rfl (o_done ?_)))
    first | refine s_fp rfl (by decide) ?_ | refine s_fn rfl (by decide) ?_ | refine s_false (by simp [look, opd, *]) ?_
    refine Se rfl (Od rfl rfl rfl (Oa rfl (o_done ?_)))
    first | refine s_fp rfl (by decide) ?_ | refine s_fn rfl (by decide) ?_ | refine s_false (by simp [look, opd, *]) ?_
    refine Se rfl (Od rfl rfl rfl (Oa rfl (o_done ?_)))
    first | refine s_tp rfl (rfl) ?_ | refine s_tn rfl (rfl) ?_ | refine s_true (by simp [look, opd, *]) ?_
    refine Se rfl (Oh rfl ?_)
    refine o_lO1 rfl .free rfl ?_
    first | refine o_ixD rfl rfl 1 rfl .free rfl ?_ | refine o_ixP rfl rfl 1 rfl .free rfl ?_
    refine o_lIS rfl .free rfl ?_
    refine o_alloc .free rfl ?_
    intro b12
    refine o_st rfl rfl rfl rfl .free ?_
    refine o_done (Se rfl ?_)
    refine o_lOS rfl .free rfl ?_
    refine o_call rfl .free rfl (f_form_head (hf.as 1 a.tree (by omega) rfl) _) ?_
    rintro _ _ _ _ ⟨rfl, rfl, rfl⟩
    refine Od rfl rfl rfl (o_done ?_)
    refine s_cond rfl ?_ ?_
    ·intro c11
     try simp only [nb] at c11
     obtain ⟨f, y, s, t, g, rfl⟩ := Ex.of_fun (show a.tree.head = tFun from c11)
     have hra := hf.as 1 (Ex.fn f y s t g).tree (by omega) rfl
     obtain ⟨oa2, c2, oaf2, cf2, he2, hf2⟩ := hra.at'
     simp only [List.cons.injEq, Value.slice.injEq, and_true, true_and] at he2
     obtain ⟨rfl, rfl⟩ := he2
     obtain ⟨xa2, hxa2⟩ : ∃ x, oaf 1 = some x := ⟨_, some_oad hf2.nil (show 0 < 6 by decide)⟩
     have hok2 := hok.1
     simp only [Ex.ok, Bool.and_eq_true, decide_eq_true_eq] at hok2
     have hl2 : (Ex.fn f y s t g).tree.parts.length = 6 := rfl
     refine s_seq ?_
     refine d_all 23 rfl rfl ?_
     refine Da 0 rfl (y_fieldAddr rfl) ?_
     refine Dt 1 [21] rfl (y_lO1 rfl) ?_
     first | refine Da 2 rfl (y_ixD rfl rfl 5 rfl) ?_ | refine Da 2 rfl (y_ixP rfl rfl 5 rfl) ?_
     refine Dt 3 [21] rfl (y_lIS rfl) ?_
     refine Da 4 rfl (y_fieldAddr rfl) ?_
     refine Dt 5 [21] rfl (y_lO1 rfl) ?_
     first | refine Da 6 rfl (y_ixD rfl rfl 1 rfl) ?_ | refine Da 6 rfl (y_ixP rfl rfl 1 rfl) ?_
     refine Da 7 rfl (y_fieldAddr' rfl) ?_
     refine Dt 8 [21] rfl (y_lIF rfl) ?_
     refine Dt 9 [21] rfl (y_lOS rfl) ?_
     refine Da 11 rfl (y_fieldAddr rfl) ?_
     refine Dt 12 [21] rfl (y_lO1 rfl) ?_
     first | refine Da 13 rfl (y_ixD rfl rfl 2 rfl) ?_ | refine Da 13 rfl (y_ixP rfl rfl 2 rfl) ?_
     refine Da 14 rfl (y_fieldAddr' rfl) ?_
     refine Dt 15 [21] rfl (y_lIF rfl) ?_
     refine Da 16 rfl (y_fieldAddr rfl) ?_
     refine Dt 17 [21] rfl (y_lO1 rfl) ?_
     first | refine Da 18 rfl (y_ixD rfl rfl 2 rfl) ?_ | refine Da 18 rfl (y_ixP rfl rfl 2 rfl) ?_
     refine Dt 19 [21] rfl (y_lIS rfl) ?_
     refine d_call 10 rfl (by kernel_rfl) rfl rfl .free rfl (f_form_put _ (Nat.lt_succ_self _) (hf2.as 5 g.tree (by omega) rfl) hok2.2 f hok2.1.1.1.1.1 hra _) ?_
     rintro _ J2 _ e2 ⟨cs2, rfl, hr2, rfl⟩
     obtain ⟨o2, k2, _, rfl, -⟩ := hr2.open
     have hf := hf.mono e2
     have hf2 := hf2.mono e2
     have hle := hle.trans e2
     refine ⟨(.inr heldx), ?_⟩
     refine d_call 20 rfl (by kernel_rfl) rfl rfl .free rfl (f_form_put _ (Nat.lt_succ_self _) hr2 (Ex.put_ok hok2.2 hok.1) y hok2.1.1.1.1.2 (hf.as 2 b.tree (by omega) rfl) _) ?_
     rintro _ J3 _ e3 ⟨cs3, rfl, hr3, rfl⟩
     obtain ⟨o3, k3, _, rfl, -⟩ := hr3.open
     have hle := hle.trans e3
     have e23 := e2.trans e3
     refine ⟨(.inr heldx), ?_⟩
     refine d_st 21 rfl (by kernel_rfl) rfl rfl rfl rfl rfl .free (.inl (by kernel_rfl)) ?_
     refine d_takeA 22 rfl (by kernel_rfl) rfl (.inl (by kernel_rfl)) (y_assign rfl) .free rfl ?_
     refine d_done (by kernel_rfl) ?_
     refine s_ret (.c rfl (.tmp rfl .nil)) ?_
     refine ⟨_, L, hle, drops, ((g.put f (.fn f y s t g)).put y b).tree, _, by rw [hturn]; rfl, hr3, fun e' he' => ?_, rfl⟩
     rw [hturn] at he'
     obtain rfl := Option.some.inj he'
     rfl
    intro c11
    try simp only [nb] at c11
    have hno : (Ex.bin .call a b).turn = none := by
     cases hty : (Ex.bin .call a b).turn with
     | none => rfl
     | some e' =>
      rcases turn_bin hty with ⟨f, y, s, t, g, ho, rfl, rfl⟩ | ⟨p, q, ho, rfl, rfl, rfl⟩
      ·exact absurd rfl c11
      ·cases ho
    refine s_skip (s_inBlock (Se rfl ?_))
    refine o_struct rfl rfl rfl .free rfl ?_
    refine o_st rfl rfl rfl rfl .free ?_
    refine Oa rfl (o_done ?_)
    refine s_ret (.c rfl (.tmp rfl .nil)) ?_
    exact ⟨_, L, hle, drops, SP.none' (by rw [hturn, hno])⟩
   ·skip
    refine o_enter rfl ?_
    refine o_lOS rfl .free rfl ?_
    refine o_call rfl .free rfl (f_form_head hf.rep _) ?_
    rintro _ _ _ _ ⟨rfl, rfl, rfl⟩
    rw [show (Ex.bin .pair a b).tree.head = [112, 97, 105, 114] from rfl]
    have hturn : (Ex.bin .pair a b).step = (Ex.bin .pair a b).turn := by simp only [Ex.step, hva, hvb, Bool.true_eq_false, if_false]
    refine o_done (s_block (s_seq (Se rfl (Od rfl rfl rfl (Oa rfl (o_done ?_))))))
    first | refine s_fp rfl (by decide) ?_ | refine s_fn rfl (by decide) ?_ | refine s_false (by simp [look, opd, *]) ?_
    refine Se rfl (Od rfl rfl rfl (Oa rfl (o_done ?_)))
    first | refine s_fp rfl (by decide) ?_ | refine s_fn rfl (by decide) ?_ | refine s_false (by simp [look, opd, *]) ?_
    refine o_enter rfl (Od rfl rfl rfl (Oa rfl (o_done ?_)))
    first | refine s_fp rfl (by decide) ?_ | refine s_fn rfl (by decide) ?_ | refine s_false (by simp [look, opd, *]) ?_
    refine Se rfl (Od rfl rfl rfl (Oa rfl (o_done ?_)))
    first | refine s_fp rfl (by decide) ?_ | refine s_fn rfl (by decide) ?_ | refine s_false (by simp [look, opd, *]) ?_
    refine Se rfl (Od rfl rfl rfl (Oa rfl (o_done ?_)))
    first | refine s_fp rfl (by decide) ?_ | refine s_fn rfl (by decide) ?_ | refine s_false (by simp [look, opd, *]) ?_
    refine Se rfl (Od rfl rfl rfl (Oa rfl (o_done ?_)))
    first | refine s_fp rfl (by decide) ?_ | refine s_fn rfl (by decide) ?_ | refine s_false (by simp [look, opd, *]) ?_
    refine s_seq (Se rfl (Od rfl rfl rfl (Oa rfl (o_done ?_))))
    first | refine s_fp rfl (by decide) ?_ | refine s_fn rfl (by decide) ?_ | refine s_false (by simp [look, opd, *]) ?_
    refine o_enter rfl (Od rfl rfl rfl (Oa rfl (o_done ?_)))
    first | refine s_fp rfl (by decide) ?_ | refine s_fn rfl (by decide) ?_ | refine s_false (by simp [look, opd, *]) ?_
    refine s_skip (s_inBlock (s_seq ?_))
    have hno : (Ex.bin .pair a b).turn = none := by
     first
      | rfl
      | (cases a <;> first | rfl | (cases b <;> rfl))
    refine o_enter rfl ?_
    refine o_struct rfl rfl rfl .free rfl ?_
    refine o_st rfl rfl rfl rfl .free ?_
    refine Oa rfl (o_done ?_)
    refine s_ret (.c rfl (.tmp rfl .nil)) ?_
    exact ⟨_, L, hle, drops, SP.none' (by rw [hturn, hno])⟩
  intro c1
  try simp only [nb] at c1
  have hvb : b.value = false := by simpa using c1
  have hst : (Ex.bin o a b).step = b.step.map fun q => .bin o a q := by simp only [Ex.step, hva, Bool.true_eq_false, if_false, hvb, if_true]
  refine s_skip (Se rfl (Oh rfl ?_))
  refine o_lO1 rfl .free rfl ?_
  refine Om rfl ?_
  first | refine o_ixD rfl rfl _ rfl .free rfl ?_ | refine o_ixP rfl rfl _ rfl .free rfl ?_
  refine o_lIS rfl .free rfl ?_
  refine o_call rfl .free rfl (ihn ht (by omega) (hf.as 2 b.tree (by omega) rfl) hok.2 _) ?_
  rintro _ J1 _ e1 ⟨t1, cs1, rfl, hr, hte, rfl⟩
  obtain ⟨o1, k1, _, rfl, -⟩ := hr.open
  have hf := hf.mono e1
  have hle := hle.trans e1
  have hk := hk.mono e1
  refine Om rfl (Oe rfl rfl (Oe rfl rfl ?_))
  refine o_alloc .free rfl ?_
  intro b6
  refine o_st rfl rfl rfl rfl .free ?_
  refine Oa rfl (o_done (Se rfl (Oh rfl ?_)))
  refine o_lO1 rfl .free rfl ?_
  refine o_call rfl .free rfl (f_slices_Clone ((hcs _ rfl).mono hle) (by have := hcl.length; omega) hcl.plain hpos hp _) ?_
  rintro _ _ _ _ ⟨bc, sp, cc, rfl, hcc, rfl, rfl⟩
  simp only [show (Ex.bin o a b).tree.parts = [.node o.txt [], a.tree, b.tree] from rfl, cellsF, List.cons_append, List.nil_append]
  refine o_struct rfl rfl rfl .free rfl ?_
  refine o_alloc .free rfl ?_
  intro b8
  refine o_st rfl rfl rfl rfl .free ?_
  refine o_done (Se rfl (Oh rfl ?_))
  refine o_lO1 rfl .free rfl ?_
  refine Om rfl ?_
  refine o_lOS rfl .free rfl ?_
  first | refine o_ixD rfl rfl _ rfl .free rfl ?_ | refine o_ixP rfl rfl _ rfl .free rfl ?_
  refine o_st rfl rfl rfl rfl .free ?_
  refine o_done (Se rfl ?_)
  refine o_lOS rfl .free rfl ?_
  refine Om rfl ?_
  refine o_st rfl rfl rfl rfl .free ?_
  refine Oa rfl (o_done ?_)
  refine s_mem (fun w h => h.f1) (s_freeze ?_)
  intro hz
  have hf := hf.mono hz
  refine s_ret (.c rfl (.tmp rfl .nil)) ?_
  refine ⟨_, L, hle.trans hz, drops, .node [] [.node o.txt [], a.tree, t1], [.string (str []), .slice (some ⟨bc, 0, none⟩) (Ex.bin o a b).tree.parts.length cc], ?_, .mk' rfl (.cons (hf.as 0 (.node o.txt []) (by omega) rfl) (.cons (hf.as 1 (a.tree) (by omega) rfl) (.cons (hr.mono hz) (.nil)))) (fun y hy => by cases hy; exact still_set (xs := [_, _, _, _, _, _])) (by simp) hcc (by simp [maxN]) hp, ?_, rfl⟩
  ·rw [step_none_map hst]; rfl
  ·intro e' he'
   rw [hst] at he'
   obtain ⟨q, hq, rfl⟩ := Option.map_eq_some_iff.1 he'
   rw [hte q hq]; rfl
 intro c1
 try simp only [nb] at c1
 have hva : a.value = false := by simpa using c1
 have hst : (Ex.bin o a b).step = a.step.map fun q => .bin o q b := by simp only [Ex.step, hva, if_true]
 refine s_skip (Se rfl (Oh rfl ?_))
 refine o_lO1 rfl .free rfl ?_
 refine Om rfl ?_
 first | refine o_ixD rfl rfl _ rfl .free rfl ?_ | refine o_ixP rfl rfl _ rfl .free rfl ?_
 refine o_lIS rfl .free rfl ?_
 refine o_call rfl .free rfl (ihn ht (by omega) (hf.as 1 a.tree (by omega) rfl) hok.1 _) ?_
 rintro _ J1 _ e1 ⟨t1, cs1, rfl, hr, hte, rfl⟩
 obtain ⟨o1, k1, _, rfl, -⟩ := hr.open
 have hf := hf.mono e1
 have hle := hle.trans e1
 have hk := hk.mono e1
 refine Om rfl (Oe rfl rfl (Oe rfl rfl ?_))
 refine o_alloc .free rfl ?_
 intro b6
 refine o_st rfl rfl rfl rfl .free ?_
 refine Oa rfl (o_done (Se rfl (Oh rfl ?_)))
 refine o_lO1 rfl .free rfl ?_
 refine o_call rfl .free rfl (f_slices_Clone ((hcs _ rfl).mono hle) (by have := hcl.length; omega) hcl.plain hpos hp _) ?_
 rintro _ _ _ _ ⟨bc, sp, cc, rfl, hcc, rfl, rfl⟩
 simp only [show (Ex.bin o a b).tree.parts = [.node o.txt [], a.tree, b.tree] from rfl, cellsF, List.cons_append, List.nil_append]
 refine o_struct rfl rfl rfl .free rfl ?_
 refine o_alloc .free rfl ?_
 intro b8
 refine o_st rfl rfl rfl rfl .free ?_
 refine o_done (Se rfl (Oh rfl ?_))
 refine o_lO1 rfl .free rfl ?_
 refine Om rfl ?_
 refine o_lOS rfl .free rfl ?_
 first | refine o_ixD rfl rfl _ rfl .free rfl ?_ | refine o_ixP rfl rfl _ rfl .free rfl ?_
 refine o_st rfl rfl rfl rfl .free ?_
 refine o_done (Se rfl ?_)
 refine o_lOS rfl .free rfl ?_
 refine Om rfl ?_
 refine o_st rfl rfl rfl rfl .free ?_
 refine Oa rfl (o_done ?_)
 refine s_mem (fun w h => h.f1) (s_freeze ?_)
 intro hz
 have hf := hf.mono hz
 refine s_ret (.c rfl (.tmp rfl .nil)) ?_
 refine ⟨_, L, hle.trans hz, drops, .node [] [.node o.txt [], t1, b.tree], [.string (str []), .slice (some ⟨bc, 0, none⟩) (Ex.bin o a b).tree.parts.length cc], ?_, .mk' rfl (.cons (hf.as 0 (.node o.txt []) (by omega) rfl) (.cons (hr.mono hz) (.cons (hf.as 2 (b.tree) (by omega) rfl) (.nil)))) (fun y hy => by cases hy; exact still_set (xs := [_, _, _, _, _, _])) (by simp) hcc (by simp [maxN]) hp, ?_, rfl⟩
 ·rw [step_none_map hst]; rfl
 ·intro e' he'
  rw [hst] at he'
  obtain ⟨q, hq, rfl⟩ := Option.map_eq_some_iff.1 he'
  rw [hte q hq]; rfl
set_option maxHeartbeats 1000000 in
theorem fstep_ite {N : Nat} (ihn : StepH N) {a b d : Ex} {I : Heap} (ht : Tab I) {cs : List Value} (hlt : SizeOf.sizeOf (Ex.ite a b d) < N + 1) (h : Rep I (Ex.ite a b d).tree cs) (hok : (Ex.ite a b d).ok = true) (L : Own) :
  Fun Tryz.prog 44 [.agg cs.toArray] I L (SP (Ex.ite a b d).step L) := by
 obtain ⟨oa, c, oaf, cf, rfl, hf, hcl, hcs⟩ := h.cells
 have hpos : 0 < (Ex.ite a b d).tree.parts.length := by show 0 < 4; decide
 obtain ⟨xa, rfl⟩ : ∃ xa, oa = some xa := ⟨_, some_oad hf.nil hpos⟩
 have hlen : (Ex.ite a b d).tree.parts.length = 4 := rfl
 have hp := hf.len
 have hev : evT (Ex.ite a b d).tree = [1] := rfl
 simp only [Ex.ite.sizeOf_spec] at hlt
 have hok0 := hok
 simp only [Ex.ok, Bool.and_eq_true, decide_eq_true_eq] at hok
 obtain ⟨_, hrl⟩ : ∃ _ : True, RepL I (Ex.ite a b d).tree.parts _ := ⟨trivial, hcl⟩
 simp only [show (Ex.ite a b d).tree.parts = [.node tIf [], a.tree, b.tree, d.tree] from rfl, cellsF, List.cons_append, List.nil_append] at hrl
 refine fun_intro (by simp) ?_
 refine Se rfl ?_
 refine o_box rfl rfl .free rfl ?_
 intro b1
 refine o_alloc .free rfl ?_
 intro b2
 refine Oa rfl (o_done (s_seq (Se rfl ?_)))
 refine o_lOS rfl .free rfl ?_
 refine o_call rfl .free rfl (f_form_evaluated hf.rep _) ?_
 rintro _ J0 _ e0 ⟨ok, ck, rfl, hk, rfl⟩
 have hf := hf.mono e0
 have ht := ht.mono e0
 have hle := e0
 rw [hev] at hk
 rw [hev]
 refine On rfl (Om rfl (o_done (s_block ?_)))
 refine s_loop ?_
 refine Se rfl (Oc rfl rfl rfl (o_done (s_seq ?_)))
 refine s_condT rfl (by first | rfl | decide | (simp; done) | omega) ?_
 refine s_skip (s_seq (s_block (Se rfl ?_)))
 first | refine o_ixD rfl rfl _ rfl .free rfl ?_ | refine o_ixP rfl rfl _ rfl .free rfl ?_
 refine o_lI1 rfl .free rfl ?_
 refine Oa rfl (o_done (s_seq (Se rfl (Oh rfl ?_))))
 refine o_lO1 rfl .free rfl ?_
 refine Om rfl ?_
 first | refine o_ixD rfl rfl _ rfl .free rfl ?_ | refine o_ixP rfl rfl _ rfl .free rfl ?_
 refine o_lIS rfl .free rfl ?_
 refine o_call rfl .free rfl (f_form_isValue _ (Nat.lt_succ_self _) (hf.as 1 a.tree (by omega) rfl) hok.1.1 _) ?_
 rintro _ _ _ _ ⟨rfl, rfl, rfl⟩
 refine o_done ?_
 refine s_cond rfl ?_ ?_
 ·intro c1
  try simp only [nb] at c1
  have hva : a.value = true := c1
  refine s_exit rfl ?_
  refine o_enter rfl ?_
  refine Or rfl rfl rfl ?_
  refine Om rfl (o_done ?_)
  refine s_round ?_
  refine Se rfl (Oc rfl rfl rfl (o_done (s_seq ?_)))
  refine s_condF rfl (by first | rfl | decide | (simp; done) | omega) ?_
  refine s_exit rfl ?_
  refine s_seq (Se rfl ?_)
  refine o_lOS rfl .free rfl ?_
  refine o_call rfl .free rfl (f_form_head hf.rep _) ?_
  rintro _ _ _ _ ⟨rfl, rfl, rfl⟩
  rw [show (Ex.ite a b d).tree.head = [105, 102] from rfl]
  have hturn : (Ex.ite a b d).step = (Ex.ite a b d).turn := by simp only [Ex.step, hva, Bool.true_eq_false, if_false]
  refine o_done (s_block (s_seq (Se rfl (Od rfl rfl rfl (Oa rfl (o_done ?_))))))
  first | refine s_fp rfl (by decide) ?_ | refine s_fn rfl (by decide) ?_ | refine s_false (by simp [look, opd, *]) ?_
  refine Se rfl (Od rfl rfl rfl (Oa rfl (o_done ?_)))
  first | refine s_fp rfl (by decide) ?_ | refine s_fn rfl (by decide) ?_ | refine s_false (by simp [look, opd, *]) ?_
  refine o_enter rfl (Od rfl rfl rfl (Oa rfl (o_done ?_)))
  first | refine s_fp rfl (by decide) ?_ | refine s_fn rfl (by decide) ?_ | refine s_false (by simp [look, opd, *]) ?_
  refine Se rfl (Od rfl rfl rfl (Oa rfl (o_done ?_)))
  first | refine s_tp rfl (rfl) ?_ | refine s_tn rfl (rfl) ?_ | refine s_true (by simp [look, opd, *]) ?_
  refine Se rfl (Oh rfl ?_)
  refine o_lO1 rfl .free rfl ?_
  first | refine o_ixD rfl rfl 1 rfl .free rfl ?_ | refine o_ixP rfl rfl 1 rfl .free rfl ?_
  refine o_lIS rfl .free rfl ?_
  refine o_alloc .free rfl ?_
  intro b11
  refine o_st rfl rfl rfl rfl .free ?_
  refine o_done (s_block (Se rfl ?_))
  refine o_lOS rfl .free rfl ?_
  refine o_call rfl .free rfl (f_form_isAtom (hf.as 1 a.tree (by omega) rfl) _) ?_
  rintro _ _ _ _ ⟨rfl, rfl, rfl⟩
  refine o_not rfl .free rfl ?_
  refine Oa rfl (o_done ?_)
  refine s_cond rfl ?_ ?_
  ·intro c7
   try simp only [nb] at c7
   have hno : (Ex.ite a b d).turn = none := by
    cases hty : (Ex.ite a b d).turn with
    | none => rfl
    | some e' =>
     obtain ⟨p, rfl, rfl⟩ := turn_ite hty
     exact absurd c7 (by simp [Ex.tree, Tree.parts])
   refine s_skip (s_inBlock (s_inBlock (Se rfl ?_)))
   refine o_struct rfl rfl rfl .free rfl ?_
   refine o_st rfl rfl rfl rfl .free ?_
   refine Oa rfl (o_done ?_)
   refine s_ret (.c rfl (.tmp rfl .nil)) ?_
   exact ⟨_, L, hle, drops, SP.none' (by rw [hturn, hno])⟩
  intro c7
  try simp only [nb] at c7
  obtain ⟨p, rfl⟩ := bare_val (show a.tree.parts.isEmpty = true by simpa using c7) hva
  refine Se rfl (Oh rfl ?_)
  refine o_lO1 rfl .free rfl ?_
  refine Od rfl rfl rfl (Oa rfl (o_done ?_))
  refine s_cond rfl ?_ ?_
  ·intro c8
   try simp only [nb] at c8
   refine Se rfl (Oh rfl ?_)
   refine o_lO1 rfl .free rfl ?_
   first | refine o_ixD rfl rfl 2 rfl .free rfl ?_ | refine o_ixP rfl rfl 2 rfl .free rfl ?_
   refine o_lIS rfl .free rfl ?_
   refine o_st rfl rfl rfl rfl .free ?_
   refine Oa rfl (o_done ?_)
   refine s_ret (.c rfl (.tmp rfl .nil)) ?_
   refine ⟨_, L, hle, drops, b.tree, _, by rw [hturn]; rfl, hf.as 2 b.tree (by omega) rfl, fun e' he' => ?_, rfl⟩
   rw [hturn] at he'
   obtain rfl := Option.some.inj he'
   rw [if_pos (show p = [48] from c8)]
  intro c8
  try simp only [nb] at c8
  refine Se rfl (Oh rfl ?_)
  refine o_lO1 rfl .free rfl ?_
  first | refine o_ixD rfl rfl 3 rfl .free rfl ?_ | refine o_ixP rfl rfl 3 rfl .free rfl ?_
  refine o_lIS rfl .free rfl ?_
  refine o_st rfl rfl rfl rfl .free ?_
  refine Oa rfl (o_done ?_)
  refine s_ret (.c rfl (.tmp rfl .nil)) ?_
  refine ⟨_, L, hle, drops, d.tree, _, by rw [hturn]; rfl, hf.as 3 d.tree (by omega) rfl, fun e' he' => ?_, rfl⟩
  rw [hturn] at he'
  obtain rfl := Option.some.inj he'
  rw [if_neg (show ¬ p = [48] from c8)]
 intro c1
 try simp only [nb] at c1
 have hva : a.value = false := by simpa using c1
 have hst : (Ex.ite a b d).step = a.step.map fun q => .ite q b d := by simp only [Ex.step, hva, if_true]
 refine s_skip (Se rfl (Oh rfl ?_))
 refine o_lO1 rfl .free rfl ?_
 refine Om rfl ?_
 first | refine o_ixD rfl rfl _ rfl .free rfl ?_ | refine o_ixP rfl rfl _ rfl .free rfl ?_
 refine o_lIS rfl .free rfl ?_
 refine o_call rfl .free rfl (ihn ht (by omega) (hf.as 1 a.tree (by omega) rfl) hok.1.1 _) ?_
 rintro _ J1 _ e1 ⟨t1, cs1, rfl, hr, hte, rfl⟩
 obtain ⟨o1, k1, _, rfl, -⟩ := hr.open
 have hf := hf.mono e1
 have hle := hle.trans e1
 have hk := hk.mono e1
 refine Om rfl (Oe rfl rfl (Oe rfl rfl ?_))
 refine o_alloc .free rfl ?_
 intro b6
 refine o_st rfl rfl rfl rfl .free ?_
 refine Oa rfl (o_done (Se rfl (Oh rfl ?_)))
 refine o_lO1 rfl .free rfl ?_
 refine o_call rfl .free rfl (f_slices_Clone ((hcs _ rfl).mono hle) (by have := hcl.length; omega) hcl.plain hpos hp _) ?_
 rintro _ _ _ _ ⟨bc, sp, cc, rfl, hcc, rfl, rfl⟩
 simp only [show (Ex.ite a b d).tree.parts = [.node tIf [], a.tree, b.tree, d.tree] from rfl, cellsF, List.cons_append, List.nil_append]
 refine o_struct rfl rfl rfl .free rfl ?_
 refine o_alloc .free rfl ?_
 intro b8
 refine o_st rfl rfl rfl rfl .free ?_
 refine o_done (Se rfl (Oh rfl ?_))
 refine o_lO1 rfl .free rfl ?_
 refine Om rfl ?_
 refine o_lOS rfl .free rfl ?_
 first | refine o_ixD rfl rfl _ rfl .free rfl ?_ | refine o_ixP rfl rfl _ rfl .free rfl ?_
 refine o_st rfl rfl rfl rfl .free ?_
 refine o_done (Se rfl ?_)
 refine o_lOS rfl .free rfl ?_
 refine Om rfl ?_
 refine o_st rfl rfl rfl rfl .free ?_
 refine Oa rfl (o_done ?_)
 refine s_mem (fun w h => h.f1) (s_freeze ?_)
 intro hz
 have hf := hf.mono hz
 refine s_ret (.c rfl (.tmp rfl .nil)) ?_
 refine ⟨_, L, hle.trans hz, drops, .node [] [.node tIf [], t1, b.tree, d.tree], [.string (str []), .slice (some ⟨bc, 0, none⟩) (Ex.ite a b d).tree.parts.length cc], ?_, .mk' rfl (.cons (hf.as 0 (.node tIf []) (by omega) rfl) (.cons (hr.mono hz) (.cons (hf.as 2 (b.tree) (by omega) rfl) (.cons (hf.as 3 (d.tree) (by omega) rfl) (.nil))))) (fun y hy => by cases hy; exact still_set (xs := [_, _, _, _, _, _, _, _])) (by simp) hcc (by simp [maxN]) hp, ?_, rfl⟩
 ·rw [step_none_map hst]; rfl
 ·intro e' he'
  rw [hst] at he'
  obtain ⟨q, hq, rfl⟩ := Option.map_eq_some_iff.1 he'
  rw [hte q hq]; rfl
set_option maxHeartbeats 1000000 in
theorem fstep_lt {N : Nat} (ihn : StepH N) {z : Txt} {a b : Ex} {I : Heap} (ht : Tab I) {cs : List Value} (hlt : SizeOf.sizeOf (Ex.lt z a b) < N + 1) (h : Rep I (Ex.lt z a b).tree cs) (hok : (Ex.lt z a b).ok = true) (L : Own) :
  Fun Tryz.prog 44 [.agg cs.toArray] I L (SP (Ex.lt z a b).step L) := by
 obtain ⟨oa, c, oaf, cf, rfl, hf, hcl, hcs⟩ := h.cells
 have hpos : 0 < (Ex.lt z a b).tree.parts.length := by show 0 < 4; decide
 obtain ⟨xa, rfl⟩ : ∃ xa, oa = some xa := ⟨_, some_oad hf.nil hpos⟩
 have hlen : (Ex.lt z a b).tree.parts.length = 4 := rfl
 have hp := hf.len
 have hev : evT (Ex.lt z a b).tree = [2] := rfl
 simp only [Ex.lt.sizeOf_spec] at hlt
 have hok0 := hok
 simp only [Ex.ok, Bool.and_eq_true, decide_eq_true_eq] at hok
 obtain ⟨_, hrl⟩ : ∃ _ : True, RepL I (Ex.lt z a b).tree.parts _ := ⟨trivial, hcl⟩
 simp only [show (Ex.lt z a b).tree.parts = [.node tLet [], .node z [], a.tree, b.tree] from rfl, cellsF, List.cons_append, List.nil_append] at hrl
 refine fun_intro (by simp) ?_
 refine Se rfl ?_
 refine o_box rfl rfl .free rfl ?_
 intro b1
 refine o_alloc .free rfl ?_
 intro b2
 refine Oa rfl (o_done (s_seq (Se rfl ?_)))
 refine o_lOS rfl .free rfl ?_
 refine o_call rfl .free rfl (f_form_evaluated hf.rep _) ?_
 rintro _ J0 _ e0 ⟨ok, ck, rfl, hk, rfl⟩
 have hf := hf.mono e0
 have ht := ht.mono e0
 have hle := e0
 rw [hev] at hk
 rw [hev]
 refine On rfl (Om rfl (o_done (s_block ?_)))
 refine s_loop ?_
 refine Se rfl (Oc rfl rfl rfl (o_done (s_seq ?_)))
 refine s_condT rfl (by first | rfl | decide | (simp; done) | omega) ?_
 refine s_skip (s_seq (s_block (Se rfl ?_)))
 first | refine o_ixD rfl rfl _ rfl .free rfl ?_ | refine o_ixP rfl rfl _ rfl .free rfl ?_
 refine o_lI1 rfl .free rfl ?_
 refine Oa rfl (o_done (s_seq (Se rfl (Oh rfl ?_))))
 refine o_lO1 rfl .free rfl ?_
 refine Om rfl ?_
 first | refine o_ixD rfl rfl _ rfl .free rfl ?_ | refine o_ixP rfl rfl _ rfl .free rfl ?_
 refine o_lIS rfl .free rfl ?_
 refine o_call rfl .free rfl (f_form_isValue _ (Nat.lt_succ_self _) (hf.as 2 a.tree (by omega) rfl) hok.1.2 _) ?_
 rintro _ _ _ _ ⟨rfl, rfl, rfl⟩
 refine o_done ?_
 refine s_cond rfl ?_ ?_
 ·intro c1
  try simp only [nb] at c1
  have hva : a.value = true := c1
  refine s_exit rfl ?_
  refine o_enter rfl ?_
  refine Or rfl rfl rfl ?_
  refine Om rfl (o_done ?_)
  refine s_round ?_
  refine Se rfl (Oc rfl rfl rfl (o_done (s_seq ?_)))
  refine s_condF rfl (by first | rfl | decide | (simp; done) | omega) ?_
  refine s_exit rfl ?_
  refine s_seq (Se rfl ?_)
  refine o_lOS rfl .free rfl ?_
  refine o_call rfl .free rfl (f_form_head hf.rep _) ?_
  rintro _ _ _ _ ⟨rfl, rfl, rfl⟩
  rw [show (Ex.lt z a b).tree.head = [108, 101, 116] from rfl]
  have hturn : (Ex.lt z a b).step = (Ex.lt z a b).turn := by simp only [Ex.step, hva, Bool.true_eq_false, if_false]
  refine o_done (s_block (s_seq (Se rfl (Od rfl rfl rfl (Oa rfl (o_done ?_))))))
  first | refine s_fp rfl (by decide) ?_ | refine s_fn rfl (by decide) ?_ | refine s_false (by simp [look, opd, *]) ?_
  refine Se rfl (Od rfl rfl rfl (Oa rfl (o_done ?_)))
  first | refine s_fp rfl (by decide) ?_ | refine s_fn rfl (by decide) ?_ | refine s_false (by simp [look, opd, *]) ?_
  refine o_enter rfl (Od rfl rfl rfl (Oa rfl (o_done ?_)))
  first | refine s_fp rfl (by decide) ?_ | refine s_fn rfl (by decide) ?_ | refine s_false (by simp [look, opd, *]) ?_
  refine Se rfl (Od rfl rfl rfl (Oa rfl (o_done ?_)))
  first | refine s_fp rfl (by decide) ?_ | refine s_fn rfl (by decide) ?_ | refine s_false (by simp [look, opd, *]) ?_
  refine Se rfl (Od rfl rfl rfl (Oa rfl (o_done ?_)))
  first | refine s_tp rfl (rfl) ?_ | refine s_tn rfl (rfl) ?_ | refine s_true (by simp [look, opd, *]) ?_
  refine s_seq ?_
  refine d_all 16 rfl rfl ?_
  refine Da 0 rfl (y_fieldAddr rfl) ?_
  refine Dt 1 [14] rfl (y_lO1 rfl) ?_
  first | refine Da 2 rfl (y_ixD rfl rfl 3 rfl) ?_ | refine Da 2 rfl (y_ixP rfl rfl 3 rfl) ?_
  refine Dt 3 [14] rfl (y_lIS rfl) ?_
  refine Da 4 rfl (y_fieldAddr rfl) ?_
  refine Dt 5 [14] rfl (y_lO1 rfl) ?_
  first | refine Da 6 rfl (y_ixD rfl rfl 1 rfl) ?_ | refine Da 6 rfl (y_ixP rfl rfl 1 rfl) ?_
  refine Da 7 rfl (y_fieldAddr' rfl) ?_
  refine Dt 8 [14] rfl (y_lIF rfl) ?_
  refine Da 9 rfl (y_fieldAddr rfl) ?_
  refine Dt 10 [14] rfl (y_lO1 rfl) ?_
  first | refine Da 11 rfl (y_ixD rfl rfl 2 rfl) ?_ | refine Da 11 rfl (y_ixP rfl rfl 2 rfl) ?_
  refine Dt 12 [14] rfl (y_lIS rfl) ?_
  refine d_call 13 rfl (by kernel_rfl) rfl rfl .free rfl (f_form_put _ (Nat.lt_succ_self _) (hf.as 3 b.tree (by omega) rfl) hok.2 z hok.1.1 (hf.as 2 a.tree (by omega) rfl) _) ?_
  rintro _ J2 _ e2 ⟨cs2, rfl, hr2, rfl⟩
  obtain ⟨o2, k2, _, rfl, -⟩ := hr2.open
  have hle := hle.trans e2
  refine ⟨(.inr heldx), ?_⟩
  refine d_st 14 rfl (by kernel_rfl) rfl rfl rfl rfl rfl .free (.inl (by kernel_rfl)) ?_
  refine d_takeA 15 rfl (by kernel_rfl) rfl (.inl (by kernel_rfl)) (y_assign rfl) .free rfl ?_
  refine d_done (by kernel_rfl) ?_
  refine s_ret (.c rfl (.tmp rfl .nil)) ?_
  refine ⟨_, L, hle, drops, (b.put z a).tree, _, by rw [hturn]; rfl, hr2, fun e' he' => ?_, rfl⟩
  rw [hturn] at he'
  obtain rfl := Option.some.inj he'
  rfl
 intro c1
 try simp only [nb] at c1
 have hva : a.value = false := by simpa using c1
 have hst : (Ex.lt z a b).step = a.step.map fun q => .lt z q b := by simp only [Ex.step, hva, if_true]
 refine s_skip (Se rfl (Oh rfl ?_))
 refine o_lO1 rfl .free rfl ?_
 refine Om rfl ?_
 first | refine o_ixD rfl rfl _ rfl .free rfl ?_ | refine o_ixP rfl rfl _ rfl .free rfl ?_
 refine o_lIS rfl .free rfl ?_
 refine o_call rfl .free rfl (ihn ht (by omega) (hf.as 2 a.tree (by omega) rfl) hok.1.2 _) ?_
 rintro _ J1 _ e1 ⟨t1, cs1, rfl, hr, hte, rfl⟩
 obtain ⟨o1, k1, _, rfl, -⟩ := hr.open
 have hf := hf.mono e1
 have hle := hle.trans e1
 have hk := hk.mono e1
 refine Om rfl (Oe rfl rfl (Oe rfl rfl ?_))
 refine o_alloc .free rfl ?_
 intro b6
 refine o_st rfl rfl rfl rfl .free ?_
 refine Oa rfl (o_done (Se rfl (Oh rfl ?_)))
 refine o_lO1 rfl .free rfl ?_
 refine o_call rfl .free rfl (f_slices_Clone ((hcs _ rfl).mono hle) (by have := hcl.length; omega) hcl.plain hpos hp _) ?_
 rintro _ _ _ _ ⟨bc, sp, cc, rfl, hcc, rfl, rfl⟩
 simp only [show (Ex.lt z a b).tree.parts = [.node tLet [], .node z [], a.tree, b.tree] from rfl, cellsF, List.cons_append, List.nil_append]
 refine o_struct rfl rfl rfl .free rfl ?_
 refine o_alloc .free rfl ?_
 intro b8
 refine o_st rfl rfl rfl rfl .free ?_
 refine o_done (Se rfl (Oh rfl ?_))
 refine o_lO1 rfl .free rfl ?_
 refine Om rfl ?_
 refine o_lOS rfl .free rfl ?_
 first | refine o_ixD rfl rfl _ rfl .free rfl ?_ | refine o_ixP rfl rfl _ rfl .free rfl ?_
 refine o_st rfl rfl rfl rfl .free ?_
 refine o_done (Se rfl ?_)
 refine o_lOS rfl .free rfl ?_
 refine Om rfl ?_
 refine o_st rfl rfl rfl rfl .free ?_
 refine Oa rfl (o_done ?_)
 refine s_mem (fun w h => h.f1) (s_freeze ?_)
 intro hz
 have hf := hf.mono hz
 refine s_ret (.c rfl (.tmp rfl .nil)) ?_
 refine ⟨_, L, hle.trans hz, drops, .node [] [.node tLet [], .node z [], t1, b.tree], [.string (str []), .slice (some ⟨bc, 0, none⟩) (Ex.lt z a b).tree.parts.length cc], ?_, .mk' rfl (.cons (hf.as 0 (.node tLet []) (by omega) rfl) (.cons (hf.as 1 (.node z []) (by omega) rfl) (.cons (hr.mono hz) (.cons (hf.as 3 (b.tree) (by omega) rfl) (.nil))))) (fun y hy => by cases hy; exact still_set (xs := [_, _, _, _, _, _, _, _])) (by simp) hcc (by simp [maxN]) hp, ?_, rfl⟩
 ·rw [step_none_map hst]; rfl
 ·intro e' he'
  rw [hst] at he'
  obtain ⟨q, hq, rfl⟩ := Option.map_eq_some_iff.1 he'
  rw [hte q hq]; rfl
set_option maxHeartbeats 1000000 in
theorem fstep_fn {N : Nat} (ihn : StepH N) {g z : Txt} {s t : Ty} {b : Ex} {I : Heap} (ht : Tab I) {cs : List Value} (hlt : SizeOf.sizeOf (Ex.fn g z s t b) < N + 1) (h : Rep I (Ex.fn g z s t b).tree cs) (hok : (Ex.fn g z s t b).ok = true) (L : Own) :
  Fun Tryz.prog 44 [.agg cs.toArray] I L (SP (Ex.fn g z s t b).step L) := by
 obtain ⟨oa, c, oaf, cf, rfl, hf, hcl, hcs⟩ := h.cells
 have hpos : 0 < (Ex.fn g z s t b).tree.parts.length := by show 0 < 6; decide
 obtain ⟨xa, rfl⟩ : ∃ xa, oa = some xa := ⟨_, some_oad hf.nil hpos⟩
 have hlen : (Ex.fn g z s t b).tree.parts.length = 6 := rfl
 have hp := hf.len
 have hev : evT (Ex.fn g z s t b).tree = [] := rfl
 simp only [Ex.fn.sizeOf_spec] at hlt
 have hok0 := hok
 simp only [Ex.ok, Bool.and_eq_true, decide_eq_true_eq] at hok
 obtain ⟨_, hrl⟩ : ∃ _ : True, RepL I (Ex.fn g z s t b).tree.parts _ := ⟨trivial, hcl⟩
 simp only [show (Ex.fn g z s t b).tree.parts = [.node tFun [], .node g [], .node z [], s.tree, t.tree, b.tree] from rfl, cellsF, List.cons_append, List.nil_append] at hrl
 refine fun_intro (by simp) ?_
 refine Se rfl ?_
 refine o_box rfl rfl .free rfl ?_
 intro b1
 refine o_alloc .free rfl ?_
 intro b2
 refine Oa rfl (o_done (s_seq (Se rfl ?_)))
 refine o_lOS rfl .free rfl ?_
 refine o_call rfl .free rfl (f_form_evaluated hf.rep _) ?_
 rintro _ J0 _ e0 ⟨ok, ck, rfl, hk, rfl⟩
 have hf := hf.mono e0
 have ht := ht.mono e0
 have hle := e0
 rw [hev] at hk
 rw [hev]
 refine On rfl (Om rfl (o_done (s_block ?_)))
 refine s_loop ?_
 refine Se rfl (Oc rfl rfl rfl (o_done (s_seq ?_)))
 refine s_condF rfl (by first | rfl | decide | (simp; done) | omega) ?_
 refine s_exit rfl ?_
 refine s_seq (Se rfl ?_)
 refine o_lOS rfl .free rfl ?_
 refine o_call rfl .free rfl (f_form_head hf.rep _) ?_
 rintro _ _ _ _ ⟨rfl, rfl, rfl⟩
 rw [show (Ex.fn g z s t b).tree.head = [102, 117, 110] from rfl]
 have hturn : (Ex.fn g z s t b).step = (Ex.fn g z s t b).turn := rfl
 refine o_done (s_block (s_seq (Se rfl (Od rfl rfl rfl (Oa rfl (o_done ?_))))))
 first | refine s_fp rfl (by decide) ?_ | refine s_fn rfl (by decide) ?_ | refine s_false (by simp [look, opd, *]) ?_
 refine Se rfl (Od rfl rfl rfl (Oa rfl (o_done ?_)))
 first | refine s_fp rfl (by decide) ?_ | refine s_fn rfl (by decide) ?_ | refine s_false (by simp [look, opd, *]) ?_
 refine o_enter rfl (Od rfl rfl rfl (Oa rfl (o_done ?_)))
 first | refine s_fp rfl (by decide) ?_ | refine s_fn rfl (by decide) ?_ | refine s_false (by simp [look, opd, *]) ?_
 refine Se rfl (Od rfl rfl rfl (Oa rfl (o_done ?_)))
 first | refine s_fp rfl (by decide) ?_ | refine s_fn rfl (by decide) ?_ | refine s_false (by simp [look, opd, *]) ?_
 refine Se rfl (Od rfl rfl rfl (Oa rfl (o_done ?_)))
 first | refine s_fp rfl (by decide) ?_ | refine s_fn rfl (by decide) ?_ | refine s_false (by simp [look, opd, *]) ?_
 refine Se rfl (Od rfl rfl rfl (Oa rfl (o_done ?_)))
 first | refine s_fp rfl (by decide) ?_ | refine s_fn rfl (by decide) ?_ | refine s_false (by simp [look, opd, *]) ?_
 refine s_seq (Se rfl (Od rfl rfl rfl (Oa rfl (o_done ?_))))
 first | refine s_fp rfl (by decide) ?_ | refine s_fn rfl (by decide) ?_ | refine s_false (by simp [look, opd, *]) ?_
 refine o_enter rfl (Od rfl rfl rfl (Oa rfl (o_done ?_)))
 first | refine s_fp rfl (by decide) ?_ | refine s_fn rfl (by decide) ?_ | refine s_false (by simp [look, opd, *]) ?_
 refine s_skip (s_inBlock (s_seq ?_))
 have hno : (Ex.fn g z s t b).turn = none := by
  first
   | rfl
   | (cases a <;> first | rfl | (cases b <;> rfl))
 refine o_enter rfl ?_
 refine o_struct rfl rfl rfl .free rfl ?_
 refine o_st rfl rfl rfl rfl .free ?_
 refine Oa rfl (o_done ?_)
 refine s_ret (.c rfl (.tmp rfl .nil)) ?_
 exact ⟨_, L, hle, drops, SP.none' (by rw [hturn, hno])⟩
set_option maxHeartbeats 1000000 in
theorem fstep_un {N : Nat} (ihn : StepH N) {o : U2} {a : Ex} {I : Heap} (ht : Tab I) {cs : List Value} (hlt : SizeOf.sizeOf (Ex.un o a) < N + 1) (h : Rep I (Ex.un o a).tree cs) (hok : (Ex.un o a).ok = true) (L : Own) :
  Fun Tryz.prog 44 [.agg cs.toArray] I L (SP (Ex.un o a).step L) := by
 obtain ⟨oa, c, oaf, cf, rfl, hf, hcl, hcs⟩ := h.cells
 have hpos : 0 < (Ex.un o a).tree.parts.length := by show 0 < 2; decide
 obtain ⟨xa, rfl⟩ : ∃ xa, oa = some xa := ⟨_, some_oad hf.nil hpos⟩
 have hlen : (Ex.un o a).tree.parts.length = 2 := rfl
 have hp := hf.len
 have hev : evT (Ex.un o a).tree = [1] := by cases o <;> rfl
 simp only [Ex.un.sizeOf_spec] at hlt
 have hok0 := hok
 simp only [Ex.ok, Bool.and_eq_true, decide_eq_true_eq] at hok
 obtain ⟨_, hrl⟩ : ∃ _ : True, RepL I (Ex.un o a).tree.parts _ := ⟨trivial, hcl⟩
 simp only [show (Ex.un o a).tree.parts = [.node o.txt [], a.tree] from rfl, cellsF, List.cons_append, List.nil_append] at hrl
 refine fun_intro (by simp) ?_
 refine Se rfl ?_
 refine o_box rfl rfl .free rfl ?_
 intro b1
 refine o_alloc .free rfl ?_
 intro b2
 refine Oa rfl (o_done (s_seq (Se rfl ?_)))
 refine o_lOS rfl .free rfl ?_
 refine o_call rfl .free rfl (f_form_evaluated hf.rep _) ?_
 rintro _ J0 _ e0 ⟨ok, ck, rfl, hk, rfl⟩
 have hf := hf.mono e0
 have ht := ht.mono e0
 have hle := e0
 rw [hev] at hk
 rw [hev]
 refine On rfl (Om rfl (o_done (s_block ?_)))
 refine s_loop ?_
 refine Se rfl (Oc rfl rfl rfl (o_done (s_seq ?_)))
 refine s_condT rfl (by first | rfl | decide | (simp; done) | omega) ?_
 refine s_skip (s_seq (s_block (Se rfl ?_)))
 first | refine o_ixD rfl rfl _ rfl .free rfl ?_ | refine o_ixP rfl rfl _ rfl .free rfl ?_
 refine o_lI1 rfl .free rfl ?_
 refine Oa rfl (o_done (s_seq (Se rfl (Oh rfl ?_))))
 refine o_lO1 rfl .free rfl ?_
 refine Om rfl ?_
 first | refine o_ixD rfl rfl _ rfl .free rfl ?_ | refine o_ixP rfl rfl _ rfl .free rfl ?_
 refine o_lIS rfl .free rfl ?_
 refine o_call rfl .free rfl (f_form_isValue _ (Nat.lt_succ_self _) (hf.as 1 a.tree (by omega) rfl) hok _) ?_
 rintro _ _ _ _ ⟨rfl, rfl, rfl⟩
 refine o_done ?_
 refine s_cond rfl ?_ ?_
 ·intro c1
  try simp only [nb] at c1
  have hva : a.value = true := c1
  refine s_exit rfl ?_
  refine o_enter rfl ?_
  refine Or rfl rfl rfl ?_
  refine Om rfl (o_done ?_)
  refine s_round ?_
  refine Se rfl (Oc rfl rfl rfl (o_done (s_seq ?_)))
  refine s_condF rfl (by first | rfl | decide | (simp; done) | omega) ?_
  refine s_exit rfl ?_
  refine s_seq (s_seq ?_)
  rcases o with _ | _
  ·skip
   refine o_enter rfl ?_
   refine o_lOS rfl .free rfl ?_
   refine o_call rfl .free rfl (f_form_head hf.rep _) ?_
   rintro _ _ _ _ ⟨rfl, rfl, rfl⟩
   rw [show (Ex.un .fst a).tree.head = [102, 115, 116] from rfl]
   have hturn : (Ex.un .fst a).step = (Ex.un .fst a).turn := by simp only [Ex.step, hva, Bool.true_eq_false, if_false]
   refine o_done (s_block (s_seq (Se rfl (Od rfl rfl rfl (Oa rfl (o_done ?_))))))
   first | refine s_fp rfl (by decide) ?_ | refine s_fn rfl (by decide) ?_ | refine s_false (by simp [look, opd, *]) ?_
   refine Se rfl (Od rfl rfl rfl (Oa rfl (o_done ?_)))
   first | refine s_fp rfl (by decide) ?_ | refine s_fn rfl (by decide) ?_ | refine s_false (by simp [look, opd, *]) ?_
   refine o_enter rfl (Od rfl rfl rfl (Oa rfl (o_done ?_)))
   first | refine s_fp rfl (by decide) ?_ | refine s_fn rfl (by decide) ?_ | refine s_false (by simp [look, opd, *]) ?_
   refine Se rfl (Od rfl rfl rfl (Oa rfl (o_done ?_)))
   first | refine s_fp rfl (by decide) ?_ | refine s_fn rfl (by decide) ?_ | refine s_false (by simp [look, opd, *]) ?_
   refine Se rfl (Od rfl rfl rfl (Oa rfl (o_done ?_)))
   first | refine s_fp rfl (by decide) ?_ | refine s_fn rfl (by decide) ?_ | refine s_false (by simp [look, opd, *]) ?_
   refine Se rfl (Od rfl rfl rfl (Oa rfl (o_done ?_)))
   first | refine s_fp rfl (by decide) ?_ | refine s_fn rfl (by decide) ?_ | refine s_false (by simp [look, opd, *]) ?_
   refine s_seq (Se rfl (Od rfl rfl rfl (Oa rfl (o_done ?_))))
   first | refine s_tp rfl (rfl) ?_ | refine s_tn rfl (rfl) ?_ | refine s_true (by simp [look, opd, *]) ?_
   refine s_skip ?_
   first | refine s_tp rfl (rfl) ?_ | refine s_tn rfl (rfl) ?_ | refine s_true (by simp [look, opd, *]) ?_
   refine Se rfl (Oh rfl ?_)
   refine o_lO1 rfl .free rfl ?_
   first | refine o_ixD rfl rfl 1 rfl .free rfl ?_ | refine o_ixP rfl rfl 1 rfl .free rfl ?_
   refine o_lIS rfl .free rfl ?_
   refine o_alloc .free rfl ?_
   intro b13
   refine o_st rfl rfl rfl rfl .free ?_
   refine o_done (Se rfl ?_)
   refine o_lOS rfl .free rfl ?_
   refine o_call rfl .free rfl (f_form_head (hf.as 1 a.tree (by omega) rfl) _) ?_
   rintro _ _ _ _ ⟨rfl, rfl, rfl⟩
   refine Od rfl rfl rfl (o_done ?_)
   refine s_cond rfl ?_ ?_
   ·intro c14
    try simp only [nb] at c14
    obtain ⟨p, q, rfl⟩ := Ex.of_pair (show a.tree.head = tPair from c14)
    have hra := hf.as 1 (Ex.bin .pair p q).tree (by omega) rfl
    obtain ⟨oa2, c2, oaf2, cf2, he2, hf2⟩ := hra.at'
    simp only [List.cons.injEq, Value.slice.injEq, and_true, true_and] at he2
    obtain ⟨rfl, rfl⟩ := he2
    obtain ⟨xa2, hxa2⟩ : ∃ x, oaf 1 = some x := ⟨_, some_oad hf2.nil (show 0 < 3 by decide)⟩
    have hl2 : (Ex.bin .pair p q).tree.parts.length = 3 := rfl
    refine s_seq (Se rfl ?_)
    refine o_lOS rfl .free rfl ?_
    refine o_call rfl .free rfl (f_form_head hf.rep _) ?_
    rintro _ _ _ _ ⟨rfl, rfl, rfl⟩
    rw [show (Ex.un .fst (.bin .pair p q)).tree.head = [102, 115, 116] from rfl]
    refine Od rfl rfl rfl (o_done ?_)
    first | refine s_tp rfl (rfl) ?_ | refine s_tn rfl (rfl) ?_ | refine s_true (by simp [look, opd, *]) ?_
    refine Se rfl (Oh rfl ?_)
    refine o_lO1 rfl .free rfl ?_
    first | refine o_ixD rfl rfl 1 rfl .free rfl ?_ | refine o_ixP rfl rfl 1 rfl .free rfl ?_
    refine o_lIS rfl .free rfl ?_
    refine o_st rfl rfl rfl rfl .free ?_
    refine Oa rfl (o_done ?_)
    refine s_ret (.c rfl (.tmp rfl .nil)) ?_
    refine ⟨_, L, hle, drops, p.tree, _, by rw [hturn]; rfl, hf2.as 1 p.tree (by omega) rfl, fun e' he' => ?_, rfl⟩
    rw [hturn] at he'
    obtain rfl := Option.some.inj he'
    rfl
   intro c14
   try simp only [nb] at c14
   have hno : (Ex.un .fst a).turn = none := by
    cases hty : (Ex.un .fst a).turn with
    | none => rfl
    | some e' =>
     obtain ⟨p, q, rfl, rfl⟩ := turn_un hty
     exact absurd rfl c14
   refine s_skip (s_inBlock (Se rfl ?_))
   refine o_struct rfl rfl rfl .free rfl ?_
   refine o_st rfl rfl rfl rfl .free ?_
   refine Oa rfl (o_done ?_)
   refine s_ret (.c rfl (.tmp rfl .nil)) ?_
   exact ⟨_, L, hle, drops, SP.none' (by rw [hturn, hno])⟩
  ·skip
   refine o_enter rfl ?_
   refine o_lOS rfl .free rfl ?_
   refine o_call rfl .free rfl (f_form_head hf.rep _) ?_
   rintro _ _ _ _ ⟨rfl, rfl, rfl⟩
   rw [show (Ex.un .snd a).tree.head = [115, 110, 100] from rfl]
   have hturn : (Ex.un .snd a).step = (Ex.un .snd a).turn := by simp only [Ex.step, hva, Bool.true_eq_false, if_false]
   refine o_done (s_block (s_seq (Se rfl (Od rfl rfl rfl (Oa rfl (o_done ?_))))))
   first | refine s_fp rfl (by decide) ?_ | refine s_fn rfl (by decide) ?_ | refine s_false (by simp [look, opd, *]) ?_
   refine Se rfl (Od rfl rfl rfl (Oa rfl (o_done ?_)))
   first | refine s_fp rfl (by decide) ?_ | refine s_fn rfl (by decide) ?_ | refine s_false (by simp [look, opd, *]) ?_
   refine o_enter rfl (Od rfl rfl rfl (Oa rfl (o_done ?_)))
   first | refine s_fp rfl (by decide) ?_ | refine s_fn rfl (by decide) ?_ | refine s_false (by simp [look, opd, *]) ?_
   refine Se rfl (Od rfl rfl rfl (Oa rfl (o_done ?_)))
   first | refine s_fp rfl (by decide) ?_ | refine s_fn rfl (by decide) ?_ | refine s_false (by simp [look, opd, *]) ?_
   refine Se rfl (Od rfl rfl rfl (Oa rfl (o_done ?_)))
   first | refine s_fp rfl (by decide) ?_ | refine s_fn rfl (by decide) ?_ | refine s_false (by simp [look, opd, *]) ?_
   refine Se rfl (Od rfl rfl rfl (Oa rfl (o_done ?_)))
   first | refine s_fp rfl (by decide) ?_ | refine s_fn rfl (by decide) ?_ | refine s_false (by simp [look, opd, *]) ?_
   refine s_seq (Se rfl (Od rfl rfl rfl (Oa rfl (o_done ?_))))
   first | refine s_fp rfl (by decide) ?_ | refine s_fn rfl (by decide) ?_ | refine s_false (by simp [look, opd, *]) ?_
   refine o_enter rfl (Od rfl rfl rfl (Oa rfl (o_done ?_)))
   first | refine s_tp rfl (rfl) ?_ | refine s_tn rfl (rfl) ?_ | refine s_true (by simp [look, opd, *]) ?_
   refine Se rfl (Oh rfl ?_)
   refine o_lO1 rfl .free rfl ?_
   first | refine o_ixD rfl rfl 1 rfl .free rfl ?_ | refine o_ixP rfl rfl 1 rfl .free rfl ?_
   refine o_lIS rfl .free rfl ?_
   refine o_alloc .free rfl ?_
   intro b13
   refine o_st rfl rfl rfl rfl .free ?_
   refine o_done (Se rfl ?_)
   refine o_lOS rfl .free rfl ?_
   refine o_call rfl .free rfl (f_form_head (hf.as 1 a.tree (by omega) rfl) _) ?_
   rintro _ _ _ _ ⟨rfl, rfl, rfl⟩
   refine Od rfl rfl rfl (o_done ?_)
   refine s_cond rfl ?_ ?_
   ·intro c14
    try simp only [nb] at c14
    obtain ⟨p, q, rfl⟩ := Ex.of_pair (show a.tree.head = tPair from c14)
    have hra := hf.as 1 (Ex.bin .pair p q).tree (by omega) rfl
    obtain ⟨oa2, c2, oaf2, cf2, he2, hf2⟩ := hra.at'
    simp only [List.cons.injEq, Value.slice.injEq, and_true, true_and] at he2
    obtain ⟨rfl, rfl⟩ := he2
    obtain ⟨xa2, hxa2⟩ : ∃ x, oaf 1 = some x := ⟨_, some_oad hf2.nil (show 0 < 3 by decide)⟩
    have hl2 : (Ex.bin .pair p q).tree.parts.length = 3 := rfl
    refine s_seq (Se rfl ?_)
    refine o_lOS rfl .free rfl ?_
    refine o_call rfl .free rfl (f_form_head hf.rep _) ?_
    rintro _ _ _ _ ⟨rfl, rfl, rfl⟩
    rw [show (Ex.un .snd (.bin .pair p q)).tree.head = [115, 110, 100] from rfl]
    refine Od rfl rfl rfl (o_done ?_)
    first | refine s_fp rfl (by decide) ?_ | refine s_fn rfl (by decide) ?_ | refine s_false (by simp [look, opd, *]) ?_
    refine s_skip (Se rfl (Oh rfl ?_))
    refine o_lO1 rfl .free rfl ?_
    first | refine o_ixD rfl rfl 2 rfl .free rfl ?_ | refine o_ixP rfl rfl 2 rfl .free rfl ?_
    refine o_lIS rfl .free rfl ?_
    refine o_st rfl rfl rfl rfl .free ?_
    refine Oa rfl (o_done ?_)
    refine s_ret (.c rfl (.tmp rfl .nil)) ?_
    refine ⟨_, L, hle, drops, q.tree, _, by rw [hturn]; rfl, hf2.as 2 q.tree (by omega) rfl, fun e' he' => ?_, rfl⟩
    rw [hturn] at he'
    obtain rfl := Option.some.inj he'
    rfl
   intro c14
   try simp only [nb] at c14
   have hno : (Ex.un .snd a).turn = none := by
    cases hty : (Ex.un .snd a).turn with
    | none => rfl
    | some e' =>
     obtain ⟨p, q, rfl, rfl⟩ := turn_un hty
     exact absurd rfl c14
   refine s_skip (s_inBlock (Se rfl ?_))
   refine o_struct rfl rfl rfl .free rfl ?_
   refine o_st rfl rfl rfl rfl .free ?_
   refine Oa rfl (o_done ?_)
   refine s_ret (.c rfl (.tmp rfl .nil)) ?_
   exact ⟨_, L, hle, drops, SP.none' (by rw [hturn, hno])⟩
 intro c1
 try simp only [nb] at c1
 have hva : a.value = false := by simpa using c1
 have hst : (Ex.un o a).step = a.step.map fun q => .un o q := by simp only [Ex.step, hva, if_true]
 refine s_skip (Se rfl (Oh rfl ?_))
 refine o_lO1 rfl .free rfl ?_
 refine Om rfl ?_
 first | refine o_ixD rfl rfl _ rfl .free rfl ?_ | refine o_ixP rfl rfl _ rfl .free rfl ?_
 refine o_lIS rfl .free rfl ?_
 refine o_call rfl .free rfl (ihn ht (by omega) (hf.as 1 a.tree (by omega) rfl) hok _) ?_
 rintro _ J1 _ e1 ⟨t1, cs1, rfl, hr, hte, rfl⟩
 obtain ⟨o1, k1, _, rfl, -⟩ := hr.open
 have hf := hf.mono e1
 have hle := hle.trans e1
 have hk := hk.mono e1
 refine Om rfl (Oe rfl rfl (Oe rfl rfl ?_))
 refine o_alloc .free rfl ?_
 intro b6
 refine o_st rfl rfl rfl rfl .free ?_
 refine Oa rfl (o_done (Se rfl (Oh rfl ?_)))
 refine o_lO1 rfl .free rfl ?_
 refine o_call rfl .free rfl (f_slices_Clone ((hcs _ rfl).mono hle) (by have := hcl.length; omega) hcl.plain hpos hp _) ?_
 rintro _ _ _ _ ⟨bc, sp, cc, rfl, hcc, rfl, rfl⟩
 simp only [show (Ex.un o a).tree.parts = [.node o.txt [], a.tree] from rfl, cellsF, List.cons_append, List.nil_append]
 refine o_struct rfl rfl rfl .free rfl ?_
 refine o_alloc .free rfl ?_
 intro b8
 refine o_st rfl rfl rfl rfl .free ?_
 refine o_done (Se rfl (Oh rfl ?_))
 refine o_lO1 rfl .free rfl ?_
 refine Om rfl ?_
 refine o_lOS rfl .free rfl ?_
 first | refine o_ixD rfl rfl _ rfl .free rfl ?_ | refine o_ixP rfl rfl _ rfl .free rfl ?_
 refine o_st rfl rfl rfl rfl .free ?_
 refine o_done (Se rfl ?_)
 refine o_lOS rfl .free rfl ?_
 refine Om rfl ?_
 refine o_st rfl rfl rfl rfl .free ?_
 refine Oa rfl (o_done ?_)
 refine s_mem (fun w h => h.f1) (s_freeze ?_)
 intro hz
 have hf := hf.mono hz
 refine s_ret (.c rfl (.tmp rfl .nil)) ?_
 refine ⟨_, L, hle.trans hz, drops, .node [] [.node o.txt [], t1], [.string (str []), .slice (some ⟨bc, 0, none⟩) (Ex.un o a).tree.parts.length cc], ?_, .mk' rfl (.cons (hf.as 0 (.node o.txt []) (by omega) rfl) (.cons (hr.mono hz) (.nil))) (fun y hy => by cases hy; exact still_set (xs := [_, _, _, _])) (by simp) hcc (by simp [maxN]) hp, ?_, rfl⟩
 ·rw [step_none_map hst]; rfl
 ·intro e' he'
  rw [hst] at he'
  obtain ⟨q, hq, rfl⟩ := Option.map_eq_some_iff.1 he'
  rw [hte q hq]; rfl
theorem fstep_atom {e : Ex} (hb : e.bare = true) {I : Heap} {cs : List Value} (h : Rep I e.tree cs) (L : Own) : Fun Tryz.prog 44 [.agg cs.toArray] I L (SP e.step L) := by
 obtain ⟨oa, c, oaf, cf, rfl, hf⟩ := h.at'
 have hno : e.step = none := by cases e <;> first | rfl | cases hb
 have hev : evT e.tree = [] := by cases e <;> first | rfl | cases hb
 have hhd : e.tree.head = [] := by cases e <;> first | rfl | cases hb
 refine fun_intro (by simp) ?_
 refine Se rfl ?_
 refine o_box rfl rfl .free rfl ?_
 intro b1
 refine o_alloc .free rfl ?_
 intro b2
 refine Oa rfl (o_done (s_seq (Se rfl ?_)))
 refine o_lOS rfl .free rfl ?_
 refine o_call rfl .free rfl (f_form_evaluated hf.rep _) ?_
 rintro _ J0 _ e0 ⟨ok, ck, rfl, hk, rfl⟩
 have hf := hf.mono e0
 have hle := e0
 rw [hev] at hk
 rw [hev]
 refine On rfl (Om rfl (o_done (s_block ?_)))
 refine s_loop ?_
 refine Se rfl (Oc rfl rfl rfl (o_done (s_seq ?_)))
 refine s_condF rfl (by first | rfl | decide | (simp; done) | omega) ?_
 refine s_exit rfl ?_
 refine s_seq (Se rfl ?_)
 refine o_lOS rfl .free rfl ?_
 refine o_call rfl .free rfl (f_form_head hf.rep _) ?_
 rintro _ _ _ _ ⟨rfl, rfl, rfl⟩
 rw [hhd]
 refine o_done (s_block (s_seq (Se rfl (Od rfl rfl rfl (Oa rfl (o_done ?_))))))
 first | refine s_fp rfl (by decide) ?_ | refine s_fn rfl (by decide) ?_ | refine s_false (by simp [look, opd, *]) ?_
 refine Se rfl (Od rfl rfl rfl (Oa rfl (o_done ?_)))
 first | refine s_fp rfl (by decide) ?_ | refine s_fn rfl (by decide) ?_ | refine s_false (by simp [look, opd, *]) ?_
 refine o_enter rfl (Od rfl rfl rfl (Oa rfl (o_done ?_)))
 first | refine s_fp rfl (by decide) ?_ | refine s_fn rfl (by decide) ?_ | refine s_false (by simp [look, opd, *]) ?_
 refine Se rfl (Od rfl rfl rfl (Oa rfl (o_done ?_)))
 first | refine s_fp rfl (by decide) ?_ | refine s_fn rfl (by decide) ?_ | refine s_false (by simp [look, opd, *]) ?_
 refine Se rfl (Od rfl rfl rfl (Oa rfl (o_done ?_)))
 first | refine s_fp rfl (by decide) ?_ | refine s_fn rfl (by decide) ?_ | refine s_false (by simp [look, opd, *]) ?_
 refine Se rfl (Od rfl rfl rfl (Oa rfl (o_done ?_)))
 first | refine s_fp rfl (by decide) ?_ | refine s_fn rfl (by decide) ?_ | refine s_false (by simp [look, opd, *]) ?_
 refine s_seq (Se rfl (Od rfl rfl rfl (Oa rfl (o_done ?_))))
 first | refine s_fp rfl (by decide) ?_ | refine s_fn rfl (by decide) ?_ | refine s_false (by simp [look, opd, *]) ?_
 refine o_enter rfl (Od rfl rfl rfl (Oa rfl (o_done ?_)))
 first | refine s_fp rfl (by decide) ?_ | refine s_fn rfl (by decide) ?_ | refine s_false (by simp [look, opd, *]) ?_
 refine s_skip (s_inBlock (Se rfl ?_))
 refine o_struct rfl rfl rfl .free rfl ?_
 refine o_st rfl rfl rfl rfl .free ?_
 refine Oa rfl (o_done ?_)
 refine s_ret (.c rfl (.tmp rfl .nil)) ?_
 exact ⟨_, L, hle, drops, SP.none' hno⟩
theorem fstep_all : ∀ N : Nat, StepH N := by
 intro N
 induction N with
 | zero => intro I ht e cs h; omega
 | succ N ihn =>
  intro I ht e cs hlt h hok L
  cases e with
  | num s => exact fstep_atom rfl h L
  | name s => exact fstep_atom rfl h L
  | bin o p q => exact fstep_bin ihn ht hlt h hok L
  | ite p q r => exact fstep_ite ihn ht hlt h hok L
  | lt z p q => exact fstep_lt ihn ht hlt h hok L
  | fn h1 z s u q => exact fstep_fn ihn ht hlt h hok L
  | un o p => exact fstep_un ihn ht hlt h hok L
theorem f_form_step {I : Heap} (ht : Tab I) {e : Ex} {cs : List Value} (h : Rep I e.tree cs) (hok : e.ok = true) (L : Own) : Fun Tryz.prog 44 [.agg cs.toArray] I L (SP e.step L) := fstep_all _ ht (Nat.lt_succ_self _) h hok L
def lookOr (l m : List Txt) (s : Txt) : Txt := match lastIdx l s with
 | some i => m.getD i []
 | none => s
theorem g_l1Atom (s : Txt) (I : Heap) (L : Own) : Fun Tryz.prog 116 [.string (str s)] I L (Only (.agg [.string (str s), .slice none 0 0].toArray) I L) := by
 refine fun_intro (by simp) ?_
 refine Se rfl ?_
 refine o_alloc .free rfl ?_
 intro b2
 refine o_done (Se rfl (Om rfl ?_))
 refine o_struct rfl rfl rfl .free rfl ?_
 refine o_st rfl rfl rfl rfl .free ?_
 refine o_done ?_
 refine s_ret (.c rfl .nil) ?_
 refine only rfl ?_
 rfl
end Go.Proofs.YtfddjcmeejjhiaaGreatDoor
