/- Types as they are drawn. No conditions. -/
import Derived.Test.YtfddjcmeejjhiaaGreatDoorG10
namespace Go.Proofs.YtfddjcmeejjhiaaGreatDoor
set_option maxRecDepth 100000
set_option linter.unusedVariables false
set_option linter.unusedSimpArgs false

/-- A drawn text: its length is bounded, and so is how far the reader goes. -/
def DT (b : Nat) (oa : Option Addr) (l : List UInt8) (c p K B : Nat) (L : Own) : Post := fun v I' L' => ∃ s p', v = .string (str s) ∧ List.length s ≤ B ∧ p ≤ p' ∧ p' ≤ p + K ∧ L' = rd b oa l c p' :: L
def kT : Nat → Nat
 | 0 => 0
 | d + 1 => 2 + 2 * kT d
def bT : Nat → Nat
 | 0 => 1
 | d + 1 => 5 + 2 * bT d
theorem bT_pos : ∀ d, 1 ≤ bT d
 | 0 => Nat.le_refl _
 | d + 1 => by simp only [bT]; omega
theorem g_l91Type : ∀ (d : Nat) {I : Heap} {oa : Option Addr} {l : List UInt8} {c : Nat} (_ : Bytes I oa l c) (_ : l.length ≤ 2000) (b p : Nat) (_ : p + kT d ≤ 1099511627776) (_ : bT d ≤ 1000000) (_ : d ≤ 1000) (L : Own),
  Fun Tryz.prog 95 [.pointer (some ⟨b, 0, none⟩), .int .i64 (d : Nat)] I (rd b oa l c p :: L) (DT b oa l c p (kT d) (bT d) L) := by
 intro d
 induction d with
 | zero =>
  intro I oa l c h hl b p hp hb hd L
  refine fun_intro (by simp) ?_
  refine Se rfl (Oa rfl (o_done (s_seq (Se rfl (Om rfl (Oc rfl rfl rfl (Om rfl ?_)))))))
  first | refine g_tp rfl rfl (by simp) ?_ | refine g_tn rfl rfl (by simp) ?_
  iterate 3 refine o_skip rfl rfl rfl ?_
  refine Ot rfl rfl (o_done ?_)
  refine s_true rfl ?_
  refine Se rfl (Oa rfl (o_done (s_ret (.tmp rfl .nil) ?_)))
  exact ⟨I, _, .refl _, fun _ h => h, [105], p, rfl, by decide, Nat.le_refl _, by omega, rfl⟩
 | succ d ihd =>
  intro I oa l c h hl b p hp hb hd L
  simp only [kT, bT] at hp hb ⊢
  have hbp := bT_pos d
  refine fun_intro (by simp) ?_
  refine Se rfl (Oa rfl (o_done (s_seq (Se rfl (Om rfl (Oc rfl rfl rfl (Om rfl ?_)))))))
  first | refine g_fp rfl rfl (by omega) ?_ | refine g_fn rfl rfl (by omega) ?_
  refine Ow rfl ?_
  refine o_call rfl (.met rfl rfl) rfl (g_l6Rd_pick h hl b p 2 (by omega) (by decide) L) ?_
  rintro _ _ _ _ ⟨r, rfl, rfl, rfl, hr⟩
  refine o_cmp rfl rfl rfl (.met rfl rfl) rfl ?_
  refine Of rfl rfl (o_done ?_)
  refine Si rfl ?_ ?_
  ·intro c0
   refine Se rfl (Oa rfl (o_done (s_ret (.tmp rfl .nil) ?_)))
   exact ⟨I, _, .refl _, fun _ h => h, [105], p + 1, rfl, by simp; omega, by omega, by omega, rfl⟩
  intro c0
  refine s_skip (Se rfl (Om rfl ?_))
  refine Ol rfl rfl ?_
  intro b13
  refine o_freezeLit [[62], [42]] (by decide) (by decide) ?_
  intro J e1 k1
  refine o_call rfl .free rfl (g_l6Rd_of (h.mono e1) hl b (p + 1) (by omega) k1 (by simp) L) ?_
  rintro _ _ _ _ ⟨s, rfl, hs, rfl, rfl⟩
  have hsl : s.length = 1 := by revert s; decide
  refine Ok rfl rfl ?_
  refine Ok rfl rfl ?_
  refine Om rfl (Om rfl ?_)
  refine Or rfl rfl rfl ?_
  refine o_put (t := 19) (v' := .int .i64 (d : Nat)) rfl (by congr 1; omega) ?_
  refine o_call rfl .free rfl (ihd (h.mono e1) hl b (p + 1 + 1) (by omega) (by omega) (by omega) L) ?_
  rintro _ J2 _ e2 ⟨s1, p1, rfl, hs1, hp1, hp2, rfl⟩
  refine Ok rfl rfl ?_
  refine Ok rfl rfl ?_
  refine Om rfl (Om rfl ?_)
  refine Or rfl rfl rfl ?_
  refine o_put (t := 25) (v' := .int .i64 (d : Nat)) rfl (by congr 1; omega) ?_
  refine o_call rfl .free rfl (ihd ((h.mono e1).mono e2) hl b p1 (by omega) (by omega) (by omega) L) ?_
  rintro _ J3 _ e3 ⟨s2, p2, rfl, hs2, hp3, hp4, rfl⟩
  refine Ok rfl rfl ?_
  refine Ok rfl rfl ?_
  refine Oa rfl (o_done (s_ret (.tmp rfl .nil) ?_))
  exact ⟨J3, _, (e1.trans e2).trans e3, fun _ h => h, _, p2, rfl, by simp; omega, by omega, by omega, rfl⟩
/-- A number in decimals. -/
def decT (n : Nat) : Txt := if n < 10 then [UInt8.ofNat (48 + n)] else decT (n / 10) ++ [UInt8.ofNat (48 + n % 10)]
theorem decT_small {n : Nat} (h : n < 10) : decT n = [UInt8.ofNat (48 + n)] := by rw [decT, if_pos h]
theorem decT_big {n : Nat} (h : ¬ n < 10) : decT n = decT (n / 10) ++ [UInt8.ofNat (48 + n % 10)] := by rw [decT, if_neg h]
section rules
variable {P : Program} {f : FuncId} {n : Nat} {I₀ : Heap} {Q : Post} {k : List Item} {E : Env} {I : Heap} {L : Own}
variable {ops : Array Oper} {d : Nat} {ty : TypeId} {pos : String} {af : Array Edge} {g : Option (Nat × Bool)} {l : List Oper}
theorem wrap_u8 {m : Int} (h : 0 ≤ m ∧ m < 256) : IntKind.u8.wrap m = m := by
 simp [IntKind.wrap, IntKind.bits, IntKind.signed]; omega
/-- A number as a byte. -/
theorem y_intByte {S : World → Prop} {src dst sz bb sz2 bb2 : Nat} {z z2 : List Value} [hs : TyIs P src (.int .i64) sz bb z] [hd : TyIs P dst (.int .u8) sz2 bb2 z2] {x : Operand} {a : Nat} (hx : opd E x = some (.int .i64 (a : Nat))) (ha : a < 256) :
  Yld P E S ⟨some d, .convert src dst x, ty, pos, af, g⟩ (.int .u8 (a : Nat)) := fun ac w he _ => by
 simp only [execOp, he.eval hx]
 refine run_bind_ok (a := .int .u8 (a : Nat)) (w' := w) ?_ |>.trans rfl
 unfold convert
 rw [run_bind_ok (run_underlying hs.und w), run_bind_ok (run_underlying hd.und w)]
 simp only [Conv.intToInt]
 rw [wrap_u8 (by omega)]
 rfl
theorem o_intByte {src dst sz bb sz2 bb2 : Nat} {z z2 : List Value} [hs : TyIs P src (.int .i64) sz bb z] [hd : TyIs P dst (.int .u8) sz2 bb2 z2] {x : Operand} {a : Nat} (hx : opd E x = some (.int .i64 (a : Nat))) (ha : a < 256) (hg : Wants ops E g) (hdn : Nat.blt d n = true)
  (h : RunO P f n I₀ Q ops l k ((d, .int .u8 (a : Nat)) :: E) I L) : RunO P f n I₀ Q ops (⟨some d, .convert src dst x, ty, pos, af, g⟩ :: l) k E I L := o_yld (y_intByte hx ha) hg hdn h
/-- One byte as a text. -/
theorem y_byteStr {src dst e sz bb sz2 bb2 sz3 bb3 : Nat} {z z2 z3 : List Value} [hs : TyIs P src (.slice e) sz bb z] [he : TyIs P e (.int .u8) sz3 bb3 z3] [hd : TyIs P dst .string sz2 bb2 z2] {x : Operand} {ad : Addr} {c a : Nat} (hx : opd E x = some (.slice (some ad) 1 c)) (hr : Reads I L ad [.int .u8 (a : Nat)]) :
  Yld P E (Mem I L) ⟨some d, .convert src dst x, ty, pos, af, g⟩ (.string (str [UInt8.ofNat a])) := fun ac w he' hm => by
 simp only [execOp, he'.eval hx]
 refine run_bind_ok (a := .string (str [UInt8.ofNat a])) (w' := w) ?_ |>.trans rfl
 unfold convert
 rw [run_bind_ok (run_underlying hs.und w), run_bind_ok (run_underlying hd.und w)]
 simp only []
 rw [run_bind_ok (run_underlying he.und w)]
 simp only [Conv.bytesToString]
 have hl : (loadCells ad 1).run P w = .ok [Value.int .u8 (a : Nat)].toArray w := run_loadCells [.int .u8 (a : Nat)] (hr w hm)
 rw [run_bind_ok hl]
 rfl
end rules
theorem decT_le {n : Nat} (h : n ≤ 1000000000) : (decT n).length ≤ 12 := by
 have key : ∀ (k m : Nat), m < 10 ^ (k + 1) → (decT m).length ≤ k + 1 := by
  intro k
  induction k with
  | zero => intro m hm; rw [decT_small (by omega)]; simp
  | succ k ih =>
   intro m hm
   by_cases h1 : m < 10
   ·rw [decT_small h1]; simp
   ·rw [decT_big h1, List.length_append]
    have := ih (m / 10) (by rw [Nat.pow_succ] at hm; omega)
    simp only [List.length_cons, List.length_nil]; omega
 exact Nat.le_trans (key 10 n (by omega)) (by decide)
theorem g_l6Dec : ∀ (k n : Nat) (_ : n < k) (_ : n ≤ 1000000000) (I : Heap) (L : Own), Fun Tryz.prog 100 [.int .i64 (n : Nat)] I L (Only (.string (str (decT n))) I L) := by
 intro k
 induction k with
 | zero => intro n h; omega
 | succ k ihk =>
  intro n hlt hn I L
  refine fun_intro (by simp) ?_
  refine Se rfl (Oa rfl (o_done (s_seq (Se rfl (Om rfl (Oc rfl rfl rfl (o_done ?_)))))))
  first | refine s_fp rfl (by omega) ?_ | refine s_fn rfl (by omega) ?_ | refine s_false (by simp [look, opd, *]) ?_
  refine s_skip (s_seq (Se rfl (Om rfl (Oc rfl rfl rfl (o_done ?_)))))
  first | refine s_fp rfl (by omega) ?_ | refine s_fn rfl (by omega) ?_ | refine s_false (by simp [look, opd, *]) ?_
  refine s_skip (s_seq (Se rfl (Om rfl (Oc rfl rfl rfl (o_done ?_)))))
  refine s_cond rfl ?_ ?_
  ·intro c2
   try simp only [nb] at c2
   refine s_seq ?_
   have h10 : n < 10 := by omega
   refine o_enter rfl (Om rfl ?_)
   refine Or rfl rfl rfl ?_
   refine o_put (t := 14) (v' := .int .i64 ((48 + n : Nat))) rfl (by congr 1) ?_
   refine o_intByte rfl (by omega) .free rfl ?_
   refine Ol rfl rfl ?_
   intro b16
   refine o_yld (y_byteStr rfl (reads_ownL (by repeat first | exact .head _ | apply List.Mem.tail | apply List.mem_append_right) (by rfl))) .free rfl ?_
   refine Oa rfl (o_done (s_ret (.tmp rfl .nil) ?_))
   refine only rfl ?_
   rw [decT_small h10]; rfl
  intro c2
  try simp only [nb] at c2
  refine s_skip (s_seq ?_)
  have h10 : ¬ n < 10 := by omega
  obtain ⟨q, hq, hq2⟩ : ∃ q, q = n / 10 ∧ q < n := ⟨_, rfl, by omega⟩
  obtain ⟨r, hr, hr2⟩ : ∃ r, r = n % 10 ∧ r < 10 := ⟨_, rfl, Nat.mod_lt _ (by omega)⟩
  have hdl := decT_le (n := q) (by omega)
  refine d_all 11 rfl rfl ?_
  refine Da 0 rfl (y_move rfl) ?_
  refine Da 1 rfl (y_quo (b := 10) rfl rfl (by omega) (by omega)) ?_
  refine d_put (t := 19) (v' := .int .i64 (q : Nat)) rfl (by rw [hq]) ?_
  refine Da 3 rfl (y_move rfl) ?_
  refine Da 4 rfl (y_rem (b := 10) rfl rfl (by omega)) ?_
  refine d_put (t := 22) (v' := .int .i64 (r : Nat)) rfl (by rw [hr]) ?_
  refine Da 5 rfl (y_arith rfl rfl rfl (by omega)) ?_
  refine d_put (t := 23) (v' := .int .i64 ((48 + r : Nat))) rfl (by congr 1) ?_
  refine Da 6 rfl (y_intByte rfl (by omega)) ?_
  refine d_two 2 7 (by kernel_rfl) ?_ ?_
  ·skip
   refine i_call 2 rfl rfl rfl .free rfl (ihk q (by omega) (by omega) _ _) ?_
   rintro _ _ _ _ ⟨rfl, rfl, rfl⟩
   refine ⟨(.inr heldx), ?_⟩
   refine d_lits 7 rfl (by kernel_rfl) rfl rfl rfl (by rfl) (by rfl) (by rfl) (by decide) (by decide) (by rfl) .free rfl (.inr heldx) ?_
   intro b25
   refine d_yld 8 rfl (by kernel_rfl) rfl (y_byteStr rfl (reads_ownL (by repeat first | exact .head _ | apply List.Mem.tail | apply List.mem_append_right) (by rfl))) .free rfl (.inr heldx) ?_
   refine d_takeA 9 rfl (by kernel_rfl) rfl (.inr heldx) (y_concat rfl rfl (by first | omega | (simp only [List.length_append, List.length_cons, List.length_nil]; omega) | (simp; omega))) .free rfl ?_
   refine Da 10 rfl (y_assign rfl) ?_
   refine d_done (by kernel_rfl) ?_
   refine s_ret (.tmp rfl .nil) ?_
   refine only rfl ?_
   rw [decT_big h10, ← hq, ← hr]; rfl
  ·skip
   refine i_lits 7 rfl rfl rfl rfl (by rfl) (by rfl) (by rfl) (by decide) (by decide) (by rfl) .free rfl (.inr heldx) ?_
   intro b25
   refine d_two 2 8 (by kernel_rfl) ?_ ?_
   ·skip
    refine i_call 2 rfl rfl rfl .free rfl (ihk q (by omega) (by omega) _ _) ?_
    rintro _ _ _ _ ⟨rfl, rfl, rfl⟩
    refine ⟨(.inr heldx), ?_⟩
    refine d_yld 8 rfl (by kernel_rfl) rfl (y_byteStr rfl (reads_ownL (by repeat first | exact .head _ | apply List.Mem.tail | apply List.mem_append_right) (by rfl))) .free rfl (.inr heldx) ?_
    refine d_takeA 9 rfl (by kernel_rfl) rfl (.inr heldx) (y_concat rfl rfl (by first | omega | (simp only [List.length_append, List.length_cons, List.length_nil]; omega) | (simp; omega))) .free rfl ?_
    refine Da 10 rfl (y_assign rfl) ?_
    refine d_done (by kernel_rfl) ?_
    refine s_ret (.tmp rfl .nil) ?_
    refine only rfl ?_
    rw [decT_big h10, ← hq, ← hr]; rfl
   ·skip
    refine i_yld 8 rfl rfl (y_byteStr rfl (reads_ownL (by repeat first | exact .head _ | apply List.Mem.tail | apply List.mem_append_right) (by rfl))) .free rfl (.inr heldx) ?_
    refine d_call 2 rfl (by kernel_rfl) rfl rfl .free rfl (ihk q (by omega) (by omega) _ _) ?_
    rintro _ _ _ _ ⟨rfl, rfl, rfl⟩
    refine ⟨(.inr heldx), ?_⟩
    refine d_takeA 9 rfl (by kernel_rfl) rfl (.inr heldx) (y_concat rfl rfl (by first | omega | (simp only [List.length_append, List.length_cons, List.length_nil]; omega) | (simp; omega))) .free rfl ?_
    refine Da 10 rfl (y_assign rfl) ?_
    refine d_done (by kernel_rfl) ?_
    refine s_ret (.tmp rfl .nil) ?_
    refine only rfl ?_
    rw [decT_big h10, ← hq, ← hr]; rfl
def Ex.value : Ex → Bool
 | .num _ => true
 | .fn _ _ _ _ _ => true
 | .bin .pair a b => a.value && b.value
 | _ => false
def Ex.print : Ex → Tree
 | .bin .pair a b => .node [] [.node tPair [], a.print, b.print]
 | .fn _ _ _ _ _ => .node tFun []
 | e => e.tree
theorem Ex.is_pair {e : Ex} (h : e.tree.is tPair 3 = true) : ∃ a b, e = .bin .pair a b := by
 simp only [Tree.is, Bool.and_eq_true, decide_eq_true_eq] at h
 exact Ex.of_bin (o := .pair) h.2
theorem Ex.not_pair {e : Ex} (h : e.tree.is tPair 3 = false) : ∀ a b, e ≠ .bin .pair a b := by
 rintro a b rfl; simp [Tree.is, Ex.tree, Tree.parts, Tree.head, Tree.atom, B5.txt] at h
theorem Ex.value_other {e : Ex} (hok : e.ok = true) (h : ∀ a b, e ≠ .bin .pair a b) : e.value = (decide (e.tree.head = tFun) || (e.tree.parts.isEmpty && isNum e.tree.atom)) := by
 cases e with
 | num s => have h1 : isNum s = true := hok; simp [Ex.value, Ex.tree, Tree.parts, Tree.atom, h1]
 | name s =>
  have h1 := name_not_num (show isName s = true from hok)
  simp only [Ex.tree, Tree.parts, Tree.atom, h1]; rfl
 | bin o a b => cases o <;> first | exact absurd rfl (h a b) | rfl
 | ite a b c => rfl
 | lt x a b => rfl
 | fn f x s t b => rfl
 | un o a => cases o <;> rfl

theorem f_form_isValue : ∀ (n : Nat) {I : Heap} {e : Ex} {cs : List Value} (_ : SizeOf.sizeOf e < n) (_ : Rep I e.tree cs) (_ : e.ok = true) (L : Own), Fun Tryz.prog 43 [.agg cs.toArray] I L (Only (.bool e.value) I L) := by
 intro n
 induction n with
 | zero => intro I e cs h; omega
 | succ n ihn =>
  intro I e cs hlt h hok L
  obtain ⟨oa, c, oaf, cf, rfl, hf⟩ := h.at'
  have ha := hf.alen
  refine fun_intro (by simp) ?_
  refine Se rfl ?_
  refine o_box rfl rfl .free rfl ?_
  intro b1
  refine Oa rfl (o_done (s_seq (Se rfl ?_)))
  refine o_lOS rfl .free rfl ?_
  refine o_call rfl .free rfl (f_form_is hf.rep _ 3 _) ?_
  rintro _ _ _ _ ⟨rfl, rfl, rfl⟩
  refine o_done ?_
  refine s_cond rfl ?_ ?_
  ·intro c0
   try simp only [nb] at c0
   obtain ⟨a, b, rfl⟩ := Ex.is_pair c0
   simp only [Ex.ok, Bool.and_eq_true] at hok
   simp only [Ex.bin.sizeOf_spec] at hlt
   have hlen : (Ex.bin .pair a b).tree.parts.length = 3 := rfl
   refine Se rfl (Oh rfl ?_)
   refine o_lO1 rfl .free rfl ?_
   first | refine o_ixD rfl rfl 1 rfl .free rfl ?_ | refine o_ixP rfl rfl 1 rfl .free rfl ?_
   refine o_lIS rfl .free rfl ?_
   refine o_call rfl .free rfl (ihn (by omega) (hf.as 1 a.tree (by omega) rfl) hok.1 _) ?_
   rintro _ _ _ _ ⟨rfl, rfl, rfl⟩
   refine Om rfl ?_
   apply o_and 10 16 rfl
   ·intro g2_6 hk
    try simp only [nb] at g2_6
    refine o_fieldAddr rfl (.met rfl rfl) rfl ?_
    refine o_lO1 rfl (.met rfl rfl) rfl ?_
    first | refine o_ixD rfl rfl 2 rfl (.met rfl rfl) rfl ?_ | refine o_ixP rfl rfl 2 rfl (.met rfl rfl) rfl ?_
    refine o_lIS rfl (.met rfl rfl) rfl ?_
    refine o_call rfl (.met rfl rfl) rfl (ihn (by omega) (hf.as 2 b.tree (by omega) rfl) hok.2 _) ?_
    rintro _ _ _ _ ⟨rfl, rfl, rfl⟩
    refine Ot rfl rfl ?_
    exact o_fin 5 rfl rfl hk
   ·intro _ hk
    refine o_skips 5 rfl ?_
    refine Of rfl rfl ?_
    exact o_fin 5 rfl rfl hk
   refine Oa rfl (o_done (s_ret (.tmp rfl .nil) ?_))
   refine only rfl ?_
   rfl
  intro c0
  try simp only [nb] at c0
  refine s_skip (Se rfl ?_)
  refine o_lOS rfl .free rfl ?_
  refine o_call rfl .free rfl (f_form_head hf.rep _) ?_
  rintro _ _ _ _ ⟨rfl, rfl, rfl⟩
  refine Od rfl rfl rfl (Om rfl ?_)
  apply o_or 20 28 rfl
  ·intro g3_4 hk
   try simp only [nb] at g3_4
   refine o_lOS rfl (.met rfl rfl) rfl ?_
   refine o_call rfl (.met rfl rfl) rfl (f_form_isAtom hf.rep _) ?_
   rintro _ _ _ _ ⟨rfl, rfl, rfl⟩
   refine Ow rfl ?_
   apply o_and 23 27 rfl
   ·intro g3_7 hk
    try simp only [nb] at g3_7
    refine o_fieldAddr rfl (.met rfl rfl) rfl ?_
    refine o_lO1 rfl (.met rfl rfl) rfl ?_
    refine o_call rfl (.met rfl rfl) rfl (f_isNumeral e.tree.atom ha _ _) ?_
    rintro _ _ _ _ ⟨rfl, rfl, rfl⟩
    refine o_pick_true rfl rfl (.met rfl rfl) rfl ?_
    exact o_fin 3 rfl rfl hk
   ·intro _ hk
    refine o_skips 3 rfl ?_
    refine o_pick_false rfl rfl (.met rfl rfl) rfl ?_
    exact o_fin 3 rfl rfl hk
   refine Of rfl rfl ?_
   exact o_fin 4 rfl rfl hk
  ·intro _ hk
   refine o_skips 7 rfl ?_
   refine Ot rfl rfl ?_
   exact o_fin 7 rfl rfl hk
  refine Oa rfl (o_done (s_ret (.tmp rfl .nil) ?_))
  refine only rfl ?_
  rw [Ex.value_other hok (Ex.not_pair c0)]; rfl
theorem g_l4Is : ∀ (n : Nat) {I : Heap} {e : Ex} {cs : List Value} (_ : SizeOf.sizeOf e < n) (_ : Rep I e.tree cs) (_ : e.ok = true) (L : Own), Fun Tryz.prog 36 [.agg cs.toArray] I L (Only (.bool e.value) I L) := by
 intro n
 induction n with
 | zero => intro I e cs h; omega
 | succ n ihn =>
  intro I e cs hlt h hok L
  obtain ⟨oa, c, oaf, cf, rfl, hf⟩ := h.at'
  have ha := hf.alen
  refine fun_intro (by simp) ?_
  refine Se rfl ?_
  refine o_box rfl rfl .free rfl ?_
  intro b1
  refine Oa rfl (o_done (s_seq (Se rfl (Oh rfl ?_))))
  refine o_lO1 rfl .free rfl ?_
  refine Od rfl rfl rfl (o_done ?_)
  refine s_cond rfl ?_ ?_
  ·intro c0
   try simp only [nb] at c0
   refine Se rfl (Oh rfl ?_)
   refine o_lO1 rfl .free rfl ?_
   refine o_call rfl .free rfl (g_l2Name e.tree.atom ha _ _) ?_
   rintro _ _ _ _ ⟨rfl, rfl, rfl⟩
   refine o_not rfl .free rfl ?_
   refine Oa rfl (o_done (s_ret (.tmp rfl .nil) ?_))
   refine only rfl ?_
   have hb : e.bare = true := by
    cases hb : e.bare with
    | true => rfl
    | false => exact absurd ((Ex.atom_iff hok).2 hb) c0
   cases e with
   | num s =>
    have h2 : isName s = false := by
     cases h3 : isName s with
     | false => rfl
     | true => have h4 := name_not_num h3; rw [show isNum s = true from hok] at h4; cases h4
    simp [retOne, Ex.tree, Tree.atom, h2, Ex.value]
   | name s => simp [retOne, Ex.tree, Tree.atom, show isName s = true from hok, Ex.value]
   | _ => cases hb
  intro c0
  try simp only [nb] at c0
  obtain ⟨hne, h0⟩ := good_ne (Ex.tree_good hok).1 (by simpa using c0)
  have hhd := head_at h0
  refine s_skip (s_seq (Se rfl (Oh rfl ?_)))
  refine o_lO1 rfl .free rfl ?_
  first | refine o_ixD rfl rfl 0 rfl .free rfl ?_ | refine o_ixP rfl rfl 0 rfl .free rfl ?_
  refine o_fieldAddr' rfl .free rfl ?_
  refine o_lIF rfl .free rfl ?_
  refine Od rfl rfl rfl (o_done ?_)
  refine s_cond rfl ?_ ?_
  ·intro c1
   try simp only [nb] at c1
   obtain ⟨a, b, rfl⟩ := Ex.of_bin (o := .pair) (hhd.trans c1)
   simp only [Ex.ok, Bool.and_eq_true] at hok
   simp only [Ex.bin.sizeOf_spec] at hlt
   have hlen : (Ex.bin .pair a b).tree.parts.length = 3 := rfl
   refine Se rfl (Oh rfl ?_)
   refine o_lO1 rfl .free rfl ?_
   first | refine o_ixD rfl rfl 1 rfl .free rfl ?_ | refine o_ixP rfl rfl 1 rfl .free rfl ?_
   refine o_lIS rfl .free rfl ?_
   refine o_call rfl .free rfl (ihn (by omega) (hf.as 1 a.tree (by omega) rfl) hok.1 _) ?_
   rintro _ _ _ _ ⟨rfl, rfl, rfl⟩
   refine Om rfl ?_
   apply o_and 21 27 rfl
   ·intro g4_6 hk
    try simp only [nb] at g4_6
    refine o_fieldAddr rfl (.met rfl rfl) rfl ?_
    refine o_lO1 rfl (.met rfl rfl) rfl ?_
    first | refine o_ixD rfl rfl 2 rfl (.met rfl rfl) rfl ?_ | refine o_ixP rfl rfl 2 rfl (.met rfl rfl) rfl ?_
    refine o_lIS rfl (.met rfl rfl) rfl ?_
    refine o_call rfl (.met rfl rfl) rfl (ihn (by omega) (hf.as 2 b.tree (by omega) rfl) hok.2 _) ?_
    rintro _ _ _ _ ⟨rfl, rfl, rfl⟩
    refine Ot rfl rfl ?_
    exact o_fin 5 rfl rfl hk
   ·intro _ hk
    refine o_skips 5 rfl ?_
    refine Of rfl rfl ?_
    exact o_fin 5 rfl rfl hk
   refine Oa rfl (o_done (s_ret (.tmp rfl .nil) ?_))
   refine only rfl ?_
   rfl
  intro c1
  try simp only [nb] at c1
  refine s_skip (Se rfl (Oh rfl ?_))
  refine o_lO1 rfl .free rfl ?_
  first | refine o_ixD rfl rfl 0 rfl .free rfl ?_ | refine o_ixP rfl rfl 0 rfl .free rfl ?_
  refine o_fieldAddr' rfl .free rfl ?_
  refine o_lIF rfl .free rfl ?_
  refine Od rfl rfl rfl (Oa rfl (o_done (s_ret (.tmp rfl .nil) ?_)))
  refine only rfl ?_
  rw [Ex.value_other hok (by rintro a b rfl; exact c1 rfl), hhd]
  have : e.tree.parts.isEmpty = false := by cases hh : e.tree.parts with
   | nil => exact absurd hh hne
   | cons => rfl
  rw [this]; simp only [Bool.false_and, Bool.or_false]; rfl
theorem pair_text (a b : Tree) : (Tree.node [] [.node tPair [], a, b]).text = [40, 112, 97, 105, 114, 32] ++ a.text ++ [32] ++ b.text ++ [41] := by
 simp [Tree.text, textL, tPair]
/-- A value, if the text is one. -/
def valueOf (s : Txt) : Option Ex := match closedOf s with
 | some e => if e.value = true then some e else none
 | none => none
def printOf (s : Txt) : Option Txt := (valueOf s).map fun e => e.print.text
theorem f_value_rx {I : Heap} {s : Txt} {t : Tree} {cs : List Value} {ok : Bool} (h : Rep I t cs) (hpf : match closedOf s with | some e => ok = true ∧ t = e.tree | none => ok = false) (hc : ok = true) (L : Own) :
  Fun Tryz.prog 43 [.agg cs.toArray] I L (Only (.bool (valueOf s).isSome) I L) := by
 cases hcl : closedOf s with
 | none => rw [hcl] at hpf; rw [hpf] at hc; cases hc
 | some e =>
  rw [hcl] at hpf
  obtain ⟨_, rfl⟩ := hpf
  obtain ⟨h2, h3⟩ := closedOf_some hcl
  have h4 := (exOf_some h2).2.1
  simp only [Ex.fine, Bool.and_eq_true] at h4
  have : (valueOf s).isSome = e.value := by unfold valueOf; rw [hcl]; cases hv : e.value <;> simp [hv]
  rw [this]; exact f_form_isValue _ (Nat.lt_succ_self _) h h4.1.1 L
theorem valueOf_none {s : Txt} (h : closedOf s = none) : valueOf s = none := by unfold valueOf; rw [h]
theorem valueOf_some {s : Txt} (h : (valueOf s).isSome = true) : ∃ e, valueOf s = some e ∧ exOf s = some e ∧ closedOf s = some e ∧ e.value = true ∧ e.ok = true ∧ e.tree.len ≤ 12000 := by
 cases hv : valueOf s with
 | none => rw [hv] at h; cases h
 | some e =>
  unfold valueOf at hv
  cases hc : closedOf s with
  | none => rw [hc] at hv; cases hv
  | some e' =>
   rw [hc] at hv
   simp only at hv
   split at hv
   ·rename_i hval
    cases hv
    have h1 := (closedOf_some hc).1
    have h2 := (exOf_some h1).2.1
    simp only [Ex.fine, Bool.and_eq_true, Tree.fits, decide_eq_true_eq] at h2
    exact ⟨e, rfl, h1, rfl, hval, h2.1.1, h2.2.2⟩
   ·cases hv
def Ty.sample : Ty → Ex
 | .i => .num [48]
 | .pr a b => .bin .pair a.sample b.sample
 | .fn a b => .fn [102] [120] a b b.sample
theorem Ty.sample_ok : ∀ {t : Ty}, t.size ≤ 16 → t.sample.ok = true
 | .i, _ => by decide
 | .pr a b, h => by
  simp only [Ty.size] at h
  simp only [Ty.sample, Ex.ok, Bool.and_eq_true]
  exact ⟨Ty.sample_ok (by omega), Ty.sample_ok (by omega)⟩
 | .fn a b, h => by
  simp only [Ty.size] at h
  simp only [Ty.sample, Ex.ok, Bool.and_eq_true, decide_eq_true_eq]
  exact ⟨⟨⟨⟨⟨by decide, by decide⟩, by decide⟩, by omega⟩, by omega⟩, Ty.sample_ok (by omega)⟩
theorem Ty.sample_len : ∀ {t : Ty}, t.size ≤ 16 → t.sample.tree.len ≤ 200 * t.size
 | .i, _ => by decide
 | .pr a b, h => by
  simp only [Ty.size] at h ⊢
  have h1 := Ty.sample_len (t := a) (by omega)
  have h2 := Ty.sample_len (t := b) (by omega)
  simp only [Ty.sample, Ex.tree, Tree.len, lenL, List.isEmpty_cons, cond_false, List.isEmpty_nil, cond_true, B5.txt, tPair, List.length_cons, List.length_nil]
  omega
 | .fn a b, h => by
  simp only [Ty.size] at h ⊢
  have h2 := Ty.sample_len (t := b) (by omega)
  have h3 := a.tree_small
  have h4 := b.tree_small
  simp only [Ty.sample, Ex.tree, Tree.len, lenL, List.isEmpty_cons, cond_false, List.isEmpty_nil, cond_true, tFun, List.length_cons, List.length_nil]
  omega
theorem Ty.sample_chk : ∀ {t : Ty} {l : List Txt} {m : List Ty}, t.size ≤ 16 → t.sample.chk l m = .ok t
 | .i, l, m, _ => rfl
 | .pr a b, l, m, h => by
  have h0 := h
  simp only [Ty.size] at h
  simp only [Ty.sample, Ex.chk, Ty.sample_chk (t := a) (l := l) (m := m) (by omega), Ty.sample_chk (t := b) (l := l) (m := m) (by omega), B5.ty, if_pos h0]
 | .fn a b, l, m, h => by
  have h0 := h
  simp only [Ty.size] at h
  simp only [Ty.sample, Ex.chk, if_pos h0, Ty.sample_chk (t := b) (by omega), if_true]
theorem Ty.sample_value : ∀ t : Ty, t.sample.value = true
 | .i => rfl
 | .pr a b => by simp [Ty.sample, Ex.value, a.sample_value, b.sample_value]
 | .fn a b => rfl
def Ex.txt (e : Ex) : Txt := e.tree.text
theorem Ty.sample_textlen {t : Ty} (h : t.size ≤ 16) : t.sample.tree.text.length ≤ 3200 := by
 have := Ty.sample_len h; rw [Tree.text_len]; omega
theorem fun_text (f x : Txt) (s t : Ty) (b : Ex) : (Ex.fn f x s t b).tree.text = [40, 102, 117, 110, 32] ++ f ++ [32] ++ x ++ [32] ++ s.tree.text ++ [32] ++ t.tree.text ++ [32] ++ b.tree.text ++ [41] := by
 simp [Ex.tree, Tree.text, textL, tFun]
/-- What 'ExprOf' returns. -/
def ofOf (s : Txt) : Option Txt := match tyOf s with
 | some t => if t.sample.fine = true then some t.sample.tree.text else none
 | none => none
theorem ofOf_none {s : Txt} (h : tyOf s = none) : ofOf s = none := by unfold ofOf; rw [h]
theorem ofOf_some {s : Txt} {t : Ty} (h : tyOf s = some t) : ofOf s = if t.sample.fine = true then some t.sample.tree.text else none := by unfold ofOf; rw [h]
theorem of_facts {s o : Txt} (h : ofOf s = some o) : ∃ t, tyOf s = some t ∧ s = t.tree.text ∧ exOf o = some t.sample ∧ closedOf o = some t.sample ∧ tyC o = some t ∧ (valueOf o).isSome = true ∧ o.length ≤ 3200 := by
 cases ht : tyOf s with
 | none => rw [ofOf_none ht] at h; cases h
 | some t =>
  rw [ofOf_some ht] at h
  obtain ⟨h1, h2, h3⟩ := tyOf_some ht
  split at h
  ·rename_i hf
   cases h
   have hx := exOf_text (Ty.sample_ok h2)
   rw [if_pos hf] at hx
   have hty : t.sample.ty [] [] = some t := by unfold Ex.ty; rw [Ty.sample_chk h2]
   have hc : closedOf t.sample.tree.text = some t.sample := by
    unfold closedOf; rw [hx]; simp [Ex.ty_closed hty]
   refine ⟨t, rfl, h3, hx, hc, ?_, ?_, Ty.sample_textlen h2⟩
   ·unfold tyC; rw [hx]; exact hty
   ·unfold valueOf; rw [hc]; simp [t.sample_value]
  ·cases h
theorem g_l3Of : ∀ (n : Nat) {I : Heap} {t : Ty} {cs : List Value} (_ : SizeOf.sizeOf t < n) (_ : Rep I t.tree cs) (_ : t.size ≤ 16) (L : Own), Fun Tryz.prog 136 [.agg cs.toArray] I L (Only (.string (str t.sample.tree.text)) I L) := by
 intro n
 induction n with
 | zero => intro I t cs h; omega
 | succ n ihn =>
  intro I t cs hlt h hsz L
  obtain ⟨oc, cc, oaf, cf, rfl, hf⟩ := h.at'
  have hg := t.tree_good.1
  have hfn := hf.nil
  refine fun_intro (by simp) ?_
  refine Se rfl ?_
  refine o_box rfl rfl .free rfl ?_
  intro b1
  refine Oa rfl (o_done (s_seq (Se rfl (Oh rfl ?_))))
  refine o_lO1 rfl .free rfl ?_
  refine Od rfl rfl rfl (o_done ?_)
  refine s_cond rfl ?_ ?_
  ·intro c0
   try simp only [nb] at c0
   refine Se rfl (Oa rfl (o_done (s_ret (.tmp rfl .nil) ?_)))
   refine only rfl ?_
   cases t with
   | i => rfl
   | fn a b => exact absurd rfl c0
   | pr a b => exact absurd rfl c0
  intro c0
  try simp only [nb] at c0
  have hpl : t.tree.parts.length = 3 := by
   cases t with
   | i => exact absurd c0 (by decide)
   | fn a b => rfl
   | pr a b => rfl
  have hhd := head_at (t := t.tree) (by omega)
  refine s_skip (s_seq (Se rfl (Oh rfl ?_)))
  refine o_lO1 rfl .free rfl ?_
  first | refine o_ixD rfl rfl 0 rfl .free rfl ?_ | refine o_ixP rfl rfl 0 rfl .free rfl ?_
  refine o_fieldAddr' rfl .free rfl ?_
  refine o_lIF rfl .free rfl ?_
  refine Od rfl rfl rfl (o_done ?_)
  refine s_cond rfl ?_ ?_
  ·intro c1
   try simp only [nb] at c1
   obtain ⟨a, b, rfl⟩ : ∃ a b, t = .pr a b := by
    cases t with
    | i => exact absurd c0 (by decide)
    | pr a b => exact ⟨a, b, rfl⟩
    | fn a b => exact absurd (show ([62] : Txt) = [42] from c1) (by decide)
   simp only [Ty.pr.sizeOf_spec] at hlt
   simp only [Ty.size] at hsz
   have ha16 : a.size ≤ 16 := by omega
   have hb16 : b.size ≤ 16 := by omega
   have hl1 := Ty.sample_textlen ha16
   have hl2 := Ty.sample_textlen hb16
   refine s_seq ?_
   refine d_all 15 rfl rfl ?_
   refine Da 0 rfl (y_fieldAddr rfl) ?_
   refine Dt 1 [15] rfl (y_lO1 rfl) ?_
   first | refine Da 2 rfl (y_ixD rfl rfl 1 rfl) ?_ | refine Da 2 rfl (y_ixP rfl rfl 1 rfl) ?_
   refine Dt 3 [15] rfl (y_lIS rfl) ?_
   refine Da 7 rfl (y_fieldAddr rfl) ?_
   refine Dt 8 [15] rfl (y_lO1 rfl) ?_
   first | refine Da 9 rfl (y_ixD rfl rfl 2 rfl) ?_ | refine Da 9 rfl (y_ixP rfl rfl 2 rfl) ?_
   refine Dt 10 [15] rfl (y_lIS rfl) ?_
   refine d_call 4 rfl (by kernel_rfl) rfl rfl .free rfl (ihn (t := a) (by omega) (hf.as 1 a.tree (by omega) rfl) ha16 _) ?_
   rintro _ _ _ _ ⟨rfl, rfl, rfl⟩
   refine ⟨(.inr heldx), ?_⟩
   refine d_takeA 5 rfl (by kernel_rfl) rfl (.inr heldx) (y_concat rfl rfl (by first | omega | (simp only [List.length_append, List.length_cons, List.length_nil]; omega) | (simp; omega))) .free rfl ?_
   refine d_takeA 6 rfl (by kernel_rfl) rfl (.inr heldx) (y_concat rfl rfl (by first | omega | (simp only [List.length_append, List.length_cons, List.length_nil]; omega) | (simp; omega))) .free rfl ?_
   refine d_call 11 rfl (by kernel_rfl) rfl rfl .free rfl (ihn (t := b) (by omega) (hf.as 2 b.tree (by omega) rfl) hb16 _) ?_
   rintro _ _ _ _ ⟨rfl, rfl, rfl⟩
   refine ⟨(.inr heldx), ?_⟩
   refine d_takeA 12 rfl (by kernel_rfl) rfl (.inr heldx) (y_concat rfl rfl (by first | omega | (simp only [List.length_append, List.length_cons, List.length_nil]; omega) | (simp; omega))) .free rfl ?_
   refine d_takeA 13 rfl (by kernel_rfl) rfl (.inr heldx) (y_concat rfl rfl (by first | omega | (simp only [List.length_append, List.length_cons, List.length_nil]; omega) | (simp; omega))) .free rfl ?_
   refine Da 14 rfl (y_assign rfl) ?_
   refine d_done (by kernel_rfl) ?_
   refine s_ret (.tmp rfl .nil) ?_
   refine only rfl ?_
   have := pair_text a.sample.tree b.sample.tree
   rw [show (Ty.pr a b).sample.tree.text = _ from this]; rfl
  intro c1
  try simp only [nb] at c1
  obtain ⟨a, b, rfl⟩ : ∃ a b, t = .fn a b := by
   cases t with
   | i => exact absurd c0 (by decide)
   | fn a b => exact ⟨a, b, rfl⟩
   | pr a b => exact absurd rfl c1
  simp only [Ty.fn.sizeOf_spec] at hlt
  simp only [Ty.size] at hsz
  have ha16 : a.size ≤ 16 := by omega
  have hb16 : b.size ≤ 16 := by omega
  have hl1 := Ty.text_len ha16
  have hl2 := Ty.text_len hb16
  have hl3 := Ty.sample_textlen hb16
  have hs1 := a.tree_small
  have hs2 := b.tree_small
  refine s_skip (s_seq ?_)
  refine d_all 22 rfl rfl ?_
  refine Da 0 rfl (y_fieldAddr rfl) ?_
  refine Dt 1 [22] rfl (y_lO1 rfl) ?_
  first | refine Da 2 rfl (y_ixD rfl rfl 1 rfl) ?_ | refine Da 2 rfl (y_ixP rfl rfl 1 rfl) ?_
  refine Dt 3 [22] rfl (y_lIS rfl) ?_
  refine Da 7 rfl (y_fieldAddr rfl) ?_
  refine Dt 8 [22] rfl (y_lO1 rfl) ?_
  first | refine Da 9 rfl (y_ixD rfl rfl 2 rfl) ?_ | refine Da 9 rfl (y_ixP rfl rfl 2 rfl) ?_
  refine Dt 10 [22] rfl (y_lIS rfl) ?_
  refine Da 14 rfl (y_fieldAddr rfl) ?_
  refine Dt 15 [22] rfl (y_lO1 rfl) ?_
  first | refine Da 16 rfl (y_ixD rfl rfl 2 rfl) ?_ | refine Da 16 rfl (y_ixP rfl rfl 2 rfl) ?_
  refine Dt 17 [22] rfl (y_lIS rfl) ?_
  refine d_call 4 rfl (by kernel_rfl) rfl rfl .free rfl (g_l1Text (t := a.tree) _ (Nat.lt_succ_self _) (hf.as 1 a.tree (by omega) rfl) a.tree_good.1 (by omega) _) ?_
  rintro _ _ _ _ ⟨rfl, rfl, rfl⟩
  refine ⟨(.inr heldx), ?_⟩
  refine d_takeA 5 rfl (by kernel_rfl) rfl (.inr heldx) (y_concat rfl rfl (by first | omega | (simp only [List.length_append, List.length_cons, List.length_nil]; omega) | (simp; omega))) .free rfl ?_
  refine d_takeA 6 rfl (by kernel_rfl) rfl (.inr heldx) (y_concat rfl rfl (by first | omega | (simp only [List.length_append, List.length_cons, List.length_nil]; omega) | (simp; omega))) .free rfl ?_
  refine d_call 11 rfl (by kernel_rfl) rfl rfl .free rfl (g_l1Text (t := b.tree) _ (Nat.lt_succ_self _) (hf.as 2 b.tree (by omega) rfl) b.tree_good.1 (by omega) _) ?_
  rintro _ _ _ _ ⟨rfl, rfl, rfl⟩
  refine ⟨(.inr heldx), ?_⟩
  refine d_takeA 12 rfl (by kernel_rfl) rfl (.inr heldx) (y_concat rfl rfl (by first | omega | (simp only [List.length_append, List.length_cons, List.length_nil]; omega) | (simp; omega))) .free rfl ?_
  refine d_takeA 13 rfl (by kernel_rfl) rfl (.inr heldx) (y_concat rfl rfl (by first | omega | (simp only [List.length_append, List.length_cons, List.length_nil]; omega) | (simp; omega))) .free rfl ?_
  refine d_call 18 rfl (by kernel_rfl) rfl rfl .free rfl (ihn (t := b) (by omega) (hf.as 2 b.tree (by omega) rfl) hb16 _) ?_
  rintro _ _ _ _ ⟨rfl, rfl, rfl⟩
  refine ⟨(.inr heldx), ?_⟩
  refine d_takeA 19 rfl (by kernel_rfl) rfl (.inr heldx) (y_concat rfl rfl (by first | omega | (simp only [List.length_append, List.length_cons, List.length_nil]; omega) | (simp; omega))) .free rfl ?_
  refine d_takeA 20 rfl (by kernel_rfl) rfl (.inr heldx) (y_concat rfl rfl (by first | omega | (simp only [List.length_append, List.length_cons, List.length_nil]; omega) | (simp; omega))) .free rfl ?_
  refine Da 21 rfl (y_assign rfl) ?_
  refine d_done (by kernel_rfl) ?_
  refine s_ret (.tmp rfl .nil) ?_
  refine only rfl ?_
  have := fun_text [102] [120] a b b.sample
  rw [show (Ty.fn a b).sample.tree.text = _ from this]; rfl
def smp (t : Tree) : Ex := (t.ty.getD .i).sample
theorem smp_tree (a : Ty) : smp a.tree = a.sample := by unfold smp; rw [a.tree_ty]; rfl
theorem g_l3Of' {I : Heap} {t : Tree} {cs : List Value} (h : Rep I t cs) (ht : ∃ a : Ty, t = a.tree ∧ a.size ≤ 16) (L : Own) : Fun Tryz.prog 136 [.agg cs.toArray] I L (Only (.string (str (smp t).tree.text)) I L) := by
 obtain ⟨a, rfl, h1⟩ := ht
 rw [smp_tree]
 exact g_l3Of _ (Nat.lt_succ_self _) h h1 L
theorem g_ExprOf (s : Txt) (hs : s.length ≤ maxN) (I : Heap) (L : Own) : Fun Tryz.prog 94 [.string (str s)] I L (EL (ofOf s) L) := by
 refine fun_intro (by simp) ?_
 refine Se rfl (Oa rfl (Oa rfl (o_done (Se rfl (Om rfl ?_)))))
 refine o_call rfl .free rfl (g_l1Parse s hs _ _) ?_
 rintro _ J _ e1 ⟨t, cs, ok, rfl, hrep, rfl, hpf⟩
 obtain ⟨o1, k1, _, rfl, -⟩ := hrep.open
 have hty := tyOf_read hpf
 refine Om rfl (Oe rfl rfl (Oe rfl rfl ?_))
 refine o_alloc .free rfl ?_
 intro b4
 refine o_st rfl rfl rfl rfl .free ?_
 refine Oa rfl (o_done (s_seq (Se rfl (Om rfl ?_))))
 refine o_not rfl .free rfl ?_
 refine Om rfl ?_
 apply o_or 13 17 rfl
 ·intro g2_3 hk
  try simp only [nb] at g2_3
  have hp := parse_good (RD_some hpf g2_3)
  refine o_lOS rfl (.met rfl rfl) rfl ?_
  refine o_call rfl (.met rfl rfl) rfl (g_l1Typed hrep hp.1 (Tree.size_maxN hp.2.1) _) ?_
  rintro _ _ _ _ ⟨rfl, rfl, rfl⟩
  refine o_not rfl (.met rfl rfl) rfl ?_
  refine Of rfl rfl ?_
  exact o_fin 3 rfl rfl hk
 ·intro _ hk
  refine o_skips 3 rfl ?_
  refine Ot rfl rfl ?_
  exact o_fin 3 rfl rfl hk
 refine Om rfl ?_
 apply o_or 18 23 rfl
 ·intro g2_8 hk
  try simp only [nb] at g2_8
  obtain ⟨a, ha, hta, hsz⟩ := hty.1 g2_8.1 g2_8.2
  have hl : (smp t).tree.text.length ≤ 3200 := by rw [hta, smp_tree]; exact Ty.sample_textlen hsz
  refine o_lOS rfl (.met rfl rfl) rfl ?_
  refine o_call rfl (.met rfl rfl) rfl (g_l3Of' hrep ⟨a, hta, hsz⟩ _) ?_
  rintro _ _ _ _ ⟨rfl, rfl, rfl⟩
  refine o_call rfl (.met rfl rfl) rfl (g_ExprValid _ (by unfold maxN; omega) _ _) ?_
  rintro _ _ _ _ ⟨rfl, rfl, rfl⟩
  refine o_not rfl (.met rfl rfl) rfl ?_
  refine Of rfl rfl ?_
  exact o_fin 4 rfl rfl hk
 ·intro _ hk
  refine o_skips 4 rfl ?_
  refine Ot rfl rfl ?_
  exact o_fin 4 rfl rfl hk
 refine o_done ?_
 refine s_cond rfl ?_ ?_
 ·intro c0
  try simp only [nb] at c0
  refine Se rfl (Oa rfl (Oa rfl (o_done ?_)))
  refine s_ret (.tmp rfl (.tmp rfl .nil)) ?_
  refine ⟨J, L, e1, drops, ?_, rfl⟩
  have hz : ofOf s = none := by
   by_cases h1 : ok = true
   ·by_cases h2 : t.typed = true
    ·obtain ⟨a, ha, hta, hsz⟩ := hty.1 h1 h2
     rcases c0 with (h | h) | h
     ·rw [h1] at h; cases h
     ·rw [h2] at h; cases h
     ·rw [hta, smp_tree, exOf_text (Ty.sample_ok hsz)] at h
      rw [ofOf_some ha]
      cases hf : a.sample.fine with
      | true => rw [hf] at h; cases h
      | false => rfl
    ·exact ofOf_none (hty.2 (.inr (by simpa using h2)))
   ·exact ofOf_none (hty.2 (.inl (by simpa using h1)))
  rw [hz]; rfl
 intro c0
 try simp only [nb] at c0
 obtain ⟨⟨h1, h2⟩, h3⟩ := c0
 obtain ⟨a, ha, rfl, hsz⟩ := hty.1 h1 h2
 refine s_skip (Se rfl ?_)
 refine o_lOS rfl .free rfl ?_
 refine o_call rfl .free rfl (g_l3Of _ (Nat.lt_succ_self _) hrep hsz _) ?_
 rintro _ _ _ _ ⟨rfl, rfl, rfl⟩
 refine Oa rfl (Oa rfl (o_done ?_))
 refine s_ret (.tmp rfl (.tmp rfl .nil)) ?_
 refine ⟨J, L, e1, drops, ?_, rfl⟩
 rw [smp_tree, exOf_text (Ty.sample_ok hsz)] at h3
 cases hf : a.sample.fine with
 | false => rw [hf] at h3; cases h3
 | true => rw [ofOf_some ha, if_pos hf]; rfl
theorem f_ValueIs (s : Txt) (hs : s.length ≤ maxN) (I : Heap) (L : Own) : Fun Tryz.prog 14 [.string (str s)] I L (fun v I' L' => v = .bool (valueOf s).isSome ∧ L = L') := by
 refine fun_intro (by simp) ?_
 refine Se rfl (Oa rfl (o_done (Se rfl (Om rfl ?_))))
 refine o_call rfl .free rfl (f_readClosed s hs _ _) ?_
 rintro _ J1 _ e1 ⟨t, cs, ok, rfl, hrep, rfl, hpf⟩
 obtain ⟨o1, k1, _, rfl, -⟩ := hrep.open
 have g1 := RX_get hpf
 refine Om rfl (Oe rfl rfl (Oe rfl rfl ?_))
 refine o_alloc .free rfl ?_
 intro b3
 refine o_st rfl rfl rfl rfl .free ?_
 refine Oa rfl (o_done (Se rfl (Om rfl (Om rfl ?_))))
 apply o_and 11 14 rfl
 ·intro g2_2 hk
  try simp only [nb] at g2_2
  refine o_lOS rfl (.met rfl rfl) rfl ?_
  refine o_call rfl (.met rfl rfl) rfl (f_value_rx hrep hpf g2_2 _) ?_
  rintro _ _ _ _ ⟨rfl, rfl, rfl⟩
  refine Ot rfl rfl ?_
  exact o_fin 2 rfl rfl hk
 ·intro _ hk
  refine o_skips 2 rfl ?_
  refine Of rfl rfl ?_
  exact o_fin 2 rfl rfl hk
 refine Oa rfl (o_done (s_ret (.tmp rfl .nil) ?_))
 refine ⟨J1, L, e1, drops, ?_, rfl⟩
 cases ok with
 | false => rw [valueOf_none (g1.1 rfl)]; rfl
 | true => simp [retOne]
/-- Names with types, as a draw goes on with them. -/
structure ScAt (I : Heap) (ns ts : List Txt) (oa : Option Addr) (c : Nat) (ob : Option Addr) (c' : Nat) : Prop where
 names : Strs I oa ns c
 types : Strs I ob ts c'
 len : ns.length = ts.length
 nb : ∀ s ∈ ns, s.length ≤ 4
 tb : ∀ s ∈ ts, s.length ≤ 1000
theorem ScAt.mono {I I' : Heap} (hle : HLe I I') {ns ts : List Txt} {oa : Option Addr} {c : Nat} {ob : Option Addr} {c' : Nat} (h : ScAt I ns ts oa c ob c') : ScAt I' ns ts oa c ob c' :=
 ⟨h.names.mono hle, h.types.mono hle, h.len, h.nb, h.tb⟩
def RSc (ns ts : List Txt) (L : Own) : Post := fun v I' L' => ∃ oa c ob c', v = .agg [.slice oa (List.length ns) c, .slice ob (List.length ts) c'].toArray ∧ ScAt I' ns ts oa c ob c' ∧ L = L'
theorem g_l91More {I : Heap} {ns ts : List Txt} {oa ob : Option Addr} {c c' : Nat} (h : ScAt I ns ts oa c ob c') (x k : Txt) (hx : x.length ≤ 4) (hk : k.length ≤ 1000) (hn : ns.length ≤ 200) (L : Own) :
  Fun Tryz.prog 140 [.agg [.slice oa ns.length c, .slice ob ts.length c'].toArray, .string (str x), .string (str k)] I L (RSc (ns ++ [x]) (ts ++ [k]) L) := by
 have hlen := h.len
 have hlr : HLe I I := .refl _
 have hxm : x.length ≤ maxN := by unfold maxN; omega
 have hkm : k.length ≤ maxN := by unfold maxN; omega
 refine fun_intro (by simp) ?_
 refine Se rfl ?_
 refine o_box rfl rfl .free rfl ?_
 intro b3
 refine o_alloc .free rfl ?_
 intro b6
 refine o_done (s_seq ?_)
 refine d_all 12 rfl rfl ?_
 refine Da 0 rfl (y_fieldAddr rfl) ?_
 refine Dt 1 [11] rfl (y_lO1 rfl) ?_
 refine Da 2 rfl (y_move rfl) ?_
 refine Da 5 rfl (y_fieldAddr rfl) ?_
 refine Dt 6 [11] rfl (y_lO1 rfl) ?_
 refine Da 7 rfl (y_move rfl) ?_
 refine d_two 3 8 (by kernel_rfl) ?_ ?_
 ·skip
  refine i_lits 3 rfl rfl rfl rfl (by rfl) (by rfl) (by rfl) (by decide) (by decide) (by rfl) .free rfl (.inr heldx) ?_
  intro b10
  refine d_freeze ?_
  intro hz
  have hlr := hlr.trans hz
  have h := h.mono hz
  have hk1 := strs_lit1 hz hxm
  try have hk2 := hk2.mono hz
  refine d_two 4 8 (by kernel_rfl) ?_ ?_
  ·skip
   refine i_call 4 rfl rfl rfl .free rfl (g_l3With h.names hk1 (by simp; unfold maxN; omega) _) ?_
   rintro _ J2 _ e2 ⟨o3, c3', rfl, hn3, rfl⟩
   have hlr := hlr.trans e2
   have h := h.mono e2
   try have hk2 := hk2.mono e2
   refine ⟨(.inr heldx), ?_⟩
   refine d_lits 8 rfl (by kernel_rfl) rfl rfl rfl (by rfl) (by rfl) (by rfl) (by decide) (by decide) (by rfl) .free rfl (.inr heldx) ?_
   intro b15
   refine d_freeze ?_
   intro hz
   have hlr := hlr.trans hz
   have h := h.mono hz
   have hk2 := strs_lit1 hz hkm
   try have hk1 := hk1.mono hz
   try have hn3 := hn3.mono hz
   refine d_call 9 rfl (by kernel_rfl) rfl rfl .free rfl (g_l3With h.types hk2 (by simp; unfold maxN; omega) _) ?_
   rintro _ J3 _ e3 ⟨o4, c4', rfl, hn4, rfl⟩
   have hlr := hlr.trans e3
   have hn3 := hn3.mono e3
   refine ⟨(.inr heldx), ?_⟩
   refine Da 10 rfl (y_struct rfl rfl rfl) ?_
   refine d_st 11 rfl (by kernel_rfl) rfl rfl rfl rfl rfl .free (.inl (by kernel_rfl)) ?_
   refine d_done (by kernel_rfl) ?_
   refine s_ret (.c rfl .nil) ?_
   exact ⟨J3, L, hlr, drops, o3, c3', o4, c4', rfl, ⟨hn3, hn4, by simp [hlen], (fun s hs => by rcases List.mem_append.1 hs with hs | hs; exact h.nb s hs; rw [List.mem_singleton.1 hs]; exact hx), (fun s hs => by rcases List.mem_append.1 hs with hs | hs; exact h.tb s hs; rw [List.mem_singleton.1 hs]; exact hk)⟩, rfl⟩
  ·skip
   refine i_lits 8 rfl rfl rfl rfl (by rfl) (by rfl) (by rfl) (by decide) (by decide) (by rfl) .free rfl (.inr heldx) ?_
   intro b15
   refine d_freeze ?_
   intro hz
   have hlr := hlr.trans hz
   have h := h.mono hz
   have hk2 := strs_lit1 hz hkm
   try have hk1 := hk1.mono hz
   try have hn3 := hn3.mono hz
   refine d_call 4 rfl (by kernel_rfl) rfl rfl .free rfl (g_l3With h.names hk1 (by simp; unfold maxN; omega) _) ?_
   rintro _ J2 _ e2 ⟨o3, c3', rfl, hn3, rfl⟩
   have hlr := hlr.trans e2
   have h := h.mono e2
   try have hk2 := hk2.mono e2
   refine ⟨(.inr heldx), ?_⟩
   refine d_call 9 rfl (by kernel_rfl) rfl rfl .free rfl (g_l3With h.types hk2 (by simp; unfold maxN; omega) _) ?_
   rintro _ J3 _ e3 ⟨o4, c4', rfl, hn4, rfl⟩
   have hlr := hlr.trans e3
   have hn3 := hn3.mono e3
   refine ⟨(.inr heldx), ?_⟩
   refine Da 10 rfl (y_struct rfl rfl rfl) ?_
   refine d_st 11 rfl (by kernel_rfl) rfl rfl rfl rfl rfl .free (.inl (by kernel_rfl)) ?_
   refine d_done (by kernel_rfl) ?_
   refine s_ret (.c rfl .nil) ?_
   exact ⟨J3, L, hlr, drops, o3, c3', o4, c4', rfl, ⟨hn3, hn4, by simp [hlen], (fun s hs => by rcases List.mem_append.1 hs with hs | hs; exact h.nb s hs; rw [List.mem_singleton.1 hs]; exact hx), (fun s hs => by rcases List.mem_append.1 hs with hs | hs; exact h.tb s hs; rw [List.mem_singleton.1 hs]; exact hk)⟩, rfl⟩
 ·skip
  refine i_lits 8 rfl rfl rfl rfl (by rfl) (by rfl) (by rfl) (by decide) (by decide) (by rfl) .free rfl (.inr heldx) ?_
  intro b15
  refine d_freeze ?_
  intro hz
  have hlr := hlr.trans hz
  have h := h.mono hz
  have hk2 := strs_lit1 hz hkm
  try have hk1 := hk1.mono hz
  try have hn3 := hn3.mono hz
  refine d_lits 3 rfl (by kernel_rfl) rfl rfl rfl (by rfl) (by rfl) (by rfl) (by decide) (by decide) (by rfl) .free rfl (.inr heldx) ?_
  intro b10
  refine d_freeze ?_
  intro hz
  have hlr := hlr.trans hz
  have h := h.mono hz
  have hk1 := strs_lit1 hz hxm
  try have hk2 := hk2.mono hz
  refine d_call 4 rfl (by kernel_rfl) rfl rfl .free rfl (g_l3With h.names hk1 (by simp; unfold maxN; omega) _) ?_
  rintro _ J2 _ e2 ⟨o3, c3', rfl, hn3, rfl⟩
  have hlr := hlr.trans e2
  have h := h.mono e2
  try have hk2 := hk2.mono e2
  refine ⟨(.inr heldx), ?_⟩
  refine d_call 9 rfl (by kernel_rfl) rfl rfl .free rfl (g_l3With h.types hk2 (by simp; unfold maxN; omega) _) ?_
  rintro _ J3 _ e3 ⟨o4, c4', rfl, hn4, rfl⟩
  have hlr := hlr.trans e3
  have hn3 := hn3.mono e3
  refine ⟨(.inr heldx), ?_⟩
  refine Da 10 rfl (y_struct rfl rfl rfl) ?_
  refine d_st 11 rfl (by kernel_rfl) rfl rfl rfl rfl rfl .free (.inl (by kernel_rfl)) ?_
  refine d_done (by kernel_rfl) ?_
  refine s_ret (.c rfl .nil) ?_
  exact ⟨J3, L, hlr, drops, o3, c3', o4, c4', rfl, ⟨hn3, hn4, by simp [hlen], (fun s hs => by rcases List.mem_append.1 hs with hs | hs; exact h.nb s hs; rw [List.mem_singleton.1 hs]; exact hx), (fun s hs => by rcases List.mem_append.1 hs with hs | hs; exact h.tb s hs; rw [List.mem_singleton.1 hs]; exact hk)⟩, rfl⟩
theorem t1_len (o : Option (Ty × Ty)) (sg s : Txt) (h : o = twoOf sg s) : (t1 o).length ≤ 80 ∧ (t2 o).length ≤ 80 := by
 subst h
 cases h : twoOf sg s with
 | none => exact ⟨by decide, by decide⟩
 | some p =>
  obtain ⟨a, b⟩ := p
  unfold twoOf at h
  cases ht : tyOf s with
  | none => rw [ht] at h; cases h
  | some t =>
   rw [ht] at h
   have h1 := (tyOf_some ht).2.1
   cases t with
   | i => cases h
   | fn x y =>
    simp only at h
    split at h
    ·cases h; simp only [Ty.size] at h1
     exact ⟨Ty.text_len (t := a) (by omega), Ty.text_len (t := b) (by omega)⟩
    ·cases h
   | pr x y =>
    simp only at h
    split at h
    ·cases h; simp only [Ty.size] at h1
     exact ⟨Ty.text_len (t := a) (by omega), Ty.text_len (t := b) (by omega)⟩
    ·cases h
theorem of_len {s o : Txt} (h : ofOf s = some o) : o.length ≤ 3200 := by obtain ⟨_, _, _, _, _, _, _, h⟩ := of_facts h; exact h
/-- What the loop over the names has found. -/
structure LF where
 i : Nat
 fs : List Txt
 b : Nat
 sp : List Value
 c : Nat
theorem g_l91Leaf {I : Heap} {oa : Option Addr} {l : List UInt8} {c : Nat} (h : Bytes I oa l c) (hl : l.length ≤ 2000) (b p : Nat) (hp : p + 4 ≤ 1099511627776) {ns ts : List Txt} {o1 o2 : Option Addr} {c1 c2 : Nat} (hs : ScAt I ns ts o1 c1 o2 c2) (hn : ns.length ≤ 100) (want : Txt) (hw : want.length ≤ 1000) (L : Own) :
  Fun Tryz.prog 139 [.pointer (some ⟨b, 0, none⟩), .agg [.slice o1 ns.length c1, .slice o2 ts.length c2].toArray, .string (str want)] I (rd b oa l c p :: L) (DT b oa l c p 4 3300 L) := by
 have hlen := hs.len
 have hnl := hs.names
 refine fun_intro (by simp) ?_
 refine Se rfl ?_
 refine o_box rfl rfl .free rfl ?_
 intro b4
 refine Oa rfl (o_done (Se rfl ?_))
 refine o_lits0 .free rfl ?_
 intro b11
 refine Oa rfl (o_done (s_seq (Se rfl (Oa rfl (o_done (s_block ?_))))))
 refine s_while (X := LF) (fun x => ns.length - x.i) (fun x => [(0, .pointer (some ⟨b, 0, none⟩)), (2, .string (str want)), (4, .pointer (some ⟨b4, 0, none⟩)), (6, .string (str [])), (7, .slice (some ⟨x.b, 0, none⟩) x.fs.length x.c), (8, .int .i64 (x.i : Nat))]) (fun _ => I) (fun x => (x.b, .cells (x.fs.map sv ++ x.sp).toArray 9 (0, 0)) :: (b4, .cells [.slice o1 ns.length c1, .slice o2 ts.length c2].toArray 124 (0, 0)) :: rd b oa l c p :: L) (fun x => x.i ≤ ns.length ∧ x.fs.length ≤ x.i ∧ (∀ s ∈ x.fs, s.length ≤ 4) ∧ BufOk 1 x.fs.length x.c (x.fs.map sv) (some (x.b, x.sp))) ⟨0, [], b11, [], 0⟩ ⟨Nat.zero_le _, Nat.zero_le _, (fun _ h => by cases h), ⟨rfl, Nat.le_refl _, rfl⟩⟩ ⟨rfl, rfl, rfl, rfl, rfl, rfl, trivial⟩ (by intro _ h; exact h) ?_
 rintro ⟨i, fs, bb, sp, cb⟩ ⟨hi, hfi, hfs, hB⟩ ih
 simp only at hi hfi hfs hB ih ⊢
 refine s_seq (Se rfl (Om rfl (Oh rfl ?_)))
 refine o_lO1 rfl .free rfl ?_
 refine On rfl (Oc rfl rfl rfl (o_done ?_))
 refine s_cond rfl ?_ ?_
 ·intro c0
  try simp only [nb] at c0
  have hi1 : i < ns.length := by omega
  have hel : (ns.getD i []).length ≤ 4 := hs.nb _ (by rw [show ns.getD i [] = ns[i] by simp [hi1]]; exact List.getElem_mem _)
  have hle0 : HLe I I := .refl _
  refine s_skip (s_seq (s_block (s_seq ?_)))
  refine d_all 12 rfl rfl ?_
  refine Da 0 rfl (y_fieldAddr rfl) ?_
  refine Dt 1 [12] rfl (y_lO1 rfl) ?_
  refine Da 2 rfl (y_fieldAddr rfl) ?_
  refine Dt 3 [12] rfl (y_lO1 rfl) ?_
  refine Da 4 rfl (y_fieldAddr rfl) ?_
  refine Dt 5 [12] rfl (y_lO1 rfl) ?_
  refine Da 6 rfl (y_move rfl) ?_
  first | refine Da 7 rfl (y_ixD rfl rfl _ rfl) ?_ | refine Da 7 rfl (y_ixP rfl rfl _ rfl) ?_
  refine Dt 8 [12] rfl (y_lI1 rfl) ?_
  refine Da 10 rfl (y_move rfl) ?_
  refine d_call 9 rfl (by kernel_rfl) rfl rfl .free rfl (g_l3Look hs.names hs.types hlen _ _) ?_
  rintro _ _ _ _ ⟨rfl, rfl, rfl⟩
  refine ⟨(.inr heldx), ?_⟩
  refine Da 11 rfl (y_cmps rfl rfl rfl) ?_
  refine d_done (by kernel_rfl) ?_
  refine s_cond rfl ?_ ?_
  ·intro c1
   try simp only [nb] at c1
   refine o_enter rfl (Om rfl (Oh rfl ?_))
   refine o_lO1 rfl .free rfl ?_
   refine Om rfl ?_
   first | refine o_ixD rfl rfl _ rfl .free rfl ?_ | refine o_ixP rfl rfl _ rfl .free rfl ?_
   refine o_lI1 rfl .free rfl ?_
   refine Ol rfl rfl ?_
   intro b37
   refine o_append (B := some (bb, sp)) (xs := fs.map sv) (ys := [sv (ns.getD i [])]) (m := fs.length) (c := cb) (by intro kk; simp) (by rfl) rfl rfl hB (fun _ h => h.f1) (by rfl) (fun a ha => by cases ha; exact reads_ownL (by repeat first | exact .head _ | apply List.Mem.tail | apply List.mem_append_right) (by rfl)) (by simp) (by rfl) (by decide) (by decide) (by omega) (by decide) .free rfl ?_
   intro bq sp2 c2q hB2
   rw [show fs.map sv ++ [sv (ns.getD i [])] = (fs ++ [ns.getD i []]).map sv by simp] at hB2 ⊢
   refine Oa rfl (o_done (s_inBlock (o_enter rfl (Om rfl ?_))))
   refine Or rfl rfl rfl ?_
   refine Oa rfl (o_done ?_)
   first
    | exact s_env (E' := [(0, .pointer (some ⟨b, 0, none⟩)), (2, .string (str want)), (4, .pointer (some ⟨b4, 0, none⟩)), (6, .string (str [])), (7, .slice (some ⟨bq, 0, none⟩) (fs ++ [ns.getD i []]).length c2q), (8, .int .i64 ((i + 1 : Nat)))]) ⟨rfl, rfl, rfl, rfl, by simp; rfl, rfl, trivial⟩ (s_mem (fun w h => Mem.sub (L' := (bq, _) :: (b4, _) :: rd b oa l c p :: L) (by repeat (first | exact List.Sublist.refl _ | apply List.Sublist.cons_cons | apply List.Sublist.cons)) h) (ih ⟨i + 1, fs ++ [ns.getD i []], bq, sp2, c2q⟩ ⟨by simp only; omega, by simp; omega, (fun s hs => by rcases List.mem_append.1 hs with hs | hs; exact hfs s hs; rw [List.mem_singleton.1 hs]; exact hel), by simpa using hB2⟩ (by simp only; omega)))
    | exact s_env (E' := [(0, .pointer (some ⟨b, 0, none⟩)), (2, .string (str want)), (4, .pointer (some ⟨b4, 0, none⟩)), (6, .string (str [])), (7, .slice (some ⟨bb, 0, none⟩) fs.length cb), (8, .int .i64 ((i + 1 : Nat)))]) ⟨rfl, rfl, rfl, rfl, rfl, rfl, trivial⟩ (ih ⟨i + 1, fs, bb, sp, cb⟩ ⟨by simp only; omega, by simp only; omega, hfs, hB⟩ (by simp only; omega))
  intro c1
  try simp only [nb] at c1
  refine s_skip (s_inBlock (o_enter rfl (Om rfl ?_)))
  refine Or rfl rfl rfl ?_
  refine Oa rfl (o_done ?_)
  first
   | exact s_env (E' := [(0, .pointer (some ⟨b, 0, none⟩)), (2, .string (str want)), (4, .pointer (some ⟨b4, 0, none⟩)), (6, .string (str [])), (7, .slice (some ⟨bq, 0, none⟩) (fs ++ [ns.getD i []]).length c2q), (8, .int .i64 ((i + 1 : Nat)))]) ⟨rfl, rfl, rfl, rfl, by simp; rfl, rfl, trivial⟩ (s_mem (fun w h => Mem.sub (L' := (bq, _) :: (b4, _) :: rd b oa l c p :: L) (by repeat (first | exact List.Sublist.refl _ | apply List.Sublist.cons_cons | apply List.Sublist.cons)) h) (ih ⟨i + 1, fs ++ [ns.getD i []], bq, sp2, c2q⟩ ⟨by simp only; omega, by simp; omega, (fun s hs => by rcases List.mem_append.1 hs with hs | hs; exact hfs s hs; rw [List.mem_singleton.1 hs]; exact hel), by simpa using hB2⟩ (by simp only; omega)))
   | exact s_env (E' := [(0, .pointer (some ⟨b, 0, none⟩)), (2, .string (str want)), (4, .pointer (some ⟨b4, 0, none⟩)), (6, .string (str [])), (7, .slice (some ⟨bb, 0, none⟩) fs.length cb), (8, .int .i64 ((i + 1 : Nat)))]) ⟨rfl, rfl, rfl, rfl, rfl, rfl, trivial⟩ (ih ⟨i + 1, fs, bb, sp, cb⟩ ⟨by simp only; omega, by simp only; omega, hfs, hB⟩ (by simp only; omega))
 intro c0
 try simp only [nb] at c0
 refine s_exit rfl ?_
 refine s_seq (s_seq ?_)
 refine s_freezeStrs (B := some (bb, sp)) hB rfl (by unfold maxN; omega) (fun s hs => by have := hfs s hs; unfold maxN; omega) ?_
 intro J oz cz ez hbv hst
 simp only [bufVal, Value.slice.injEq] at hbv
 obtain ⟨rfl, -, rfl⟩ := hbv
 refine s_mem (fun w h => h.f1) ?_
 have h := h.mono ez
 have hz0 := hst.nil'
 have hzl := hst.len
 refine o_enter rfl (Om rfl (On rfl (Oc rfl rfl rfl (Om rfl ?_))))
 first | refine g_if rfl rfl ?_ ?_ | refine g_ifn rfl rfl ?_ ?_ | refine g_b rfl rfl ?_ ?_
 ·intro g7_4
  refine Ow rfl ?_
  refine o_call rfl (.met rfl rfl) rfl (g_l6Rd_pick h hl b p 4 (by omega) (by decide) _) ?_
  rintro _ _ _ _ ⟨r, rfl, rfl, rfl, hr⟩
  refine o_cmp rfl rfl rfl (.met rfl rfl) rfl ?_
  refine Ot rfl rfl (o_done ?_)
  refine s_cond rfl ?_ ?_
  ·intro c2
   try simp only [nb] at c2
   have hpos : 0 < fs.length := by omega
   refine Se rfl ?_
   iterate 3 refine Om rfl ?_
   refine On rfl ?_
   refine o_call rfl .free rfl (g_l6Rd_pick h hl b _ fs.length (by omega) (by omega) _) ?_
   rintro _ _ _ _ ⟨r2, rfl, rfl, rfl, hr2⟩
   have hr3 : r2 < fs.length := by omega
   have hfl : (fs.getD r2 []).length ≤ 4 := hfs _ (by rw [show fs.getD r2 [] = fs[r2] by simp [hr3]]; exact List.getElem_mem _)
   first | refine o_ixD rfl rfl _ rfl .free rfl ?_ | refine o_ixP rfl rfl _ rfl .free rfl ?_
   refine o_lI1 rfl .free rfl ?_
   refine Oa rfl (o_done (s_ret (.tmp rfl .nil) ?_))
   exact ⟨J, _, ez, fun w h => Mem.sub (L' := rd b oa l c _ :: L) (by repeat (first | exact List.Sublist.refl _ | apply List.Sublist.cons_cons | apply List.Sublist.cons)) h, fs.getD r2 [], _, rfl, by omega, by omega, by omega, rfl⟩
  intro c2
  try simp only [nb] at c2
  refine s_skip (s_seq (Se rfl (Om rfl (Od rfl rfl rfl (o_done ?_)))))
  refine s_cond rfl ?_ ?_
  ·intro c3
   try simp only [nb] at c3
   refine Se rfl (Om rfl ?_)
   refine Ol rfl rfl ?_
   intro b57
   refine o_freezeLit [[48], [49], [50], [51], [55], [45, 49], [52, 48, 48], [45, 57, 57, 57]] (by decide) (by decide) ?_
   intro J2 e2 k2
   refine o_call rfl .free rfl (g_l6Rd_of (h.mono e2) hl b _ (by omega) k2 (by simp) _) ?_
   rintro _ _ _ _ ⟨s, rfl, hs9, rfl, rfl⟩
   have hs4 : s.length ≤ 4 := by revert s; decide
   refine Oa rfl (o_done (s_ret (.tmp rfl .nil) ?_))
   exact ⟨J2, _, ez.trans e2, fun w h => Mem.sub (L' := rd b oa l c _ :: L) (by repeat (first | exact List.Sublist.refl _ | apply List.Sublist.cons_cons | apply List.Sublist.cons)) h, s, _, rfl, by omega, by omega, by omega, rfl⟩
  intro c3
  try simp only [nb] at c3
  refine s_skip (Se rfl (Om rfl ?_))
  refine o_call rfl .free rfl (g_ExprOf want (by unfold maxN; omega) _ _) ?_
  rintro _ J3 _ e3 ⟨rfl, rfl⟩
  refine Om rfl (Oe rfl rfl (Oe rfl rfl (Oa rfl (Oa rfl (o_done (s_seq (Se rfl (Om rfl ?_))))))))
  refine o_not rfl .free rfl ?_
  refine o_done ?_
  refine s_cond rfl ?_ ?_
  ·intro c4
   try simp only [nb] at c4
   refine Se rfl (Oa rfl (o_done (s_ret (.tmp rfl .nil) ?_)))
   exact ⟨J3, _, ez.trans e3, fun w h => Mem.sub (L' := rd b oa l c _ :: L) (by repeat (first | exact List.Sublist.refl _ | apply List.Sublist.cons_cons | apply List.Sublist.cons)) h, [48], _, rfl, by decide, by omega, by omega, rfl⟩
  intro c4
  try simp only [nb] at c4
  refine s_skip (Se rfl (Om rfl (Oa rfl (o_done (s_ret (.tmp rfl .nil) ?_)))))
  refine ⟨J3, _, ez.trans e3, fun w h => Mem.sub (L' := rd b oa l c _ :: L) (by repeat (first | exact List.Sublist.refl _ | apply List.Sublist.cons_cons | apply List.Sublist.cons)) h, (ofOf want).getD [], _, rfl, ?_, by omega, by omega, rfl⟩
  cases ho : ofOf want with
  | none => decide
  | some o => have := of_len ho; simp only [Option.getD_some]; omega
 intro g7_4
 iterate 3 refine o_skip rfl rfl rfl ?_
 refine Of rfl rfl (o_done ?_)
 refine s_false rfl ?_
 refine s_skip (s_seq (Se rfl (Om rfl (Od rfl rfl rfl (o_done ?_)))))
 refine s_cond rfl ?_ ?_
 ·intro c3
  try simp only [nb] at c3
  refine Se rfl (Om rfl ?_)
  refine Ol rfl rfl ?_
  intro b57
  refine o_freezeLit [[48], [49], [50], [51], [55], [45, 49], [52, 48, 48], [45, 57, 57, 57]] (by decide) (by decide) ?_
  intro J2 e2 k2
  refine o_call rfl .free rfl (g_l6Rd_of (h.mono e2) hl b _ (by omega) k2 (by simp) _) ?_
  rintro _ _ _ _ ⟨s, rfl, hs9, rfl, rfl⟩
  have hs4 : s.length ≤ 4 := by revert s; decide
  refine Oa rfl (o_done (s_ret (.tmp rfl .nil) ?_))
  exact ⟨J2, _, ez.trans e2, fun w h => Mem.sub (L' := rd b oa l c _ :: L) (by repeat (first | exact List.Sublist.refl _ | apply List.Sublist.cons_cons | apply List.Sublist.cons)) h, s, _, rfl, by omega, by omega, by omega, rfl⟩
 intro c3
 try simp only [nb] at c3
 refine s_skip (Se rfl (Om rfl ?_))
 refine o_call rfl .free rfl (g_ExprOf want (by unfold maxN; omega) _ _) ?_
 rintro _ J3 _ e3 ⟨rfl, rfl⟩
 refine Om rfl (Oe rfl rfl (Oe rfl rfl (Oa rfl (Oa rfl (o_done (s_seq (Se rfl (Om rfl ?_))))))))
 refine o_not rfl .free rfl ?_
 refine o_done ?_
 refine s_cond rfl ?_ ?_
 ·intro c4
  try simp only [nb] at c4
  refine Se rfl (Oa rfl (o_done (s_ret (.tmp rfl .nil) ?_)))
  exact ⟨J3, _, ez.trans e3, fun w h => Mem.sub (L' := rd b oa l c _ :: L) (by repeat (first | exact List.Sublist.refl _ | apply List.Sublist.cons_cons | apply List.Sublist.cons)) h, [48], _, rfl, by decide, by omega, by omega, rfl⟩
 intro c4
 try simp only [nb] at c4
 refine s_skip (Se rfl (Om rfl (Oa rfl (o_done (s_ret (.tmp rfl .nil) ?_)))))
 refine ⟨J3, _, ez.trans e3, fun w h => Mem.sub (L' := rd b oa l c _ :: L) (by repeat (first | exact List.Sublist.refl _ | apply List.Sublist.cons_cons | apply List.Sublist.cons)) h, (ofOf want).getD [], _, rfl, ?_, by omega, by omega, rfl⟩
 cases ho : ofOf want with
 | none => decide
 | some o => have := of_len ho; simp only [Option.getD_some]; omega
theorem g_l91Loop {I : Heap} {oa : Option Addr} {l : List UInt8} {c : Nat} (h : Bytes I oa l c) (hl : l.length ≤ 2000) (b p : Nat) (hp : p + 4 ≤ 1099511627776) (L : Own) :
  Fun Tryz.prog 141 [.pointer (some ⟨b, 0, none⟩)] I (rd b oa l c p :: L) (DT b oa l c p 4 200 L) := by
 refine fun_intro (by simp) ?_
 refine Se rfl (Oa rfl (o_done (Se rfl (Om rfl ?_))))
 refine Ol rfl rfl ?_
 intro b5
 refine o_freezeLit [[40, 43, 32, 120, 56, 32, 40, 99, 97, 108, 108, 32, 102, 56, 32, 40, 45, 32, 120, 56, 32, 49, 41, 41, 41], [40, 99, 97, 108, 108, 32, 102, 56, 32, 40, 45, 32, 120, 56, 32, 49, 41, 41], [40, 42, 32, 120, 56, 32, 40, 99, 97, 108, 108, 32, 102, 56, 32, 40, 45, 32, 120, 56, 32, 49, 41, 41, 41], [40, 45, 32, 48, 32, 40, 99, 97, 108, 108, 32, 102, 56, 32, 40, 45, 32, 120, 56, 32, 49, 41, 41, 41]] (by decide) (by decide) ?_
 intro J1 e1 k1
 refine o_call rfl .free rfl (g_l6Rd_of (h.mono e1) hl b _ (by omega) k1 (by simp) L) ?_
 rintro _ _ _ _ ⟨s, rfl, hs, rfl, rfl⟩
 have hsl : s.length ≤ 30 := by revert s; decide
 refine Oa rfl (o_done (Se rfl (Om rfl ?_)))
 refine Ol rfl rfl ?_
 intro b8
 refine o_freezeLit [[48], [49], [53]] (by decide) (by decide) ?_
 intro J2 e2 k2
 refine o_call rfl .free rfl (g_l6Rd_of ((h.mono e1).mono e2) hl b _ (by omega) k2 (by simp) L) ?_
 rintro _ _ _ _ ⟨s2, rfl, hs2, rfl, rfl⟩
 have hsl2 : s2.length ≤ 1 := by revert s2; decide
 refine Ok rfl rfl ?_
 refine Ok rfl rfl ?_
 refine Om rfl ?_
 refine Ok rfl rfl ?_
 refine Ok rfl rfl ?_
 refine Om rfl ?_
 refine o_call rfl .free rfl (g_l6Rd_pick ((h.mono e1).mono e2) hl b _ 7 (by omega) (by decide) L) ?_
 rintro _ _ _ _ ⟨r, rfl, rfl, rfl, hr⟩
 have hdl := decT_le (n := r) (by omega)
 refine o_call rfl .free rfl (g_l6Dec _ r (Nat.lt_succ_self _) (by omega) _ _) ?_
 rintro _ _ _ _ ⟨rfl, rfl, rfl⟩
 refine Ok rfl rfl ?_
 refine Ok rfl rfl ?_
 refine Oa rfl (o_done (s_ret (.tmp rfl .nil) ?_))
 exact ⟨J2, _, e1.trans e2, fun _ h => h, _, _, rfl, (by first | omega | (simp only [List.length_append, List.length_cons, List.length_nil]; omega) | (simp; omega)), by omega, by omega, rfl⟩
def kE : Nat → Nat
 | 0 => 4
 | d + 1 => 3 * kE d + 60
def eT : Nat → Nat
 | 0 => 3300
 | d + 1 => 3 * eT d + 3000
theorem eT_ge : ∀ d, 3300 ≤ eT d
 | 0 => Nat.le_refl _
 | d + 1 => by have := eT_ge d; simp only [eT]; omega
def ExprD (d : Nat) : Prop := ∀ {I : Heap} {oa : Option Addr} {l : List UInt8} {c : Nat} (_ : Bytes I oa l c) (_ : l.length ≤ 2000) (b p : Nat) (_ : p + kE d ≤ 1099511627776) {ns ts : List Txt} {o1 o2 : Option Addr} {c1 c2 : Nat} (_ : ScAt I ns ts o1 c1 o2 c2) (_ : ns.length + 4 * d ≤ 100) (want : Txt) (_ : want.length + 20 * d ≤ 1000) (L : Own),
  Fun Tryz.prog 101 [.pointer (some ⟨b, 0, none⟩), .agg [.slice o1 ns.length c1, .slice o2 ts.length c2].toArray, .string (str want), .int .i64 (d : Nat)] I (rd b oa l c p :: L) (DT b oa l c p (kE d) (eT d) L)
theorem build_step {d : Nat} (ih : ExprD d) (hd : d ≤ 20) (ht : eT (d + 1) ≤ 1000000000) {I : Heap} {oa : Option Addr} {l : List UInt8} {c : Nat} (h : Bytes I oa l c) (hl : l.length ≤ 2000) (b p : Nat) (hp : p + (3 * kE d + 40) ≤ 1099511627776) {ns ts : List Txt} {o1 o2 : Option Addr} {c1 c2 : Nat} (hs : ScAt I ns ts o1 c1 o2 c2) (hn : ns.length + 4 * (d + 1) ≤ 100) (want : Txt) (hw : want.length + 20 * (d + 1) ≤ 1000) (L : Own) :
  Fun Tryz.prog 142 [.pointer (some ⟨b, 0, none⟩), .agg [.slice o1 ns.length c1, .slice o2 ts.length c2].toArray, .string (str want), .int .i64 ((d + 1 : Nat))] I (rd b oa l c p :: L) (DT b oa l c p (3 * kE d + 40) (3 * eT d + 3000) L) := by
 simp only [eT] at ht
 have hge := eT_ge d
 obtain ⟨q1, q2⟩ := t1_len (twoOf [42] want) [42] want rfl
 obtain ⟨q3, q4⟩ := t1_len (twoOf [62] want) [62] want rfl
 have hle : HLe I I := .refl _
 have hlr : HLe I I := .refl _
 refine fun_intro (by simp) ?_
 refine Se rfl ?_
 refine o_box rfl rfl .free rfl ?_
 intro b5
 refine Oa rfl (o_done (s_seq ?_))
 refine s_mem (fun w h => h.f1) ?_
 refine o_enter rfl (Om rfl ?_)
 refine o_call rfl .free rfl (g_TypePair want (by unfold maxN; omega) _ _) ?_
 rintro _ J _ e ⟨rfl, rfl⟩
 have h := h.mono e
 have hs := hs.mono e
 have hle := hle.trans e
 have hlr := hlr.trans e
 refine Om rfl ?_
 iterate 3 refine Oe rfl rfl ?_
 iterate 3 refine Oa rfl ?_
 refine o_done (Se rfl (Om rfl ?_))
 refine o_call rfl .free rfl (g_TypeFun want (by unfold maxN; omega) _ _) ?_
 rintro _ J _ e ⟨rfl, rfl⟩
 have h := h.mono e
 have hs := hs.mono e
 have hle := hle.trans e
 have hlr := hlr.trans e
 refine Om rfl ?_
 iterate 3 refine Oe rfl rfl ?_
 iterate 3 refine Oa rfl ?_
 refine o_done (Se rfl (Om rfl ?_))
 refine Or rfl rfl rfl ?_
 refine Oa rfl (o_done (s_seq (s_block (s_seq ?_))))
 refine s_put (t := 15) (v' := .int .i64 (d : Nat)) rfl (by congr 1; omega) ?_
 refine o_enter rfl (Om rfl (Oa rfl (o_done ?_)))
 refine s_cond rfl ?_ ?_
 ·intro c0
  try simp only [nb] at c0
  refine s_seq ?_
  refine s_here fun hlr => ?_
  refine d_tl 15 rfl rfl ?_
  refine Da 0 rfl (y_move rfl) ?_
  refine Dt 1 [15] rfl (y_lOS rfl) ?_
  refine Da 2 rfl (y_move rfl) ?_
  refine Da 3 rfl (y_move rfl) ?_
  refine Da 7 rfl (y_move rfl) ?_
  refine Dt 8 [15] rfl (y_lOS rfl) ?_
  refine Da 9 rfl (y_move rfl) ?_
  refine Da 10 rfl (y_move rfl) ?_
  refine d_call 4 rfl (by kernel_rfl) rfl rfl .free rfl (ih h hl b _ (by omega) hs (by omega) _ (by first | omega | (simp only [List.length_append, List.length_cons, List.length_nil]; omega)) _) ?_
  rintro _ J _ e ⟨s1, p1, rfl, hs1, hp1, hp2, rfl⟩
  have h := h.mono e
  have hs := hs.mono e
  have hle := hle.trans e
  have hlr := hlr.trans e
  refine ⟨(.inr heldx), ?_⟩
  refine d_takeA 5 rfl (by kernel_rfl) rfl (.inr heldx) (y_concat rfl rfl (by first | omega | (simp only [List.length_append, List.length_cons, List.length_nil]; omega) | (simp; omega))) .free rfl ?_
  refine d_takeA 6 rfl (by kernel_rfl) rfl (.inr heldx) (y_concat rfl rfl (by first | omega | (simp only [List.length_append, List.length_cons, List.length_nil]; omega) | (simp; omega))) .free rfl ?_
  refine d_call 11 rfl (by kernel_rfl) rfl rfl .free rfl (ih h hl b _ (by omega) hs (by omega) _ (by first | omega | (simp only [List.length_append, List.length_cons, List.length_nil]; omega)) _) ?_
  rintro _ J _ e ⟨s1, p1, rfl, hs1, hp1, hp2, rfl⟩
  have h := h.mono e
  have hs := hs.mono e
  have hle := hle.trans e
  have hlr := hlr.trans e
  refine ⟨(.inr heldx), ?_⟩
  refine d_takeA 12 rfl (by kernel_rfl) rfl (.inr heldx) (y_concat rfl rfl (by first | omega | (simp only [List.length_append, List.length_cons, List.length_nil]; omega) | (simp; omega))) .free rfl ?_
  refine d_takeA 13 rfl (by kernel_rfl) rfl (.inr heldx) (y_concat rfl rfl (by first | omega | (simp only [List.length_append, List.length_cons, List.length_nil]; omega) | (simp; omega))) .free rfl ?_
  refine Da 14 rfl (y_assign rfl) ?_
  refine d_done (by kernel_rfl) ?_
  refine s_ret (.tmp rfl .nil) ?_
  exact ⟨_, _, hle, fun w h => Mem.sub (L' := rd b oa l c _ :: L) (by repeat (first | exact List.Sublist.refl _ | apply List.Sublist.cons_cons | apply List.Sublist.cons)) h, _, _, rfl, (by first | omega | (simp only [List.length_append, List.length_cons, List.length_nil]; omega) | (simp; omega)), by omega, by omega, rfl⟩
 intro c0
 try simp only [nb] at c0
 refine Se rfl (Om rfl (Oa rfl (o_done ?_)))
 refine s_cond rfl ?_ ?_
 ·intro c1
  try simp only [nb] at c1
  refine Se rfl (Om rfl ?_)
  refine Ol rfl rfl ?_
  intro b52
  refine o_freezeLit [[102], [103], [102, 49]] (by decide) (by decide) ?_
  intro J1 e1 k1
  have h := h.mono e1
  have hs := hs.mono e1
  have hle := hle.trans e1
  refine o_call rfl .free rfl (g_l6Rd_of h hl b _ (by omega) k1 (by simp) _) ?_
  rintro _ _ _ _ ⟨nf, rfl, hnf, rfl, rfl⟩
  have hnfl : nf.length ≤ 2 := by revert nf; decide
  refine Oa rfl (o_done (Se rfl (Om rfl ?_)))
  refine Ol rfl rfl ?_
  intro b55
  refine o_freezeLit [[120], [122], [120, 50]] (by decide) (by decide) ?_
  intro J1 e1 k1
  have h := h.mono e1
  have hs := hs.mono e1
  have hle := hle.trans e1
  refine o_call rfl .free rfl (g_l6Rd_of h hl b _ (by omega) k1 (by simp) _) ?_
  rintro _ _ _ _ ⟨nx, rfl, hnx, rfl, rfl⟩
  have hnxl : nx.length ≤ 2 := by revert nx; decide
  refine Oa rfl (o_done (Se rfl ?_))
  refine o_lOS rfl .free rfl ?_
  refine Om rfl (Om rfl ?_)
  refine o_call rfl .free rfl (g_l91More hs nx (t1 (twoOf [62] want)) (by omega) (by omega) (by omega) _) ?_
  rintro _ J2 _ e2 ⟨o3, c3, o4, c4, rfl, hs2, rfl⟩
  have h := h.mono e2
  have hs := hs.mono e2
  have hle := hle.trans e2
  refine o_alloc .free rfl ?_
  intro b18
  refine o_st rfl rfl rfl rfl .free ?_
  refine o_mem (fun w h => h.f1) ?_
  refine o_done (s_seq (Se rfl (Om rfl ?_)))
  refine o_call rfl .free rfl (g_l6Rd_pick h hl b _ 6 (by omega) (by decide) _) ?_
  rintro _ _ _ _ ⟨r, rfl, rfl, rfl, hr⟩
  refine Oc rfl rfl rfl (o_done ?_)
  refine s_cond rfl ?_ ?_
  ·intro c2
   try simp only [nb] at c2
   refine o_enter rfl ?_
   refine o_lOS rfl .free rfl ?_
   refine Om rfl (Om rfl ?_)
   refine o_call rfl .free rfl (g_l91More hs nf want (by omega) (by omega) (by omega) _) ?_
   rintro _ J3 _ e3 ⟨o5, c5, o6, c6, rfl, hs3, rfl⟩
   have h := h.mono e3
   have hle := hle.trans e3
   refine Om rfl (Om rfl ?_)
   refine o_call rfl .free rfl (g_l91More hs3 nx (t1 (twoOf [62] want)) (by omega) (by omega) (by simp; omega) _) ?_
   rintro _ J4 _ e4 ⟨o7, c7, o8, c8, rfl, hs4, rfl⟩
   have h := h.mono e4
   have hle := hle.trans e4
   refine o_st rfl rfl rfl rfl .free ?_
   refine o_done (Se rfl (Om rfl ?_))
   refine Ok rfl rfl ?_
   refine Ok rfl rfl ?_
   refine Om rfl ?_
   refine Ok rfl rfl ?_
   refine Ok rfl rfl ?_
   refine Om rfl ?_
   refine Ok rfl rfl ?_
   refine Ok rfl rfl ?_
   refine Om rfl ?_
   refine Ok rfl rfl ?_
   refine Ok rfl rfl ?_
   refine Om rfl ?_
   refine o_lOS rfl .free rfl ?_
   refine Om rfl (Om rfl ?_)
   refine o_call rfl .free rfl (by first | exact ih h hl b _ (by omega) hs4 (by simp; omega) _ (by omega) _ | exact ih h hl b _ (by omega) hs2 (by simp; omega) _ (by omega) _) ?_
   rintro _ J _ e ⟨s1, p1, rfl, hs1, hp1, hp2, rfl⟩
   have h := h.mono e
   have hle := hle.trans e
   refine Ok rfl rfl ?_
   refine Ok rfl rfl ?_
   refine Oa rfl (o_done (s_ret (.tmp rfl .nil) ?_))
   exact ⟨_, _, hle, fun w h => Mem.sub (L' := rd b oa l c _ :: L) (by repeat (first | exact List.Sublist.refl _ | apply List.Sublist.cons_cons | apply List.Sublist.cons)) h, _, _, rfl, (by first | omega | (simp only [List.length_append, List.length_cons, List.length_nil]; omega) | (simp; omega)), by omega, by omega, rfl⟩
  intro c2
  try simp only [nb] at c2
  refine s_skip (Se rfl (Om rfl ?_))
  refine Ok rfl rfl ?_
  refine Ok rfl rfl ?_
  refine Om rfl ?_
  refine Ok rfl rfl ?_
  refine Ok rfl rfl ?_
  refine Om rfl ?_
  refine Ok rfl rfl ?_
  refine Ok rfl rfl ?_
  refine Om rfl ?_
  refine Ok rfl rfl ?_
  refine Ok rfl rfl ?_
  refine Om rfl ?_
  refine o_lOS rfl .free rfl ?_
  refine Om rfl (Om rfl ?_)
  refine o_call rfl .free rfl (by first | exact ih h hl b _ (by omega) hs4 (by simp; omega) _ (by omega) _ | exact ih h hl b _ (by omega) hs2 (by simp; omega) _ (by omega) _) ?_
  rintro _ J _ e ⟨s1, p1, rfl, hs1, hp1, hp2, rfl⟩
  have h := h.mono e
  have hle := hle.trans e
  refine Ok rfl rfl ?_
  refine Ok rfl rfl ?_
  refine Oa rfl (o_done (s_ret (.tmp rfl .nil) ?_))
  exact ⟨_, _, hle, fun w h => Mem.sub (L' := rd b oa l c _ :: L) (by repeat (first | exact List.Sublist.refl _ | apply List.Sublist.cons_cons | apply List.Sublist.cons)) h, _, _, rfl, (by first | omega | (simp only [List.length_append, List.length_cons, List.length_nil]; omega) | (simp; omega)), by omega, by omega, rfl⟩
 intro c1
 try simp only [nb] at c1
 refine Se rfl (Om rfl (Od rfl rfl rfl (Om rfl ?_)))
 first | refine g_if rfl rfl ?_ ?_ | refine g_ifn rfl rfl ?_ ?_ | refine g_b rfl rfl ?_ ?_
 ·intro g13_3
  refine Ow rfl ?_
  refine o_call rfl (.met rfl rfl) rfl (g_l6Rd_pick h hl b _ 3 (by omega) (by decide) _) ?_
  rintro _ _ _ _ ⟨r, rfl, rfl, rfl, hr⟩
  refine o_cmp rfl rfl rfl (.met rfl rfl) rfl ?_
  refine Ot rfl rfl (Oa rfl (o_done ?_))
  refine s_cond rfl ?_ ?_
  ·intro c3
   try simp only [nb] at c3
   refine s_seq ?_
   refine s_here fun hlr => ?_
   refine d_tl 18 rfl rfl ?_
   refine Da 0 rfl (y_move rfl) ?_
   refine Da 5 rfl (y_move rfl) ?_
   refine Dt 6 [18] rfl (y_lOS rfl) ?_
   refine Da 7 rfl (y_move rfl) ?_
   refine Da 11 rfl (y_move rfl) ?_
   refine Dt 12 [18] rfl (y_lOS rfl) ?_
   refine Da 13 rfl (y_move rfl) ?_
   refine d_lits 1 rfl (by kernel_rfl) rfl rfl rfl (by rfl) (by rfl) (by rfl) (by decide) (by decide) (by rfl) .free rfl (.inr heldx) ?_
   intro b99
   refine d_freeze ?_
   intro hz
   have hk := strs_lit (l := [[43], [45], [42]]) (b := b99) (I := J) (e := 9) (by decide) (by decide)
   have h := h.mono hz
   have hs := hs.mono hz
   have hle := hle.trans hz
   have hlr := hlr.trans hz
   refine d_call 2 rfl (by kernel_rfl) rfl rfl .free rfl (g_l6Rd_of h hl b _ (by omega) hk (by simp) _) ?_
   rintro _ _ _ _ ⟨op, rfl, hop, rfl, rfl⟩
   have hopl : op.length ≤ 1 := by revert op; decide
   refine ⟨(.inr heldx), ?_⟩
   refine d_takeA 3 rfl (by kernel_rfl) rfl (.inr heldx) (y_concat rfl rfl (by first | omega | (simp only [List.length_append, List.length_cons, List.length_nil]; omega) | (simp; omega))) .free rfl ?_
   refine d_takeA 4 rfl (by kernel_rfl) rfl (.inr heldx) (y_concat rfl rfl (by first | omega | (simp only [List.length_append, List.length_cons, List.length_nil]; omega) | (simp; omega))) .free rfl ?_
   refine d_call 8 rfl (by kernel_rfl) rfl rfl .free rfl (ih h hl b _ (by omega) hs (by omega) _ (by first | omega | (simp only [List.length_append, List.length_cons, List.length_nil]; omega)) _) ?_
   rintro _ J _ e ⟨s1, p1, rfl, hs1, hp1, hp2, rfl⟩
   have h := h.mono e
   have hs := hs.mono e
   have hle := hle.trans e
   have hlr := hlr.trans e
   refine ⟨(.inr heldx), ?_⟩
   refine d_takeA 9 rfl (by kernel_rfl) rfl (.inr heldx) (y_concat rfl rfl (by first | omega | (simp only [List.length_append, List.length_cons, List.length_nil]; omega) | (simp; omega))) .free rfl ?_
   refine d_takeA 10 rfl (by kernel_rfl) rfl (.inr heldx) (y_concat rfl rfl (by first | omega | (simp only [List.length_append, List.length_cons, List.length_nil]; omega) | (simp; omega))) .free rfl ?_
   refine d_call 14 rfl (by kernel_rfl) rfl rfl .free rfl (ih h hl b _ (by omega) hs (by omega) _ (by first | omega | (simp only [List.length_append, List.length_cons, List.length_nil]; omega)) _) ?_
   rintro _ J _ e ⟨s1, p1, rfl, hs1, hp1, hp2, rfl⟩
   have h := h.mono e
   have hs := hs.mono e
   have hle := hle.trans e
   have hlr := hlr.trans e
   refine ⟨(.inr heldx), ?_⟩
   refine d_takeA 15 rfl (by kernel_rfl) rfl (.inr heldx) (y_concat rfl rfl (by first | omega | (simp only [List.length_append, List.length_cons, List.length_nil]; omega) | (simp; omega))) .free rfl ?_
   refine d_takeA 16 rfl (by kernel_rfl) rfl (.inr heldx) (y_concat rfl rfl (by first | omega | (simp only [List.length_append, List.length_cons, List.length_nil]; omega) | (simp; omega))) .free rfl ?_
   refine Da 17 rfl (y_assign rfl) ?_
   refine d_done (by kernel_rfl) ?_
   refine s_ret (.tmp rfl .nil) ?_
   exact ⟨_, _, hle, fun w h => Mem.sub (L' := rd b oa l c _ :: L) (by repeat (first | exact List.Sublist.refl _ | apply List.Sublist.cons_cons | apply List.Sublist.cons)) h, _, _, rfl, (by first | omega | (simp only [List.length_append, List.length_cons, List.length_nil]; omega) | (simp; omega)), by omega, by omega, rfl⟩
  intro c3
  try simp only [nb] at c3
  refine s_skip (s_inBlock (Se rfl (Om rfl ?_)))
  refine o_lOS rfl .free rfl ?_
  refine Om rfl ?_
  refine o_call rfl .free rfl (g_l91Leaf h hl b _ (by omega) hs (by omega) want (by omega) _) ?_
  rintro _ J _ e ⟨s1, p1, rfl, hs1, hp1, hp2, rfl⟩
  have hle := hle.trans e
  refine Oa rfl (o_done (s_ret (.tmp rfl .nil) ?_))
  exact ⟨_, _, hle, fun w h => Mem.sub (L' := rd b oa l c _ :: L) (by repeat (first | exact List.Sublist.refl _ | apply List.Sublist.cons_cons | apply List.Sublist.cons)) h, _, _, rfl, by omega, by omega, by omega, rfl⟩
 intro g13_3
 iterate 3 refine o_skip rfl rfl rfl ?_
 refine Of rfl rfl (Oa rfl (o_done ?_))
 refine s_false rfl ?_
 refine s_skip (s_inBlock (Se rfl (Om rfl ?_)))
 refine o_lOS rfl .free rfl ?_
 refine Om rfl ?_
 refine o_call rfl .free rfl (g_l91Leaf h hl b _ (by omega) hs (by omega) want (by omega) _) ?_
 rintro _ J _ e ⟨s1, p1, rfl, hs1, hp1, hp2, rfl⟩
 have hle := hle.trans e
 refine Oa rfl (o_done (s_ret (.tmp rfl .nil) ?_))
 exact ⟨_, _, hle, fun w h => Mem.sub (L' := rd b oa l c _ :: L) (by repeat (first | exact List.Sublist.refl _ | apply List.Sublist.cons_cons | apply List.Sublist.cons)) h, _, _, rfl, by omega, by omega, by omega, rfl⟩
theorem expr_zero : ExprD 0 := by
 intro I oa l c h hl b p hp ns ts o1 o2 c1 c2 hs hn want hw L
 refine fun_intro (by simp) ?_
 refine Se rfl ?_
 refine o_box rfl rfl .free rfl ?_
 intro b5
 refine Oa rfl (o_done (s_seq (s_seq ?_)))
 refine s_mem (fun w h => h.f1) ?_
 refine o_enter rfl (Om rfl (Oc rfl rfl rfl (o_done ?_)))
 first | refine s_tp rfl (by rfl) ?_ | refine s_tn rfl (by rfl) ?_ | refine s_true (by simp [look, opd, *]) ?_
 refine Se rfl (Om rfl ?_)
 refine o_lOS rfl .free rfl ?_
 refine Om rfl ?_
 refine o_call rfl .free rfl (g_l91Leaf h hl b _ hp hs (by omega) want (by omega) _) ?_
 rintro _ J _ e ⟨s1, p1, rfl, hs1, hp1, hp2, rfl⟩
 refine Oa rfl (o_done (s_ret (.tmp rfl .nil) ?_))
 exact ⟨J, _, e, fun w h => Mem.sub (L' := rd b oa l c _ :: L) (by repeat (first | exact List.Sublist.refl _ | apply List.Sublist.cons_cons | apply List.Sublist.cons)) h, _, _, rfl, hs1, hp1, hp2, rfl⟩
set_option maxHeartbeats 1000000 in
theorem expr_step {d : Nat} (ih : ExprD d) (hd : d ≤ 20) (ht : eT (d + 1) ≤ 1000000000) : ExprD (d + 1) := by
 intro I oa l c h hl b p hp ns ts o1 o2 c1 c2 hs hn want hw L
 have ht0 := ht
 simp only [eT, kE] at ht hp ⊢
 have hge := eT_ge d
 have hle : HLe I I := .refl _
 have hlr : HLe I I := .refl _
 have hb1 : bT 1 = 7 := rfl
 have hk1 : kT 1 = 2 := rfl
 refine fun_intro (by simp) ?_
 refine Se rfl ?_
 refine o_box rfl rfl .free rfl ?_
 intro b5
 refine Oa rfl (o_done (s_seq (s_seq ?_)))
 refine s_mem (fun w h => h.f1) ?_
 refine o_enter rfl (Om rfl (Oc rfl rfl rfl (o_done ?_)))
 first | refine s_fp rfl (by omega) ?_ | refine s_fn rfl (by omega) ?_ | refine s_false (by simp [look, opd, *]) ?_
 refine s_skip (Se rfl (Om rfl ?_))
 refine Or rfl rfl rfl ?_
 refine Oa rfl (o_done (s_seq (s_seq ?_)))
 refine s_put (t := 9) (v' := .int .i64 (d : Nat)) rfl (by congr 1; omega) ?_
 refine o_enter rfl (Om rfl ?_)
 refine o_call rfl .free rfl (g_l6Rd_pick h hl b _ 12 (by omega) (by decide) _) ?_
 rintro _ _ _ _ ⟨r, rfl, rfl, rfl, hr⟩
 refine o_done (s_block (Se rfl (Oc rfl rfl rfl (Oa rfl (o_done ?_)))))
 refine s_cond rfl ?_ ?_
 ·intro c1
  try simp only [nb] at c1
  refine s_seq ?_
  refine s_here fun hlr => ?_
  refine d_tl 21 rfl rfl ?_
  refine Da 0 rfl (y_move rfl) ?_
  refine Dt 1 [21] rfl (y_lOS rfl) ?_
  refine Da 2 rfl (y_move rfl) ?_
  refine Da 6 rfl (y_move rfl) ?_
  refine Dt 7 [21] rfl (y_lOS rfl) ?_
  refine Da 8 rfl (y_move rfl) ?_
  refine Da 9 rfl (y_move rfl) ?_
  refine Da 13 rfl (y_move rfl) ?_
  refine Dt 14 [21] rfl (y_lOS rfl) ?_
  refine Da 15 rfl (y_move rfl) ?_
  refine Da 16 rfl (y_move rfl) ?_
  refine d_call 3 rfl (by kernel_rfl) rfl rfl .free rfl (ih h hl b _ (by omega) hs (by omega) _ (by first | omega | (simp only [List.length_append, List.length_cons, List.length_nil]; omega)) _) ?_
  rintro _ J _ e ⟨s1, p1, rfl, hs1, hp1, hp2, rfl⟩
  have h := h.mono e
  have hs := hs.mono e
  have hle := hle.trans e
  have hlr := hlr.trans e
  refine ⟨(.inr heldx), ?_⟩
  refine d_takeA 4 rfl (by kernel_rfl) rfl (.inr heldx) (y_concat rfl rfl (by first | omega | (simp only [List.length_append, List.length_cons, List.length_nil]; omega) | (simp; omega))) .free rfl ?_
  refine d_takeA 5 rfl (by kernel_rfl) rfl (.inr heldx) (y_concat rfl rfl (by first | omega | (simp only [List.length_append, List.length_cons, List.length_nil]; omega) | (simp; omega))) .free rfl ?_
  refine d_call 10 rfl (by kernel_rfl) rfl rfl .free rfl (ih h hl b _ (by omega) hs (by omega) _ (by first | omega | (simp only [List.length_append, List.length_cons, List.length_nil]; omega)) _) ?_
  rintro _ J _ e ⟨s1, p1, rfl, hs1, hp1, hp2, rfl⟩
  have h := h.mono e
  have hs := hs.mono e
  have hle := hle.trans e
  have hlr := hlr.trans e
  refine ⟨(.inr heldx), ?_⟩
  refine d_takeA 11 rfl (by kernel_rfl) rfl (.inr heldx) (y_concat rfl rfl (by first | omega | (simp only [List.length_append, List.length_cons, List.length_nil]; omega) | (simp; omega))) .free rfl ?_
  refine d_takeA 12 rfl (by kernel_rfl) rfl (.inr heldx) (y_concat rfl rfl (by first | omega | (simp only [List.length_append, List.length_cons, List.length_nil]; omega) | (simp; omega))) .free rfl ?_
  refine d_call 17 rfl (by kernel_rfl) rfl rfl .free rfl (ih h hl b _ (by omega) hs (by omega) _ (by first | omega | (simp only [List.length_append, List.length_cons, List.length_nil]; omega)) _) ?_
  rintro _ J _ e ⟨s1, p1, rfl, hs1, hp1, hp2, rfl⟩
  have h := h.mono e
  have hs := hs.mono e
  have hle := hle.trans e
  have hlr := hlr.trans e
  refine ⟨(.inr heldx), ?_⟩
  refine d_takeA 18 rfl (by kernel_rfl) rfl (.inr heldx) (y_concat rfl rfl (by first | omega | (simp only [List.length_append, List.length_cons, List.length_nil]; omega) | (simp; omega))) .free rfl ?_
  refine d_takeA 19 rfl (by kernel_rfl) rfl (.inr heldx) (y_concat rfl rfl (by first | omega | (simp only [List.length_append, List.length_cons, List.length_nil]; omega) | (simp; omega))) .free rfl ?_
  refine Da 20 rfl (y_assign rfl) ?_
  refine d_done (by kernel_rfl) ?_
  refine s_ret (.tmp rfl .nil) ?_
  exact ⟨_, _, hle, fun w h => Mem.sub (L' := rd b oa l c _ :: L) (by repeat (first | exact List.Sublist.refl _ | apply List.Sublist.cons_cons | apply List.Sublist.cons)) h, _, _, rfl, (by first | omega | (simp only [List.length_append, List.length_cons, List.length_nil]; omega) | (simp; omega)), by omega, by omega, rfl⟩
 intro c1
 try simp only [nb] at c1
 refine s_seq (Se rfl (Oc rfl rfl rfl (Oa rfl (o_done ?_))))
 refine s_cond rfl ?_ ?_
 ·intro c2
  try simp only [nb] at c2
  refine s_skip ?_
  first | refine s_tp rfl (by first | assumption | omega) ?_ | refine s_tn rfl (by first | assumption | omega) ?_ | refine s_true (by simp [look, opd, *]) ?_
  refine Se rfl (Om rfl ?_)
  refine o_call rfl .free rfl (g_l91Type 1 h hl b _ (by omega) (by decide) (by decide) _) ?_
  rintro _ J _ e ⟨kd, pk, rfl, hkd, hpk1, hpk2, rfl⟩
  have h := h.mono e
  have hs := hs.mono e
  have hle := hle.trans e
  have hlr := hlr.trans e
  refine Oa rfl (o_done (Se rfl (Om rfl ?_)))
  refine Ol rfl rfl ?_
  intro b51
  refine o_freezeLit [[97], [98], [99], [120, 49], [121, 48]] (by decide) (by decide) ?_
  intro J1 e1 k1
  have h := h.mono e1
  have hs := hs.mono e1
  have hle := hle.trans e1
  refine o_call rfl .free rfl (g_l6Rd_of h hl b _ (by omega) k1 (by simp) _) ?_
  rintro _ _ _ _ ⟨nx, rfl, hnx, rfl, rfl⟩
  have hnxl : nx.length ≤ 2 := by revert nx; decide
  refine Oa rfl (o_done (s_seq ?_))
  refine s_here fun hlr => ?_
  refine d_tl 21 rfl rfl ?_
  refine Da 0 rfl (y_move rfl) ?_
  refine d_takeA 1 rfl (by kernel_rfl) rfl (.inr heldx) (y_concat rfl rfl (by first | omega | (simp only [List.length_append, List.length_cons, List.length_nil]; omega) | (simp; omega))) .free rfl ?_
  refine d_takeA 2 rfl (by kernel_rfl) rfl (.inr heldx) (y_concat rfl rfl (by first | omega | (simp only [List.length_append, List.length_cons, List.length_nil]; omega) | (simp; omega))) .free rfl ?_
  refine Da 3 rfl (y_move rfl) ?_
  refine Dt 4 [21] rfl (y_lOS rfl) ?_
  refine Da 5 rfl (y_move rfl) ?_
  refine Da 6 rfl (y_move rfl) ?_
  refine Da 10 rfl (y_move rfl) ?_
  refine Dt 11 [21] rfl (y_lOS rfl) ?_
  refine Da 12 rfl (y_move rfl) ?_
  refine Da 13 rfl (y_move rfl) ?_
  refine Da 15 rfl (y_move rfl) ?_
  refine Da 16 rfl (y_move rfl) ?_
  refine d_call 7 rfl (by kernel_rfl) rfl rfl .free rfl (ih h hl b _ (by omega) hs (by omega) _ (by first | omega | (simp only [List.length_append, List.length_cons, List.length_nil]; omega)) _) ?_
  rintro _ J _ e ⟨s1, p1, rfl, hs1, hp1, hp2, rfl⟩
  have h := h.mono e
  have hs := hs.mono e
  have hle := hle.trans e
  have hlr := hlr.trans e
  refine ⟨(.inr heldx), ?_⟩
  refine d_takeA 8 rfl (by kernel_rfl) rfl (.inr heldx) (y_concat rfl rfl (by first | omega | (simp only [List.length_append, List.length_cons, List.length_nil]; omega) | (simp; omega))) .free rfl ?_
  refine d_takeA 9 rfl (by kernel_rfl) rfl (.inr heldx) (y_concat rfl rfl (by first | omega | (simp only [List.length_append, List.length_cons, List.length_nil]; omega) | (simp; omega))) .free rfl ?_
  refine d_call 14 rfl (by kernel_rfl) rfl rfl .free rfl (g_l91More hs nx kd (by omega) (by omega) (by omega) _) ?_
  rintro _ J2 _ e2 ⟨o3, c3, o4, c4, rfl, hs2, rfl⟩
  have h := h.mono e2
  have hle := hle.trans e2
  have hlr := hlr.trans e2
  refine ⟨(.inr heldx), ?_⟩
  refine d_call 17 rfl (by kernel_rfl) rfl rfl .free rfl (ih h hl b _ (by omega) hs2 (by simp; omega) _ (by omega) _) ?_
  rintro _ J _ e ⟨s1, p1, rfl, hs1, hp1, hp2, rfl⟩
  have hle := hle.trans e
  have hlr := hlr.trans e
  refine ⟨(.inr heldx), ?_⟩
  refine d_takeA 18 rfl (by kernel_rfl) rfl (.inr heldx) (y_concat rfl rfl (by first | omega | (simp only [List.length_append, List.length_cons, List.length_nil]; omega) | (simp; omega))) .free rfl ?_
  refine d_takeA 19 rfl (by kernel_rfl) rfl (.inr heldx) (y_concat rfl rfl (by first | omega | (simp only [List.length_append, List.length_cons, List.length_nil]; omega) | (simp; omega))) .free rfl ?_
  refine Da 20 rfl (y_assign rfl) ?_
  refine d_done (by kernel_rfl) ?_
  refine s_ret (.tmp rfl .nil) ?_
  exact ⟨_, _, hle, fun w h => Mem.sub (L' := rd b oa l c _ :: L) (by repeat (first | exact List.Sublist.refl _ | apply List.Sublist.cons_cons | apply List.Sublist.cons)) h, _, _, rfl, (by first | omega | (simp only [List.length_append, List.length_cons, List.length_nil]; omega) | (simp; omega)), by omega, by omega, rfl⟩
 intro c2
 try simp only [nb] at c2
 refine o_enter rfl (Oc rfl rfl rfl (Oa rfl (o_done ?_)))
 refine s_cond rfl ?_ ?_
 ·intro c3
  try simp only [nb] at c3
  refine Se rfl (Om rfl ?_)
  refine o_call rfl .free rfl (g_l91Type 1 h hl b _ (by omega) (by decide) (by decide) _) ?_
  rintro _ J _ e ⟨kd, pk, rfl, hkd, hpk1, hpk2, rfl⟩
  have h := h.mono e
  have hs := hs.mono e
  have hle := hle.trans e
  have hlr := hlr.trans e
  refine Oa rfl (o_done (Se rfl (Om rfl ?_)))
  refine Ol rfl rfl ?_
  intro b51
  refine o_freezeLit [[97], [98], [99], [120, 49], [121, 48]] (by decide) (by decide) ?_
  intro J1 e1 k1
  have h := h.mono e1
  have hs := hs.mono e1
  have hle := hle.trans e1
  refine o_call rfl .free rfl (g_l6Rd_of h hl b _ (by omega) k1 (by simp) _) ?_
  rintro _ _ _ _ ⟨nx, rfl, hnx, rfl, rfl⟩
  have hnxl : nx.length ≤ 2 := by revert nx; decide
  refine Oa rfl (o_done (s_seq ?_))
  refine s_here fun hlr => ?_
  refine d_tl 21 rfl rfl ?_
  refine Da 0 rfl (y_move rfl) ?_
  refine d_takeA 1 rfl (by kernel_rfl) rfl (.inr heldx) (y_concat rfl rfl (by first | omega | (simp only [List.length_append, List.length_cons, List.length_nil]; omega) | (simp; omega))) .free rfl ?_
  refine d_takeA 2 rfl (by kernel_rfl) rfl (.inr heldx) (y_concat rfl rfl (by first | omega | (simp only [List.length_append, List.length_cons, List.length_nil]; omega) | (simp; omega))) .free rfl ?_
  refine Da 3 rfl (y_move rfl) ?_
  refine Dt 4 [21] rfl (y_lOS rfl) ?_
  refine Da 5 rfl (y_move rfl) ?_
  refine Da 6 rfl (y_move rfl) ?_
  refine Da 10 rfl (y_move rfl) ?_
  refine Dt 11 [21] rfl (y_lOS rfl) ?_
  refine Da 12 rfl (y_move rfl) ?_
  refine Da 13 rfl (y_move rfl) ?_
  refine Da 15 rfl (y_move rfl) ?_
  refine Da 16 rfl (y_move rfl) ?_
  refine d_call 7 rfl (by kernel_rfl) rfl rfl .free rfl (ih h hl b _ (by omega) hs (by omega) _ (by first | omega | (simp only [List.length_append, List.length_cons, List.length_nil]; omega)) _) ?_
  rintro _ J _ e ⟨s1, p1, rfl, hs1, hp1, hp2, rfl⟩
  have h := h.mono e
  have hs := hs.mono e
  have hle := hle.trans e
  have hlr := hlr.trans e
  refine ⟨(.inr heldx), ?_⟩
  refine d_takeA 8 rfl (by kernel_rfl) rfl (.inr heldx) (y_concat rfl rfl (by first | omega | (simp only [List.length_append, List.length_cons, List.length_nil]; omega) | (simp; omega))) .free rfl ?_
  refine d_takeA 9 rfl (by kernel_rfl) rfl (.inr heldx) (y_concat rfl rfl (by first | omega | (simp only [List.length_append, List.length_cons, List.length_nil]; omega) | (simp; omega))) .free rfl ?_
  refine d_call 14 rfl (by kernel_rfl) rfl rfl .free rfl (g_l91More hs nx kd (by omega) (by omega) (by omega) _) ?_
  rintro _ J2 _ e2 ⟨o3, c3, o4, c4, rfl, hs2, rfl⟩
  have h := h.mono e2
  have hle := hle.trans e2
  have hlr := hlr.trans e2
  refine ⟨(.inr heldx), ?_⟩
  refine d_call 17 rfl (by kernel_rfl) rfl rfl .free rfl (ih h hl b _ (by omega) hs2 (by simp; omega) _ (by omega) _) ?_
  rintro _ J _ e ⟨s1, p1, rfl, hs1, hp1, hp2, rfl⟩
  have hle := hle.trans e
  have hlr := hlr.trans e
  refine ⟨(.inr heldx), ?_⟩
  refine d_takeA 18 rfl (by kernel_rfl) rfl (.inr heldx) (y_concat rfl rfl (by first | omega | (simp only [List.length_append, List.length_cons, List.length_nil]; omega) | (simp; omega))) .free rfl ?_
  refine d_takeA 19 rfl (by kernel_rfl) rfl (.inr heldx) (y_concat rfl rfl (by first | omega | (simp only [List.length_append, List.length_cons, List.length_nil]; omega) | (simp; omega))) .free rfl ?_
  refine Da 20 rfl (y_assign rfl) ?_
  refine d_done (by kernel_rfl) ?_
  refine s_ret (.tmp rfl .nil) ?_
  exact ⟨_, _, hle, fun w h => Mem.sub (L' := rd b oa l c _ :: L) (by repeat (first | exact List.Sublist.refl _ | apply List.Sublist.cons_cons | apply List.Sublist.cons)) h, _, _, rfl, (by first | omega | (simp only [List.length_append, List.length_cons, List.length_nil]; omega) | (simp; omega)), by omega, by omega, rfl⟩
 intro c3
 try simp only [nb] at c3
 refine s_seq (Se rfl (Oc rfl rfl rfl (Oa rfl (o_done ?_))))
 refine s_cond rfl ?_ ?_
 ·intro c4
  try simp only [nb] at c4
  refine s_skip ?_
  first | refine s_tp rfl (by first | assumption | omega) ?_ | refine s_tn rfl (by first | assumption | omega) ?_ | refine s_true (by simp [look, opd, *]) ?_
  refine Se rfl (Om rfl ?_)
  refine o_call rfl .free rfl (g_l91Type 1 h hl b _ (by omega) (by decide) (by decide) _) ?_
  rintro _ J _ e ⟨kd, pk, rfl, hkd, hpk1, hpk2, rfl⟩
  have h := h.mono e
  have hs := hs.mono e
  have hle := hle.trans e
  have hlr := hlr.trans e
  refine Oa rfl (o_done (s_seq ?_))
  refine s_here fun hlr => ?_
  refine d_tl 20 rfl rfl ?_
  refine Da 0 rfl (y_move rfl) ?_
  refine Dt 1 [20] rfl (y_lOS rfl) ?_
  refine Da 2 rfl (y_move rfl) ?_
  refine d_takeA 3 rfl (by kernel_rfl) rfl (.inr heldx) (y_concat rfl rfl (by first | omega | (simp only [List.length_append, List.length_cons, List.length_nil]; omega) | (simp; omega))) .free rfl ?_
  refine d_takeA 4 rfl (by kernel_rfl) rfl (.inr heldx) (y_concat rfl rfl (by first | omega | (simp only [List.length_append, List.length_cons, List.length_nil]; omega) | (simp; omega))) .free rfl ?_
  refine Da 5 rfl (y_move rfl) ?_
  refine d_takeA 6 rfl (by kernel_rfl) rfl (.inr heldx) (y_concat rfl rfl (by first | omega | (simp only [List.length_append, List.length_cons, List.length_nil]; omega) | (simp; omega))) .free rfl ?_
  refine d_takeA 7 rfl (by kernel_rfl) rfl (.inr heldx) (y_concat rfl rfl (by first | omega | (simp only [List.length_append, List.length_cons, List.length_nil]; omega) | (simp; omega))) .free rfl ?_
  refine Da 8 rfl (y_move rfl) ?_
  refine Da 12 rfl (y_move rfl) ?_
  refine Dt 13 [20] rfl (y_lOS rfl) ?_
  refine Da 14 rfl (y_move rfl) ?_
  refine Da 15 rfl (y_move rfl) ?_
  refine d_call 9 rfl (by kernel_rfl) rfl rfl .free rfl (ih h hl b _ (by omega) hs (by omega) _ (by first | omega | (simp only [List.length_append, List.length_cons, List.length_nil]; omega)) _) ?_
  rintro _ J _ e ⟨s1, p1, rfl, hs1, hp1, hp2, rfl⟩
  have h := h.mono e
  have hs := hs.mono e
  have hle := hle.trans e
  have hlr := hlr.trans e
  refine ⟨(.inr heldx), ?_⟩
  refine d_takeA 10 rfl (by kernel_rfl) rfl (.inr heldx) (y_concat rfl rfl (by first | omega | (simp only [List.length_append, List.length_cons, List.length_nil]; omega) | (simp; omega))) .free rfl ?_
  refine d_takeA 11 rfl (by kernel_rfl) rfl (.inr heldx) (y_concat rfl rfl (by first | omega | (simp only [List.length_append, List.length_cons, List.length_nil]; omega) | (simp; omega))) .free rfl ?_
  refine d_call 16 rfl (by kernel_rfl) rfl rfl .free rfl (ih h hl b _ (by omega) hs (by omega) _ (by first | omega | (simp only [List.length_append, List.length_cons, List.length_nil]; omega)) _) ?_
  rintro _ J _ e ⟨s1, p1, rfl, hs1, hp1, hp2, rfl⟩
  have h := h.mono e
  have hs := hs.mono e
  have hle := hle.trans e
  have hlr := hlr.trans e
  refine ⟨(.inr heldx), ?_⟩
  refine d_takeA 17 rfl (by kernel_rfl) rfl (.inr heldx) (y_concat rfl rfl (by first | omega | (simp only [List.length_append, List.length_cons, List.length_nil]; omega) | (simp; omega))) .free rfl ?_
  refine d_takeA 18 rfl (by kernel_rfl) rfl (.inr heldx) (y_concat rfl rfl (by first | omega | (simp only [List.length_append, List.length_cons, List.length_nil]; omega) | (simp; omega))) .free rfl ?_
  refine Da 19 rfl (y_assign rfl) ?_
  refine d_done (by kernel_rfl) ?_
  refine s_ret (.tmp rfl .nil) ?_
  exact ⟨_, _, hle, fun w h => Mem.sub (L' := rd b oa l c _ :: L) (by repeat (first | exact List.Sublist.refl _ | apply List.Sublist.cons_cons | apply List.Sublist.cons)) h, _, _, rfl, (by first | omega | (simp only [List.length_append, List.length_cons, List.length_nil]; omega) | (simp; omega)), by omega, by omega, rfl⟩
 intro c4
 try simp only [nb] at c4
 refine o_enter rfl (Oc rfl rfl rfl (Oa rfl (o_done ?_)))
 refine s_cond rfl ?_ ?_
 ·intro c5
  try simp only [nb] at c5
  refine Se rfl (Om rfl ?_)
  refine o_call rfl .free rfl (g_l91Type 1 h hl b _ (by omega) (by decide) (by decide) _) ?_
  rintro _ J _ e ⟨kd, pk, rfl, hkd, hpk1, hpk2, rfl⟩
  have h := h.mono e
  have hs := hs.mono e
  have hle := hle.trans e
  have hlr := hlr.trans e
  refine Oa rfl (o_done (s_seq ?_))
  refine s_here fun hlr => ?_
  refine d_tl 20 rfl rfl ?_
  refine Da 0 rfl (y_move rfl) ?_
  refine Dt 1 [20] rfl (y_lOS rfl) ?_
  refine Da 2 rfl (y_move rfl) ?_
  refine d_takeA 3 rfl (by kernel_rfl) rfl (.inr heldx) (y_concat rfl rfl (by first | omega | (simp only [List.length_append, List.length_cons, List.length_nil]; omega) | (simp; omega))) .free rfl ?_
  refine d_takeA 4 rfl (by kernel_rfl) rfl (.inr heldx) (y_concat rfl rfl (by first | omega | (simp only [List.length_append, List.length_cons, List.length_nil]; omega) | (simp; omega))) .free rfl ?_
  refine Da 5 rfl (y_move rfl) ?_
  refine d_takeA 6 rfl (by kernel_rfl) rfl (.inr heldx) (y_concat rfl rfl (by first | omega | (simp only [List.length_append, List.length_cons, List.length_nil]; omega) | (simp; omega))) .free rfl ?_
  refine d_takeA 7 rfl (by kernel_rfl) rfl (.inr heldx) (y_concat rfl rfl (by first | omega | (simp only [List.length_append, List.length_cons, List.length_nil]; omega) | (simp; omega))) .free rfl ?_
  refine Da 8 rfl (y_move rfl) ?_
  refine Da 12 rfl (y_move rfl) ?_
  refine Dt 13 [20] rfl (y_lOS rfl) ?_
  refine Da 14 rfl (y_move rfl) ?_
  refine Da 15 rfl (y_move rfl) ?_
  refine d_call 9 rfl (by kernel_rfl) rfl rfl .free rfl (ih h hl b _ (by omega) hs (by omega) _ (by first | omega | (simp only [List.length_append, List.length_cons, List.length_nil]; omega)) _) ?_
  rintro _ J _ e ⟨s1, p1, rfl, hs1, hp1, hp2, rfl⟩
  have h := h.mono e
  have hs := hs.mono e
  have hle := hle.trans e
  have hlr := hlr.trans e
  refine ⟨(.inr heldx), ?_⟩
  refine d_takeA 10 rfl (by kernel_rfl) rfl (.inr heldx) (y_concat rfl rfl (by first | omega | (simp only [List.length_append, List.length_cons, List.length_nil]; omega) | (simp; omega))) .free rfl ?_
  refine d_takeA 11 rfl (by kernel_rfl) rfl (.inr heldx) (y_concat rfl rfl (by first | omega | (simp only [List.length_append, List.length_cons, List.length_nil]; omega) | (simp; omega))) .free rfl ?_
  refine d_call 16 rfl (by kernel_rfl) rfl rfl .free rfl (ih h hl b _ (by omega) hs (by omega) _ (by first | omega | (simp only [List.length_append, List.length_cons, List.length_nil]; omega)) _) ?_
  rintro _ J _ e ⟨s1, p1, rfl, hs1, hp1, hp2, rfl⟩
  have h := h.mono e
  have hs := hs.mono e
  have hle := hle.trans e
  have hlr := hlr.trans e
  refine ⟨(.inr heldx), ?_⟩
  refine d_takeA 17 rfl (by kernel_rfl) rfl (.inr heldx) (y_concat rfl rfl (by first | omega | (simp only [List.length_append, List.length_cons, List.length_nil]; omega) | (simp; omega))) .free rfl ?_
  refine d_takeA 18 rfl (by kernel_rfl) rfl (.inr heldx) (y_concat rfl rfl (by first | omega | (simp only [List.length_append, List.length_cons, List.length_nil]; omega) | (simp; omega))) .free rfl ?_
  refine Da 19 rfl (y_assign rfl) ?_
  refine d_done (by kernel_rfl) ?_
  refine s_ret (.tmp rfl .nil) ?_
  exact ⟨_, _, hle, fun w h => Mem.sub (L' := rd b oa l c _ :: L) (by repeat (first | exact List.Sublist.refl _ | apply List.Sublist.cons_cons | apply List.Sublist.cons)) h, _, _, rfl, (by first | omega | (simp only [List.length_append, List.length_cons, List.length_nil]; omega) | (simp; omega)), by omega, by omega, rfl⟩
 intro c5
 try simp only [nb] at c5
 refine Se rfl (Oc rfl rfl rfl (Oa rfl (o_done ?_)))
 refine s_cond rfl ?_ ?_
 ·intro c6
  try simp only [nb] at c6
  refine Se rfl (Om rfl ?_)
  refine o_lOS rfl .free rfl ?_
  refine Om rfl ?_
  refine Ok rfl rfl ?_
  refine Ok rfl rfl ?_
  refine Om rfl ?_
  refine o_call rfl .free rfl (ih h hl b _ (by omega) hs (by omega) _ (by first | omega | (simp only [List.length_append, List.length_cons, List.length_nil]; omega)) _) ?_
  rintro _ J _ e ⟨s1, p1, rfl, hs1, hp1, hp2, rfl⟩
  have h := h.mono e
  have hs := hs.mono e
  have hle := hle.trans e
  have hlr := hlr.trans e
  refine Ok rfl rfl ?_
  refine Ok rfl rfl ?_
  refine Oa rfl (o_done (s_ret (.tmp rfl .nil) ?_))
  exact ⟨_, _, hle, fun w h => Mem.sub (L' := rd b oa l c _ :: L) (by repeat (first | exact List.Sublist.refl _ | apply List.Sublist.cons_cons | apply List.Sublist.cons)) h, _, _, rfl, (by first | omega | (simp only [List.length_append, List.length_cons, List.length_nil]; omega) | (simp; omega)), by omega, by omega, rfl⟩
 intro c6
 try simp only [nb] at c6
 refine Se rfl (Oc rfl rfl rfl (Oa rfl (o_done ?_)))
 refine s_cond rfl ?_ ?_
 ·intro c7
  try simp only [nb] at c7
  refine Se rfl (Om rfl ?_)
  refine o_lOS rfl .free rfl ?_
  refine Om rfl ?_
  refine Ok rfl rfl ?_
  refine Ok rfl rfl ?_
  refine Om rfl ?_
  refine o_call rfl .free rfl (ih h hl b _ (by omega) hs (by omega) _ (by first | omega | (simp only [List.length_append, List.length_cons, List.length_nil]; omega)) _) ?_
  rintro _ J _ e ⟨s1, p1, rfl, hs1, hp1, hp2, rfl⟩
  have h := h.mono e
  have hs := hs.mono e
  have hle := hle.trans e
  have hlr := hlr.trans e
  refine Ok rfl rfl ?_
  refine Ok rfl rfl ?_
  refine Oa rfl (o_done (s_ret (.tmp rfl .nil) ?_))
  exact ⟨_, _, hle, fun w h => Mem.sub (L' := rd b oa l c _ :: L) (by repeat (first | exact List.Sublist.refl _ | apply List.Sublist.cons_cons | apply List.Sublist.cons)) h, _, _, rfl, (by first | omega | (simp only [List.length_append, List.length_cons, List.length_nil]; omega) | (simp; omega)), by omega, by omega, rfl⟩
 intro c7
 try simp only [nb] at c7
 refine Se rfl (Oc rfl rfl rfl (Oa rfl (o_done ?_)))
 refine s_cond rfl ?_ ?_
 ·intro c8
  try simp only [nb] at c8
  refine Se rfl (Om rfl (Od rfl rfl rfl (o_done ?_)))
  refine s_cond rfl ?_ ?_
  ·intro c9
   try simp only [nb] at c9
   refine Se rfl (Om rfl ?_)
   refine o_call rfl .free rfl (g_l91Loop h hl b _ (by omega) _) ?_
   rintro _ J _ e ⟨s1, p1, rfl, hs1, hp1, hp2, rfl⟩
   have hle := hle.trans e
   refine Oa rfl (o_done (s_ret (.tmp rfl .nil) ?_))
   exact ⟨_, _, hle, fun w h => Mem.sub (L' := rd b oa l c _ :: L) (by repeat (first | exact List.Sublist.refl _ | apply List.Sublist.cons_cons | apply List.Sublist.cons)) h, _, _, rfl, (by first | omega | (simp only [List.length_append, List.length_cons, List.length_nil]; omega) | (simp; omega)), by omega, by omega, rfl⟩
  intro c9
  try simp only [nb] at c9
  refine s_skip (s_inBlock (Se rfl (Om rfl ?_)))
  refine o_lOS rfl .free rfl ?_
  refine Om rfl (Om rfl ?_)
  refine o_call rfl .free rfl (build_step ih hd ht0 h hl b _ (by omega) hs (by omega) want (by omega) _) ?_
  rintro _ J _ e ⟨s1, p1, rfl, hs1, hp1, hp2, rfl⟩
  have hle := hle.trans e
  refine Oa rfl (o_done (s_ret (.tmp rfl .nil) ?_))
  exact ⟨_, _, hle, fun w h => Mem.sub (L' := rd b oa l c _ :: L) (by repeat (first | exact List.Sublist.refl _ | apply List.Sublist.cons_cons | apply List.Sublist.cons)) h, _, _, rfl, (by first | omega | (simp only [List.length_append, List.length_cons, List.length_nil]; omega) | (simp; omega)), by omega, by omega, rfl⟩
 intro c8
 try simp only [nb] at c8
 refine s_skip (s_inBlock (Se rfl (Om rfl ?_)))
 refine o_lOS rfl .free rfl ?_
 refine Om rfl (Om rfl ?_)
 refine o_call rfl .free rfl (build_step ih hd ht0 h hl b _ (by omega) hs (by omega) want (by omega) _) ?_
 rintro _ J _ e ⟨s1, p1, rfl, hs1, hp1, hp2, rfl⟩
 have hle := hle.trans e
 refine Oa rfl (o_done (s_ret (.tmp rfl .nil) ?_))
 exact ⟨_, _, hle, fun w h => Mem.sub (L' := rd b oa l c _ :: L) (by repeat (first | exact List.Sublist.refl _ | apply List.Sublist.cons_cons | apply List.Sublist.cons)) h, _, _, rfl, (by first | omega | (simp only [List.length_append, List.length_cons, List.length_nil]; omega) | (simp; omega)), by omega, by omega, rfl⟩
theorem expr_all : ∀ d, d ≤ 4 → ExprD d
 | 0, _ => expr_zero
 | d + 1, h => expr_step (expr_all d (by omega)) (by omega) (by
   have : ∀ d, d ≤ 4 → eT d ≤ 1000000000 := by decide
   exact this _ h)
theorem g_l91Expr {d : Nat} (hd : d ≤ 4) {I : Heap} {oa : Option Addr} {l : List UInt8} {c : Nat} (h : Bytes I oa l c) (hl : l.length ≤ 2000) (b p : Nat) (hp : p + 3000 ≤ 1099511627776) {ns ts : List Txt} {o1 o2 : Option Addr} {c1 c2 : Nat} (hs : ScAt I ns ts o1 c1 o2 c2) (hn : ns.length ≤ 80) (want : Txt) (hw : want.length ≤ 900) (L : Own) :
  Fun Tryz.prog 101 [.pointer (some ⟨b, 0, none⟩), .agg [.slice o1 ns.length c1, .slice o2 ts.length c2].toArray, .string (str want), .int .i64 (d : Nat)] I (rd b oa l c p :: L) (DT b oa l c p 3000 400000 L) := by
 have hk : ∀ d, d ≤ 4 → kE d ≤ 3000 ∧ eT d ≤ 400000 := by decide
 obtain ⟨h1, h2⟩ := hk d hd
 refine (expr_all d hd h hl b p (by omega) hs (by omega) want (by omega) L).mono ?_
 rintro v I' L' _ ⟨s, p', rfl, h3, h4, h5, rfl⟩
 exact ⟨s, p', rfl, by omega, h4, by omega, rfl⟩
mutual
def Tree.atomL : Tree → List Txt
 | .node a [] => [a]
 | .node _ (p :: ps) => p.atomL ++ atomsL ps
def atomsL : List Tree → List Txt
 | [] => []
 | t :: ts => t.atomL ++ atomsL ts
end
mutual
def Tree.repl : Tree → Txt → Tree → Tree
 | .node x [], a, b => if x = a then b else .node x []
 | .node x (p :: ps), a, b => .node x (p.repl a b :: replL ps a b)
def replL : List Tree → Txt → Tree → List Tree
 | [], _, _ => []
 | t :: ts, a, b => t.repl a b :: replL ts a b
end
theorem atomsL_eq (t : Tree) (h : t.parts ≠ []) : t.atomL = atomsL t.parts := by
 cases t with
 | node a ps => cases ps with
  | nil => exact absurd rfl h
  | cons p ps => rfl
theorem atomL_atom (t : Tree) (h : t.parts = []) : t.atomL = [t.atom] := by
 cases t with
 | node a ps => simp [Tree.parts] at h; subst h; rfl
theorem atomsL_append : ∀ (a b : List Tree), atomsL (a ++ b) = atomsL a ++ atomsL b
 | [], b => rfl
 | t :: a, b => by simp only [List.cons_append, atomsL, atomsL_append a b, List.append_assoc]
theorem atomsL_take (ps : List Tree) (i : Nat) (hi : i < ps.length) : atomsL (ps.take (i + 1)) = atomsL (ps.take i) ++ ps[i].atomL := by
 rw [List.take_succ_eq_append_getElem hi, atomsL_append]; simp [atomsL]
mutual
theorem Tree.atomL_len : ∀ t : Tree, t.atomL.length = t.size
 | .node a [] => rfl
 | .node a (p :: ps) => by
  have h1 := p.atomL_len; have h2 := atomsL_len ps
  simp only [Tree.atomL, List.length_append, h1, h2, Tree.size, sizeL, List.isEmpty_cons, cond_false]
theorem atomsL_len : ∀ ts : List Tree, (atomsL ts).length = sizeL ts
 | [] => rfl
 | t :: ts => by have h1 := t.atomL_len; have h2 := atomsL_len ts; simp only [atomsL, List.length_append, h1, h2, sizeL]
end
theorem replL_eq (t : Tree) (a : Txt) (b : Tree) (h : t.parts ≠ []) : t.repl a b = .node t.atom (replL t.parts a b) := by
 cases t with
 | node x ps => cases ps with
  | nil => exact absurd rfl h
  | cons p ps => rfl
theorem repl_atom (t : Tree) (a : Txt) (b : Tree) (h : t.parts = []) : t.repl a b = if t.atom = a then b else t := by
 cases t with
 | node x ps => simp [Tree.parts] at h; subst h; rfl
theorem replL_append : ∀ (p q : List Tree) (a : Txt) (b : Tree), replL (p ++ q) a b = replL p a b ++ replL q a b
 | [], q, a, b => rfl
 | t :: p, q, a, b => by simp only [List.cons_append, replL, replL_append p q]
theorem replL_length : ∀ (ps : List Tree) (a : Txt) (b : Tree), (replL ps a b).length = ps.length
 | [], _, _ => rfl
 | t :: ps, a, b => by simp only [replL, List.length_cons, replL_length ps]
theorem replL_take (ps : List Tree) (a : Txt) (b : Tree) (i : Nat) (hi : i < ps.length) : replL (ps.take (i + 1)) a b = replL (ps.take i) a b ++ [ps[i].repl a b] := by
 rw [List.take_succ_eq_append_getElem hi, replL_append]; rfl
mutual
theorem Tree.repl_good : ∀ {t : Tree} {a : Txt} {b : Tree}, t.good = true → b.good = true → (t.repl a b).good = true
 | .node x [], a, b, h, hb => by simp only [Tree.repl]; split; exact hb; exact h
 | .node x (p :: ps), a, b, h, hb => by
  obtain ⟨h1, h2, h3⟩ := good_list h
  subst h1
  simp [Tree.repl, Tree.good, goodL, Tree.repl_good h2 hb, replL_good h3 hb]
theorem replL_good : ∀ {ps : List Tree} {a : Txt} {b : Tree}, goodL ps = true → b.good = true → goodL (replL ps a b) = true
 | [], a, b, h, hb => rfl
 | t :: ps, a, b, h, hb => by
  simp [goodL] at h
  simp [replL, goodL, Tree.repl_good h.1 hb, replL_good h.2 hb]
end
mutual
theorem Tree.repl_len : ∀ (t : Tree) (a : Txt) (b : Tree), (t.repl a b).len ≤ t.len + t.size * b.len
 | .node x [], a, b => by simp only [Tree.repl, Tree.size, List.isEmpty_nil, cond_true, Nat.one_mul]; split <;> omega
 | .node x (p :: ps), a, b => by
  have h1 := p.repl_len a b; have h2 := replL_len ps a b
  simp only [Tree.repl, Tree.len, Tree.size, lenL, sizeL, List.isEmpty_cons, cond_false, Nat.add_mul]; omega
theorem replL_len : ∀ (ps : List Tree) (a : Txt) (b : Tree), lenL (replL ps a b) ≤ lenL ps + sizeL ps * b.len
 | [], a, b => by simp [replL, lenL, sizeL]
 | t :: ps, a, b => by
  have h1 := t.repl_len a b; have h2 := replL_len ps a b
  simp only [replL, lenL, sizeL, Nat.add_mul]; omega
end
theorem addAll_ne {l : List Txt} (h : l ≠ []) : addAll [] l ≠ [] := fun e => h (addAll_nil.1 e)
theorem Tree.size_one : ∀ t : Tree, 1 ≤ t.size
 | .node a [] => Nat.le_refl _
 | .node a (p :: ps) => by
  have := Tree.size_one p
  simp only [Tree.size, sizeL, List.isEmpty_cons, cond_false]; omega
theorem atomL_ne (t : Tree) : t.atomL ≠ [] := by
 have h1 := t.atomL_len
 have h2 := t.size_one
 intro e; rw [e] at h1; simp at h1; omega
mutual
theorem Tree.atom_len : ∀ (t : Tree) (x : Txt), x ∈ t.atomL → x.length ≤ t.len
 | .node a [], x, h => by
  simp only [Tree.atomL, List.mem_singleton] at h
  subst h; simp [Tree.len]
 | .node a (p :: ps), x, h => by
  simp only [Tree.atomL, List.mem_append] at h
  simp only [Tree.len, lenL, List.isEmpty_cons, cond_false]
  rcases h with h | h
  ·have := p.atom_len x h; omega
  ·have := atomsL_mem_len ps x h; omega
theorem atomsL_mem_len : ∀ (ts : List Tree) (x : Txt), x ∈ atomsL ts → x.length ≤ lenL ts
 | [], x, h => by cases h
 | t :: ts, x, h => by
  simp only [atomsL, List.mem_append] at h
  simp only [lenL]
  rcases h with h | h
  ·have := t.atom_len x h; omega
  ·have := atomsL_mem_len ts x h; omega
end
theorem atoms_len {t : Tree} (h : t.len ≤ 12000000) : ∀ s ∈ addAll [] t.atomL, s.length ≤ maxN := by
 intro s hs
 rcases addAll_mem.1 hs with h1 | h1
 ·cases h1
 ·have := t.atom_len s h1; unfold maxN; omega
def atomsOf (s : Txt) : Option (List Txt) := (parse s).map fun t => addAll [] t.atomL
def replOf (s a b : Txt) : Option Txt := match parse s, parse a, parse b with
 | some t, some x, some y => if x.atom ≠ [] ∧ (parse (t.repl a y).text).isSome = true then some (t.repl a y).text else none
 | _, _, _ => none
theorem g_FormValid (s : Txt) (hs : s.length ≤ maxL) (I : Heap) (L : Own) : Fun Tryz.prog 104 [.string (str s)] I L (fun v I' L' => v = .bool (parse s).isSome ∧ L = L') := by
 refine fun_intro (by simp) ?_
 refine Se rfl (Oa rfl (o_done (Se rfl (Om rfl ?_))))
 refine o_call rfl .free rfl (g_l1Parse' s hs _ _) ?_
 rintro _ J _ e1 ⟨t, cs, ok, rfl, hrep, rfl, hpf⟩
 obtain ⟨o1, k1, _, rfl, -⟩ := hrep.open
 refine Om rfl (Oe rfl rfl (Oe rfl rfl ?_))
 refine o_alloc .free rfl ?_
 intro b3
 refine o_st rfl rfl rfl rfl .free ?_
 refine Oa rfl (o_done (Se rfl (Om rfl (Oa rfl (o_done (s_ret (.tmp rfl .nil) ?_))))))
 refine ⟨J, L, e1, drops, ?_, rfl⟩
 cases hp : parse s with
 | none => rw [hp] at hpf; rw [hpf]; rfl
 | some t0 => rw [hp] at hpf; rw [hpf.1]; rfl
/-- What a loop over the parts has gathered. -/
structure GA where
 i : Nat
 l : List Txt
 B : Buf
 c : Nat
theorem g_l1Atoms : ∀ (n : Nat) {I : Heap} {t : Tree} {cs : List Value} (_ : SizeOf.sizeOf t < n) (_ : Rep I t cs) (_ : t.good = true) (l : List Txt) (B : Buf) (c : Nat) (_ : l.length + t.size ≤ 4294967295) (_ : BufOk 1 l.length c (l.map sv) B) (L : Own),
  Fun Tryz.prog 102 [.agg cs.toArray, bufVal l.length c B] I (bufOwn 9 (l.map sv) B ++ L) (fun v I' L' => I = I' ∧ LP (addAll l t.atomL) L v I' L') := by
 intro n
 induction n with
 | zero => intro I t cs h; omega
 | succ n ihn =>
  intro I t cs hlt h hg l B c hl hB L
  obtain ⟨oa, cc, oaf, cf, rfl, hf⟩ := h.at'
  have ha := hf.alen
  have hnil := hf.nil
  have hp := hf.len
  unfold maxN at hp
  have hs1 := t.size_one
  have hlN : l.length ≤ maxN := by unfold maxN; omega
  refine fun_intro (by simp) ?_
  refine Se rfl ?_
  refine o_box rfl rfl .free rfl ?_
  intro b2
  refine Oa rfl (o_done (s_seq (Se rfl (Oh rfl ?_))))
  refine o_lO1 rfl .free rfl ?_
  refine Od rfl rfl rfl (o_done ?_)
  refine s_cond rfl ?_ ?_
  ·intro c0
   try simp only [nb] at c0
   have hat := atomL_atom t (good_nil hg c0)
   refine s_seq (Se rfl (Om rfl (Oh rfl ?_)))
   refine o_lO1 rfl .free rfl ?_
   refine o_call rfl .free rfl (has_buf hB hlN _ _ _ _) ?_
   rintro _ _ _ _ ⟨rfl, rfl, rfl⟩
   refine o_done ?_
   refine s_cond rfl ?_ ?_
   ·intro c1
    try simp only [nb] at c1
    refine Se rfl (Om rfl (Oa rfl (o_done (s_ret (.tmp rfl .nil) ?_))))
    have hoc : addAll l t.atomL = l := by rw [hat]; exact addAll_in c1
    exact ⟨I, _, .refl _, fun w h => h.drop, rfl, B, c, by rw [hoc]; rfl, by rw [hoc]; exact hB, by rw [hoc]⟩
   intro c1
   try simp only [nb] at c1
   refine s_skip (Se rfl (Om rfl (Oh rfl ?_)))
   refine o_lO1 rfl .free rfl ?_
   refine Ol rfl rfl ?_
   intro b17
   refine o_append (B := B) (xs := l.map sv) (ys := [sv t.atom]) (m := l.length) (c := c) (by intro kk; simp) (by rfl) rfl rfl hB (fun _ h => h.u2) (by rfl) (fun a ha => by cases ha; exact reads_ownL (.head _) (by rfl)) (by simp) (by rfl) (by decide) (by decide) (by omega) (by decide) .free rfl ?_
   intro bb sp c2 hB'
   refine Oa rfl (o_done (s_ret (.tmp rfl .nil) ?_))
   have hoc : addAll l t.atomL = l ++ [t.atom] := by rw [hat]; exact addAll_one c1
   exact ⟨I, _, .refl _, fun w h => Mem.sub (L' := (bb, _) :: L) (by repeat (first | exact List.Sublist.refl _ | apply List.Sublist.cons_cons | apply List.Sublist.cons)) h, rfl, some (bb, sp), c2, by rw [hoc]; simp [retOne, bufVal], by rw [hoc]; simpa using hB', by rw [hoc]; simp [bufOwn]⟩
  intro c0
  try simp only [nb] at c0
  have hne := good_ne hg (by simpa using c0)
  have hat := atomsL_eq t hne.1
  have hsz : t.size = sizeL t.parts := by
   cases t with
   | node a ps => cases ps with
    | nil => exact absurd rfl hne.1
    | cons p ps => rfl
  refine s_skip (s_seq (Se rfl (Oa rfl (o_done (s_block ?_)))))
  refine s_while (X := GA) (fun x => t.parts.length - x.i) (fun x => [(1, bufVal x.l.length x.c x.B), (2, .pointer (some ⟨b2, 0, none⟩)), (4, .slice none 0 0), (5, .int .i64 (x.i : Nat))]) (fun _ => I) (fun x => (b2, .cells [.string (str t.atom), .slice oa t.parts.length cc].toArray 46 (0, 0)) :: (bufOwn 9 (x.l.map sv) x.B ++ L)) (fun x => x.i ≤ t.parts.length ∧ x.l = addAll l (atomsL (t.parts.take x.i)) ∧ BufOk 1 x.l.length x.c (x.l.map sv) x.B) ⟨0, l, B, c⟩ ⟨Nat.zero_le _, rfl, hB⟩ ⟨rfl, rfl, rfl, rfl, trivial⟩ (by intro _ h; exact h) ?_
  rintro ⟨i, l1, B1, c1⟩ ⟨hi, hl1, hB1⟩ ih
  simp only at hi hl1 hB1 ih ⊢
  have hll := addAll_len l (atomsL (t.parts.take i))
  rw [← hl1, atomsL_len] at hll
  refine s_seq (Se rfl (Om rfl (Oh rfl ?_)))
  refine o_lO1 rfl .free rfl ?_
  refine On rfl (Oc rfl rfl rfl (o_done ?_))
  refine s_cond rfl ?_ ?_
  ·intro c2
   try simp only [nb] at c2
   have hi1 : i < t.parts.length := by omega
   have hsl : sizeL (t.parts.take i) + (t.pt i).size ≤ sizeL t.parts := by
    rw [Tree.pt_at hi1]
    have h1 := sizeL_append (t.parts.take i) (t.parts.drop i)
    rw [List.take_append_drop, List.drop_eq_getElem_cons hi1] at h1
    simp only [sizeL] at h1; omega
   have hpg := Tree.pt_good hg i hi1
   refine s_skip (s_seq (s_block (o_enter rfl (Oh rfl ?_))))
   refine o_lO1 rfl .free rfl ?_
   refine Om rfl ?_
   first | refine o_ixD rfl rfl _ rfl .free rfl ?_ | refine o_ixP rfl rfl _ rfl .free rfl ?_
   refine o_lIS rfl .free rfl ?_
   refine Om rfl ?_
   refine o_mem (fun w h => h.u1) ?_
   refine o_call rfl .free rfl (ihn (t := t.pt i) (by have := t.pt_lt i hi1; omega) (hf.rp i hi1) hpg l1 B1 c1 (by omega) hB1 _) ?_
   rintro _ _ _ _ ⟨rfl, B2, c2, rfl, hB2, rfl⟩
   refine o_mem (fun w h => h.w1) ?_
   refine Oa rfl (o_done (s_inBlock (o_enter rfl (Om rfl ?_))))
   refine Or rfl rfl rfl ?_
   refine Oa rfl (o_done ?_)
   exact s_env (E' := [(1, bufVal (addAll l1 (t.pt i).atomL).length c2 B2), (2, .pointer (some ⟨b2, 0, none⟩)), (4, .slice none 0 0), (5, .int .i64 ((i + 1 : Nat)))]) ⟨rfl, rfl, rfl, rfl, trivial⟩ (ih ⟨i + 1, addAll l1 (t.pt i).atomL, B2, c2⟩ ⟨by simp only; omega, by simp only; rw [hl1, ← addAll_append, atomsL_take _ _ hi1, Tree.pt_at hi1], hB2⟩ (by simp only; omega))
  intro c2
  try simp only [nb] at c2
  refine s_exit rfl ?_
  refine Se rfl (Om rfl (Oa rfl (o_done (s_ret (.tmp rfl .nil) ?_))))
  have hl2 : l1 = addAll l t.atomL := by
   rw [hl1, hat, show i = t.parts.length by omega, List.take_length]
  subst hl2
  exact ⟨I, _, .refl _, fun w h => h.drop, rfl, B1, c1, rfl, hB1, rfl⟩
theorem g_FormAtoms (s : Txt) (hs : s.length ≤ maxL) (I : Heap) (L : Own) : Fun Tryz.prog 59 [.string (str s)] I L (EF (atomsOf s) L) := by
 refine fun_intro (by simp) ?_
 refine Se rfl (Oa rfl (Oa rfl (o_done (Se rfl (Om rfl ?_)))))
 refine o_call rfl .free rfl (g_l1Parse' s hs _ _) ?_
 rintro _ J _ e1 ⟨t, cs, ok, rfl, hrep, rfl, hpf⟩
 obtain ⟨o1, k1, _, rfl, -⟩ := hrep.open
 refine Om rfl (Oe rfl rfl (Oe rfl rfl ?_))
 refine o_alloc .free rfl ?_
 intro b4
 refine o_st rfl rfl rfl rfl .free ?_
 refine Oa rfl (o_done (s_seq (Se rfl (Om rfl ?_))))
 refine o_not rfl .free rfl ?_
 refine o_done ?_
 refine s_cond rfl ?_ ?_
 ·intro c0
  try simp only [nb] at c0
  refine Se rfl ?_
  refine o_lits0 .free rfl ?_
  intro b13
  refine Oa rfl (Oa rfl (o_done ?_))
  refine s_ret (.tmp rfl (.tmp rfl .nil)) ?_
  refine ⟨J, L, e1, drops, some ⟨b13, 0, none⟩, 0, ?_, ?_, rfl⟩
  ·have : atomsOf s = none := by
    unfold atomsOf
    cases hp : parse s with
    | none => rfl
    | some t0 => rw [hp] at hpf; rw [hpf.1] at c0; cases c0
   rw [this]; rfl
  ·have : atomsOf s = none := by
    unfold atomsOf
    cases hp : parse s with
    | none => rfl
    | some t0 => rw [hp] at hpf; rw [hpf.1] at c0; cases c0
   rw [this]; exact strs_empty _ _
 intro c0
 try simp only [nb] at c0
 have hps := RD_some hpf c0
 have hpg := parse_good hps
 have hpz := parse_size hps
 have hat : atomsOf s = some (addAll [] t.atomL) := by unfold atomsOf; rw [hps]; rfl
 refine s_skip (Se rfl ?_)
 refine o_lOS rfl .free rfl ?_
 refine o_lits0 .free rfl ?_
 intro b15
 refine o_mem (L' := bufOwn 9 (([] : List Txt).map sv) (some (b15, [])) ++ _) (fun w h => h) ?_
 refine o_call rfl .free rfl (g_l1Atoms _ (Nat.lt_succ_self _) hrep hpg.1 [] (some (b15, [])) 0 (by simp; omega) ⟨rfl, Nat.le_refl _, rfl⟩ _) ?_
 rintro _ _ _ _ ⟨rfl, B2, c2, rfl, hB2, rfl⟩
 refine Oa rfl (Oa rfl (o_done ?_))
 have hll := addAll_len [] t.atomL
 rw [Tree.atomL_len] at hll
 simp only [List.length_nil, Nat.zero_add] at hll
 refine s_freezeStrs hB2 rfl (by unfold maxN; omega) (atoms_len hpg.2.1) ?_
 intro J2 oz cz ez hbv hst
 refine s_put (t := 2) rfl hbv ?_
 refine s_ret (.tmp rfl (.tmp rfl .nil)) ?_
 exact ⟨J2, L, e1.trans ez, drops, oz, cz, by rw [hat]; rfl, by rw [hat]; exact hst, rfl⟩
/-- A form that a loop has made, in part. -/
structure GP where
 J : Heap
 i : Nat
 xs : List Value
 B : Buf
 c : Nat
theorem g_l1Replace : ∀ (n : Nat) {I : Heap} {t : Tree} {cs : List Value} (_ : SizeOf.sizeOf t < n) (_ : Rep I t cs) (_ : t.good = true) (a : Txt) (_ : a ≠ []) {y : Tree} {ds : List Value} (_ : Rep I y ds) (L : Own),
  Fun Tryz.prog 103 [.agg cs.toArray, .string (str a), .agg ds.toArray] I L (RP (t.repl a y) L) := by
 intro n
 induction n with
 | zero => intro I t cs h; omega
 | succ n ihn =>
  intro I t cs hlt h hg a ha0 y ds hy L
  obtain ⟨oa, cc, oaf, cf, rfl, hf⟩ := h.at'
  obtain ⟨oy, ky, _, rfl, -⟩ := hy.open
  have hp := hf.len
  unfold maxN at hp
  have hnil := hf.nil
  refine fun_intro (by simp) ?_
  refine Se rfl ?_
  refine o_box rfl rfl .free rfl ?_
  intro b3
  refine o_box rfl rfl .free rfl ?_
  intro b5
  refine o_alloc .free rfl ?_
  intro b6
  refine o_done (s_seq (Se rfl (Oh rfl ?_)))
  refine o_lO1 rfl .free rfl ?_
  refine Om rfl (Od rfl rfl rfl (Om rfl ?_))
  apply o_and 13 16 rfl
  ·intro g1_5 hk
   try simp only [nb] at g1_5
   refine Ow rfl ?_
   refine o_cmps rfl rfl rfl (.met rfl rfl) rfl ?_
   refine Ot rfl rfl ?_
   exact o_fin 2 rfl rfl hk
  ·intro _ hk
   refine o_skips 2 rfl ?_
   refine Of rfl rfl ?_
   exact o_fin 2 rfl rfl hk
  refine o_done ?_
  refine s_cond rfl ?_ ?_
  ·intro c0
   try simp only [nb] at c0
   refine Se rfl ?_
   refine o_lOS rfl .free rfl ?_
   refine o_st rfl rfl rfl rfl .free ?_
   refine o_done ?_
   refine s_ret (.c rfl .nil) ?_
   have e : t.repl a y = y := by rw [repl_atom t a y (good_nil hg (by rw [c0.1]; exact ha0)), if_pos c0.1]
   exact ⟨I, L, .refl _, drops, _, rfl, by rw [e]; exact hy, rfl⟩
  intro c0
  try simp only [nb] at c0
  refine s_skip (s_seq (Se rfl (Oh rfl ?_)))
  refine o_lO1 rfl .free rfl ?_
  refine Od rfl rfl rfl (o_done ?_)
  refine s_cond rfl ?_ ?_
  ·intro c1
   try simp only [nb] at c1
   refine Se rfl ?_
   refine o_lOS rfl .free rfl ?_
   refine o_st rfl rfl rfl rfl .free ?_
   refine o_done ?_
   refine s_ret (.c rfl .nil) ?_
   have e : t.repl a y = t := by rw [repl_atom t a y (good_nil hg c1), if_neg (fun e => by rcases c0 with h | h; exact h e; exact ha0 h)]
   exact ⟨I, L, .refl _, drops, _, rfl, by rw [e]; exact hf.rep, rfl⟩
  intro c1
  try simp only [nb] at c1
  have hat : t.atom = [] := by simpa using c1
  have hne := good_ne hg hat
  have hre := replL_eq t a y hne.1
  refine s_skip (Se rfl ?_)
  refine o_struct rfl rfl rfl .free rfl ?_
  refine o_alloc .free rfl ?_
  intro b7
  refine o_st rfl rfl rfl rfl .free ?_
  refine o_done (s_seq (Se rfl (Oa rfl (o_done (s_block ?_)))))
  refine s_while (X := GP) (fun x => t.parts.length - x.i) (fun x => [(1, .string (str a)), (3, .pointer (some ⟨b3, 0, none⟩)), (5, .pointer (some ⟨b5, 0, none⟩)), (6, .pointer (some ⟨b6, 0, none⟩)), (7, .pointer (some ⟨b7, 0, none⟩)), (8, .int .i64 (x.i : Nat))]) (fun x => x.J) (fun x => (b7, .cells [.string (str []), bufVal x.i x.c x.B].toArray 46 (0, 0)) :: (bufOwn 46 x.xs x.B ++ ((b6, .cells [.string (str []), .slice none 0 0].toArray 46 (0, 0)) :: (b5, .cells [.string (str y.atom), .slice oy y.parts.length ky].toArray 46 (0, 0)) :: (b3, .cells [.string (str t.atom), .slice oa t.parts.length cc].toArray 46 (0, 0)) :: L))) (fun x => HLe I x.J ∧ x.i ≤ t.parts.length ∧ RepL x.J (replL (t.parts.take x.i) a y) x.xs ∧ BufOk 2 x.i x.c x.xs x.B) ⟨I, 0, [], none, 0⟩ ⟨.refl _, Nat.zero_le _, .nil, ⟨rfl, rfl, rfl⟩⟩ ⟨rfl, rfl, rfl, rfl, rfl, rfl, trivial⟩ (by intro _ h; exact h) ?_
  rintro ⟨J, i, xs, B, cb⟩ ⟨ez, hi, hl, hB⟩ ih
  simp only at ez hi hl hB ih ⊢
  have hf := hf.mono ez
  have hy := hy.mono ez
  refine s_seq (Se rfl (Om rfl (Oh rfl ?_)))
  refine o_lO1 rfl .free rfl ?_
  refine On rfl (Oc rfl rfl rfl (o_done ?_))
  refine s_cond rfl ?_ ?_
  ·intro c2
   try simp only [nb] at c2
   have hi1 : i < t.parts.length := by omega
   have hpg := Tree.pt_good hg i hi1
   have hlt1 := t.pt_lt i hi1
   refine s_skip (s_seq (s_block ?_))
   refine d_x 14 rfl rfl ?_
   refine Da 0 rfl (y_fieldAddr rfl) ?_
   refine Dt 1 [13] rfl (y_lO1 rfl) ?_
   refine Da 2 rfl (y_fieldAddr rfl) ?_
   refine Dt 3 [13] rfl (y_lO1 rfl) ?_
   refine Da 4 rfl (y_move rfl) ?_
   first | refine Da 5 rfl (y_ixD rfl rfl _ rfl) ?_ | refine Da 5 rfl (y_ixP rfl rfl _ rfl) ?_
   refine Dt 6 [13] rfl (y_lIS rfl) ?_
   refine Da 7 rfl (y_move rfl) ?_
   refine Dt 8 [13] rfl (y_lOS rfl) ?_
   refine d_call 9 rfl (by kernel_rfl) rfl rfl .free rfl (ihn (t := t.pt i) (by omega) (hf.rp i hi1) hpg a ha0 hy _) ?_
   rintro _ J1 _ e1 ⟨cs1, rfl, h1, rfl⟩
   obtain ⟨o1, k1, _, rfl, -⟩ := h1.open
   refine ⟨(.inr heldx), ?_⟩
   refine d_lits 10 rfl (by kernel_rfl) rfl rfl rfl (by rfl) (by rfl) (by rfl) (by decide) (by decide) (by rfl) .free rfl (.inr heldx) ?_
   intro b40
   refine d_appendB 11 (B := B) (xs := xs) (ys := [.string (str ((t.pt i).repl a y).atom), .slice o1 ((t.pt i).repl a y).parts.length k1]) (m := i) (c := cb) rfl (by kernel_rfl) rfl (by intro kk; simp) (by rfl) rfl rfl hB (fun _ h => h.u2) (by rfl) (fun a ha => by cases ha; exact reads_ownL (by repeat first | exact .head _ | apply List.Mem.tail | apply List.mem_append_right) (by rfl)) (by simp) (by rfl) (by decide) (by omega) (by decide) .free rfl (fun _ => .inr heldx) ?_
   intro B2 c2 hB2
   refine d_mem (fun w h => Mem.w1 (Mem.sub (List.Sublist.append_left (.cons _ (.refl _)) _) h)) ?_
   refine Da 12 rfl (y_fieldAddr rfl) ?_
   refine d_st 13 rfl (by kernel_rfl) rfl rfl rfl valCells_buf rfl .free (.inl (by kernel_rfl)) ?_
   refine d_done (by kernel_rfl) ?_
   refine s_inBlock (o_enter rfl (Om rfl ?_))
   refine Or rfl rfl rfl ?_
   refine Oa rfl (o_done ?_)
   refine s_env (E' := [(1, .string (str a)), (3, .pointer (some ⟨b3, 0, none⟩)), (5, .pointer (some ⟨b5, 0, none⟩)), (6, .pointer (some ⟨b6, 0, none⟩)), (7, .pointer (some ⟨b7, 0, none⟩)), (8, .int .i64 ((i + 1 : Nat)))]) ⟨rfl, rfl, rfl, rfl, rfl, rfl, trivial⟩ (ih ⟨J1, i + 1, xs ++ [.string (str ((t.pt i).repl a y).atom), .slice o1 ((t.pt i).repl a y).parts.length k1], B2, c2⟩ ⟨ez.trans e1, by simp only; omega, ?_, hB2⟩ (by simp only; omega))
   rw [replL_take _ _ _ _ hi1, ← Tree.pt_at hi1]
   exact (hl.mono e1).append (.one h1)
  intro c2
  try simp only [nb] at c2
  refine s_exit rfl ?_
  refine s_seq ?_
  have hie : i = t.parts.length := by omega
  rw [hie, List.take_length] at hl
  refine s_mem (fun w h => h.u1) (s_freezeForms hl hB (by rw [replL_length, hie]) (by rw [replL_length]; unfold maxN; omega) ?_)
  intro J2 oz cz ez2 hbv hst
  rw [hbv]
  refine o_enter rfl ?_
  refine o_lOS rfl .free rfl ?_
  refine o_st rfl rfl rfl rfl .free ?_
  refine o_done ?_
  refine s_ret (.c rfl .nil) ?_
  exact ⟨J2, L, ez.trans ez2, drops, _, rfl, by rw [hre, hat]; exact hst.form [] (by decide), rfl⟩
theorem replOf_some {s a b : Txt} {t x y : Tree} (h1 : parse s = some t) (h2 : parse a = some x) (h3 : parse b = some y) : replOf s a b = if x.atom ≠ [] ∧ (parse (t.repl a y).text).isSome = true then some (t.repl a y).text else none := by
 unfold replOf; rw [h1, h2, h3]
theorem replOf_none {s a b : Txt} (h : parse s = none ∨ parse a = none ∨ parse b = none) : replOf s a b = none := by
 unfold replOf
 rcases h with h | h | h
 ·rw [h]
 ·rw [h]; cases parse s <;> rfl
 ·rw [h]; cases parse s <;> cases parse a <;> rfl
theorem RD_get {p : Option Tree} {t : Tree} {ok : Bool} (hpf : match p with | some t0 => ok = true ∧ t = t0 | none => ok = false) : (ok = false → p = none) ∧ (ok = true → p = some t) := by
 cases p with
 | none => exact ⟨fun _ => rfl, fun h => (by rw [hpf] at h; cases h)⟩
 | some t0 => exact ⟨fun h => (by rw [hpf.1] at h; cases h), fun _ => (by rw [hpf.2])⟩
theorem parse_len {s : Txt} {t : Tree} (h : parse s = some t) : s.length ≤ 12000 ∧ t.len ≤ 12000 := by
 have h1 := (parse_fits h).1
 simp only [Tree.fits, Bool.and_eq_true, decide_eq_true_eq] at h1
 exact ⟨by rw [← parse_text h, Tree.text_len]; exact h1.2, h1.2⟩
theorem repl_out {s a b o : Txt} (h : replOf s a b = some o) : o.length ≤ 12000 := by
 unfold replOf at h
 cases h1 : parse s with
 | none => rw [h1] at h; cases h
 | some t =>
  cases h2 : parse a with
  | none => rw [h1, h2] at h; cases h
  | some x =>
   cases h3 : parse b with
   | none => rw [h1, h2, h3] at h; cases h
   | some y =>
    rw [h1, h2, h3] at h
    simp only at h
    split at h
    ·rename_i hh
     cases h
     obtain ⟨z, hz⟩ := Option.isSome_iff_exists.1 hh.2
     exact (parse_len hz).1
    ·cases h
theorem g_FormReplace (s a b : Txt) (hs : s.length ≤ maxL) (ha : a.length ≤ maxL) (hb : b.length ≤ 900) (I : Heap) (L : Own) : Fun Tryz.prog 60 [.string (str s), .string (str a), .string (str b)] I L (EL (replOf s a b) L) := by
 refine fun_intro (by simp) ?_
 refine Se rfl (Oa rfl (Oa rfl (o_done (Se rfl (Om rfl ?_)))))
 refine o_call rfl .free rfl (g_l1Parse' s hs _ _) ?_
 rintro _ J1 _ e1 ⟨t, cs1, ok1, rfl, hr1, rfl, hp1⟩
 obtain ⟨o1, k1, _, rfl, -⟩ := hr1.open
 refine Om rfl (Oe rfl rfl (Oe rfl rfl ?_))
 refine o_alloc .free rfl ?_
 intro b8
 refine o_st rfl rfl rfl rfl .free ?_
 refine Oa rfl (o_done (Se rfl (Om rfl ?_)))
 refine o_call rfl .free rfl (g_l1Parse' a ha _ _) ?_
 rintro _ J2 _ e2 ⟨x, cs2, ok2, rfl, hr2, rfl, hp2⟩
 obtain ⟨o2, k2, _, rfl, -⟩ := hr2.open
 refine Om rfl (Oe rfl rfl (Oe rfl rfl ?_))
 refine o_alloc .free rfl ?_
 intro b10
 refine o_st rfl rfl rfl rfl .free ?_
 refine Oa rfl (o_done (Se rfl (Om rfl ?_)))
 refine o_call rfl .free rfl (g_l1Parse' b (by unfold maxL; omega) _ _) ?_
 rintro _ J3 _ e3 ⟨y, cs3, ok3, rfl, hr3, rfl, hp3⟩
 obtain ⟨o3, k3, _, rfl, -⟩ := hr3.open
 have q1 := RD_get hp1
 have q2 := RD_get hp2
 have q3 := RD_get hp3
 have hle := (e1.trans e2).trans e3
 refine Om rfl (Oe rfl rfl (Oe rfl rfl ?_))
 refine o_alloc .free rfl ?_
 intro b12
 refine o_st rfl rfl rfl rfl .free ?_
 refine Oa rfl (o_done (s_seq (Se rfl (Om rfl ?_))))
 refine o_not rfl .free rfl ?_
 refine Om rfl ?_
 apply o_or 32 35 rfl
 ·intro g4_3 hk
  try simp only [nb] at g4_3
  refine Ow rfl ?_
  refine o_not rfl (.met rfl rfl) rfl ?_
  refine Of rfl rfl ?_
  exact o_fin 2 rfl rfl hk
 ·intro _ hk
  refine o_skips 2 rfl ?_
  refine Ot rfl rfl ?_
  exact o_fin 2 rfl rfl hk
 refine Om rfl ?_
 apply o_or 36 39 rfl
 ·intro g4_7 hk
  try simp only [nb] at g4_7
  refine Ow rfl ?_
  refine o_not rfl (.met rfl rfl) rfl ?_
  refine Of rfl rfl ?_
  exact o_fin 2 rfl rfl hk
 ·intro _ hk
  refine o_skips 2 rfl ?_
  refine Ot rfl rfl ?_
  exact o_fin 2 rfl rfl hk
 refine Om rfl ?_
 apply o_or 40 44 rfl
 ·intro g4_11 hk
  try simp only [nb] at g4_11
  refine o_fieldAddr rfl (.met rfl rfl) rfl ?_
  refine o_lO1 rfl (.met rfl rfl) rfl ?_
  refine o_cmps rfl rfl rfl (.met rfl rfl) rfl ?_
  refine Of rfl rfl ?_
  exact o_fin 3 rfl rfl hk
 ·intro _ hk
  refine o_skips 3 rfl ?_
  refine Ot rfl rfl ?_
  exact o_fin 3 rfl rfl hk
 refine o_done ?_
 refine s_cond rfl ?_ ?_
 ·intro c0
  try simp only [nb] at c0
  refine Se rfl (Oa rfl (Oa rfl (o_done ?_)))
  refine s_ret (.tmp rfl (.tmp rfl .nil)) ?_
  refine ⟨J3, L, hle, drops, ?_, rfl⟩
  have hz : replOf s a b = none := by
   rcases c0 with ((h | h) | h) | h
   ·exact replOf_none (.inl (q1.1 h))
   ·exact replOf_none (.inr (.inl (q2.1 h)))
   ·exact replOf_none (.inr (.inr (q3.1 h)))
   ·cases hh1 : parse s with
    | none => exact replOf_none (.inl hh1)
    | some t1 =>
     cases hh2 : parse a with
     | none => exact replOf_none (.inr (.inl hh2))
     | some x1 =>
      cases hh3 : parse b with
      | none => exact replOf_none (.inr (.inr hh3))
      | some y1 =>
       rw [hh2] at hp2
       rw [replOf_some hh1 hh2 hh3, if_neg (by rw [← hp2.2]; exact fun e => e.1 h)]
  rw [hz]; rfl
 intro c0
 try simp only [nb] at c0
 obtain ⟨⟨⟨h1, h2⟩, h3⟩, h4⟩ := c0
 have p1 := q1.2 h1
 have p2 := q2.2 h2
 have p3 := q3.2 h3
 have f1 := parse_fits p1
 have f2 := parse_fits p2
 have f3 := parse_fits p3
 have l1 := (parse_len p1).2
 have l3 : y.len ≤ 900 := by rw [← Tree.text_len, parse_text p3]; exact hb
 have z1 := parse_size p1
 have hrl := t.repl_len a y
 have hmul : t.size * y.len ≤ 12000 * 900 := Nat.mul_le_mul z1 l3
 have hrg := Tree.repl_good (a := a) f1.2.1 f3.2.1
 have ha0 : a ≠ [] := by
  intro e
  have h5 := parse_text p2
  have h6 := good_nil f2.2.1 h4
  cases x with
  | node n ps =>
   simp only [Tree.parts] at h6
   subst h6
   simp only [Tree.text, List.isEmpty_nil, cond_true] at h5
   exact h4 (h5.trans e)
 have hro := replOf_some p1 p2 p3
 refine s_skip (Se rfl ?_)
 refine o_lOS rfl .free rfl ?_
 refine Om rfl ?_
 refine o_lOS rfl .free rfl ?_
 refine o_call rfl .free rfl (g_l1Replace _ (Nat.lt_succ_self _) ((hr1.mono e2).mono e3) f1.2.1 a ha0 hr3 _) ?_
 rintro _ J4 _ e4 ⟨cs4, rfl, hr4, rfl⟩
 refine o_call rfl .free rfl (g_l1Text _ (Nat.lt_succ_self _) hr4 hrg (by omega) _) ?_
 rintro _ _ _ _ ⟨rfl, rfl, rfl⟩
 refine Oa rfl (o_done (s_seq (Se rfl (Om rfl ?_))))
 refine o_call rfl .free rfl (g_FormValid _ (by rw [Tree.text_len]; unfold maxL; omega) _ _) ?_
 rintro _ J5 _ e5 ⟨rfl, rfl⟩
 have hle := (hle.trans e4).trans e5
 refine o_not rfl .free rfl ?_
 refine o_done ?_
 refine s_cond rfl ?_ ?_
 ·intro c1
  try simp only [nb] at c1
  refine Se rfl (Oa rfl (Oa rfl (o_done ?_)))
  refine s_ret (.tmp rfl (.tmp rfl .nil)) ?_
  refine ⟨J5, L, hle, drops, ?_, rfl⟩
  rw [hro, if_neg (by rintro ⟨-, h⟩; rw [c1] at h; cases h)]; rfl
 intro c1
 try simp only [nb] at c1
 refine s_skip (Se rfl (Om rfl (Oa rfl (Oa rfl (o_done ?_)))))
 refine s_ret (.tmp rfl (.tmp rfl .nil)) ?_
 refine ⟨J5, L, hle, drops, ?_, rfl⟩
 rw [hro, if_pos ⟨h4, c1⟩]; rfl
theorem sc_nil (I : Heap) (oa ob : Option Addr) : ScAt I [] [] oa 0 ob 0 := ⟨strs_empty _ _, strs_empty _ _, rfl, (fun _ h => by cases h), (fun _ h => by cases h)⟩
theorem g_l91Good {I : Heap} {oa : Option Addr} {l : List UInt8} {c : Nat} (h : Bytes I oa l c) (hl : l.length ≤ 2000) (b p : Nat) (hp : p + 7000 ≤ 1099511627776) (L : Own) :
  Fun Tryz.prog 57 [.pointer (some ⟨b, 0, none⟩)] I (rd b oa l c p :: L) (DT b oa l c p 7000 400000 L) := by
 have hle : HLe I I := .refl _
 have hk2 : kT 2 = 6 := rfl
 have hb2 : bT 2 = 19 := rfl
 refine fun_intro (by simp) ?_
 refine Se rfl (Oa rfl (o_done (Se rfl (Oa rfl (o_done (s_seq (Se rfl (Om rfl ?_))))))))
 refine o_call rfl .free rfl (g_l6Rd_pick h hl b _ 3 (by omega) (by decide) _) ?_
 rintro _ _ _ _ ⟨r, rfl, rfl, rfl, hr⟩
 refine Oc rfl rfl rfl (o_done ?_)
 refine s_cond rfl ?_ ?_
 ·intro c0
  try simp only [nb] at c0
  refine o_enter rfl (Om rfl ?_)
  refine o_call rfl .free rfl (g_l91Type 2 h hl b _ (by omega) (by decide) (by decide) _) ?_
  rintro _ J _ e ⟨w, pw, rfl, hw, hp1, hp2, rfl⟩
  have h := h.mono e
  have hle := hle.trans e
  refine Oa rfl (o_done (s_seq ?_))
  try have hw := hw
  refine o_enter rfl (Om rfl ?_)
  refine o_lits0 .free rfl ?_
  intro b11
  refine o_lits0 .free rfl ?_
  intro b12
  refine o_struct rfl rfl rfl .free rfl ?_
  refine Om rfl (Om rfl ?_)
  refine o_mem (fun w h => Mem.sub (L' := rd b oa l c _ :: L) (by repeat (first | exact List.Sublist.refl _ | apply List.Sublist.cons_cons | apply List.Sublist.cons)) h) ?_
  refine o_call rfl .free rfl (g_l6Rd_pick h hl b _ 3 (by omega) (by decide) _) ?_
  rintro _ _ _ _ ⟨r2, rfl, rfl, rfl, hr2⟩
  have hr3 : r2 < 3 := by omega
  have hdd : ∃ d : Nat, (2 : Int) + (r2 : Nat) = (d : Nat) ∧ d ≤ 4 := ⟨2 + r2, by omega, by omega⟩
  obtain ⟨d, hd1, hd2⟩ := hdd
  refine Or rfl rfl rfl ?_
  refine o_put (t := 17) (v' := .int .i64 (d : Nat)) rfl (by rw [← hd1]) ?_
  refine o_call rfl .free rfl (g_l91Expr hd2 h hl b _ (by omega) (sc_nil _ _ _) (by simp) _ (by first | omega | (simp; done) | decide) _) ?_
  rintro _ J1 _ e1 ⟨s1, p1, rfl, hs1, hp3, hp4, rfl⟩
  have h := h.mono e1
  have hle := hle.trans e1
  refine Oa rfl (o_done (s_seq (Se rfl (Om rfl ?_))))
  refine o_call rfl .free rfl (g_ExprValid s1 (by unfold maxN; omega) _ _) ?_
  rintro _ _ _ _ ⟨rfl, rfl, rfl⟩
  refine o_done ?_
  refine s_cond rfl ?_ ?_
  ·intro c1
   try simp only [nb] at c1
   refine Se rfl (Om rfl (Oa rfl (o_done (s_ret (.tmp rfl .nil) ?_))))
   exact ⟨_, _, hle, fun w h => Mem.sub (L' := rd b oa l c _ :: L) (by repeat (first | exact List.Sublist.refl _ | apply List.Sublist.cons_cons | apply List.Sublist.cons)) h, _, _, rfl, by omega, by omega, by omega, rfl⟩
  intro c1
  try simp only [nb] at c1
  refine s_skip (Se rfl (Om rfl ?_))
  refine o_lits0 .free rfl ?_
  intro b23
  refine o_lits0 .free rfl ?_
  intro b24
  refine o_struct rfl rfl rfl .free rfl ?_
  refine Om rfl ?_
  refine o_mem (fun w h => Mem.sub (L' := rd b oa l c _ :: L) (by repeat (first | exact List.Sublist.refl _ | apply List.Sublist.cons_cons | apply List.Sublist.cons)) h) ?_
  refine o_call rfl .free rfl (g_l91Expr (d := 2) (by decide) h hl b _ (by omega) (sc_nil _ _ _) (by simp) _ (by first | omega | (simp; done) | decide) _) ?_
  rintro _ J2 _ e2 ⟨s2, p2, rfl, hs2, hp5, hp6, rfl⟩
  have hle := hle.trans e2
  refine Oa rfl (o_done (s_ret (.tmp rfl .nil) ?_))
  exact ⟨_, _, hle, fun w h => Mem.sub (L' := rd b oa l c _ :: L) (by repeat (first | exact List.Sublist.refl _ | apply List.Sublist.cons_cons | apply List.Sublist.cons)) h, _, _, rfl, by omega, by omega, by omega, rfl⟩
 intro c0
 try simp only [nb] at c0
 refine s_skip (s_seq ?_)
 try have hw := hw
 refine o_enter rfl (Om rfl ?_)
 refine o_lits0 .free rfl ?_
 intro b11
 refine o_lits0 .free rfl ?_
 intro b12
 refine o_struct rfl rfl rfl .free rfl ?_
 refine Om rfl (Om rfl ?_)
 refine o_mem (fun w h => Mem.sub (L' := rd b oa l c _ :: L) (by repeat (first | exact List.Sublist.refl _ | apply List.Sublist.cons_cons | apply List.Sublist.cons)) h) ?_
 refine o_call rfl .free rfl (g_l6Rd_pick h hl b _ 3 (by omega) (by decide) _) ?_
 rintro _ _ _ _ ⟨r2, rfl, rfl, rfl, hr2⟩
 have hr3 : r2 < 3 := by omega
 have hdd : ∃ d : Nat, (2 : Int) + (r2 : Nat) = (d : Nat) ∧ d ≤ 4 := ⟨2 + r2, by omega, by omega⟩
 obtain ⟨d, hd1, hd2⟩ := hdd
 refine Or rfl rfl rfl ?_
 refine o_put (t := 17) (v' := .int .i64 (d : Nat)) rfl (by rw [← hd1]) ?_
 refine o_call rfl .free rfl (g_l91Expr hd2 h hl b _ (by omega) (sc_nil _ _ _) (by simp) _ (by first | omega | (simp; done) | decide) _) ?_
 rintro _ J1 _ e1 ⟨s1, p1, rfl, hs1, hp3, hp4, rfl⟩
 have h := h.mono e1
 have hle := hle.trans e1
 refine Oa rfl (o_done (s_seq (Se rfl (Om rfl ?_))))
 refine o_call rfl .free rfl (g_ExprValid s1 (by unfold maxN; omega) _ _) ?_
 rintro _ _ _ _ ⟨rfl, rfl, rfl⟩
 refine o_done ?_
 refine s_cond rfl ?_ ?_
 ·intro c1
  try simp only [nb] at c1
  refine Se rfl (Om rfl (Oa rfl (o_done (s_ret (.tmp rfl .nil) ?_))))
  exact ⟨_, _, hle, fun w h => Mem.sub (L' := rd b oa l c _ :: L) (by repeat (first | exact List.Sublist.refl _ | apply List.Sublist.cons_cons | apply List.Sublist.cons)) h, _, _, rfl, by omega, by omega, by omega, rfl⟩
 intro c1
 try simp only [nb] at c1
 refine s_skip (Se rfl (Om rfl ?_))
 refine o_lits0 .free rfl ?_
 intro b23
 refine o_lits0 .free rfl ?_
 intro b24
 refine o_struct rfl rfl rfl .free rfl ?_
 refine Om rfl ?_
 refine o_mem (fun w h => Mem.sub (L' := rd b oa l c _ :: L) (by repeat (first | exact List.Sublist.refl _ | apply List.Sublist.cons_cons | apply List.Sublist.cons)) h) ?_
 refine o_call rfl .free rfl (g_l91Expr (d := 2) (by decide) h hl b _ (by omega) (sc_nil _ _ _) (by simp) _ (by first | omega | (simp; done) | decide) _) ?_
 rintro _ J2 _ e2 ⟨s2, p2, rfl, hs2, hp5, hp6, rfl⟩
 have hle := hle.trans e2
 refine Oa rfl (o_done (s_ret (.tmp rfl .nil) ?_))
 exact ⟨_, _, hle, fun w h => Mem.sub (L' := rd b oa l c _ :: L) (by repeat (first | exact List.Sublist.refl _ | apply List.Sublist.cons_cons | apply List.Sublist.cons)) h, _, _, rfl, by omega, by omega, by omega, rfl⟩
theorem atoms_some {s : Txt} {l : List Txt} (h : atomsOf s = some l) : l ≠ [] ∧ (∀ x ∈ l, x.length ≤ 12000) ∧ l.length ≤ 12000 := by
 unfold atomsOf at h
 cases hp : parse s with
 | none => rw [hp] at h; cases h
 | some t =>
  rw [hp] at h
  simp only [Option.map_some, Option.some.injEq] at h
  subst h
  have h1 := (parse_len hp).2
  have h2 := parse_size hp
  refine ⟨addAll_ne (atomL_ne t), fun x hx => ?_, ?_⟩
  ·rcases addAll_mem.1 hx with h3 | h3
   ·cases h3
   ·have := t.atom_len x h3; omega
  ·have := addAll_len [] t.atomL
   rw [t.atomL_len] at this
   simp only [List.length_nil, Nat.zero_add] at this
   exact Nat.le_trans this h2
theorem g_l91Odd {I : Heap} {oa : Option Addr} {l : List UInt8} {c : Nat} (h : Bytes I oa l c) (hl : l.length ≤ 2000) (b p : Nat) (hp : p + 8000 ≤ 1099511627776) (L : Own) :
  Fun Tryz.prog 29 [.pointer (some ⟨b, 0, none⟩)] I (rd b oa l c p :: L) (DT b oa l c p 8000 400001 L) := by
 refine fun_intro (by simp) ?_
 refine Se rfl (Oa rfl (o_done (Se rfl (Om rfl ?_))))
 refine o_call rfl .free rfl (g_l91Good h hl b _ (by omega) _) ?_
 rintro _ J1 _ e1 ⟨s, p1, rfl, hs, hp1, hp2, rfl⟩
 have h := h.mono e1
 refine Oa rfl (o_done (s_seq (Se rfl (Om rfl ?_))))
 refine o_call rfl .free rfl (g_l6Rd_pick h hl b _ 4 (by omega) (by decide) _) ?_
 rintro _ _ _ _ ⟨r, rfl, rfl, rfl, hr⟩
 refine Oc rfl rfl rfl (o_done ?_)
 refine s_cond rfl ?_ ?_
 ·intro c0
  try simp only [nb] at c0
  refine Se rfl (Om rfl (Oa rfl (o_done (s_ret (.tmp rfl .nil) ?_))))
  exact ⟨J1, _, e1, fun _ h => h, s, _, rfl, by omega, by omega, by omega, rfl⟩
 intro c0
 try simp only [nb] at c0
 refine s_skip (Se rfl (Om rfl ?_))
 refine o_call rfl .free rfl (g_FormAtoms s (by unfold maxL; omega) _ _) ?_
 rintro _ J2 _ e2 ⟨o1, k1, rfl, hat, rfl⟩
 have h := h.mono e2
 have hle := e1.trans e2
 refine Om rfl (Oe rfl rfl (Oe rfl rfl (Oa rfl (Oa rfl (o_done (s_seq (Se rfl (Om rfl ?_))))))))
 refine o_not rfl .free rfl ?_
 refine o_done ?_
 refine s_cond rfl ?_ ?_
 ·intro c1
  try simp only [nb] at c1
  refine Se rfl (Om rfl (Oa rfl (o_done (s_ret (.tmp rfl .nil) ?_))))
  exact ⟨J2, _, hle, fun _ h => h, s, _, rfl, by omega, by omega, by omega, rfl⟩
 intro c1
 try simp only [nb] at c1
 obtain ⟨al, hal⟩ : ∃ al, atomsOf s = some al := Option.isSome_iff_exists.1 c1
 rw [hal] at hat ⊢
 simp only [Option.getD_some] at hat ⊢
 obtain ⟨ha1, ha2, ha3⟩ := atoms_some hal
 have hapos := List.length_pos_iff.2 ha1
 have hanil := hat.nil'
 refine s_skip (s_seq ?_)
 refine s_here fun hlr => ?_
 refine d_tl 17 rfl rfl ?_
 refine Da 0 rfl (y_move rfl) ?_
 refine Da 1 rfl (y_move rfl) ?_
 refine Da 2 rfl (y_move rfl) ?_
 refine Da 3 rfl (y_move rfl) ?_
 refine Da 4 rfl (y_len_slice rfl) ?_
 refine Da 8 rfl (y_move rfl) ?_
 refine d_two 5 9 (by kernel_rfl) ?_ ?_
 ·skip
  refine i_call 5 rfl rfl rfl .free rfl (g_l6Rd_pick h hl b _ al.length (by omega) (by omega) _) ?_
  rintro _ _ _ _ ⟨r2, rfl, rfl, rfl, hr2⟩
  have hr3 : r2 < al.length := by omega
  have hst := hat.st r2 hr3
  have hel : (al.getD r2 []).length ≤ 12000 := ha2 _ (by rw [show al.getD r2 [] = al[r2] by simp [hr3]]; exact List.getElem_mem _)
  refine ⟨(.inr heldx), ?_⟩
  first | refine Da 6 rfl (y_ixD rfl rfl _ rfl) ?_ | refine Da 6 rfl (y_ixP rfl rfl _ rfl) ?_
  refine Dt 7 [17] rfl (y_lI1 rfl) ?_
  refine d_lits 9 rfl (by kernel_rfl) rfl rfl rfl (by rfl) (by rfl) (by rfl) (by decide) (by decide) (by rfl) .free rfl (.inr heldx) ?_
  intro b32
  refine d_freeze ?_
  intro hz
  have hk := strs_lit (I := J2) (b := b32) (e := 9) (l := [[97], [120], [49], [112, 97, 105, 114], [99, 97, 108, 108], [102, 115, 116], [105], [43], [40, 102, 115, 116, 32, 49, 41], [98, 55]]) (by decide) (by decide)
  have hlr := hlr.trans hz
  have h := h.mono hz
  have hat := hat.mono hz
  try have hst := hst.mono hz
  refine d_call 10 rfl (by kernel_rfl) rfl rfl .free rfl (g_l6Rd_of h hl b _ (by omega) hk (by simp) _) ?_
  rintro _ _ _ _ ⟨y, rfl, hy, rfl, rfl⟩
  have hyl : y.length ≤ 10 := by revert y; decide
  refine ⟨(.inr heldx), ?_⟩
  refine d_call 11 rfl (by kernel_rfl) rfl rfl .free rfl (g_FormReplace s (al.getD r2 []) y (by unfold maxL; omega) (by unfold maxL; omega) (by omega) _ _) ?_
  rintro _ J3 _ e3 ⟨rfl, rfl⟩
  have h := h.mono e3
  have hlr := hlr.trans e3
  have hol : ((replOf s (al.getD r2 []) y).getD []).length ≤ 12000 := by
   cases ho : replOf s (al.getD r2 []) y with
   | none => decide
   | some o => exact repl_out ho
  refine ⟨(.inr heldx), ?_⟩
  refine Da 12 rfl (y_move rfl) ?_
  refine Da 13 rfl (y_extract rfl rfl) ?_
  refine Da 14 rfl (y_extract rfl rfl) ?_
  refine Da 15 rfl (y_assign rfl) ?_
  refine Da 16 rfl (y_assign rfl) ?_
  refine d_done (by kernel_rfl) ?_
  refine s_seq (Se rfl (Om rfl (Om rfl ?_)))
  first | refine g_if rfl rfl ?_ ?_ | refine g_ifn rfl rfl ?_ ?_ | refine g_b rfl rfl ?_ ?_
  ·intro g8_2
   refine Ow rfl ?_
   refine o_call rfl (.met rfl rfl) rfl (g_l6Rd_pick h hl b _ 8 (by omega) (by decide) _) ?_
   rintro _ _ _ _ ⟨r4, rfl, rfl, rfl, hr4⟩
   refine o_cmp rfl rfl rfl (.met rfl rfl) rfl ?_
   refine Ot rfl rfl (o_done ?_)
   refine s_cond rfl ?_ ?_
   ·intro c2
    try simp only [nb] at c2
    refine Se rfl (Om rfl (Oa rfl (o_done (s_ret (.tmp rfl .nil) ?_))))
    exact ⟨J3, _, hle.trans hlr, fun _ h => h, _, _, rfl, by omega, by omega, by omega, rfl⟩
   intro c2
   try simp only [nb] at c2
   refine s_skip (Se rfl (Om rfl (Om rfl ?_)))
   refine Ol rfl rfl ?_
   intro b46
   refine o_freezeLit [[], [32], [41]] (by decide) (by decide) ?_
   intro J5 e5 k5
   refine o_call rfl .free rfl (g_l6Rd_of (h.mono e5) hl b _ (by omega) k5 (by simp) _) ?_
   rintro _ _ _ _ ⟨z, rfl, hz, rfl, rfl⟩
   have hzl : z.length ≤ 1 := by revert z; decide
   refine Ok rfl rfl ?_
   refine Oa rfl (o_done (s_ret (.tmp rfl .nil) ?_))
   exact ⟨J5, _, (hle.trans hlr).trans e5, fun _ h => h, _, _, rfl, (by first | omega | (simp only [List.length_append, List.length_cons, List.length_nil]; omega) | (simp; omega)), by omega, by omega, rfl⟩
  intro g8_2
  iterate 3 refine o_skip rfl rfl rfl ?_
  refine Of rfl rfl (o_done ?_)
  refine s_false rfl ?_
  refine s_skip (Se rfl (Om rfl (Om rfl ?_)))
  refine Ol rfl rfl ?_
  intro b46
  refine o_freezeLit [[], [32], [41]] (by decide) (by decide) ?_
  intro J5 e5 k5
  refine o_call rfl .free rfl (g_l6Rd_of (h.mono e5) hl b _ (by omega) k5 (by simp) _) ?_
  rintro _ _ _ _ ⟨z, rfl, hz, rfl, rfl⟩
  have hzl : z.length ≤ 1 := by revert z; decide
  refine Ok rfl rfl ?_
  refine Oa rfl (o_done (s_ret (.tmp rfl .nil) ?_))
  exact ⟨J5, _, (hle.trans hlr).trans e5, fun _ h => h, _, _, rfl, (by first | omega | (simp only [List.length_append, List.length_cons, List.length_nil]; omega) | (simp; omega)), by omega, by omega, rfl⟩
 ·skip
  refine i_lits 9 rfl rfl rfl rfl (by rfl) (by rfl) (by rfl) (by decide) (by decide) (by rfl) .free rfl (.inr heldx) ?_
  intro b32
  refine d_freeze ?_
  intro hz
  have hk := strs_lit (I := J2) (b := b32) (e := 9) (l := [[97], [120], [49], [112, 97, 105, 114], [99, 97, 108, 108], [102, 115, 116], [105], [43], [40, 102, 115, 116, 32, 49, 41], [98, 55]]) (by decide) (by decide)
  have hlr := hlr.trans hz
  have h := h.mono hz
  have hat := hat.mono hz
  try have hst := hst.mono hz
  refine d_call 5 rfl (by kernel_rfl) rfl rfl .free rfl (g_l6Rd_pick h hl b _ al.length (by omega) (by omega) _) ?_
  rintro _ _ _ _ ⟨r2, rfl, rfl, rfl, hr2⟩
  have hr3 : r2 < al.length := by omega
  have hst := hat.st r2 hr3
  have hel : (al.getD r2 []).length ≤ 12000 := ha2 _ (by rw [show al.getD r2 [] = al[r2] by simp [hr3]]; exact List.getElem_mem _)
  refine ⟨(.inr heldx), ?_⟩
  first | refine Da 6 rfl (y_ixD rfl rfl _ rfl) ?_ | refine Da 6 rfl (y_ixP rfl rfl _ rfl) ?_
  refine Dt 7 [17] rfl (y_lI1 rfl) ?_
  refine d_call 10 rfl (by kernel_rfl) rfl rfl .free rfl (g_l6Rd_of h hl b _ (by omega) hk (by simp) _) ?_
  rintro _ _ _ _ ⟨y, rfl, hy, rfl, rfl⟩
  have hyl : y.length ≤ 10 := by revert y; decide
  refine ⟨(.inr heldx), ?_⟩
  refine d_call 11 rfl (by kernel_rfl) rfl rfl .free rfl (g_FormReplace s (al.getD r2 []) y (by unfold maxL; omega) (by unfold maxL; omega) (by omega) _ _) ?_
  rintro _ J3 _ e3 ⟨rfl, rfl⟩
  have h := h.mono e3
  have hlr := hlr.trans e3
  have hol : ((replOf s (al.getD r2 []) y).getD []).length ≤ 12000 := by
   cases ho : replOf s (al.getD r2 []) y with
   | none => decide
   | some o => exact repl_out ho
  refine ⟨(.inr heldx), ?_⟩
  refine Da 12 rfl (y_move rfl) ?_
  refine Da 13 rfl (y_extract rfl rfl) ?_
  refine Da 14 rfl (y_extract rfl rfl) ?_
  refine Da 15 rfl (y_assign rfl) ?_
  refine Da 16 rfl (y_assign rfl) ?_
  refine d_done (by kernel_rfl) ?_
  refine s_seq (Se rfl (Om rfl (Om rfl ?_)))
  first | refine g_if rfl rfl ?_ ?_ | refine g_ifn rfl rfl ?_ ?_ | refine g_b rfl rfl ?_ ?_
  ·intro g8_2
   refine Ow rfl ?_
   refine o_call rfl (.met rfl rfl) rfl (g_l6Rd_pick h hl b _ 8 (by omega) (by decide) _) ?_
   rintro _ _ _ _ ⟨r4, rfl, rfl, rfl, hr4⟩
   refine o_cmp rfl rfl rfl (.met rfl rfl) rfl ?_
   refine Ot rfl rfl (o_done ?_)
   refine s_cond rfl ?_ ?_
   ·intro c2
    try simp only [nb] at c2
    refine Se rfl (Om rfl (Oa rfl (o_done (s_ret (.tmp rfl .nil) ?_))))
    exact ⟨J3, _, hle.trans hlr, fun _ h => h, _, _, rfl, by omega, by omega, by omega, rfl⟩
   intro c2
   try simp only [nb] at c2
   refine s_skip (Se rfl (Om rfl (Om rfl ?_)))
   refine Ol rfl rfl ?_
   intro b46
   refine o_freezeLit [[], [32], [41]] (by decide) (by decide) ?_
   intro J5 e5 k5
   refine o_call rfl .free rfl (g_l6Rd_of (h.mono e5) hl b _ (by omega) k5 (by simp) _) ?_
   rintro _ _ _ _ ⟨z, rfl, hz, rfl, rfl⟩
   have hzl : z.length ≤ 1 := by revert z; decide
   refine Ok rfl rfl ?_
   refine Oa rfl (o_done (s_ret (.tmp rfl .nil) ?_))
   exact ⟨J5, _, (hle.trans hlr).trans e5, fun _ h => h, _, _, rfl, (by first | omega | (simp only [List.length_append, List.length_cons, List.length_nil]; omega) | (simp; omega)), by omega, by omega, rfl⟩
  intro g8_2
  iterate 3 refine o_skip rfl rfl rfl ?_
  refine Of rfl rfl (o_done ?_)
  refine s_false rfl ?_
  refine s_skip (Se rfl (Om rfl (Om rfl ?_)))
  refine Ol rfl rfl ?_
  intro b46
  refine o_freezeLit [[], [32], [41]] (by decide) (by decide) ?_
  intro J5 e5 k5
  refine o_call rfl .free rfl (g_l6Rd_of (h.mono e5) hl b _ (by omega) k5 (by simp) _) ?_
  rintro _ _ _ _ ⟨z, rfl, hz, rfl, rfl⟩
  have hzl : z.length ≤ 1 := by revert z; decide
  refine Ok rfl rfl ?_
  refine Oa rfl (o_done (s_ret (.tmp rfl .nil) ?_))
  exact ⟨J5, _, (hle.trans hlr).trans e5, fun _ h => h, _, _, rfl, (by first | omega | (simp only [List.length_append, List.length_cons, List.length_nil]; omega) | (simp; omega)), by omega, by omega, rfl⟩
def DX (L : Own) : Post := fun v I' L' => ∃ s, v = .string (str s) ∧ List.length s ≤ 400001 ∧ L = L'
/-- A drawn expression in a drawn environment. -/
def DQ (L : Own) : Post := fun v I' L' => ∃ o1 n1 c1 o2 n2 c2 s, v = .tuple #[.slice o1 (List.length n1) c1, .slice o2 (List.length n2) c2, .string (str s)] ∧ Strs I' o1 n1 c1 ∧ Strs I' o2 n2 c2 ∧ n1.length ≤ 16 ∧ n2.length ≤ 16 ∧ (∀ s ∈ n1, s.length ≤ 16) ∧ (∀ s ∈ n2, s.length ≤ 16) ∧ List.length s ≤ 400001 ∧ L = L'
theorem exOf_fine {e : Ex} (h : e.fine = true) : exOf e.tree.text = some e := by
 have hok : e.ok = true := by simp only [Ex.fine, Bool.and_eq_true] at h; exact h.1.1
 rw [exOf_text hok, if_pos h]
theorem exOf_is {s : Txt} {e : Ex} (h : exOf s = some e) : e.fine = true ∧ e.ok = true ∧ e.size ≤ 120 ∧ e.tree.len ≤ 12000 ∧ s = e.tree.text := by
 obtain ⟨_, h2, h3⟩ := exOf_some h
 have h4 := h2
 simp only [Ex.fine, Bool.and_eq_true, Tree.fits, decide_eq_true_eq] at h4
 exact ⟨h2, h4.1.1, h4.1.2, h4.2.2, h3⟩
/-- How many expressions an expression and its parts are. -/
def Ex.many : Ex → Nat
 | .num _ => 1
 | .name _ => 1
 | .bin _ a b => 1 + a.many + b.many
 | .ite a b c => 1 + a.many + b.many + c.many
 | .lt _ a b => 1 + a.many + b.many
 | .fn _ _ _ _ b => 1 + b.many
 | .un _ a => 1 + a.many
/-- What an expression begins with. -/
def Ex.hd : Ex → Txt
 | .num _ => [110, 117, 109, 98, 101, 114]
 | .name _ => [110, 97, 109, 101]
 | e => e.tree.head
def headOf (s : Txt) : Txt := match exOf s with
 | some e => e.hd
 | none => []
def kidsOf (s : Txt) : Option (List Txt) := (exOf s).map fun e => e.sub.map fun a => a.tree.text
def manyOf (s : Txt) : Int := match exOf s with
 | some e => (e.many : Nat)
 | none => -1
def sizeOfT (s : Txt) : Int := match parse s with
 | some t => (t.size : Nat)
 | none => -1
/-- The number of decimals. -/
def numT (s : Txt) : Nat := s.foldl (fun a c => 10 * a + (c.toNat - 48)) 0
theorem numT_app (s : Txt) (c : UInt8) : numT (s ++ [c]) = 10 * numT s + (c.toNat - 48) := by simp [numT]
theorem digit_val {d : Nat} (h : d < 10) : (UInt8.ofNat (48 + d)).toNat - 48 = d := by
 have : (UInt8.ofNat (48 + d)).toNat = 48 + d := by simp [UInt8.toNat_ofNat]; omega
 omega
theorem numT_decT : ∀ n : Nat, numT (decT n) = n := by
 intro n
 induction n using Nat.strongRecOn with
 | _ n ih =>
  by_cases h : n < 10
  ·rw [decT_small h]
   show 10 * 0 + ((UInt8.ofNat (48 + n)).toNat - 48) = n
   rw [digit_val h]; omega
  ·rw [decT_big h, numT_app, ih (n / 10) (by omega), digit_val (Nat.mod_lt _ (by omega))]
   omega
theorem decT_inj {a b : Nat} (h : decT a = decT b) : a = b := by
 have := congrArg numT h
 rwa [numT_decT, numT_decT] at this
def nm (c : UInt8) (n : Nat) : Txt := c :: decT n
theorem nm_inj {c : UInt8} {a b : Nat} (h : nm c a = nm c b) : a = b := decT_inj (List.cons.inj h).2
/-- How many of the first 'n' names are barred. -/
def hits (c : UInt8) (av : List Txt) (n : Nat) : Nat := ((List.range n).filter fun k => decide (nm c k ∈ av)).length
/-- The next number whose name is not barred. -/
def frs (c : UInt8) (av : List Txt) : Nat → Nat → Nat
 | 0, n => n
 | k + 1, n => if nm c n ∈ av then frs c av k (n + 1) else n
def fr (c : UInt8) (av : List Txt) (n : Nat) : Nat := frs c av av.length n
/-- The expression with plain names, and the next number. -/
def Ex.pl (av : List Txt) : Ex → List Txt → List Txt → Nat → Ex × Nat
 | .num s, _, _, n => (.num s, n)
 | .name s, f, t, n => (.name (match lastIdx f s with | some i => t.getD i [] | none => s), n)
 | .bin o a b, f, t, n => let p := a.pl av f t n; let q := b.pl av f t p.2; (.bin o p.1 q.1, q.2)
 | .ite a b c, f, t, n => let p := a.pl av f t n; let q := b.pl av f t p.2; let r := c.pl av f t q.2; (.ite p.1 q.1 r.1, r.2)
 | .lt x a b, f, t, n => let k := fr 120 av n; let p := a.pl av f t (k + 1); let q := b.pl av (f ++ [x]) (t ++ [nm 120 k]) p.2; (.lt (nm 120 k) p.1 q.1, q.2)
 | .fn g x s u b, f, t, n => let k := fr 120 av n; let j := fr 120 av (k + 1); let p := b.pl av (f ++ [g, x]) (t ++ [nm 120 k, nm 120 j]) (j + 1); (.fn (nm 120 k) (nm 120 j) s u p.1, p.2)
 | .un o a, f, t, n => let p := a.pl av f t n; (.un o p.1, p.2)
/-- How many names are bound. -/
def Ex.nb : Ex → Nat
 | .num _ => 0
 | .name _ => 0
 | .bin _ a b => a.nb + b.nb
 | .ite a b c => a.nb + b.nb + c.nb
 | .lt _ a b => 1 + a.nb + b.nb
 | .fn _ _ _ _ b => 2 + b.nb
 | .un _ a => a.nb
def namesL (l : List Txt) : Prop := ∀ s ∈ l, isName s = true
theorem namesL.add {l m : List Txt} (h : namesL l) (h' : namesL m) : namesL (l ++ m) := by
 intro s hs
 rcases List.mem_append.1 hs with hs | hs
 ·exact h s hs
 ·exact h' s hs
theorem B5.txt_len (o : B5) : o.txt.length ≤ 4 := by cases o <;> decide
theorem U2.txt_len (o : U2) : o.txt.length ≤ 3 := by cases o <;> decide
/-- An expression's text is short. -/
theorem Ex.len_size : ∀ {e : Ex}, e.ok = true → e.tree.len + 1 ≤ 8 * e.size
 | .num s, h => by
  have h : isNum s = true := h
  have : s.length ≤ 4 := by
   simp only [isNum, Bool.or_eq_true, Bool.and_eq_true, decide_eq_true_eq] at h
   rcases h with h | h
   ·rw [h]; decide
   ·have h1 := h.1.1.2
    unfold unsign at h1
    split at h1
    ·simp only [List.length_drop] at h1; omega
    ·omega
  simp only [Ex.tree, Tree.len, List.isEmpty_nil, cond_true, Ex.size]; omega
 | .name s, h => by
  have := isName_len (show isName s = true from h)
  simp only [Ex.tree, Tree.len, List.isEmpty_nil, cond_true, Ex.size]; omega
 | .bin o a b, h => by
  simp only [Ex.ok, Bool.and_eq_true] at h
  have h1 := Ex.len_size h.1; have h2 := Ex.len_size h.2; have h3 := o.txt_len
  simp only [Ex.tree, Tree.len, lenL, List.isEmpty_nil, List.isEmpty_cons, cond_true, cond_false, Ex.size]; omega
 | .ite a b c, h => by
  simp only [Ex.ok, Bool.and_eq_true] at h
  have h1 := Ex.len_size h.1.1; have h2 := Ex.len_size h.1.2; have h3 := Ex.len_size h.2
  simp only [Ex.tree, Tree.len, lenL, List.isEmpty_nil, List.isEmpty_cons, cond_true, cond_false, Ex.size, tIf, List.length_cons, List.length_nil]; omega
 | .lt x a b, h => by
  simp only [Ex.ok, Bool.and_eq_true] at h
  have h1 := Ex.len_size h.1.2; have h2 := Ex.len_size h.2; have h3 := isName_len h.1.1
  simp only [Ex.tree, Tree.len, lenL, List.isEmpty_nil, List.isEmpty_cons, cond_true, cond_false, Ex.size, tLet, List.length_cons, List.length_nil]; omega
 | .fn f x s t b, h => by
  simp only [Ex.ok, Bool.and_eq_true, decide_eq_true_eq] at h
  obtain ⟨⟨⟨⟨⟨h1, h2⟩, h3⟩, h4⟩, h5⟩, h6⟩ := h
  have k1 := Ex.len_size h6; have k2 := isName_len h1; have k3 := isName_len h2
  have k4 := s.tree_small; have k5 := t.tree_small; have k6 := s.size_pos; have k7 := t.size_pos
  simp only [Ex.tree, Tree.len, lenL, List.isEmpty_nil, List.isEmpty_cons, cond_true, cond_false, Ex.size, tFun, List.length_cons, List.length_nil]; omega
 | .un o a, h => by
  have h1 := Ex.len_size (e := a) h; have h3 := o.txt_len
  simp only [Ex.tree, Tree.len, lenL, List.isEmpty_nil, List.isEmpty_cons, cond_true, cond_false, Ex.size]; omega
/-- The plain one of an expression. -/
def Ex.plain (e : Ex) : Ex := (e.pl e.free [] [] 0).1
def plainOf (s : Txt) : Option Txt := (exOf s).map fun e => e.plain.tree.text
def lookOr (l m : List Txt) (s : Txt) : Txt := match lastIdx l s with
 | some i => m.getD i []
 | none => s
theorem g_l1Atom (s : Txt) (I : Heap) (L : Own) : Fun Tryz.prog 116 [.string (str s)] I L (Only (.agg [.string (str s), .slice none 0 0].toArray) I L) := by
 refine fun_intro (by simp) ?_
 refine Se rfl ?_
 refine o_alloc .free rfl ?_
 intro b2
 refine o_done (Se rfl (Om rfl ?_))
 refine o_struct rfl rfl rfl .free rfl ?_
 refine o_st rfl rfl rfl rfl .free ?_
 refine o_done ?_
 refine s_ret (.c rfl .nil) ?_
 refine only rfl ?_
 rfl
end Go.Proofs.YtfddjcmeejjhiaaGreatDoor
