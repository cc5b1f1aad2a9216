/- The normal one of an expression: how far the numbers go. No conditions. -/
import Derived.Test.YtdnmhgiaebbppaaGreatG13
namespace Go.Proofs.YtdnmhgiaebbppaaGreat
set_option maxRecDepth 100000
set_option linter.unusedVariables false
set_option linter.unusedSimpArgs false

theorem hits_sub {c : UInt8} {av av' : List Txt} (h : ∀ j, nm c j ∈ av → nm c j ∈ av') : ∀ n, hits c av n ≤ hits c av' n
  | 0 => Nat.le_refl _
  | n + 1 => by
    rw [hits_succ, hits_succ]
    have := hits_sub h n
    by_cases h1 : nm c n ∈ av
    · rw [if_pos h1, if_pos (h n h1)]; omega
    · rw [if_neg h1]; omega
/-- The names that stand as expressions. -/
def Ex.lv : Ex → List Txt
  | .num _ => []
  | .name s => [s]
  | .bin _ a b => a.lv ++ b.lv
  | .ite a b c => a.lv ++ b.lv ++ c.lv
  | .lt _ a b => a.lv ++ b.lv
  | .fn _ _ _ _ b => b.lv
  | .un _ a => a.lv
theorem Ex.lv_size : ∀ e : Ex, 3 * e.lv.length ≤ 2 * e.size + 1
  | .num _ => by simp [Ex.lv]
  | .name _ => by simp [Ex.lv, Ex.size]
  | .bin _ a b => by have := a.lv_size; have := b.lv_size; simp only [Ex.lv, List.length_append, Ex.size]; omega
  | .ite a b c => by have := a.lv_size; have := b.lv_size; have := c.lv_size; simp only [Ex.lv, List.length_append, Ex.size]; omega
  | .lt _ a b => by have := a.lv_size; have := b.lv_size; simp only [Ex.lv, List.length_append, Ex.size]; omega
  | .fn _ _ _ _ b => by have := b.lv_size; simp only [Ex.lv, Ex.size]; omega
  | .un _ a => by have := a.lv_size; simp only [Ex.lv, Ex.size]; omega
/-- No bound name begins with a y. -/
def Ex.bx : Ex → Bool
  | .num _ => true
  | .name _ => true
  | .bin _ a b => a.bx && b.bx
  | .ite a b c => a.bx && b.bx && c.bx
  | .lt x a b => decide (x.head? ≠ some 121) && a.bx && b.bx
  | .fn f x _ _ b => decide (f.head? ≠ some 121) && decide (x.head? ≠ some 121) && b.bx
  | .un _ a => a.bx
theorem Ex.pl_bx (av : List Txt) : ∀ (e : Ex) (f t : List Txt) (n : Nat), (e.pl av f t n).1.bx = true
  | .num s, f, t, n => rfl
  | .name s, f, t, n => rfl
  | .bin o a b, f, t, n => by simp only [Ex.pl, Ex.bx, a.pl_bx, b.pl_bx, Bool.and_self]
  | .ite a b c, f, t, n => by simp only [Ex.pl, Ex.bx, a.pl_bx, b.pl_bx, c.pl_bx, Bool.and_self]
  | .lt x a b, f, t, n => by simp only [Ex.pl, Ex.bx, a.pl_bx, b.pl_bx, nm, List.head?_cons, Bool.and_true]; rfl
  | .fn g x s u b, f, t, n => by simp only [Ex.pl, Ex.bx, b.pl_bx, nm, List.head?_cons, Bool.and_true]; rfl
  | .un o a, f, t, n => by simp only [Ex.pl, Ex.bx, a.pl_bx]
theorem Ty.atom_y : ∀ {t : Ty} {s : Txt}, s ∈ t.tree.atomL → s.head? ≠ some 121
  | .i, s, h => by simp only [Ty.tree, Tree.atomL, List.mem_singleton] at h; subst h; decide
  | .fn a b, s, h => by
    simp only [Ty.tree, Tree.atomL, atomsL, List.mem_append, List.mem_singleton, List.append_nil] at h
    rcases h with h | h | h
    · subst h; decide
    · exact Ty.atom_y h
    · exact Ty.atom_y h
  | .pr a b, s, h => by
    simp only [Ty.tree, Tree.atomL, atomsL, List.mem_append, List.mem_singleton, List.append_nil] at h
    rcases h with h | h | h
    · subst h; decide
    · exact Ty.atom_y h
    · exact Ty.atom_y h
theorem B5.head_y (o : B5) : o.txt.head? ≠ some 121 := by cases o <;> decide
theorem U2.head_y (o : U2) : o.txt.head? ≠ some 121 := by cases o <;> decide
theorem num_head {s : Txt} (h : isNum s = true) : s.head? ≠ some 121 := by
  cases s with
  | nil => simp
  | cons c r =>
    intro e
    simp only [List.head?_cons, Option.some.injEq] at e
    subst e
    have e : unsign (121 :: r) = 121 :: r := by simp [unsign]
    simp only [isNum, e] at h
    simp [digit] at h
theorem Ex.atom_lv : ∀ {e : Ex} {s : Txt}, e.ok = true → e.bx = true → s ∈ e.tree.atomL → s.head? = some 121 → s ∈ e.lv
  | .num a, s, h, _, hs, hy => by
    simp only [Ex.tree, Tree.atomL, List.mem_singleton] at hs; subst hs
    exact absurd hy (num_head h)
  | .name a, s, h, _, hs, hy => by simpa only [Ex.tree, Tree.atomL, Ex.lv] using hs
  | .bin o a b, s, h, hb, hs, hy => by
    simp only [Ex.ok, Ex.bx, Bool.and_eq_true] at h hb
    simp only [Ex.tree, Tree.atomL, atomsL, List.mem_append, List.mem_singleton, List.append_nil] at hs
    simp only [Ex.lv, List.mem_append]
    rcases hs with hs | hs | hs
    · subst hs; exact absurd hy o.head_y
    · exact .inl (Ex.atom_lv h.1 hb.1 hs hy)
    · exact .inr (Ex.atom_lv h.2 hb.2 hs hy)
  | .ite a b c, s, h, hb, hs, hy => by
    simp only [Ex.ok, Ex.bx, Bool.and_eq_true] at h hb
    simp only [Ex.tree, Tree.atomL, atomsL, List.mem_append, List.mem_singleton, List.append_nil] at hs
    simp only [Ex.lv, List.mem_append]
    rcases hs with hs | hs | hs | hs
    · subst hs; exact absurd hy (by decide)
    · exact .inl (.inl (Ex.atom_lv h.1.1 hb.1.1 hs hy))
    · exact .inl (.inr (Ex.atom_lv h.1.2 hb.1.2 hs hy))
    · exact .inr (Ex.atom_lv h.2 hb.2 hs hy)
  | .lt x a b, s, h, hb, hs, hy => by
    simp only [Ex.ok, Ex.bx, Bool.and_eq_true, decide_eq_true_eq] at h hb
    simp only [Ex.tree, Tree.atomL, atomsL, List.mem_append, List.mem_singleton, List.append_nil] at hs
    simp only [Ex.lv, List.mem_append]
    rcases hs with hs | hs | hs | hs
    · subst hs; exact absurd hy (by decide)
    · subst hs; exact absurd hy hb.1.1
    · exact .inl (Ex.atom_lv h.1.2 hb.1.2 hs hy)
    · exact .inr (Ex.atom_lv h.2 hb.2 hs hy)
  | .fn f x t u b, s, h, hb, hs, hy => by
    simp only [Ex.ok, Ex.bx, Bool.and_eq_true, decide_eq_true_eq] at h hb
    simp only [Ex.tree, Tree.atomL, atomsL, List.mem_append, List.mem_singleton, List.append_nil] at hs
    simp only [Ex.lv]
    rcases hs with hs | hs | hs | hs | hs | hs
    · subst hs; exact absurd hy (by decide)
    · subst hs; exact absurd hy hb.1.1
    · subst hs; exact absurd hy hb.1.2
    · exact absurd hy (Ty.atom_y hs)
    · exact absurd hy (Ty.atom_y hs)
    · exact Ex.atom_lv h.2 hb.2 hs hy
  | .un o a, s, h, hb, hs, hy => by
    simp only [Ex.tree, Tree.atomL, atomsL, List.mem_append, List.mem_singleton, List.append_nil] at hs
    rcases hs with hs | hs
    · subst hs; exact absurd hy o.head_y
    · exact Ex.atom_lv (e := a) h hb hs hy
/-- The atoms of the plain one. -/
def Ex.tk (e : Ex) : List Txt := addAll [] e.plain.tree.atomL
def Ex.made (e : Ex) : MK := e.plain.mk e.tk 0
def Ex.normal (e : Ex) : Ex := e.made.all
theorem plain_size (e : Ex) : e.plain.size = e.size := (e.pl_size e.free [] [] 0).1
theorem tk_len (e : Ex) : e.tk.length ≤ e.size := by
  have h := addAll_len' [] e.plain.tree.atomL
  rw [Tree.atomL_len, Ex.tree_size, plain_size] at h
  simpa [Ex.tk] using h
theorem made_room {e : Ex} (h : e.fine = true) : e.made.g ≤ 119 ∧ e.made.n ≤ 240 ∧ e.tk.length ≤ 120 := by
  have hf := plain_fine h
  simp only [Ex.fine, Bool.and_eq_true, decide_eq_true_eq, Tree.fits] at h
  have h1 := tk_len e
  have h2 := e.plain.mk_g e.tk 0
  have h3 := e.plain.mk_hits e.tk 0
  have h4 := MK.n_le h3
  rw [plain_size] at h2
  unfold Ex.made
  omega
theorem normal_ok {e : Ex} (h : e.fine = true) : e.normal.ok = true := by
  have hf := plain_fine h
  have h0 := made_room h
  simp only [Ex.fine, Bool.and_eq_true, decide_eq_true_eq, Tree.fits] at hf
  have h1 := Ex.mk_ok (tk := e.tk) (n := 0) hf.1.1 (by omega)
  exact letsN_ok h1.1 h1.2
theorem normal_size (e : Ex) : e.normal.size = e.size + 3 * e.made.g := by
  unfold Ex.normal
  rw [MK.all_size]
  unfold Ex.made
  rw [Ex.mk_size, plain_size]
theorem normal_next {e : Ex} (h : e.fine = true) (hn : e.normal.fine = true) : e.made.g ≤ 100 ∧ e.made.n ≤ 100 := by
  have hf := plain_fine h
  have hs := normal_size e
  simp only [Ex.fine, Bool.and_eq_true, decide_eq_true_eq, Tree.fits] at hf hn
  have h3 := e.plain.mk_hits e.tk 0
  have h4 : hits 121 e.tk (e.plain.mk e.tk 0).n ≤ hits 121 e.plain.lv (e.plain.mk e.tk 0).n := hits_sub (fun j hj => by
    have hj : nm 121 j ∈ addAll [] e.plain.tree.atomL := hj
    rw [addAll_mem] at hj
    rcases hj with hj | hj
    · cases hj
    · exact Ex.atom_lv hf.1.1 (Ex.pl_bx _ _ _ _ _) hj rfl) _
  have h5 := hits_le 121 e.plain.lv (e.plain.mk e.tk 0).n
  have h6 := e.plain.lv_size
  rw [plain_size] at h6
  have h7 : hits 121 e.tk 0 = 0 := rfl
  unfold Ex.made at *
  omega
def nfOf (s : Txt) : Option Txt := (exOf s).bind fun e => if e.normal.fine = true then some e.normal.tree.text else none
theorem nfOf_none {s : Txt} (h : exOf s = none) : nfOf s = none := by unfold nfOf; rw [h]; rfl
theorem nfOf_some {s : Txt} {e : Ex} (h : exOf s = some e) : nfOf s = if e.normal.fine = true then some e.normal.tree.text else none := by unfold nfOf; rw [h]; rfl
end Go.Proofs.YtdnmhgiaebbppaaGreat


/- What makes expressions normal, by the reference: its maker, fresh names, bare parts. No conditions. -/
namespace Go.Proofs.YtdnmhgiaebbppaaGreat
set_option maxRecDepth 100000
set_option linter.unusedVariables false
set_option linter.unusedSimpArgs false

theorem Mem.mv {I : Heap} {X A B L : Own} {m : Nat × Obj} {w : World} (h : Mem I (X ++ (m :: (A ++ (B ++ L)))) w) : Mem I (m :: (A ++ (B ++ (X ++ L)))) w :=
  h.perm (List.perm_middle.trans (List.Perm.cons _ (((List.perm_append_comm_assoc X A (B ++ L)).trans (List.Perm.append_left A (List.perm_append_comm_assoc X B L))))))
theorem Mem.vm {I : Heap} {X A B L : Own} {m : Nat × Obj} {w : World} (h : Mem I (m :: (A ++ (B ++ (X ++ L)))) w) : Mem I (X ++ (m :: (A ++ (B ++ L)))) w :=
  h.perm (List.perm_middle.trans (List.Perm.cons _ (((List.perm_append_comm_assoc X A (B ++ L)).trans (List.Perm.append_left A (List.perm_append_comm_assoc X B L)))))).symm
theorem Mem.u6 {I : Heap} {a b c d e g : Nat × Obj} {X L : Own} {w : World} (h : Mem I (a :: b :: c :: d :: e :: g :: (X ++ L)) w) : Mem I (X ++ a :: b :: c :: d :: e :: g :: L) w := h.perm (List.perm_append_comm_assoc [a, b, c, d, e, g] X L)
theorem Mem.u7 {I : Heap} {a b c d e g k : Nat × Obj} {X L : Own} {w : World} (h : Mem I (a :: b :: c :: d :: e :: g :: k :: (X ++ L)) w) : Mem I (X ++ a :: b :: c :: d :: e :: g :: k :: L) w := h.perm (List.perm_append_comm_assoc [a, b, c, d, e, g, k] X L)
theorem Mem.u8 {I : Heap} {a b c d e g k l : Nat × Obj} {X L : Own} {w : World} (h : Mem I (a :: b :: c :: d :: e :: g :: k :: l :: (X ++ L)) w) : Mem I (X ++ a :: b :: c :: d :: e :: g :: k :: l :: L) w := h.perm (List.perm_append_comm_assoc [a, b, c, d, e, g, k, l] X L)
theorem addr_own (b n : Nat) : (⟨b, 0, none⟩ : Addr).add n = ⟨b, n, none⟩ := by
  unfold Addr.add
  split
  · subst_vars; rfl
  · simp
theorem bufVal_len {z m c : Nat} {xs : List Value} {B : Buf} (h : BufOk z m c xs B) : ∃ a j, bufVal m c B = .slice a m j := by
  cases B with
  | none => obtain ⟨_, rfl, rfl⟩ := h; exact ⟨_, _, rfl⟩
  | some p => exact ⟨_, _, rfl⟩
theorem putN_mid : ∀ {xs ys zs sp : List Value}, ys.length = zs.length → putN xs.length ys (xs ++ (zs ++ sp)) = some (xs ++ (ys ++ sp))
  | x :: xs, ys, zs, sp, h => by simp only [List.cons_append, List.length_cons, putN, putN_mid (xs := xs) h]
  | [], ys, zs, sp, h => by
    show overN ys (zs ++ sp) = _
    induction ys generalizing zs with
    | nil => obtain rfl : zs = [] := List.eq_nil_of_length_eq_zero h.symm; cases sp <;> rfl
    | cons y ys ih =>
      cases zs with
      | nil => cases h
      | cons z zs => simp only [List.cons_append, overN, ih (zs := zs) (by simpa using h), List.nil_append]
theorem putN_mid' {o : Nat} {xs ys zs sp : List Value} (ho : o = xs.length) (h : ys.length = zs.length) : putN o ys (xs ++ (zs ++ sp)) = some (xs ++ (ys ++ sp)) := by subst ho; exact putN_mid h
theorem Mem.u9 {I : Heap} {a b c d e g k l m : Nat × Obj} {X L : Own} {w : World} (h : Mem I (a :: b :: c :: d :: e :: g :: k :: l :: m :: (X ++ L)) w) : Mem I (X ++ a :: b :: c :: d :: e :: g :: k :: l :: m :: L) w := h.perm (List.perm_append_comm_assoc [a, b, c, d, e, g, k, l, m] X L)
theorem u7 {b : Nat} {o o' : Obj} {p p1 p2 p3 p4 p5 p6 : Nat × Obj} {L : Own} : Upd b o' o (p :: p1 :: p2 :: p3 :: p4 :: p5 :: p6 :: (b, o) :: L) (p :: p1 :: p2 :: p3 :: p4 :: p5 :: p6 :: (b, o') :: L) := .there u6
theorem u8 {b : Nat} {o o' : Obj} {p p1 p2 p3 p4 p5 p6 p7 : Nat × Obj} {L : Own} : Upd b o' o (p :: p1 :: p2 :: p3 :: p4 :: p5 :: p6 :: p7 :: (b, o) :: L) (p :: p1 :: p2 :: p3 :: p4 :: p5 :: p6 :: p7 :: (b, o') :: L) := .there u7
theorem u9 {b : Nat} {o o' : Obj} {p p1 p2 p3 p4 p5 p6 p7 p8 : Nat × Obj} {L : Own} : Upd b o' o (p :: p1 :: p2 :: p3 :: p4 :: p5 :: p6 :: p7 :: p8 :: (b, o) :: L) (p :: p1 :: p2 :: p3 :: p4 :: p5 :: p6 :: p7 :: p8 :: (b, o') :: L) := .there u8
/-- The reference's maker. -/
def mkr (b : Nat) (ot : Option Addr) (tk : List Txt) (ct n : Nat) (u v : Value) : Nat × Obj := (b, .cells [.slice ot tk.length ct, .int .i64 (n : Nat), u, v].toArray 90 (0, 0))
/-- The names and expressions that it has noted. -/
structure MS where
  ns : List Txt
  es : List Ex
  B1 : Buf
  c1 : Nat
  xs : List Value
  B2 : Buf
  c2 : Nat
structure MS.ok (I : Heap) (x : MS) : Prop where
  b1 : BufOk 1 x.ns.length x.c1 (x.ns.map sv) x.B1
  b2 : BufOk 2 x.es.length x.c2 x.xs x.B2
  rep : RepL I (x.es.map Ex.tree) x.xs
  each : ∀ s ∈ x.ns, s.length ≤ maxN
theorem MS.ok.mono {I I' : Heap} {x : MS} (hle : HLe I I') (h : x.ok I) : x.ok I' := ⟨h.b1, h.b2, h.rep.mono hle, h.each⟩
def MS.own (b : Nat) (ot : Option Addr) (tk : List Txt) (ct n : Nat) (x : MS) (L : Own) : Own :=
  mkr b ot tk ct n (bufVal x.ns.length x.c1 x.B1) (bufVal x.es.length x.c2 x.B2) :: (bufOwn 9 (x.ns.map sv) x.B1 ++ (bufOwn 64 x.xs x.B2 ++ L))
def MP (b : Nat) (ot : Option Addr) (tk : List Txt) (ct : Nat) (x : MS) (p : MK) (L : Own) : Post := fun v I' L' => ∃ cs y, v = .agg (List.toArray cs) ∧ Rep I' p.e.tree cs ∧ MS.ok I' y ∧ y.ns = x.ns ++ p.ns.map (·.1) ∧ y.es = x.es ++ p.ns.map (·.2) ∧ L' = y.own b ot tk ct p.n L
theorem g_l5Fresh {I : Heap} {ot : Option Addr} {tk : List Txt} {ct : Nat} (hav : Strs I ot tk ct) (b n : Nat) (hn : n + tk.length ≤ 1000 + hits 121 tk n) (h3 : n ≤ 1000) {a1 a2 : Option Addr} {m1 k1 m2 k2 : Nat} (L : Own) :
    Fun Tryz.prog 106 [.pointer (some ⟨b, 0, none⟩)] I (mkr b ot tk ct n (.slice a1 m1 k1) (.slice a2 m2 k2) :: L) (fun v I' L' => v = .string (str (nm 121 (fr 121 tk n))) ∧ I = I' ∧ L' = mkr b ot tk ct (fr 121 tk n + 1) (.slice a1 m1 k1) (.slice a2 m2 k2) :: L) := by
  obtain ⟨f1, f2, f3⟩ := fr_facts 121 tk n
  have f4 := hits_le 121 tk (fr 121 tk n)
  refine fun_intro (by simp) ?_
  refine s_seq ?_
  refine o_enter rfl ?_
  refine o_assign rfl .free rfl ?_
  refine o_done ?_
  refine s_block ?_
  refine s_while (X := Nat) (fun m => fr 121 tk n + 1 - m) (fun m => [(0, .pointer (some ⟨b, 0, none⟩))]) (fun _ => I) (fun m => mkr b ot tk ct m (.slice a1 m1 k1) (.slice a2 m2 k2) :: L) (fun m => n ≤ m ∧ m ≤ fr 121 tk n ∧ ∀ j, n ≤ j → j < m → nm 121 j ∈ tk) n ⟨Nat.le_refl _, f2, fun j h1 h2 => absurd h2 (by omega)⟩ ⟨rfl, trivial⟩ (fun _ h => h) ?_
  rintro m ⟨hm1, hm2, hm3⟩ ih
  unfold mkr
  have hdl := decT_le (n := m) (by omega)
  refine s_block ?_
  refine s_seq ?_
  refine o_enter rfl ?_
  refine o_move rfl .free rfl ?_
  refine o_nilCheck rfl .free rfl ?_
  first | refine o_fieldAddr rfl .free rfl ?_ | refine o_fieldAddr' rfl .free rfl ?_
  refine o_lS rfl .free rfl ?_
  refine o_call rfl .free rfl (g_l6Dec _ m (Nat.lt_succ_self _) (by omega) _ _) ?_
  rintro _ _ _ _ ⟨rfl, rfl, rfl⟩
  refine o_concat rfl rfl (by first | omega | (simp only [List.length_append, List.length_cons, List.length_nil]; omega) | (simp; omega)) .free rfl ?_
  refine o_assign rfl .free rfl ?_
  refine o_done ?_
  refine s_seq ?_
  refine o_enter rfl ?_
  refine o_move rfl .free rfl ?_
  refine o_move rfl .free rfl ?_
  refine o_nilCheck rfl .free rfl ?_
  first | refine o_fieldAddr rfl .free rfl ?_ | refine o_fieldAddr' rfl .free rfl ?_
  refine o_lS rfl .free rfl ?_
  refine o_arith rfl rfl rfl (by omega) .free rfl ?_
  refine o_nilCheck rfl .free rfl ?_
  first | refine o_fieldAddr rfl .free rfl ?_ | refine o_fieldAddr' rfl .free rfl ?_
  refine o_st rfl rfl rfl rfl .free ?_
  refine o_done ?_
  refine s_seq ?_
  refine o_enter rfl ?_
  refine o_move rfl .free rfl ?_
  refine o_nilCheck rfl .free rfl ?_
  first | refine o_fieldAddr rfl .free rfl ?_ | refine o_fieldAddr' rfl .free rfl ?_
  refine o_lS rfl .free rfl ?_
  refine o_move rfl .free rfl ?_
  refine o_call rfl .free rfl (g_l1Has (hav.rd _) ct (nm 121 m)) ?_
  rintro _ _ _ _ ⟨rfl, rfl, rfl⟩
  refine o_not rfl .free rfl ?_
  refine o_done ?_
  first | refine s_if rfl ?_ ?_ | refine s_ifn rfl ?_ ?_ | refine s_cond rfl ?_ ?_
  · intro c0
    refine s_seq ?_
    refine o_enter rfl ?_
    refine o_move rfl .free rfl ?_
    refine o_assign rfl .free rfl ?_
    refine o_done ?_
    refine s_ret (.tmp rfl .nil) ?_
    have hfm : fr 121 tk n = m := fr_stop hm3 hm1 c0
    exact ⟨I, _, .refl _, fun _ h => h, by rw [hfm]; rfl, rfl, by rw [hfm]; rfl⟩
  intro c0
  refine s_skip ?_
  refine s_inBlock ?_
  have hne : m ≠ fr 121 tk n := fun e => f1 (e ▸ c0)
  refine s_env (E' := [(0, .pointer (some ⟨b, 0, none⟩))]) ⟨rfl, trivial⟩ (ih (m + 1) ⟨by omega, by omega, fun j h1 h2 => ?_⟩ (by omega))
  by_cases hj : j = m
  · subst hj; exact c0
  · exact hm3 j h1 (by omega)
end Go.Proofs.YtdnmhgiaebbppaaGreat


/- Bare parts and whole expressions made normal, by the reference. No conditions. -/
namespace Go.Proofs.YtdnmhgiaebbppaaGreat
set_option maxRecDepth 100000
set_option linter.unusedVariables false
set_option linter.unusedSimpArgs false

def MakeH (N : Nat) : Prop := ∀ {I : Heap} {e : Ex} {cs : List Value} (_ : SizeOf.sizeOf e < N) (_ : Rep I e.tree cs) (_ : e.ok = true) {ot : Option Addr} {tk : List Txt} {ct : Nat} (_ : Strs I ot tk ct) (b n : Nat) (_ : n + e.size + tk.length ≤ 900 + hits 121 tk n) (x : MS) (_ : x.ok I) (_ : x.ns.length + e.size ≤ 100000) (_ : x.es.length = x.ns.length) (L : Own),
  Fun Tryz.prog 85 [.pointer (some ⟨b, 0, none⟩), .agg cs.toArray] I (x.own b ot tk ct n L) (MP b ot tk ct x (e.mk tk n) L)
theorem Mem.sw {I : Heap} {m a b : Nat × Obj} {L : Own} {w : World} (h : Mem I (m :: a :: b :: L) w) : Mem I (m :: b :: a :: L) w := h.perm (List.Perm.cons _ (List.Perm.swap ..))
theorem Mem.rev3 {I : Heap} {a b c : Nat × Obj} {L : Own} {w : World} (h : Mem I (a :: b :: c :: L) w) : Mem I (c :: b :: a :: L) w := h.perm ((List.Perm.cons a (List.Perm.swap c b L)).trans ((List.Perm.swap c a (b :: L)).trans (List.Perm.cons c (List.Perm.swap b a L))))
theorem d_s33 {P : Program} {f : FuncId} {n : Nat} {I₀ : Heap} {Q : Post} {k : List Item} {E : Env} {I : Heap} {id : Nat} {ops : Array Oper} {a b c p q r : Nat × Obj} {B L : Own} (N : Nat) (hN : ops.size = N) (hm : P.follows .mixedOrders = true)
    (h : RunW P f n I₀ Q ops (Mem I (p :: q :: r :: L)) N (Array.replicate N false) k E I (a :: b :: c :: p :: q :: r :: (B ++ L))) : RunS P f n I₀ Q (.code (.region id ops true) :: k) E I (a :: b :: c :: p :: q :: r :: (B ++ L)) := d_with I (p :: q :: r :: L) N hN hm h
theorem l5Plain_of {N : Nat} (ih : MakeH N) {I : Heap} {e : Ex} {cs : List Value} (hlt : SizeOf.sizeOf e < N) (h : Rep I e.tree cs) (hok : e.ok = true) {ot : Option Addr} {tk : List Txt} {ct : Nat} (htk : Strs I ot tk ct) (b n : Nat) (hn : n + e.size + tk.length ≤ 900 + hits 121 tk n) (x : MS) (hx : x.ok I) (hxl : x.ns.length + e.size ≤ 100000) (hxe : x.es.length = x.ns.length) (L : Own) :
    Fun Tryz.prog 103 [.pointer (some ⟨b, 0, none⟩), .agg cs.toArray] I (x.own b ot tk ct n L) (MP b ot tk ct x ((e.mk tk n).pt tk) L) := by
  obtain ⟨oa, c, oaf, cf, rfl, hf⟩ := h.at'
  have hmo := Ex.mk_ok (tk := tk) (n := n) hok hn
  have hmh := e.mk_hits tk n
  have hmg := e.mk_g tk n
  have hml := e.mk_len tk n
  have hh0 := hits_le 121 tk n
  have hh1 := hits_le 121 tk (e.mk tk n).n
  generalize hp : e.mk tk n = p at *
  refine fun_intro (by simp) ?_
  refine s_seq ?_
  refine o_enter rfl ?_
  refine o_box rfl rfl .free rfl ?_
  intro b3
  refine o_alloc .free rfl ?_
  intro b4
  refine o_done ?_
  refine s_seq ?_
  refine o_enter rfl ?_
  refine o_move rfl .free rfl ?_
  refine o_lOS rfl .free rfl ?_
  refine o_mem (fun w h => Mem.mv (X := [_, _]) h) ?_
  refine o_call rfl .free rfl (ih hlt hf.rep hok htk b n hn x hx hxl hxe _) ?_
  rw [hp]; rintro _ J1 _ e1 ⟨cs1, y, rfl, hr, hy, hyn, hye, rfl⟩
  obtain ⟨o1, k1, _, rfl, -⟩ := hr.open
  have hyl : y.ns.length = x.ns.length + p.ns.length := by rw [hyn]; simp
  have hyl2 : y.es.length = y.ns.length := by rw [hye, hyn]; simp [hxe]
  obtain ⟨a1, k2, hu1⟩ := bufVal_len hy.b1
  obtain ⟨a2, k3, hu2⟩ := bufVal_len hy.b2
  refine o_mem (fun w h => Mem.vm (X := [_, _]) h) ?_
  rw [hu1, hu2]
  simp only [List.cons_append, List.nil_append]
  refine o_alloc .free rfl ?_
  intro b5
  refine o_st rfl rfl rfl rfl .free ?_
  refine o_done ?_
  refine s_seq ?_
  refine s_seq ?_
  refine o_enter rfl ?_
  refine o_fieldAddr rfl .free rfl ?_
  refine o_lO1 rfl .free rfl ?_
  refine o_cmps rfl rfl rfl .free rfl ?_
  refine o_done ?_
  refine s_cond rfl ?_ ?_
  · intro c0
    try simp only [nb] at c0
    have hb : p.e.bare = true := by
      cases hb : p.e.bare with
      | true => rfl
      | false => exact absurd ((Ex.atom_iff hmo.2).2 hb) c0
    refine s_seq ?_
    refine o_enter rfl ?_
    refine o_lOS rfl .free rfl ?_
    refine o_st rfl rfl rfl rfl .free ?_
    refine o_done ?_
    refine s_ret (.c rfl .nil) ?_
    refine ⟨J1, _, e1, fun w h => Mem.sub (L' := y.own b ot tk ct p.n L) (by unfold MS.own; rw [hu1, hu2]; repeat (first | exact List.Sublist.refl _ | apply List.Sublist.cons_cons | apply List.Sublist.cons)) h, _, y, rfl, by unfold MK.pt; rw [if_pos hb]; exact hr, hy, by unfold MK.pt; rw [if_pos hb]; exact hyn, by unfold MK.pt; rw [if_pos hb]; exact hye, by unfold MK.pt; rw [if_pos hb]⟩
  intro c0
  try simp only [nb] at c0
  have hb : p.e.bare = false := (Ex.atom_iff hmo.2).1 (by simpa using c0)
  have htk := htk.mono e1
  refine s_skip ?_
  refine s_seq ?_
  refine o_enter rfl ?_
  refine o_move rfl .free rfl ?_
  refine o_mem (fun w h => h.f3) ?_
  refine o_call rfl .free rfl (g_l5Fresh htk b p.n (by omega) (by omega) _) ?_
  rintro _ _ _ _ ⟨rfl, rfl, rfl⟩
  have hfr := fr_facts 121 tk p.n
  have hfr2 := hits_le 121 tk (fr 121 tk p.n)
  have hnl : (nm 121 (fr 121 tk p.n)).length ≤ maxN := Ex.name_len (nm_name (by decide) (by omega))
  generalize hn1e : nm 121 (fr 121 tk p.n) = n1 at hnl ⊢
  have hpt : p.pt tk = ⟨.name n1, p.ns ++ [(n1, p.e)], fr 121 tk p.n + 1, p.g + 1⟩ := by unfold MK.pt; rw [if_neg (by rw [hb]; simp), hn1e]
  rw [hpt]
  unfold mkr
  refine o_assign rfl .free rfl ?_
  refine o_done ?_
  refine s_seq ?_
  refine o_enter rfl ?_
  refine o_move rfl .free rfl ?_
  refine o_move rfl .free rfl ?_
  refine o_nilCheck rfl .free rfl ?_
  first | refine o_fieldAddr rfl .free rfl ?_ | refine o_fieldAddr' rfl .free rfl ?_
  refine o_lJ rfl .free rfl ?_
  refine o_move rfl .free rfl ?_
  refine o_lits rfl rfl (by rfl) (by rfl) (by rfl) (by decide) (by decide) (by rfl) .free rfl ?_
  intro b22
  refine o_append (B := y.B1) (xs := y.ns.map sv) (ys := [sv n1]) (m := y.ns.length) (c := y.c1) (by intro kk; simp) (by rfl) (by rw [hu1]; rfl) rfl hy.b1 (fun _ h => h.u5) (by rfl) (fun a ha => by cases ha; exact reads_ownL (.head _) (by rfl)) (by simp) (by rfl) (by decide) (by decide) (by omega) (by decide) .free rfl ?_
  intro bb sp c2 hB'
  refine o_nilCheck rfl .free rfl ?_
  first | refine o_fieldAddr rfl .free rfl ?_ | refine o_fieldAddr' rfl .free rfl ?_
  refine o_st rfl rfl rfl rfl .free ?_
  refine o_done ?_
  refine s_seq ?_
  refine d_s33 13 rfl rfl ?_
  refine d_takeA 0 rfl (by kernel_rfl) rfl (.inr heldx) (y_move rfl) .free rfl ?_
  refine d_takeA 1 rfl (by kernel_rfl) rfl (.inr heldx) (y_nilCheck rfl) .free rfl ?_
  first | refine d_takeA 2 rfl (by kernel_rfl) rfl (.inr heldx) (y_fieldAddr rfl) .free rfl ?_ | refine d_takeA 2 rfl (by kernel_rfl) rfl (.inr heldx) (y_fieldAddr' rfl) .free rfl ?_
  refine d_take 4 [9] rfl (by kernel_rfl) rfl heldx (y_lOS rfl) .free rfl ?_
  refine d_two 3 6 (by kernel_rfl) ?_ ?_
  · skip
    refine i_yld 3 rfl rfl (y_lJ rfl) .free rfl (.inr heldx) ?_
    refine d_takeA 5 rfl (by kernel_rfl) rfl (.inr heldx) (y_len_slice rfl) .free rfl ?_
    refine d_lits 6 rfl (by kernel_rfl) rfl rfl rfl (by rfl) (by rfl) (by rfl) (by decide) (by decide) (by rfl) .free rfl (.inr heldx) ?_
    intro b32
    refine d_appendB 7 (B := y.B2) (xs := y.xs) (ys := [.string (str []), .slice none 0 0]) (m := y.es.length) (c := y.c2) rfl (by kernel_rfl) rfl (by intro kk; simp) (by rfl) (by rw [hu2]; rfl) rfl hy.b2 (fun _ h => h.u7) (by rfl) (fun a ha => by cases ha; exact reads_ownL (.head _) (by rfl)) (by simp) (by rfl) (by decide) (by omega) (by decide) .free rfl (fun _ => .inr heldx) ?_
    intro B2 c3 hB2
    obtain ⟨bq, sq, rfl⟩ : ∃ bq sq, B2 = some (bq, sq) := by
      cases B2 with
      | none => exact absurd hB2.1 (by simp)
      | some z => exact ⟨z.1, z.2, rfl⟩
    have hxl2 := hy.rep.length
    rw [List.length_map] at hxl2
    simp only [bufOwn, List.cons_append, List.nil_append, List.append_assoc]
    refine d_takeA 8 rfl (by kernel_rfl) rfl (.inr heldx) (y_indexAddr' rfl rfl _ rfl (by omega) rfl) .free rfl ?_
    refine d_put (t := 34) rfl (congrArg (fun a => Value.pointer (some a)) (addr_own bq (y.es.length * 2))) ?_
    refine d_takeA 10 rfl (by kernel_rfl) rfl (.inr heldx) (y_nilCheck rfl) .free rfl ?_
    first | refine d_takeA 11 rfl (by kernel_rfl) rfl (.inr heldx) (y_fieldAddr rfl) .free rfl ?_ | refine d_takeA 11 rfl (by kernel_rfl) rfl (.inr heldx) (y_fieldAddr' rfl) .free rfl ?_
    refine d_two 9 12 (by kernel_rfl) ?_ ?_
    · skip
      refine i_st 9 rfl rfl rfl rfl rfl rfl .free (.inl (by kernel_rfl)) ?_ (hu := u0) (hus := putN_mid' (xs := y.xs) (zs := [_, _]) (sp := sq) (by omega) rfl)
      refine d_st 12 rfl (by kernel_rfl) rfl rfl rfl rfl rfl .free (.inl (by kernel_rfl)) ?_
      refine d_done (by kernel_rfl) ?_
      refine s_seq ?_
      refine o_enter rfl ?_
      refine o_move rfl .free rfl ?_
      refine o_call rfl .free rfl (g_l1Atom ..) ?_
      rintro _ _ _ _ ⟨rfl, rfl, rfl⟩
      refine o_st rfl rfl rfl rfl .free ?_
      refine o_done ?_
      refine s_ret (.c rfl .nil) ?_
      refine ⟨J1, _, e1, fun w h => Mem.rev3 (Mem.sub (L' := (bq, _) :: (bb, _) :: (b, _) :: L) (by repeat (first | exact List.Sublist.refl _ | apply List.Sublist.cons_cons | apply List.Sublist.cons)) h), _, ⟨y.ns ++ [n1], y.es ++ [p.e], some (bb, sp), c2, y.xs ++ [.string (str p.e.tree.atom), .slice o1 p.e.tree.parts.length k1], some (bq, sq), c3⟩, rfl, .ofAtom hnl, ⟨by simpa using hB', ⟨by have := hB2.1; simp at this ⊢; omega, by simpa using hB2.2.1, by simpa using hB2.2.2⟩, by simpa using hy.rep.append (.one hr), ?_⟩, ?_, ?_, ?_⟩
      · intro s hs
        rcases List.mem_append.1 hs with hs | hs
        · exact hy.each s hs
        · rw [List.mem_singleton.1 hs]; exact hnl
      · simp only [hyn, List.map_append, List.map_cons, List.map_nil, List.append_assoc]
      · simp only [hye, List.map_append, List.map_cons, List.map_nil, List.append_assoc]
      · simp only [MS.own, mkr, bufOwn, bufVal, List.map_append, List.map_cons, List.map_nil, List.append_assoc, List.length_append, List.length_cons, List.length_nil, List.cons_append, List.nil_append]
    · skip
      refine i_st 12 rfl rfl rfl rfl rfl rfl .free (.inr heldx) ?_
      refine d_st 9 rfl (by kernel_rfl) rfl rfl rfl rfl rfl .free (.inl (by kernel_rfl)) ?_ (hu := u0) (hus := putN_mid' (xs := y.xs) (zs := [_, _]) (sp := sq) (by omega) rfl)
      refine d_done (by kernel_rfl) ?_
      refine s_seq ?_
      refine o_enter rfl ?_
      refine o_move rfl .free rfl ?_
      refine o_call rfl .free rfl (g_l1Atom ..) ?_
      rintro _ _ _ _ ⟨rfl, rfl, rfl⟩
      refine o_st rfl rfl rfl rfl .free ?_
      refine o_done ?_
      refine s_ret (.c rfl .nil) ?_
      refine ⟨J1, _, e1, fun w h => Mem.rev3 (Mem.sub (L' := (bq, _) :: (bb, _) :: (b, _) :: L) (by repeat (first | exact List.Sublist.refl _ | apply List.Sublist.cons_cons | apply List.Sublist.cons)) h), _, ⟨y.ns ++ [n1], y.es ++ [p.e], some (bb, sp), c2, y.xs ++ [.string (str p.e.tree.atom), .slice o1 p.e.tree.parts.length k1], some (bq, sq), c3⟩, rfl, .ofAtom hnl, ⟨by simpa using hB', ⟨by have := hB2.1; simp at this ⊢; omega, by simpa using hB2.2.1, by simpa using hB2.2.2⟩, by simpa using hy.rep.append (.one hr), ?_⟩, ?_, ?_, ?_⟩
      · intro s hs
        rcases List.mem_append.1 hs with hs | hs
        · exact hy.each s hs
        · rw [List.mem_singleton.1 hs]; exact hnl
      · simp only [hyn, List.map_append, List.map_cons, List.map_nil, List.append_assoc]
      · simp only [hye, List.map_append, List.map_cons, List.map_nil, List.append_assoc]
      · simp only [MS.own, mkr, bufOwn, bufVal, List.map_append, List.map_cons, List.map_nil, List.append_assoc, List.length_append, List.length_cons, List.length_nil, List.cons_append, List.nil_append]
  · skip
    refine i_lits 6 rfl rfl rfl rfl (by rfl) (by rfl) (by rfl) (by decide) (by decide) (by rfl) .free rfl (.inr heldx) ?_
    intro b32
    refine d_yld 3 rfl (by kernel_rfl) rfl (y_lJ rfl) .free rfl (.inr heldx) ?_
    refine d_takeA 5 rfl (by kernel_rfl) rfl (.inr heldx) (y_len_slice rfl) .free rfl ?_
    refine d_appendB 7 (B := y.B2) (xs := y.xs) (ys := [.string (str []), .slice none 0 0]) (m := y.es.length) (c := y.c2) rfl (by kernel_rfl) rfl (by intro kk; simp) (by rfl) (by rw [hu2]; rfl) rfl hy.b2 (fun _ h => h.u7) (by rfl) (fun a ha => by cases ha; exact reads_ownL (.head _) (by rfl)) (by simp) (by rfl) (by decide) (by omega) (by decide) .free rfl (fun _ => .inr heldx) ?_
    intro B2 c3 hB2
    obtain ⟨bq, sq, rfl⟩ : ∃ bq sq, B2 = some (bq, sq) := by
      cases B2 with
      | none => exact absurd hB2.1 (by simp)
      | some z => exact ⟨z.1, z.2, rfl⟩
    have hxl2 := hy.rep.length
    rw [List.length_map] at hxl2
    simp only [bufOwn, List.cons_append, List.nil_append, List.append_assoc]
    refine d_takeA 8 rfl (by kernel_rfl) rfl (.inr heldx) (y_indexAddr' rfl rfl _ rfl (by omega) rfl) .free rfl ?_
    refine d_put (t := 34) rfl (congrArg (fun a => Value.pointer (some a)) (addr_own bq (y.es.length * 2))) ?_
    refine d_takeA 10 rfl (by kernel_rfl) rfl (.inr heldx) (y_nilCheck rfl) .free rfl ?_
    first | refine d_takeA 11 rfl (by kernel_rfl) rfl (.inr heldx) (y_fieldAddr rfl) .free rfl ?_ | refine d_takeA 11 rfl (by kernel_rfl) rfl (.inr heldx) (y_fieldAddr' rfl) .free rfl ?_
    refine d_two 9 12 (by kernel_rfl) ?_ ?_
    · skip
      refine i_st 9 rfl rfl rfl rfl rfl rfl .free (.inl (by kernel_rfl)) ?_ (hu := u0) (hus := putN_mid' (xs := y.xs) (zs := [_, _]) (sp := sq) (by omega) rfl)
      refine d_st 12 rfl (by kernel_rfl) rfl rfl rfl rfl rfl .free (.inl (by kernel_rfl)) ?_
      refine d_done (by kernel_rfl) ?_
      refine s_seq ?_
      refine o_enter rfl ?_
      refine o_move rfl .free rfl ?_
      refine o_call rfl .free rfl (g_l1Atom ..) ?_
      rintro _ _ _ _ ⟨rfl, rfl, rfl⟩
      refine o_st rfl rfl rfl rfl .free ?_
      refine o_done ?_
      refine s_ret (.c rfl .nil) ?_
      refine ⟨J1, _, e1, fun w h => Mem.rev3 (Mem.sub (L' := (bq, _) :: (bb, _) :: (b, _) :: L) (by repeat (first | exact List.Sublist.refl _ | apply List.Sublist.cons_cons | apply List.Sublist.cons)) h), _, ⟨y.ns ++ [n1], y.es ++ [p.e], some (bb, sp), c2, y.xs ++ [.string (str p.e.tree.atom), .slice o1 p.e.tree.parts.length k1], some (bq, sq), c3⟩, rfl, .ofAtom hnl, ⟨by simpa using hB', ⟨by have := hB2.1; simp at this ⊢; omega, by simpa using hB2.2.1, by simpa using hB2.2.2⟩, by simpa using hy.rep.append (.one hr), ?_⟩, ?_, ?_, ?_⟩
      · intro s hs
        rcases List.mem_append.1 hs with hs | hs
        · exact hy.each s hs
        · rw [List.mem_singleton.1 hs]; exact hnl
      · simp only [hyn, List.map_append, List.map_cons, List.map_nil, List.append_assoc]
      · simp only [hye, List.map_append, List.map_cons, List.map_nil, List.append_assoc]
      · simp only [MS.own, mkr, bufOwn, bufVal, List.map_append, List.map_cons, List.map_nil, List.append_assoc, List.length_append, List.length_cons, List.length_nil, List.cons_append, List.nil_append]
    · skip
      refine i_st 12 rfl rfl rfl rfl rfl rfl .free (.inr heldx) ?_
      refine d_st 9 rfl (by kernel_rfl) rfl rfl rfl rfl rfl .free (.inl (by kernel_rfl)) ?_ (hu := u0) (hus := putN_mid' (xs := y.xs) (zs := [_, _]) (sp := sq) (by omega) rfl)
      refine d_done (by kernel_rfl) ?_
      refine s_seq ?_
      refine o_enter rfl ?_
      refine o_move rfl .free rfl ?_
      refine o_call rfl .free rfl (g_l1Atom ..) ?_
      rintro _ _ _ _ ⟨rfl, rfl, rfl⟩
      refine o_st rfl rfl rfl rfl .free ?_
      refine o_done ?_
      refine s_ret (.c rfl .nil) ?_
      refine ⟨J1, _, e1, fun w h => Mem.rev3 (Mem.sub (L' := (bq, _) :: (bb, _) :: (b, _) :: L) (by repeat (first | exact List.Sublist.refl _ | apply List.Sublist.cons_cons | apply List.Sublist.cons)) h), _, ⟨y.ns ++ [n1], y.es ++ [p.e], some (bb, sp), c2, y.xs ++ [.string (str p.e.tree.atom), .slice o1 p.e.tree.parts.length k1], some (bq, sq), c3⟩, rfl, .ofAtom hnl, ⟨by simpa using hB', ⟨by have := hB2.1; simp at this ⊢; omega, by simpa using hB2.2.1, by simpa using hB2.2.2⟩, by simpa using hy.rep.append (.one hr), ?_⟩, ?_, ?_, ?_⟩
      · intro s hs
        rcases List.mem_append.1 hs with hs | hs
        · exact hy.each s hs
        · rw [List.mem_singleton.1 hs]; exact hnl
      · simp only [hyn, List.map_append, List.map_cons, List.map_nil, List.append_assoc]
      · simp only [hye, List.map_append, List.map_cons, List.map_nil, List.append_assoc]
      · simp only [MS.own, mkr, bufOwn, bufVal, List.map_append, List.map_cons, List.map_nil, List.append_assoc, List.length_append, List.length_cons, List.length_nil, List.cons_append, List.nil_append]
end Go.Proofs.YtdnmhgiaebbppaaGreat


/- Whole expressions made normal, by the reference. No conditions. -/
namespace Go.Proofs.YtdnmhgiaebbppaaGreat
set_option maxRecDepth 100000
set_option linter.unusedVariables false
set_option linter.unusedSimpArgs false

theorem Forms.at' {I : Heap} {oa : Option Addr} {ts : List Tree} {c : Nat} (h : Forms I oa ts c) : ∃ oaf cf, FormAt I (.node [] ts) oa c oaf cf := by
  obtain ⟨oa', c', oaf, cf, he, hf⟩ := (h.form [] (by decide)).at'
  simp only [List.cons.injEq, Value.slice.injEq, and_true, true_and] at he
  obtain ⟨_, rfl, _, rfl⟩ := he
  exact ⟨oaf, cf, hf⟩
theorem o_freezeForms {P : Program} {f : FuncId} {n : Nat} {I₀ : Heap} {Q : Post} {k : List Item} {E : Env} {I : Heap} {L : Own} {ops : Array Oper} {ol : List Oper} {e : TypeId} {ts : List Tree} {vs : List Value} {B : Buf} {m c : Nat} (hl : RepL I ts vs) (hB : BufOk 2 m c vs B) (hm : m = ts.length) (hn : ts.length ≤ maxN)
    (h : ∀ I' oa c', HLe I I' → bufVal m c B = .slice oa ts.length c' → Forms I' oa ts c' → RunO P f n I₀ Q ops ol k E I' L) : RunO P f n I₀ Q ops ol k E I (bufOwn e vs B ++ L) := by
  rcases forms_buf (e := e) hl hB hm hn with ⟨rfl, rfl⟩ | ⟨b, sp, rfl, _, hc⟩
  · exact h I none 0 (.refl _) rfl (forms_none _)
  · exact o_freeze fun hle => h _ (some ⟨b, 0, none⟩) c hle (by rw [← hm]; rfl) (forms_lit hl hle hc hn)
theorem RepL.four {I : Heap} {t u v x : Tree} {cs ds es gs : List Value} (h : Rep I t cs) (h' : Rep I u ds) (h'' : Rep I v es) (h3 : Rep I x gs) : RepL I [t, u, v, x] (cs ++ (ds ++ (es ++ gs))) := (RepL.one h).append ((RepL.one h').append ((RepL.one h'').append (.one h3)))
theorem g_l1List {I : Heap} {oa : Option Addr} {ts : List Tree} {c : Nat} (h : Forms I oa ts c) (L : Own) : Fun Tryz.prog 86 [.slice oa ts.length c] I L (RP (.node [] ts) L) := by
  refine fun_intro (by simp) ?_
  refine s_seq ?_
  refine o_enter rfl ?_
  refine o_alloc .free rfl ?_
  intro b2
  refine o_done ?_
  refine s_seq ?_
  refine o_enter rfl ?_
  refine o_move rfl .free rfl ?_
  refine o_struct rfl rfl rfl .free rfl ?_
  refine o_st rfl rfl rfl rfl .free ?_
  refine o_done ?_
  refine s_ret (.c rfl .nil) ?_
  exact ⟨I, L, .refl _, drops, _, rfl, h.form [] (by decide), rfl⟩
theorem zip_drop {ns : List Txt} {es : List Ex} {k : Nat} (h : k < ns.length) (h2 : es.length = ns.length) (f : Ex) : lets ((ns.zip es).drop k) f = .lt (ns.getD k []) (es.getD k (.num [])) (lets ((ns.zip es).drop (k + 1)) f) := by
  have h3 : k < (ns.zip es).length := by simp [List.length_zip, h2]; exact h
  rw [lets_drop h3]
  simp [List.getElem_zip, h, show k < es.length by omega]
theorem zip_self : ∀ (l : Bds), (l.map (·.1)).zip (l.map (·.2)) = l
  | [] => rfl
  | p :: l => by simp only [List.map_cons, List.zip_cons_cons, zip_self l]
theorem l5Whole_of {N : Nat} (ih : MakeH N) {I : Heap} {e : Ex} {cs : List Value} (hlt : SizeOf.sizeOf e < N) (h : Rep I e.tree cs) (hok : e.ok = true) {ot : Option Addr} {tk : List Txt} {ct : Nat} (htk : Strs I ot tk ct) (b n : Nat) (hn : n + e.size + tk.length ≤ 900 + hits 121 tk n) (hz : e.size ≤ 100000) {a1 a2 : Option Addr} {q1 j1 q2 j2 : Nat} (L : Own) :
    Fun Tryz.prog 68 [.pointer (some ⟨b, 0, none⟩), .agg cs.toArray] I (mkr b ot tk ct n (.slice a1 q1 j1) (.slice a2 q2 j2) :: L) (fun v I' L' => ∃ cs, v = .agg (List.toArray cs) ∧ Rep I' (e.mk tk n).all.tree cs ∧ L' = mkr b ot tk ct (e.mk tk n).n (.slice a1 q1 j1) (.slice a2 q2 j2) :: L) := by
  obtain ⟨oa, c, oaf, cf, rfl, hf⟩ := h.at'
  have hmo := Ex.mk_ok (tk := tk) (n := n) hok hn
  have hml := e.mk_len tk n
  generalize hp : e.mk tk n = p at *
  unfold mkr
  refine fun_intro (by simp) ?_
  refine s_seq ?_
  refine o_enter rfl ?_
  refine o_box rfl rfl .free rfl ?_
  intro b3
  refine o_alloc .free rfl ?_
  intro b4
  refine o_done ?_
  refine s_seq ?_
  refine o_enter rfl ?_
  refine o_move rfl .free rfl ?_
  refine o_nilCheck rfl .free rfl ?_
  first | refine o_fieldAddr rfl .free rfl ?_ | refine o_fieldAddr' rfl .free rfl ?_
  refine o_lJ rfl .free rfl ?_
  refine o_assign rfl .free rfl ?_
  refine o_done ?_
  refine s_seq ?_
  refine o_enter rfl ?_
  refine o_move rfl .free rfl ?_
  refine o_nilCheck rfl .free rfl ?_
  first | refine o_fieldAddr rfl .free rfl ?_ | refine o_fieldAddr' rfl .free rfl ?_
  refine o_lJ rfl .free rfl ?_
  refine o_assign rfl .free rfl ?_
  refine o_done ?_
  refine s_seq ?_
  refine o_enter rfl ?_
  refine o_move rfl .free rfl ?_
  refine o_lits0 .free rfl ?_
  intro b18
  refine o_nilCheck rfl .free rfl ?_
  first | refine o_fieldAddr rfl .free rfl ?_ | refine o_fieldAddr' rfl .free rfl ?_
  refine o_st rfl rfl rfl rfl .free ?_
  refine o_done ?_
  refine s_seq ?_
  refine o_enter rfl ?_
  refine o_move rfl .free rfl ?_
  refine o_lits0 .free rfl ?_
  intro b22
  refine o_nilCheck rfl .free rfl ?_
  first | refine o_fieldAddr rfl .free rfl ?_ | refine o_fieldAddr' rfl .free rfl ?_
  refine o_st rfl rfl rfl rfl .free ?_
  refine o_done ?_
  refine s_seq ?_
  refine o_enter rfl ?_
  refine o_move rfl .free rfl ?_
  refine o_lOS rfl .free rfl ?_
  refine o_mem (L' := MS.own b ot tk ct n ⟨[], [], some (b18, []), 0, [], some (b22, []), 0⟩ (_ :: _ :: L)) (fun w h => h.f4.sw) ?_
  refine o_call rfl .free rfl (ih hlt hf.rep hok htk b n hn ⟨[], [], some (b18, []), 0, [], some (b22, []), 0⟩ ⟨⟨rfl, Nat.le_refl _, rfl⟩, ⟨rfl, Nat.le_refl _, rfl⟩, .nil, by simp⟩ (by simp; omega) rfl _) ?_
  rw [hp]; rintro _ J1 _ e1 ⟨cs1, y, rfl, hr, hy, hyn, hye, rfl⟩
  obtain ⟨o1, k1, _, rfl, -⟩ := hr.open
  simp only [List.nil_append] at hyn hye
  have hyl : y.ns.length = p.ns.length := by rw [hyn]; simp
  have hyl2 : y.es.length = y.ns.length := by rw [hye, hyn]; simp
  unfold MS.own
  refine o_mem (fun w h => Mem.seg2 (A := [_]) h) ?_
  refine o_freezeStrs hy.b1 rfl (by unfold maxN; omega) hy.each ?_
  intro J2 oz cz ez hu1 hst
  refine o_mem (fun w h => Mem.seg2 (A := [_]) (B := bufOwn _ _ _) h) ?_
  have hy := hy.mono ez
  refine o_freezeForms hy.rep hy.b2 (by simp) (by simp; unfold maxN; omega) ?_
  intro J3 oy cy ey hu2 hfm
  rw [hu1, hu2]
  refine o_mem (L' := (_ :: _ :: _ :: L)) (fun w h => h) ?_
  have hst := hst.mono ey
  have hr := (hr.mono ez).mono ey
  have hle := (e1.trans ez).trans ey
  obtain ⟨oaf2, cf2, hff⟩ := hfm.at'
  unfold mkr
  refine o_alloc .free rfl ?_
  intro b7
  refine o_st rfl rfl rfl rfl .free ?_
  refine o_done ?_
  refine s_seq ?_
  refine s_seq ?_
  refine o_enter rfl ?_
  refine o_move rfl .free rfl ?_
  refine o_nilCheck rfl .free rfl ?_
  first | refine o_fieldAddr rfl .free rfl ?_ | refine o_fieldAddr' rfl .free rfl ?_
  refine o_lJ rfl .free rfl ?_
  refine o_len_slice rfl .free rfl ?_
  refine o_arith rfl rfl rfl (by omega) .free rfl ?_
  refine o_assign rfl .free rfl ?_
  refine o_done ?_
  refine s_block ?_
  refine s_while (X := YS) (fun z => z.k) (fun z => [(0, .pointer (some ⟨b, 0, none⟩)), (4, .pointer (some ⟨b4, 0, none⟩)), (5, .slice a1 q1 j1), (6, .slice a2 q2 j2), (7, .pointer (some ⟨b7, 0, none⟩)), (8, .int .i64 ((z.k : Int) - 1))]) (fun z => z.I) (fun z => (b7, .cells [.string (str (lets ((y.ns.zip y.es).drop z.k) p.e).tree.atom), .slice z.oa (lets ((y.ns.zip y.es).drop z.k) p.e).tree.parts.length z.c].toArray 64 (0, 0)) :: (b, .cells [.slice ot tk.length ct, .int .i64 (p.n : Nat), .slice oz y.ns.length cz, .slice oy (y.es.map Ex.tree).length cy].toArray 90 (0, 0)) :: (b4, .cells [.string (str []), .slice none 0 0].toArray 64 (0, 0)) :: (b3, .cells [.string (str e.tree.atom), .slice oa e.tree.parts.length c].toArray 64 (0, 0)) :: L) (fun z => HLe J3 z.I ∧ z.k ≤ y.ns.length ∧ Rep z.I (lets ((y.ns.zip y.es).drop z.k) p.e).tree [.string (str (lets ((y.ns.zip y.es).drop z.k) p.e).tree.atom), .slice z.oa (lets ((y.ns.zip y.es).drop z.k) p.e).tree.parts.length z.c]) ⟨J3, y.ns.length, o1, k1⟩ ⟨.refl _, Nat.le_refl _, by rw [List.drop_of_length_le (by simp [List.length_zip, hyl2])]; exact hr⟩ ⟨rfl, rfl, rfl, rfl, rfl, rfl, trivial⟩ (fun w hw => by rw [List.drop_of_length_le (by simp [List.length_zip, hyl2])]; exact hw) ?_
  rintro ⟨J, k, ob, d⟩ ⟨hlz, hk, hrz⟩ ih2
  simp only at hlz hk hrz ih2
  dsimp only
  refine s_seq ?_
  refine s_seq ?_
  refine o_enter rfl ?_
  refine o_move rfl .free rfl ?_
  refine o_cmp rfl rfl rfl .free rfl ?_
  refine o_done ?_
  refine s_cond rfl ?_ ?_
  · intro c0
    try simp only [nb] at c0
    obtain ⟨k, rfl⟩ : ∃ m, k = m + 1 := ⟨k - 1, by omega⟩
    refine s_put (t := 8) (v' := .int .i64 (k : Nat)) rfl (by congr 1; omega) ?_
    have hst := hst.mono hlz
    have hff := hff.mono hlz
    have hkn : k < y.ns.length := by omega
    have hke : k < (Tree.node [] (y.es.map Ex.tree)).parts.length := by show k < (y.es.map Ex.tree).length; rw [List.length_map]; omega
    have hpt : (Tree.node [] (y.es.map Ex.tree)).pt k = (y.es.getD k (.num [])).tree := by
      rw [Tree.pt_at hke]; exact (List.getElem_map ..).trans (by simp [show k < y.es.length by omega])
    have hrk := hff.rp k hke
    have hnk := hst.each _ (List.getElem_mem hkn)
    rw [show y.ns[k] = y.ns.getD k [] by simp [hkn]] at hnk
    refine s_skip ?_
    refine s_seq ?_
    refine s_block ?_
    refine d_all 20 rfl rfl ?_
    refine d_takeA 1 rfl (by kernel_rfl) rfl (.inr heldx) (y_move rfl) .free rfl ?_
    refine d_takeA 2 rfl (by kernel_rfl) rfl (.inr heldx) (y_nilCheck rfl) .free rfl ?_
    first | refine d_takeA 3 rfl (by kernel_rfl) rfl (.inr heldx) (y_fieldAddr rfl) .free rfl ?_ | refine d_takeA 3 rfl (by kernel_rfl) rfl (.inr heldx) (y_fieldAddr' rfl) .free rfl ?_
    refine d_take 4 [19] rfl (by kernel_rfl) rfl heldx (y_lJ rfl) .free rfl ?_
    refine d_takeA 5 rfl (by kernel_rfl) rfl (.inr heldx) (y_move rfl) .free rfl ?_
    first | refine d_takeA 6 rfl (by kernel_rfl) rfl (.inr heldx) (y_ixD rfl rfl _ rfl) .free rfl ?_ | refine d_takeA 6 rfl (by kernel_rfl) rfl (.inr heldx) (y_ixP rfl rfl _ rfl) .free rfl ?_
    refine d_take 7 [19] rfl (by kernel_rfl) rfl heldx (y_lI1 rfl) .free rfl ?_
    refine d_takeA 9 rfl (by kernel_rfl) rfl (.inr heldx) (y_move rfl) .free rfl ?_
    refine d_takeA 10 rfl (by kernel_rfl) rfl (.inr heldx) (y_nilCheck rfl) .free rfl ?_
    first | refine d_takeA 11 rfl (by kernel_rfl) rfl (.inr heldx) (y_fieldAddr rfl) .free rfl ?_ | refine d_takeA 11 rfl (by kernel_rfl) rfl (.inr heldx) (y_fieldAddr' rfl) .free rfl ?_
    refine d_take 12 [19] rfl (by kernel_rfl) rfl heldx (y_lJ rfl) .free rfl ?_
    refine d_takeA 13 rfl (by kernel_rfl) rfl (.inr heldx) (y_move rfl) .free rfl ?_
    first | refine d_takeA 14 rfl (by kernel_rfl) rfl (.inr heldx) (y_ixD rfl rfl _ rfl) .free rfl ?_ | refine d_takeA 14 rfl (by kernel_rfl) rfl (.inr heldx) (y_ixP rfl rfl _ rfl) .free rfl ?_
    refine d_take 15 [19] rfl (by kernel_rfl) rfl heldx (y_lIS rfl) .free rfl ?_
    refine d_take 16 [19] rfl (by kernel_rfl) rfl heldx (y_lOS rfl) .free rfl ?_
    refine d_call 0 rfl (by kernel_rfl) rfl rfl .free rfl (g_l1Atom tLet _ _) ?_
    rintro _ _ _ _ ⟨rfl, rfl, rfl⟩
    refine ⟨(.inr heldx), ?_⟩
    refine d_call 8 rfl (by kernel_rfl) rfl rfl .free rfl (g_l1Atom (y.ns.getD k []) _ _) ?_
    rintro _ _ _ _ ⟨rfl, rfl, rfl⟩
    refine ⟨(.inr heldx), ?_⟩
    refine d_lits 17 rfl (by kernel_rfl) rfl rfl rfl (by rfl) (by rfl) (by rfl) (by decide) (by decide) (by rfl) .free rfl (.inr heldx) ?_
    intro b55
    refine d_freeze ?_
    intro hz
    have hfs := forms_lit0 (c := 4) (b := b55) (RepL.four (.ofAtom (a := tLet) (by decide)) (.ofAtom hnk) hrk hrz) hz (by simp) (by simp [maxN])
    refine d_call 18 rfl (by kernel_rfl) rfl rfl .free rfl (g_l1List hfs _) ?_
    rintro _ J5 _ e5 ⟨cs5, rfl, hr5, rfl⟩
    rw [hpt] at hr5
    have e6 := hz.trans e5
    obtain ⟨oq, cq, _, rfl, -⟩ := hr5.open
    refine ⟨(.inr heldx), ?_⟩
    refine d_st 19 rfl (by kernel_rfl) rfl rfl rfl rfl rfl .free (.inl (by kernel_rfl)) ?_
    refine d_done (by kernel_rfl) ?_
    refine s_inBlock ?_
    refine o_enter rfl ?_
    refine o_move rfl .free rfl ?_
    refine o_arith rfl rfl rfl (by omega) .free rfl ?_
    refine o_assign rfl .free rfl ?_
    refine o_done ?_
    refine s_env (E' := [(0, .pointer (some ⟨b, 0, none⟩)), (4, .pointer (some ⟨b4, 0, none⟩)), (5, .slice a1 q1 j1), (6, .slice a2 q2 j2), (7, .pointer (some ⟨b7, 0, none⟩)), (8, .int .i64 ((k : Int) - 1))]) ⟨rfl, rfl, rfl, rfl, rfl, rfl, trivial⟩ ?_
    have hd := zip_drop hkn hyl2 p.e
    refine s_mem (fun w hw => ?_) (ih2 ⟨J5, k, oq, cq⟩ ⟨hlz.trans e6, by simp only; omega, by simp only; rw [hd]; exact hr5⟩ (by simp only; omega))
    simp only; rw [hd]; exact hw
  intro c0
  try simp only [nb] at c0
  obtain rfl : k = 0 := by omega
  rw [List.drop_zero] at hrz
  simp only [List.drop_zero]
  have hzz : y.ns.zip y.es = p.ns := by rw [hyn, hye, zip_self]
  rw [hzz] at hrz ⊢
  refine s_exit rfl ?_
  refine s_seq ?_
  refine o_enter rfl ?_
  refine o_move rfl .free rfl ?_
  refine o_move rfl .free rfl ?_
  refine o_nilCheck rfl .free rfl ?_
  first | refine o_fieldAddr rfl .free rfl ?_ | refine o_fieldAddr' rfl .free rfl ?_
  refine o_st rfl rfl rfl rfl .free ?_
  refine o_done ?_
  refine s_seq ?_
  refine o_enter rfl ?_
  refine o_move rfl .free rfl ?_
  refine o_move rfl .free rfl ?_
  refine o_nilCheck rfl .free rfl ?_
  first | refine o_fieldAddr rfl .free rfl ?_ | refine o_fieldAddr' rfl .free rfl ?_
  refine o_st rfl rfl rfl rfl .free ?_
  refine o_done ?_
  refine s_seq ?_
  refine o_enter rfl ?_
  refine o_lOS rfl .free rfl ?_
  refine o_st rfl rfl rfl rfl .free ?_
  refine o_done ?_
  refine s_ret (.c rfl .nil) ?_
  exact ⟨J, _, hle.trans hlz, fun w h => Mem.sub (L' := (b, _) :: L) (by repeat (first | exact List.Sublist.refl _ | apply List.Sublist.cons_cons | apply List.Sublist.cons)) h, _, rfl, hrz, rfl⟩
end Go.Proofs.YtdnmhgiaebbppaaGreat


/- Expressions made simple, by the reference. No conditions. -/
namespace Go.Proofs.YtdnmhgiaebbppaaGreat
set_option maxRecDepth 100000
set_option linter.unusedVariables false
set_option linter.unusedSimpArgs false

section
variable {P : Program} {f : FuncId} {n : Nat} {I₀ : Heap} {Q : Post} {k : List Item} {E : Env} {I : Heap} {id : Nat} {ops : Array Oper} {a b c d e m p q r s t : Nat × Obj} {A B L : Own} {w : World}
theorem Mem.vm1 (h : Mem I (m :: (A ++ (B ++ (p :: L)))) w) : Mem I (p :: m :: (A ++ (B ++ L))) w := Mem.vm (X := [p]) h
theorem Mem.mv4 (h : Mem I (p :: q :: r :: s :: m :: (A ++ (B ++ L))) w) : Mem I (m :: (A ++ (B ++ (p :: q :: r :: s :: L)))) w := Mem.mv (X := [p, q, r, s]) h
theorem Mem.vm4 (h : Mem I (m :: (A ++ (B ++ (p :: q :: r :: s :: L)))) w) : Mem I (p :: q :: r :: s :: m :: (A ++ (B ++ L))) w := Mem.vm (X := [p, q, r, s]) h
theorem d_x4 (N : Nat) (hN : ops.size = N) (hm : P.follows .mixedOrders = true) (h : RunW P f n I₀ Q ops (Mem I (p :: q :: r :: s :: L)) N (Array.replicate N false) k E I (p :: q :: r :: s :: m :: (A ++ (B ++ L)))) :
    RunS P f n I₀ Q (.code (.region id ops true) :: k) E I (p :: q :: r :: s :: m :: (A ++ (B ++ L))) := d_with I (p :: q :: r :: s :: L) N hN hm h
theorem d_x6 (N : Nat) (hN : ops.size = N) (hm : P.follows .mixedOrders = true) (h : RunW P f n I₀ Q ops (Mem I (a :: p :: q :: r :: s :: m :: L)) N (Array.replicate N false) k E I (a :: p :: q :: r :: s :: m :: (A ++ L))) :
    RunS P f n I₀ Q (.code (.region id ops true) :: k) E I (a :: p :: q :: r :: s :: m :: (A ++ L)) := d_with I (a :: p :: q :: r :: s :: m :: L) N hN hm h
theorem d_x2 (N : Nat) (hN : ops.size = N) (hm : P.follows .mixedOrders = true) (h : RunW P f n I₀ Q ops (Mem I (p :: q :: r :: s :: t :: L)) N (Array.replicate N false) k E I (a :: b :: p :: q :: r :: s :: t :: m :: (A ++ L))) :
    RunS P f n I₀ Q (.code (.region id ops true) :: k) E I (a :: b :: p :: q :: r :: s :: t :: m :: (A ++ L)) := d_with I (p :: q :: r :: s :: t :: L) N hN hm h
end
set_option maxHeartbeats 1000000 in
theorem make_bin {N : Nat} (ihn : MakeH N) {o : B5} {a b : Ex} {I : Heap} {cs : List Value} (hlt : SizeOf.sizeOf (Ex.bin o a b) < N + 1) (h : Rep I (Ex.bin o a b).tree cs) (hok : (Ex.bin o a b).ok = true) {ot : Option Addr} {tk : List Txt} {ct : Nat} (htk : Strs I ot tk ct) (b0 n : Nat) (hn : n + (Ex.bin o a b).size + tk.length ≤ 900 + hits 121 tk n) (x : MS) (hx : x.ok I) (hxl : x.ns.length + (Ex.bin o a b).size ≤ 100000) (hxe : x.es.length = x.ns.length) (L : Own) :
    Fun Tryz.prog 85 [.pointer (some ⟨b0, 0, none⟩), .agg cs.toArray] I (x.own b0 ot tk ct n L) (MP b0 ot tk ct x ((Ex.bin o a b).mk tk n) L) := by
  obtain ⟨oa, c, oaf, cf1, rfl, hf, hcl, hcs⟩ := h.cells
  have hle : HLe I I := .refl _
  have hh0 := hits_le 121 tk n
  have hpos : 0 < (Ex.bin o a b).tree.parts.length := by show 0 < 3; decide
  obtain ⟨xa, rfl⟩ : ∃ xa, oa = some xa := ⟨_, some_oad hf.nil hpos⟩
  have hlen : (Ex.bin o a b).tree.parts.length = 3 := rfl
  have hp0 : ((Ex.bin o a b).tree.pt 0).atom = o.txt := rfl
  simp only [Ex.bin.sizeOf_spec] at hlt
  simp only [Ex.ok, Bool.and_eq_true, decide_eq_true_eq] at hok
  simp only [Ex.size] at hn hxl
  simp only [Ex.mk]
  unfold MS.own
  refine fun_intro (by simp) ?_
  refine s_seq ?_
  refine o_enter rfl ?_
  refine o_box rfl rfl .free rfl ?_
  intro b3
  refine o_alloc .free rfl ?_
  intro b4
  refine o_done ?_
  refine s_seq ?_
  refine s_seq ?_
  refine o_enter rfl ?_
  refine o_fieldAddr rfl .free rfl ?_
  refine o_lO1 rfl .free rfl ?_
  refine o_cmps rfl rfl rfl .free rfl ?_
  refine o_done ?_
  first | refine s_fp rfl (by simp [Ex.tree, Tree.atom]) ?_ | refine s_fn rfl (by simp [Ex.tree, Tree.atom]) ?_ | refine s_false (by simp [look, opd, *]) ?_
  refine s_skip ?_
  refine s_seq ?_
  refine o_enter rfl ?_
  refine o_fieldAddr rfl .free rfl ?_
  refine o_lO1 rfl .free rfl ?_
  refine o_assign rfl .free rfl ?_
  refine o_done ?_
  refine s_seq ?_
  refine o_enter rfl ?_
  refine o_lits0 .free rfl ?_
  intro b15
  refine o_move rfl .free rfl ?_
  refine o_append (B := some (b15, [])) (xs := []) (ys := cellsF oaf cf1 0 (Ex.bin o a b).tree.parts) (m := 0) (c := 0) (by intro kk; simp) (by rfl) rfl rfl ⟨rfl, Nat.le_refl _, rfl⟩ (fun _ h => h) (by have := hcl.length; omega) (fun a ha => by cases ha; exact (hcs _ rfl).reads) (by simp) hcl.plain hpos (by decide) (by omega) (by decide) .free rfl ?_
  intro bc sp cc hB'
  have hcc : (Ex.bin o a b).tree.parts.length ≤ cc := by have := hB'.2.1; omega
  refine o_put (t := 17) (v' := .slice (some ⟨bc, 0, none⟩) (Ex.bin o a b).tree.parts.length cc) rfl (by rw [Nat.zero_add]) ?_
  simp only [List.nil_append]
  simp only [show (Ex.bin o a b).tree.parts = [.node o.txt [], a.tree, b.tree] from rfl, cellsF, List.cons_append, List.nil_append]
  refine o_struct rfl rfl rfl .free rfl ?_
  refine o_alloc .free rfl ?_
  intro b6
  refine o_st rfl rfl rfl rfl .free ?_
  refine o_done ?_
  refine s_seq ?_
  refine s_seq ?_
  refine o_enter rfl ?_
  refine o_move rfl .free rfl ?_
  first | refine o_ixD rfl rfl 0 rfl .free rfl ?_ | refine o_ixP rfl rfl 0 rfl .free rfl ?_
  refine o_fieldAddr' rfl .free rfl ?_
  refine o_lIF rfl .free rfl ?_
  refine o_done ?_
  refine s_block ?_
  refine s_seq ?_
  refine o_enter rfl ?_
  refine o_cmps rfl rfl rfl .free rfl ?_
  refine o_assign rfl .free rfl ?_
  refine o_done ?_
  first | refine s_fp rfl (by rw [hp0]; cases o <;> decide) ?_ | refine s_fn rfl (by rw [hp0]; cases o <;> decide) ?_ | refine s_false (by simp [look, opd, *]) ?_
  refine s_seq ?_
  refine o_enter rfl ?_
  refine o_cmps rfl rfl rfl .free rfl ?_
  refine o_assign rfl .free rfl ?_
  refine o_done ?_
  first | refine s_fp rfl (by rw [hp0]; cases o <;> decide) ?_ | refine s_fn rfl (by rw [hp0]; cases o <;> decide) ?_ | refine s_false (by simp [look, opd, *]) ?_
  refine s_seq ?_
  refine o_enter rfl ?_
  refine o_cmps rfl rfl rfl .free rfl ?_
  refine o_assign rfl .free rfl ?_
  refine o_done ?_
  first | refine s_fp rfl (by rw [hp0]; cases o <;> decide) ?_ | refine s_fn rfl (by rw [hp0]; cases o <;> decide) ?_ | refine s_false (by simp [look, opd, *]) ?_
  refine s_skip ?_
  refine s_inBlock ?_
  refine s_seq ?_
  refine s_seq ?_
  refine o_enter rfl ?_
  refine o_assign rfl .free rfl ?_
  refine o_done ?_
  refine s_block ?_
  refine s_loop ?_
  refine s_seq ?_
  refine s_seq ?_
  refine o_enter rfl ?_
  refine o_move rfl .free rfl ?_
  refine o_move rfl .free rfl ?_
  refine o_len_slice rfl .free rfl ?_
  refine o_cmp rfl rfl rfl .free rfl ?_
  refine o_done ?_
  refine s_condT rfl (by first | rfl | decide | (simp; done) | omega) ?_
  refine s_skip ?_
  refine s_seq ?_
  refine s_block ?_
  refine s_here fun hlr => ?_
  have g1 := a.mk_g tk n
  have mh1 := a.mk_hits tk n
  have gp1 := MK.pt_g tk _ g1.1 g1.2
  have mp1 := MK.pt_hits tk _ mh1
  have lp1 := MK.pt_len tk _ (a.mk_len tk n)
  have hz1 := hits_le 121 tk n
  refine d_x4 11 rfl rfl ?_
  refine d_takeA 0 rfl (by kernel_rfl) rfl (.inr heldx) (y_fieldAddr rfl) .free rfl ?_
  refine d_take 1 [10] rfl (by kernel_rfl) rfl heldx (y_lO1 rfl) .free rfl ?_
  refine d_takeA 2 rfl (by kernel_rfl) rfl (.inr heldx) (y_move rfl) .free rfl ?_
  refine d_takeA 3 rfl (by kernel_rfl) rfl (.inr heldx) (y_move rfl) .free rfl ?_
  refine d_takeA 4 rfl (by kernel_rfl) rfl (.inr heldx) (y_move rfl) .free rfl ?_
  refine d_takeA 5 rfl (by kernel_rfl) rfl (.inr heldx) (y_move rfl) .free rfl ?_
  first | refine d_takeA 6 rfl (by kernel_rfl) rfl (.inr heldx) (y_ixD rfl rfl _ rfl) .free rfl ?_ | refine d_takeA 6 rfl (by kernel_rfl) rfl (.inr heldx) (y_ixP rfl rfl _ rfl) .free rfl ?_
  refine d_take 7 [10] rfl (by kernel_rfl) rfl heldx (y_lIS rfl) .free rfl ?_
  refine d_mem (fun w h => Mem.mv4 h) ?_
  refine d_call 8 rfl (by kernel_rfl) rfl rfl .free rfl (l5Plain_of ihn (by omega) (hf.as 1 a.tree (by omega) rfl) hok.1 htk b0 n (by omega) x hx (by omega) hxe _) ?_
  rintro _ J1 _ e1 ⟨cs1, y1, rfl, hr_1, hy1, hy1n, hy1s, rfl⟩
  obtain ⟨o1, k1, _, rfl, -⟩ := hr_1.open
  have hy1l : y1.ns.length = x.ns.length + ((a.mk tk n).pt tk).ns.length := by rw [hy1n]; simp
  have hy1e : y1.es.length = y1.ns.length := by rw [hy1s, hy1n]; simp [hxe]
  have hlr := hlr.trans e1
  have hf := hf.mono e1
  have htk := htk.mono e1
  have hle := hle.trans e1
  unfold MS.own
  refine ⟨(.inr heldx), ?_⟩
  refine d_mem (fun w h => Mem.vm4 h) ?_
  first | refine d_takeA 9 rfl (by kernel_rfl) rfl (.inr heldx) (y_ixD rfl rfl _ rfl) .free rfl ?_ | refine d_takeA 9 rfl (by kernel_rfl) rfl (.inr heldx) (y_ixP rfl rfl _ rfl) .free rfl ?_
  refine d_st 10 rfl (by kernel_rfl) rfl rfl rfl rfl rfl .free (.inl (by kernel_rfl)) ?_
  refine d_done (by kernel_rfl) ?_
  refine s_inBlock ?_
  refine o_enter rfl ?_
  refine o_move rfl .free rfl ?_
  refine o_arith rfl rfl rfl (by omega) .free rfl ?_
  refine o_assign rfl .free rfl ?_
  refine o_done ?_
  refine s_round ?_
  refine s_seq ?_
  refine s_seq ?_
  refine o_enter rfl ?_
  refine o_move rfl .free rfl ?_
  refine o_move rfl .free rfl ?_
  refine o_len_slice rfl .free rfl ?_
  refine o_cmp rfl rfl rfl .free rfl ?_
  refine o_done ?_
  refine s_condT rfl (by first | rfl | decide | (simp; done) | omega) ?_
  refine s_skip ?_
  refine s_seq ?_
  refine s_block ?_
  refine s_here fun hlr => ?_
  have g2 := b.mk_g tk ((a.mk tk n).pt tk).n
  have mh2 := b.mk_hits tk ((a.mk tk n).pt tk).n
  have gp2 := MK.pt_g tk _ g2.1 g2.2
  have mp2 := MK.pt_hits tk _ mh2
  have lp2 := MK.pt_len tk _ (b.mk_len tk ((a.mk tk n).pt tk).n)
  have hz2 := hits_le 121 tk ((a.mk tk n).pt tk).n
  refine d_x4 11 rfl rfl ?_
  refine d_takeA 0 rfl (by kernel_rfl) rfl (.inr heldx) (y_fieldAddr rfl) .free rfl ?_
  refine d_take 1 [10] rfl (by kernel_rfl) rfl heldx (y_lO1 rfl) .free rfl ?_
  refine d_takeA 2 rfl (by kernel_rfl) rfl (.inr heldx) (y_move rfl) .free rfl ?_
  refine d_takeA 3 rfl (by kernel_rfl) rfl (.inr heldx) (y_move rfl) .free rfl ?_
  refine d_takeA 4 rfl (by kernel_rfl) rfl (.inr heldx) (y_move rfl) .free rfl ?_
  refine d_takeA 5 rfl (by kernel_rfl) rfl (.inr heldx) (y_move rfl) .free rfl ?_
  first | refine d_takeA 6 rfl (by kernel_rfl) rfl (.inr heldx) (y_ixD rfl rfl _ rfl) .free rfl ?_ | refine d_takeA 6 rfl (by kernel_rfl) rfl (.inr heldx) (y_ixP rfl rfl _ rfl) .free rfl ?_
  refine d_take 7 [10] rfl (by kernel_rfl) rfl heldx (y_lIS rfl) .free rfl ?_
  refine d_mem (fun w h => Mem.mv4 h) ?_
  refine d_call 8 rfl (by kernel_rfl) rfl rfl .free rfl (l5Plain_of ihn (by omega) (hf.as 2 b.tree (by omega) rfl) hok.2 htk b0 ((a.mk tk n).pt tk).n (by omega) y1 hy1 (by omega) hy1e _) ?_
  rintro _ J2 _ e2 ⟨cs2, y2, rfl, hr_2, hy2, hy2n, hy2s, rfl⟩
  obtain ⟨o2, k2, _, rfl, -⟩ := hr_2.open
  have hy2l : y2.ns.length = y1.ns.length + ((b.mk tk ((a.mk tk n).pt tk).n).pt tk).ns.length := by rw [hy2n]; simp
  have hy2e : y2.es.length = y2.ns.length := by rw [hy2s, hy2n]; simp [hy1e]
  have hlr := hlr.trans e2
  have hf := hf.mono e2
  have htk := htk.mono e2
  have hle := hle.trans e2
  have hr_1 := hr_1.mono e2
  unfold MS.own
  refine ⟨(.inr heldx), ?_⟩
  refine d_mem (fun w h => Mem.vm4 h) ?_
  first | refine d_takeA 9 rfl (by kernel_rfl) rfl (.inr heldx) (y_ixD rfl rfl _ rfl) .free rfl ?_ | refine d_takeA 9 rfl (by kernel_rfl) rfl (.inr heldx) (y_ixP rfl rfl _ rfl) .free rfl ?_
  refine d_st 10 rfl (by kernel_rfl) rfl rfl rfl rfl rfl .free (.inl (by kernel_rfl)) ?_
  refine d_done (by kernel_rfl) ?_
  refine s_inBlock ?_
  refine o_enter rfl ?_
  refine o_move rfl .free rfl ?_
  refine o_arith rfl rfl rfl (by omega) .free rfl ?_
  refine o_assign rfl .free rfl ?_
  refine o_done ?_
  refine s_round ?_
  refine s_seq ?_
  refine s_seq ?_
  refine o_enter rfl ?_
  refine o_move rfl .free rfl ?_
  refine o_move rfl .free rfl ?_
  refine o_len_slice rfl .free rfl ?_
  refine o_cmp rfl rfl rfl .free rfl ?_
  refine o_done ?_
  refine s_condF rfl (by first | rfl | decide | (simp; done) | omega) ?_
  refine s_exit rfl ?_
  refine s_seq ?_
  refine o_enter rfl ?_
  refine o_lOS rfl .free rfl ?_
  refine o_st rfl rfl rfl rfl .free ?_
  refine o_done ?_
  refine s_mem (fun w h => h.f1) (s_freeze ?_)
  intro hz
  have hf := hf.mono hz
  refine s_ret (.c rfl .nil) ?_
  refine ⟨_, _, hle.trans hz, fun w h => h.drop.drop.drop, _, y2, rfl, .mk' rfl (.cons (hf.as 0 (.node o.txt []) (by omega) rfl) (.cons (hr_1.mono hz) (.cons (hr_2.mono hz) (.nil)))) (fun y hy => by cases hy; exact still_set (xs := [_, _, _, _, _, _])) (by simp) hcc (by simp [maxN]) (by simp [maxN]), hy2.mono hz, by simp only [hy2n, hy1n, List.map_append, List.append_assoc], by simp only [hy2s, hy1s, List.map_append, List.append_assoc], ?_⟩
  rfl
set_option maxHeartbeats 1000000 in
theorem make_ite {N : Nat} (ihn : MakeH N) {a b d : Ex} {I : Heap} {cs : List Value} (hlt : SizeOf.sizeOf (Ex.ite a b d) < N + 1) (h : Rep I (Ex.ite a b d).tree cs) (hok : (Ex.ite a b d).ok = true) {ot : Option Addr} {tk : List Txt} {ct : Nat} (htk : Strs I ot tk ct) (b0 n : Nat) (hn : n + (Ex.ite a b d).size + tk.length ≤ 900 + hits 121 tk n) (x : MS) (hx : x.ok I) (hxl : x.ns.length + (Ex.ite a b d).size ≤ 100000) (hxe : x.es.length = x.ns.length) (L : Own) :
    Fun Tryz.prog 85 [.pointer (some ⟨b0, 0, none⟩), .agg cs.toArray] I (x.own b0 ot tk ct n L) (MP b0 ot tk ct x ((Ex.ite a b d).mk tk n) L) := by
  obtain ⟨oa, c, oaf, cf1, rfl, hf, hcl, hcs⟩ := h.cells
  have hle : HLe I I := .refl _
  have hh0 := hits_le 121 tk n
  have hpos : 0 < (Ex.ite a b d).tree.parts.length := by show 0 < 4; decide
  obtain ⟨xa, rfl⟩ : ∃ xa, oa = some xa := ⟨_, some_oad hf.nil hpos⟩
  have hlen : (Ex.ite a b d).tree.parts.length = 4 := rfl
  have hp0 : ((Ex.ite a b d).tree.pt 0).atom = tIf := rfl
  simp only [Ex.ite.sizeOf_spec] at hlt
  simp only [Ex.ok, Bool.and_eq_true, decide_eq_true_eq] at hok
  simp only [Ex.size] at hn hxl
  simp only [Ex.mk]
  unfold MS.own
  refine fun_intro (by simp) ?_
  refine s_seq ?_
  refine o_enter rfl ?_
  refine o_box rfl rfl .free rfl ?_
  intro b3
  refine o_alloc .free rfl ?_
  intro b4
  refine o_done ?_
  refine s_seq ?_
  refine s_seq ?_
  refine o_enter rfl ?_
  refine o_fieldAddr rfl .free rfl ?_
  refine o_lO1 rfl .free rfl ?_
  refine o_cmps rfl rfl rfl .free rfl ?_
  refine o_done ?_
  first | refine s_fp rfl (by simp [Ex.tree, Tree.atom]) ?_ | refine s_fn rfl (by simp [Ex.tree, Tree.atom]) ?_ | refine s_false (by simp [look, opd, *]) ?_
  refine s_skip ?_
  refine s_seq ?_
  refine o_enter rfl ?_
  refine o_fieldAddr rfl .free rfl ?_
  refine o_lO1 rfl .free rfl ?_
  refine o_assign rfl .free rfl ?_
  refine o_done ?_
  refine s_seq ?_
  refine o_enter rfl ?_
  refine o_lits0 .free rfl ?_
  intro b15
  refine o_move rfl .free rfl ?_
  refine o_append (B := some (b15, [])) (xs := []) (ys := cellsF oaf cf1 0 (Ex.ite a b d).tree.parts) (m := 0) (c := 0) (by intro kk; simp) (by rfl) rfl rfl ⟨rfl, Nat.le_refl _, rfl⟩ (fun _ h => h) (by have := hcl.length; omega) (fun a ha => by cases ha; exact (hcs _ rfl).reads) (by simp) hcl.plain hpos (by decide) (by omega) (by decide) .free rfl ?_
  intro bc sp cc hB'
  have hcc : (Ex.ite a b d).tree.parts.length ≤ cc := by have := hB'.2.1; omega
  refine o_put (t := 17) (v' := .slice (some ⟨bc, 0, none⟩) (Ex.ite a b d).tree.parts.length cc) rfl (by rw [Nat.zero_add]) ?_
  simp only [List.nil_append]
  simp only [show (Ex.ite a b d).tree.parts = [.node tIf [], a.tree, b.tree, d.tree] from rfl, cellsF, List.cons_append, List.nil_append]
  refine o_struct rfl rfl rfl .free rfl ?_
  refine o_alloc .free rfl ?_
  intro b6
  refine o_st rfl rfl rfl rfl .free ?_
  refine o_done ?_
  refine s_seq ?_
  refine s_seq ?_
  refine o_enter rfl ?_
  refine o_move rfl .free rfl ?_
  first | refine o_ixD rfl rfl 0 rfl .free rfl ?_ | refine o_ixP rfl rfl 0 rfl .free rfl ?_
  refine o_fieldAddr' rfl .free rfl ?_
  refine o_lIF rfl .free rfl ?_
  refine o_done ?_
  refine s_block ?_
  refine s_seq ?_
  refine o_enter rfl ?_
  refine o_cmps rfl rfl rfl .free rfl ?_
  refine o_assign rfl .free rfl ?_
  refine o_done ?_
  first | refine s_fp rfl (by rw [hp0]; decide) ?_ | refine s_fn rfl (by rw [hp0]; decide) ?_ | refine s_false (by simp [look, opd, *]) ?_
  refine s_seq ?_
  refine o_enter rfl ?_
  refine o_cmps rfl rfl rfl .free rfl ?_
  refine o_assign rfl .free rfl ?_
  refine o_done ?_
  first | refine s_fp rfl (by rw [hp0]; decide) ?_ | refine s_fn rfl (by rw [hp0]; decide) ?_ | refine s_false (by simp [look, opd, *]) ?_
  refine s_seq ?_
  refine o_enter rfl ?_
  refine o_cmps rfl rfl rfl .free rfl ?_
  refine o_assign rfl .free rfl ?_
  refine o_done ?_
  first | refine s_tp rfl (by rw [hp0]; rfl) ?_ | refine s_tn rfl (by rw [hp0]; rfl) ?_ | refine s_true (by simp [look, opd, *]) ?_
  refine s_seq ?_
  refine s_here fun hlr => ?_
  have g1 := a.mk_g tk n
  have mh1 := a.mk_hits tk n
  have gp1 := MK.pt_g tk _ g1.1 g1.2
  have mp1 := MK.pt_hits tk _ mh1
  have lp1 := MK.pt_len tk _ (a.mk_len tk n)
  have hz1 := hits_le 121 tk n
  refine d_x4 9 rfl rfl ?_
  refine d_takeA 0 rfl (by kernel_rfl) rfl (.inr heldx) (y_fieldAddr rfl) .free rfl ?_
  refine d_take 1 [8] rfl (by kernel_rfl) rfl heldx (y_lO1 rfl) .free rfl ?_
  refine d_takeA 2 rfl (by kernel_rfl) rfl (.inr heldx) (y_move rfl) .free rfl ?_
  refine d_takeA 3 rfl (by kernel_rfl) rfl (.inr heldx) (y_move rfl) .free rfl ?_
  first | refine d_takeA 4 rfl (by kernel_rfl) rfl (.inr heldx) (y_ixD rfl rfl 1 rfl) .free rfl ?_ | refine d_takeA 4 rfl (by kernel_rfl) rfl (.inr heldx) (y_ixP rfl rfl 1 rfl) .free rfl ?_
  refine d_take 5 [8] rfl (by kernel_rfl) rfl heldx (y_lIS rfl) .free rfl ?_
  refine d_mem (fun w h => Mem.mv4 h) ?_
  refine d_call 6 rfl (by kernel_rfl) rfl rfl .free rfl (l5Plain_of ihn (by omega) (hf.as 1 a.tree (by omega) rfl) hok.1.1 htk b0 n (by omega) x hx (by omega) hxe _) ?_
  rintro _ J1 _ e1 ⟨cs1, y1, rfl, hr_1, hy1, hy1n, hy1s, rfl⟩
  obtain ⟨o1, k1, _, rfl, -⟩ := hr_1.open
  have hy1l : y1.ns.length = x.ns.length + ((a.mk tk n).pt tk).ns.length := by rw [hy1n]; simp
  have hy1e : y1.es.length = y1.ns.length := by rw [hy1s, hy1n]; simp [hxe]
  have hlr := hlr.trans e1
  have hf := hf.mono e1
  have htk := htk.mono e1
  have hle := hle.trans e1
  unfold MS.own
  refine ⟨(.inr heldx), ?_⟩
  refine d_mem (fun w h => Mem.vm4 h) ?_
  first | refine d_takeA 7 rfl (by kernel_rfl) rfl (.inr heldx) (y_ixD rfl rfl 1 rfl) .free rfl ?_ | refine d_takeA 7 rfl (by kernel_rfl) rfl (.inr heldx) (y_ixP rfl rfl 1 rfl) .free rfl ?_
  refine d_st 8 rfl (by kernel_rfl) rfl rfl rfl rfl rfl .free (.inl (by kernel_rfl)) ?_
  refine d_done (by kernel_rfl) ?_
  refine s_seq ?_
  obtain ⟨a1, k2', hu1⟩ := bufVal_len hy1.b1
  obtain ⟨a2, k3', hu2⟩ := bufVal_len hy1.b2
  rw [hu1, hu2]
  unfold mkr
  refine s_here fun hlr => ?_
  have g2 := b.mk_g tk ((a.mk tk n).pt tk).n
  have mh2 := b.mk_hits tk ((a.mk tk n).pt tk).n
  have hz2 := hits_le 121 tk ((a.mk tk n).pt tk).n
  refine s_mem (fun w h => h.f4) ?_
  refine d_tl 9 rfl rfl ?_
  refine d_takeA 0 rfl (by kernel_rfl) rfl (.inr heldx) (y_fieldAddr rfl) .free rfl ?_
  refine d_take 1 [8] rfl (by kernel_rfl) rfl heldx (y_lO1 rfl) .free rfl ?_
  refine d_takeA 2 rfl (by kernel_rfl) rfl (.inr heldx) (y_move rfl) .free rfl ?_
  refine d_takeA 3 rfl (by kernel_rfl) rfl (.inr heldx) (y_move rfl) .free rfl ?_
  first | refine d_takeA 4 rfl (by kernel_rfl) rfl (.inr heldx) (y_ixD rfl rfl 2 rfl) .free rfl ?_ | refine d_takeA 4 rfl (by kernel_rfl) rfl (.inr heldx) (y_ixP rfl rfl 2 rfl) .free rfl ?_
  refine d_take 5 [8] rfl (by kernel_rfl) rfl heldx (y_lIS rfl) .free rfl ?_
  refine d_call 6 rfl (by kernel_rfl) rfl rfl .free rfl (l5Whole_of ihn (by omega) (hf.as 2 b.tree (by omega) rfl) hok.1.2 htk b0 ((a.mk tk n).pt tk).n (by omega) (by omega) _) ?_
  rintro _ J2 _ e2 ⟨cs2, rfl, hr_2, rfl⟩
  obtain ⟨o2, k2, _, rfl, -⟩ := hr_2.open
  have hlr := hlr.trans e2
  have hf := hf.mono e2
  have htk := htk.mono e2
  have hle := hle.trans e2
  have hr_1 := hr_1.mono e2
  unfold mkr
  refine ⟨(.inr heldx), ?_⟩
  first | refine d_takeA 7 rfl (by kernel_rfl) rfl (.inr heldx) (y_ixD rfl rfl 2 rfl) .free rfl ?_ | refine d_takeA 7 rfl (by kernel_rfl) rfl (.inr heldx) (y_ixP rfl rfl 2 rfl) .free rfl ?_
  refine d_st 8 rfl (by kernel_rfl) rfl rfl rfl rfl rfl .free (.inl (by kernel_rfl)) ?_
  refine d_done (by kernel_rfl) ?_
  refine s_seq ?_
  refine s_here fun hlr => ?_
  have g3 := d.mk_g tk (b.mk tk ((a.mk tk n).pt tk).n).n
  have mh3 := d.mk_hits tk (b.mk tk ((a.mk tk n).pt tk).n).n
  have hz3 := hits_le 121 tk (b.mk tk ((a.mk tk n).pt tk).n).n
  refine d_tl 9 rfl rfl ?_
  refine d_takeA 0 rfl (by kernel_rfl) rfl (.inr heldx) (y_fieldAddr rfl) .free rfl ?_
  refine d_take 1 [8] rfl (by kernel_rfl) rfl heldx (y_lO1 rfl) .free rfl ?_
  refine d_takeA 2 rfl (by kernel_rfl) rfl (.inr heldx) (y_move rfl) .free rfl ?_
  refine d_takeA 3 rfl (by kernel_rfl) rfl (.inr heldx) (y_move rfl) .free rfl ?_
  first | refine d_takeA 4 rfl (by kernel_rfl) rfl (.inr heldx) (y_ixD rfl rfl 3 rfl) .free rfl ?_ | refine d_takeA 4 rfl (by kernel_rfl) rfl (.inr heldx) (y_ixP rfl rfl 3 rfl) .free rfl ?_
  refine d_take 5 [8] rfl (by kernel_rfl) rfl heldx (y_lIS rfl) .free rfl ?_
  refine d_call 6 rfl (by kernel_rfl) rfl rfl .free rfl (l5Whole_of ihn (by omega) (hf.as 3 d.tree (by omega) rfl) hok.2 htk b0 (b.mk tk ((a.mk tk n).pt tk).n).n (by omega) (by omega) _) ?_
  rintro _ J3 _ e3 ⟨cs3, rfl, hr_3, rfl⟩
  obtain ⟨o3, k3, _, rfl, -⟩ := hr_3.open
  have hlr := hlr.trans e3
  have hf := hf.mono e3
  have htk := htk.mono e3
  have hle := hle.trans e3
  have hr_1 := hr_1.mono e3
  have hr_2 := hr_2.mono e3
  unfold mkr
  refine ⟨(.inr heldx), ?_⟩
  first | refine d_takeA 7 rfl (by kernel_rfl) rfl (.inr heldx) (y_ixD rfl rfl 3 rfl) .free rfl ?_ | refine d_takeA 7 rfl (by kernel_rfl) rfl (.inr heldx) (y_ixP rfl rfl 3 rfl) .free rfl ?_
  refine d_st 8 rfl (by kernel_rfl) rfl rfl rfl rfl rfl .free (.inl (by kernel_rfl)) ?_
  refine d_done (by kernel_rfl) ?_
  refine s_seq ?_
  refine o_enter rfl ?_
  refine o_lOS rfl .free rfl ?_
  refine o_st rfl rfl rfl rfl .free ?_
  refine o_done ?_
  refine s_mem (fun w h => h.f2) (s_freeze ?_)
  intro hz
  have hf := hf.mono hz
  refine s_ret (.c rfl .nil) ?_
  refine ⟨_, _, hle.trans hz, fun w h => Mem.sub (L' := (b0, _) :: (bufOwn 9 (y1.ns.map sv) y1.B1 ++ (bufOwn 64 y1.xs y1.B2 ++ L))) (by repeat (first | exact List.Sublist.refl _ | apply List.Sublist.cons_cons | apply List.Sublist.cons)) h, _, y1, rfl, .mk' rfl (.cons (hf.as 0 (.node tIf []) (by omega) rfl) (.cons (hr_1.mono hz) (.cons (hr_2.mono hz) (.cons (hr_3.mono hz) (.nil))))) (fun y hy => by cases hy; exact still_set (xs := [_, _, _, _, _, _, _, _])) (by simp) hcc (by simp [maxN]) (by simp [maxN]), hy1.mono ((e2.trans e3).trans hz), by simpa using hy1n, by simpa using hy1s, ?_⟩
  unfold MS.own mkr; rw [hu1, hu2]
set_option maxHeartbeats 1000000 in
theorem make_lt {N : Nat} (ihn : MakeH N) {z : Txt} {a b : Ex} {I : Heap} {cs : List Value} (hlt : SizeOf.sizeOf (Ex.lt z a b) < N + 1) (h : Rep I (Ex.lt z a b).tree cs) (hok : (Ex.lt z a b).ok = true) {ot : Option Addr} {tk : List Txt} {ct : Nat} (htk : Strs I ot tk ct) (b0 n : Nat) (hn : n + (Ex.lt z a b).size + tk.length ≤ 900 + hits 121 tk n) (x : MS) (hx : x.ok I) (hxl : x.ns.length + (Ex.lt z a b).size ≤ 100000) (hxe : x.es.length = x.ns.length) (L : Own) :
    Fun Tryz.prog 85 [.pointer (some ⟨b0, 0, none⟩), .agg cs.toArray] I (x.own b0 ot tk ct n L) (MP b0 ot tk ct x ((Ex.lt z a b).mk tk n) L) := by
  obtain ⟨oa, c, oaf, cf1, rfl, hf, hcl, hcs⟩ := h.cells
  have hle : HLe I I := .refl _
  have hh0 := hits_le 121 tk n
  have hpos : 0 < (Ex.lt z a b).tree.parts.length := by show 0 < 4; decide
  obtain ⟨xa, rfl⟩ : ∃ xa, oa = some xa := ⟨_, some_oad hf.nil hpos⟩
  have hlen : (Ex.lt z a b).tree.parts.length = 4 := rfl
  have hp0 : ((Ex.lt z a b).tree.pt 0).atom = tLet := rfl
  simp only [Ex.lt.sizeOf_spec] at hlt
  simp only [Ex.ok, Bool.and_eq_true, decide_eq_true_eq] at hok
  simp only [Ex.size] at hn hxl
  simp only [Ex.mk]
  unfold MS.own
  refine fun_intro (by simp) ?_
  refine s_seq ?_
  refine o_enter rfl ?_
  refine o_box rfl rfl .free rfl ?_
  intro b3
  refine o_alloc .free rfl ?_
  intro b4
  refine o_done ?_
  refine s_seq ?_
  refine s_seq ?_
  refine o_enter rfl ?_
  refine o_fieldAddr rfl .free rfl ?_
  refine o_lO1 rfl .free rfl ?_
  refine o_cmps rfl rfl rfl .free rfl ?_
  refine o_done ?_
  first | refine s_fp rfl (by simp [Ex.tree, Tree.atom]) ?_ | refine s_fn rfl (by simp [Ex.tree, Tree.atom]) ?_ | refine s_false (by simp [look, opd, *]) ?_
  refine s_skip ?_
  refine s_seq ?_
  refine o_enter rfl ?_
  refine o_fieldAddr rfl .free rfl ?_
  refine o_lO1 rfl .free rfl ?_
  refine o_assign rfl .free rfl ?_
  refine o_done ?_
  refine s_seq ?_
  refine o_enter rfl ?_
  refine o_lits0 .free rfl ?_
  intro b15
  refine o_move rfl .free rfl ?_
  refine o_append (B := some (b15, [])) (xs := []) (ys := cellsF oaf cf1 0 (Ex.lt z a b).tree.parts) (m := 0) (c := 0) (by intro kk; simp) (by rfl) rfl rfl ⟨rfl, Nat.le_refl _, rfl⟩ (fun _ h => h) (by have := hcl.length; omega) (fun a ha => by cases ha; exact (hcs _ rfl).reads) (by simp) hcl.plain hpos (by decide) (by omega) (by decide) .free rfl ?_
  intro bc sp cc hB'
  have hcc : (Ex.lt z a b).tree.parts.length ≤ cc := by have := hB'.2.1; omega
  refine o_put (t := 17) (v' := .slice (some ⟨bc, 0, none⟩) (Ex.lt z a b).tree.parts.length cc) rfl (by rw [Nat.zero_add]) ?_
  simp only [List.nil_append]
  simp only [show (Ex.lt z a b).tree.parts = [.node tLet [], .node z [], a.tree, b.tree] from rfl, cellsF, List.cons_append, List.nil_append]
  refine o_struct rfl rfl rfl .free rfl ?_
  refine o_alloc .free rfl ?_
  intro b6
  refine o_st rfl rfl rfl rfl .free ?_
  refine o_done ?_
  refine s_seq ?_
  refine s_seq ?_
  refine o_enter rfl ?_
  refine o_move rfl .free rfl ?_
  first | refine o_ixD rfl rfl 0 rfl .free rfl ?_ | refine o_ixP rfl rfl 0 rfl .free rfl ?_
  refine o_fieldAddr' rfl .free rfl ?_
  refine o_lIF rfl .free rfl ?_
  refine o_done ?_
  refine s_block ?_
  refine s_seq ?_
  refine o_enter rfl ?_
  refine o_cmps rfl rfl rfl .free rfl ?_
  refine o_assign rfl .free rfl ?_
  refine o_done ?_
  first | refine s_tp rfl (by rw [hp0]; rfl) ?_ | refine s_tn rfl (by rw [hp0]; rfl) ?_ | refine s_true (by simp [look, opd, *]) ?_
  refine s_seq ?_
  have g1 := a.mk_g tk n
  have mh1 := a.mk_hits tk n
  have ml1 := a.mk_len tk n
  have ml2 := b.mk_len tk (a.mk tk n).n
  have mo1 := Ex.mk_ok (tk := tk) (n := n) hok.1.2 (by omega)
  refine o_enter rfl ?_
  refine o_move rfl .free rfl ?_
  refine o_move rfl .free rfl ?_
  first | refine o_ixD rfl rfl 2 rfl .free rfl ?_ | refine o_ixP rfl rfl 2 rfl .free rfl ?_
  refine o_lIS rfl .free rfl ?_
  refine o_mem (fun w h => Mem.mv4 h) ?_
  refine o_call rfl .free rfl (ihn (by omega) (hf.as 2 a.tree (by omega) rfl) hok.1.2 htk b0 n (by omega) x hx (by omega) hxe _) ?_
  rintro _ J1 _ e1 ⟨cs1, y, rfl, hr, hy, hyn, hys, rfl⟩
  obtain ⟨o1, k1, _, rfl, -⟩ := hr.open
  have hyl : y.ns.length = x.ns.length + (a.mk tk n).ns.length := by rw [hyn]; simp
  have hyl2 : y.es.length = y.ns.length := by rw [hys, hyn]; simp [hxe]
  have hzl := Ex.name_len hok.1.1
  obtain ⟨a1, k2, hu1⟩ := bufVal_len hy.b1
  obtain ⟨a2, k3, hu2⟩ := bufVal_len hy.b2
  have hf := hf.mono e1
  have htk := htk.mono e1
  have hle := hle.trans e1
  unfold MS.own
  refine o_mem (fun w h => Mem.vm4 h) ?_
  rw [hu1, hu2]
  unfold mkr
  refine o_alloc .free rfl ?_
  intro b7
  refine o_st rfl rfl rfl rfl .free ?_
  refine o_done ?_
  refine s_seq ?_
  refine s_here fun hlr => ?_
  refine d_x6 14 rfl rfl ?_
  refine d_takeA 0 rfl (by kernel_rfl) rfl (.inr heldx) (y_move rfl) .free rfl ?_
  refine d_takeA 1 rfl (by kernel_rfl) rfl (.inr heldx) (y_move rfl) .free rfl ?_
  refine d_takeA 2 rfl (by kernel_rfl) rfl (.inr heldx) (y_nilCheck rfl) .free rfl ?_
  first | refine d_takeA 3 rfl (by kernel_rfl) rfl (.inr heldx) (y_fieldAddr rfl) .free rfl ?_ | refine d_takeA 3 rfl (by kernel_rfl) rfl (.inr heldx) (y_fieldAddr' rfl) .free rfl ?_
  refine d_take 4 [13] rfl (by kernel_rfl) rfl heldx (y_lJ rfl) .free rfl ?_
  refine d_takeA 5 rfl (by kernel_rfl) rfl (.inr heldx) (y_move rfl) .free rfl ?_
  first | refine d_takeA 6 rfl (by kernel_rfl) rfl (.inr heldx) (y_ixD rfl rfl 1 rfl) .free rfl ?_ | refine d_takeA 6 rfl (by kernel_rfl) rfl (.inr heldx) (y_ixP rfl rfl 1 rfl) .free rfl ?_
  refine d_takeA 7 rfl (by kernel_rfl) rfl (.inr heldx) (y_fieldAddr' rfl) .free rfl ?_
  refine d_take 8 [13] rfl (by kernel_rfl) rfl heldx (y_lIF rfl) .free rfl ?_
  refine d_lits 9 rfl (by kernel_rfl) rfl rfl rfl (by rfl) (by rfl) (by rfl) (by decide) (by decide) (by rfl) .free rfl (.inr heldx) ?_
  intro b39
  refine d_appendB 10 (B := y.B1) (xs := y.ns.map sv) (ys := [sv z]) (m := y.ns.length) (c := y.c1) rfl (by kernel_rfl) rfl (by intro kk; simp) (by rfl) (by rw [hu1]; rfl) rfl hy.b1 (fun _ h => h.u7) (by rfl) (fun a ha => by cases ha; exact reads_ownL (.head _) (by rfl)) (by simp) (by rfl) (by decide) (by omega) (by decide) .free rfl (fun _ => .inr heldx) ?_
  intro B1 c2 hB1
  obtain ⟨bb, sb, rfl⟩ : ∃ bb sb, B1 = some (bb, sb) := by
    cases B1 with
    | none => exact absurd hB1.1 (by simp)
    | some z => exact ⟨z.1, z.2, rfl⟩
  simp only [bufOwn, List.cons_append, List.nil_append]
  refine d_takeA 11 rfl (by kernel_rfl) rfl (.inr heldx) (y_nilCheck rfl) .free rfl ?_
  first | refine d_takeA 12 rfl (by kernel_rfl) rfl (.inr heldx) (y_fieldAddr rfl) .free rfl ?_ | refine d_takeA 12 rfl (by kernel_rfl) rfl (.inr heldx) (y_fieldAddr' rfl) .free rfl ?_
  refine d_st 13 rfl (by kernel_rfl) rfl rfl rfl rfl rfl .free (.inl (by kernel_rfl)) ?_ (hu := u7)
  refine d_done (by kernel_rfl) ?_
  refine s_seq ?_
  refine d_x2 13 rfl rfl ?_
  refine d_takeA 0 rfl (by kernel_rfl) rfl (.inr heldx) (y_move rfl) .free rfl ?_
  refine d_takeA 1 rfl (by kernel_rfl) rfl (.inr heldx) (y_nilCheck rfl) .free rfl ?_
  first | refine d_takeA 2 rfl (by kernel_rfl) rfl (.inr heldx) (y_fieldAddr rfl) .free rfl ?_ | refine d_takeA 2 rfl (by kernel_rfl) rfl (.inr heldx) (y_fieldAddr' rfl) .free rfl ?_
  refine d_take 4 [9] rfl (by kernel_rfl) rfl heldx (y_lOS rfl) .free rfl ?_
  refine d_two 3 6 (by kernel_rfl) ?_ ?_
  · skip
    refine i_yld 3 rfl rfl (y_load rfl (by first | exact loads_own1 (.tail _ m6) (by rfl) rfl | exact loads_own1 (.tail _ (.tail _ m6)) (by rfl) rfl)) .free rfl (.inr heldx) ?_
    refine d_takeA 5 rfl (by kernel_rfl) rfl (.inr heldx) (y_len_slice rfl) .free rfl ?_
    refine d_lits 6 rfl (by kernel_rfl) rfl rfl rfl (by rfl) (by rfl) (by rfl) (by decide) (by decide) (by rfl) .free rfl (.inr heldx) ?_
    intro b49
    refine d_appendB 7 (B := y.B2) (xs := y.xs) (ys := [.string (str []), .slice none 0 0]) (m := y.es.length) (c := y.c2) rfl (by kernel_rfl) rfl (by intro kk; simp) (by rfl) (by rw [hu2]; rfl) rfl hy.b2 (fun _ h => h.u9) (by rfl) (fun a ha => by cases ha; exact reads_ownL (.head _) (by rfl)) (by simp) (by rfl) (by decide) (by omega) (by decide) .free rfl (fun _ => .inr heldx) ?_
    intro B2 c3 hB2
    obtain ⟨bq, sq, rfl⟩ : ∃ bq sq, B2 = some (bq, sq) := by
      cases B2 with
      | none => exact absurd hB2.1 (by simp)
      | some z => exact ⟨z.1, z.2, rfl⟩
    have hxl2 := hy.rep.length
    rw [List.length_map] at hxl2
    simp only [bufOwn, List.cons_append, List.nil_append, List.append_assoc]
    refine d_takeA 8 rfl (by kernel_rfl) rfl (.inr heldx) (y_indexAddr' rfl rfl _ rfl (by omega) rfl) .free rfl ?_
    refine d_put (t := 51) rfl (congrArg (fun a => Value.pointer (some a)) (addr_own bq (y.es.length * 2))) ?_
    refine d_takeA 10 rfl (by kernel_rfl) rfl (.inr heldx) (y_nilCheck rfl) .free rfl ?_
    first | refine d_takeA 11 rfl (by kernel_rfl) rfl (.inr heldx) (y_fieldAddr rfl) .free rfl ?_ | refine d_takeA 11 rfl (by kernel_rfl) rfl (.inr heldx) (y_fieldAddr' rfl) .free rfl ?_
    refine d_two 9 12 (by kernel_rfl) ?_ ?_
    · skip
      refine i_st 9 rfl rfl rfl rfl rfl rfl .free (.inl (by kernel_rfl)) ?_ (hu := u0) (hus := putN_mid' (xs := y.xs) (zs := [_, _]) (sp := sq) (by omega) rfl)
      refine d_st 12 rfl (by kernel_rfl) rfl rfl rfl rfl rfl .free (.inr heldx) ?_ (hu := u9)
      refine d_done (by kernel_rfl) ?_
      refine s_seq ?_
      have hy2 : MS.ok J1 ⟨y.ns ++ [z], y.es ++ [(a.mk tk n).e], some (bb, sb), c2, y.xs ++ [.string (str (a.mk tk n).e.tree.atom), .slice o1 (a.mk tk n).e.tree.parts.length k1], some (bq, sq), c3⟩ := by
        refine ⟨by simpa using hB1, ⟨by have := hB2.1; simp at this ⊢; omega, by simpa using hB2.2.1, by simpa using hB2.2.2⟩, by simpa using hy.rep.append (.one hr), ?_⟩
        intro s hs
        rcases List.mem_append.1 hs with hs | hs
        · exact hy.each s hs
        · rw [List.mem_singleton.1 hs]; exact hzl
      refine o_enter rfl ?_
      refine o_move rfl .free rfl ?_
      refine o_move rfl .free rfl ?_
      first | refine o_ixD rfl rfl 3 rfl .free rfl ?_ | refine o_ixP rfl rfl 3 rfl .free rfl ?_
      refine o_lIS rfl .free rfl ?_
      refine o_mem (I' := J1) (L' := MS.own b0 ot tk ct (a.mk tk n).n ⟨y.ns ++ [z], y.es ++ [(a.mk tk n).e], some (bb, sb), c2, y.xs ++ [.string (str (a.mk tk n).e.tree.atom), .slice o1 (a.mk tk n).e.tree.parts.length k1], some (bq, sq), c3⟩ ((b4, .cells [.string (str []), .slice none 0 0].toArray 64 (0, 0)) :: L)) (fun w h => ?_) ?_
      · have h2 := (Mem.sub (L' := (bq, _) :: (bb, _) :: (b4, _) :: (b0, _) :: L) (by repeat (first | exact List.Sublist.refl _ | apply List.Sublist.cons_cons | apply List.Sublist.cons)) h).f3.sw
        simpa only [MS.own, mkr, bufOwn, bufVal, List.map_append, List.map_cons, List.map_nil, List.append_assoc, List.length_append, List.length_cons, List.length_nil, List.cons_append, List.nil_append] using h2
      refine o_call rfl .free rfl (ihn (by omega) (hf.as 3 b.tree (by omega) rfl) hok.2 htk b0 (a.mk tk n).n (by omega) _ hy2 (by simp only [List.length_append, List.length_cons, List.length_nil]; omega) (by simp [hyl2]) _) ?_
      rintro _ J2 _ e2 ⟨cs2, y2, rfl, hr2, hy3, hyn2, hys2, rfl⟩
      obtain ⟨o2, k4, _, rfl, -⟩ := hr2.open
      have hle := hle.trans e2
      unfold MS.own
      refine o_mem (fun w h => Mem.vm1 h) ?_
      refine o_st rfl rfl rfl rfl .free ?_
      refine o_done ?_
      refine s_ret (.c rfl .nil) ?_
      refine ⟨J2, _, hle, fun w h => h.drop, _, y2, rfl, hr2, hy3, ?_, ?_, rfl⟩
      · simp only [hyn2, hyn, List.map_append, List.map_cons, List.append_assoc, List.cons_append, List.nil_append]
      · simp only [hys2, hys, List.map_append, List.map_cons, List.append_assoc, List.cons_append, List.nil_append]
    · skip
      refine i_st 12 rfl rfl rfl rfl rfl rfl .free (.inr heldx) ?_ (hu := u9)
      refine d_st 9 rfl (by kernel_rfl) rfl rfl rfl rfl rfl .free (.inl (by kernel_rfl)) ?_ (hu := u0) (hus := putN_mid' (xs := y.xs) (zs := [_, _]) (sp := sq) (by omega) rfl)
      refine d_done (by kernel_rfl) ?_
      refine s_seq ?_
      have hy2 : MS.ok J1 ⟨y.ns ++ [z], y.es ++ [(a.mk tk n).e], some (bb, sb), c2, y.xs ++ [.string (str (a.mk tk n).e.tree.atom), .slice o1 (a.mk tk n).e.tree.parts.length k1], some (bq, sq), c3⟩ := by
        refine ⟨by simpa using hB1, ⟨by have := hB2.1; simp at this ⊢; omega, by simpa using hB2.2.1, by simpa using hB2.2.2⟩, by simpa using hy.rep.append (.one hr), ?_⟩
        intro s hs
        rcases List.mem_append.1 hs with hs | hs
        · exact hy.each s hs
        · rw [List.mem_singleton.1 hs]; exact hzl
      refine o_enter rfl ?_
      refine o_move rfl .free rfl ?_
      refine o_move rfl .free rfl ?_
      first | refine o_ixD rfl rfl 3 rfl .free rfl ?_ | refine o_ixP rfl rfl 3 rfl .free rfl ?_
      refine o_lIS rfl .free rfl ?_
      refine o_mem (I' := J1) (L' := MS.own b0 ot tk ct (a.mk tk n).n ⟨y.ns ++ [z], y.es ++ [(a.mk tk n).e], some (bb, sb), c2, y.xs ++ [.string (str (a.mk tk n).e.tree.atom), .slice o1 (a.mk tk n).e.tree.parts.length k1], some (bq, sq), c3⟩ ((b4, .cells [.string (str []), .slice none 0 0].toArray 64 (0, 0)) :: L)) (fun w h => ?_) ?_
      · have h2 := (Mem.sub (L' := (bq, _) :: (bb, _) :: (b4, _) :: (b0, _) :: L) (by repeat (first | exact List.Sublist.refl _ | apply List.Sublist.cons_cons | apply List.Sublist.cons)) h).f3.sw
        simpa only [MS.own, mkr, bufOwn, bufVal, List.map_append, List.map_cons, List.map_nil, List.append_assoc, List.length_append, List.length_cons, List.length_nil, List.cons_append, List.nil_append] using h2
      refine o_call rfl .free rfl (ihn (by omega) (hf.as 3 b.tree (by omega) rfl) hok.2 htk b0 (a.mk tk n).n (by omega) _ hy2 (by simp only [List.length_append, List.length_cons, List.length_nil]; omega) (by simp [hyl2]) _) ?_
      rintro _ J2 _ e2 ⟨cs2, y2, rfl, hr2, hy3, hyn2, hys2, rfl⟩
      obtain ⟨o2, k4, _, rfl, -⟩ := hr2.open
      have hle := hle.trans e2
      unfold MS.own
      refine o_mem (fun w h => Mem.vm1 h) ?_
      refine o_st rfl rfl rfl rfl .free ?_
      refine o_done ?_
      refine s_ret (.c rfl .nil) ?_
      refine ⟨J2, _, hle, fun w h => h.drop, _, y2, rfl, hr2, hy3, ?_, ?_, rfl⟩
      · simp only [hyn2, hyn, List.map_append, List.map_cons, List.append_assoc, List.cons_append, List.nil_append]
      · simp only [hys2, hys, List.map_append, List.map_cons, List.append_assoc, List.cons_append, List.nil_append]
  · skip
    refine i_lits 6 rfl rfl rfl rfl (by rfl) (by rfl) (by rfl) (by decide) (by decide) (by rfl) .free rfl (.inr heldx) ?_
    intro b49
    refine d_yld 3 rfl (by kernel_rfl) rfl (y_load rfl (by first | exact loads_own1 (.tail _ m6) (by rfl) rfl | exact loads_own1 (.tail _ (.tail _ m6)) (by rfl) rfl)) .free rfl (.inr heldx) ?_
    refine d_takeA 5 rfl (by kernel_rfl) rfl (.inr heldx) (y_len_slice rfl) .free rfl ?_
    refine d_appendB 7 (B := y.B2) (xs := y.xs) (ys := [.string (str []), .slice none 0 0]) (m := y.es.length) (c := y.c2) rfl (by kernel_rfl) rfl (by intro kk; simp) (by rfl) (by rw [hu2]; rfl) rfl hy.b2 (fun _ h => h.u9) (by rfl) (fun a ha => by cases ha; exact reads_ownL (.head _) (by rfl)) (by simp) (by rfl) (by decide) (by omega) (by decide) .free rfl (fun _ => .inr heldx) ?_
    intro B2 c3 hB2
    obtain ⟨bq, sq, rfl⟩ : ∃ bq sq, B2 = some (bq, sq) := by
      cases B2 with
      | none => exact absurd hB2.1 (by simp)
      | some z => exact ⟨z.1, z.2, rfl⟩
    have hxl2 := hy.rep.length
    rw [List.length_map] at hxl2
    simp only [bufOwn, List.cons_append, List.nil_append, List.append_assoc]
    refine d_takeA 8 rfl (by kernel_rfl) rfl (.inr heldx) (y_indexAddr' rfl rfl _ rfl (by omega) rfl) .free rfl ?_
    refine d_put (t := 51) rfl (congrArg (fun a => Value.pointer (some a)) (addr_own bq (y.es.length * 2))) ?_
    refine d_takeA 10 rfl (by kernel_rfl) rfl (.inr heldx) (y_nilCheck rfl) .free rfl ?_
    first | refine d_takeA 11 rfl (by kernel_rfl) rfl (.inr heldx) (y_fieldAddr rfl) .free rfl ?_ | refine d_takeA 11 rfl (by kernel_rfl) rfl (.inr heldx) (y_fieldAddr' rfl) .free rfl ?_
    refine d_two 9 12 (by kernel_rfl) ?_ ?_
    · skip
      refine i_st 9 rfl rfl rfl rfl rfl rfl .free (.inl (by kernel_rfl)) ?_ (hu := u0) (hus := putN_mid' (xs := y.xs) (zs := [_, _]) (sp := sq) (by omega) rfl)
      refine d_st 12 rfl (by kernel_rfl) rfl rfl rfl rfl rfl .free (.inr heldx) ?_ (hu := u9)
      refine d_done (by kernel_rfl) ?_
      refine s_seq ?_
      have hy2 : MS.ok J1 ⟨y.ns ++ [z], y.es ++ [(a.mk tk n).e], some (bb, sb), c2, y.xs ++ [.string (str (a.mk tk n).e.tree.atom), .slice o1 (a.mk tk n).e.tree.parts.length k1], some (bq, sq), c3⟩ := by
        refine ⟨by simpa using hB1, ⟨by have := hB2.1; simp at this ⊢; omega, by simpa using hB2.2.1, by simpa using hB2.2.2⟩, by simpa using hy.rep.append (.one hr), ?_⟩
        intro s hs
        rcases List.mem_append.1 hs with hs | hs
        · exact hy.each s hs
        · rw [List.mem_singleton.1 hs]; exact hzl
      refine o_enter rfl ?_
      refine o_move rfl .free rfl ?_
      refine o_move rfl .free rfl ?_
      first | refine o_ixD rfl rfl 3 rfl .free rfl ?_ | refine o_ixP rfl rfl 3 rfl .free rfl ?_
      refine o_lIS rfl .free rfl ?_
      refine o_mem (I' := J1) (L' := MS.own b0 ot tk ct (a.mk tk n).n ⟨y.ns ++ [z], y.es ++ [(a.mk tk n).e], some (bb, sb), c2, y.xs ++ [.string (str (a.mk tk n).e.tree.atom), .slice o1 (a.mk tk n).e.tree.parts.length k1], some (bq, sq), c3⟩ ((b4, .cells [.string (str []), .slice none 0 0].toArray 64 (0, 0)) :: L)) (fun w h => ?_) ?_
      · have h2 := (Mem.sub (L' := (bq, _) :: (bb, _) :: (b4, _) :: (b0, _) :: L) (by repeat (first | exact List.Sublist.refl _ | apply List.Sublist.cons_cons | apply List.Sublist.cons)) h).f3.sw
        simpa only [MS.own, mkr, bufOwn, bufVal, List.map_append, List.map_cons, List.map_nil, List.append_assoc, List.length_append, List.length_cons, List.length_nil, List.cons_append, List.nil_append] using h2
      refine o_call rfl .free rfl (ihn (by omega) (hf.as 3 b.tree (by omega) rfl) hok.2 htk b0 (a.mk tk n).n (by omega) _ hy2 (by simp only [List.length_append, List.length_cons, List.length_nil]; omega) (by simp [hyl2]) _) ?_
      rintro _ J2 _ e2 ⟨cs2, y2, rfl, hr2, hy3, hyn2, hys2, rfl⟩
      obtain ⟨o2, k4, _, rfl, -⟩ := hr2.open
      have hle := hle.trans e2
      unfold MS.own
      refine o_mem (fun w h => Mem.vm1 h) ?_
      refine o_st rfl rfl rfl rfl .free ?_
      refine o_done ?_
      refine s_ret (.c rfl .nil) ?_
      refine ⟨J2, _, hle, fun w h => h.drop, _, y2, rfl, hr2, hy3, ?_, ?_, rfl⟩
      · simp only [hyn2, hyn, List.map_append, List.map_cons, List.append_assoc, List.cons_append, List.nil_append]
      · simp only [hys2, hys, List.map_append, List.map_cons, List.append_assoc, List.cons_append, List.nil_append]
    · skip
      refine i_st 12 rfl rfl rfl rfl rfl rfl .free (.inr heldx) ?_ (hu := u9)
      refine d_st 9 rfl (by kernel_rfl) rfl rfl rfl rfl rfl .free (.inl (by kernel_rfl)) ?_ (hu := u0) (hus := putN_mid' (xs := y.xs) (zs := [_, _]) (sp := sq) (by omega) rfl)
      refine d_done (by kernel_rfl) ?_
      refine s_seq ?_
      have hy2 : MS.ok J1 ⟨y.ns ++ [z], y.es ++ [(a.mk tk n).e], some (bb, sb), c2, y.xs ++ [.string (str (a.mk tk n).e.tree.atom), .slice o1 (a.mk tk n).e.tree.parts.length k1], some (bq, sq), c3⟩ := by
        refine ⟨by simpa using hB1, ⟨by have := hB2.1; simp at this ⊢; omega, by simpa using hB2.2.1, by simpa using hB2.2.2⟩, by simpa using hy.rep.append (.one hr), ?_⟩
        intro s hs
        rcases List.mem_append.1 hs with hs | hs
        · exact hy.each s hs
        · rw [List.mem_singleton.1 hs]; exact hzl
      refine o_enter rfl ?_
      refine o_move rfl .free rfl ?_
      refine o_move rfl .free rfl ?_
      first | refine o_ixD rfl rfl 3 rfl .free rfl ?_ | refine o_ixP rfl rfl 3 rfl .free rfl ?_
      refine o_lIS rfl .free rfl ?_
      refine o_mem (I' := J1) (L' := MS.own b0 ot tk ct (a.mk tk n).n ⟨y.ns ++ [z], y.es ++ [(a.mk tk n).e], some (bb, sb), c2, y.xs ++ [.string (str (a.mk tk n).e.tree.atom), .slice o1 (a.mk tk n).e.tree.parts.length k1], some (bq, sq), c3⟩ ((b4, .cells [.string (str []), .slice none 0 0].toArray 64 (0, 0)) :: L)) (fun w h => ?_) ?_
      · have h2 := (Mem.sub (L' := (bq, _) :: (bb, _) :: (b4, _) :: (b0, _) :: L) (by repeat (first | exact List.Sublist.refl _ | apply List.Sublist.cons_cons | apply List.Sublist.cons)) h).f3.sw
        simpa only [MS.own, mkr, bufOwn, bufVal, List.map_append, List.map_cons, List.map_nil, List.append_assoc, List.length_append, List.length_cons, List.length_nil, List.cons_append, List.nil_append] using h2
      refine o_call rfl .free rfl (ihn (by omega) (hf.as 3 b.tree (by omega) rfl) hok.2 htk b0 (a.mk tk n).n (by omega) _ hy2 (by simp only [List.length_append, List.length_cons, List.length_nil]; omega) (by simp [hyl2]) _) ?_
      rintro _ J2 _ e2 ⟨cs2, y2, rfl, hr2, hy3, hyn2, hys2, rfl⟩
      obtain ⟨o2, k4, _, rfl, -⟩ := hr2.open
      have hle := hle.trans e2
      unfold MS.own
      refine o_mem (fun w h => Mem.vm1 h) ?_
      refine o_st rfl rfl rfl rfl .free ?_
      refine o_done ?_
      refine s_ret (.c rfl .nil) ?_
      refine ⟨J2, _, hle, fun w h => h.drop, _, y2, rfl, hr2, hy3, ?_, ?_, rfl⟩
      · simp only [hyn2, hyn, List.map_append, List.map_cons, List.append_assoc, List.cons_append, List.nil_append]
      · simp only [hys2, hys, List.map_append, List.map_cons, List.append_assoc, List.cons_append, List.nil_append]
set_option maxHeartbeats 1000000 in
theorem make_fn {N : Nat} (ihn : MakeH N) {h1 z : Txt} {s u : Ty} {b : Ex} {I : Heap} {cs : List Value} (hlt : SizeOf.sizeOf (Ex.fn h1 z s u b) < N + 1) (h : Rep I (Ex.fn h1 z s u b).tree cs) (hok : (Ex.fn h1 z s u b).ok = true) {ot : Option Addr} {tk : List Txt} {ct : Nat} (htk : Strs I ot tk ct) (b0 n : Nat) (hn : n + (Ex.fn h1 z s u b).size + tk.length ≤ 900 + hits 121 tk n) (x : MS) (hx : x.ok I) (hxl : x.ns.length + (Ex.fn h1 z s u b).size ≤ 100000) (hxe : x.es.length = x.ns.length) (L : Own) :
    Fun Tryz.prog 85 [.pointer (some ⟨b0, 0, none⟩), .agg cs.toArray] I (x.own b0 ot tk ct n L) (MP b0 ot tk ct x ((Ex.fn h1 z s u b).mk tk n) L) := by
  obtain ⟨oa, c, oaf, cf1, rfl, hf, hcl, hcs⟩ := h.cells
  have hle : HLe I I := .refl _
  have hh0 := hits_le 121 tk n
  have hpos : 0 < (Ex.fn h1 z s u b).tree.parts.length := by show 0 < 6; decide
  obtain ⟨xa, rfl⟩ : ∃ xa, oa = some xa := ⟨_, some_oad hf.nil hpos⟩
  have hlen : (Ex.fn h1 z s u b).tree.parts.length = 6 := rfl
  have hp0 : ((Ex.fn h1 z s u b).tree.pt 0).atom = tFun := rfl
  simp only [Ex.fn.sizeOf_spec] at hlt
  simp only [Ex.ok, Bool.and_eq_true, decide_eq_true_eq] at hok
  simp only [Ex.size] at hn hxl
  simp only [Ex.mk]
  unfold MS.own
  refine fun_intro (by simp) ?_
  refine s_seq ?_
  refine o_enter rfl ?_
  refine o_box rfl rfl .free rfl ?_
  intro b3
  refine o_alloc .free rfl ?_
  intro b4
  refine o_done ?_
  refine s_seq ?_
  refine s_seq ?_
  refine o_enter rfl ?_
  refine o_fieldAddr rfl .free rfl ?_
  refine o_lO1 rfl .free rfl ?_
  refine o_cmps rfl rfl rfl .free rfl ?_
  refine o_done ?_
  first | refine s_fp rfl (by simp [Ex.tree, Tree.atom]) ?_ | refine s_fn rfl (by simp [Ex.tree, Tree.atom]) ?_ | refine s_false (by simp [look, opd, *]) ?_
  refine s_skip ?_
  refine s_seq ?_
  refine o_enter rfl ?_
  refine o_fieldAddr rfl .free rfl ?_
  refine o_lO1 rfl .free rfl ?_
  refine o_assign rfl .free rfl ?_
  refine o_done ?_
  refine s_seq ?_
  refine o_enter rfl ?_
  refine o_lits0 .free rfl ?_
  intro b15
  refine o_move rfl .free rfl ?_
  refine o_append (B := some (b15, [])) (xs := []) (ys := cellsF oaf cf1 0 (Ex.fn h1 z s u b).tree.parts) (m := 0) (c := 0) (by intro kk; simp) (by rfl) rfl rfl ⟨rfl, Nat.le_refl _, rfl⟩ (fun _ h => h) (by have := hcl.length; omega) (fun a ha => by cases ha; exact (hcs _ rfl).reads) (by simp) hcl.plain hpos (by decide) (by omega) (by decide) .free rfl ?_
  intro bc sp cc hB'
  have hcc : (Ex.fn h1 z s u b).tree.parts.length ≤ cc := by have := hB'.2.1; omega
  refine o_put (t := 17) (v' := .slice (some ⟨bc, 0, none⟩) (Ex.fn h1 z s u b).tree.parts.length cc) rfl (by rw [Nat.zero_add]) ?_
  simp only [List.nil_append]
  simp only [show (Ex.fn h1 z s u b).tree.parts = [.node tFun [], .node h1 [], .node z [], s.tree, u.tree, b.tree] from rfl, cellsF, List.cons_append, List.nil_append]
  refine o_struct rfl rfl rfl .free rfl ?_
  refine o_alloc .free rfl ?_
  intro b6
  refine o_st rfl rfl rfl rfl .free ?_
  refine o_done ?_
  refine s_seq ?_
  refine s_seq ?_
  refine o_enter rfl ?_
  refine o_move rfl .free rfl ?_
  first | refine o_ixD rfl rfl 0 rfl .free rfl ?_ | refine o_ixP rfl rfl 0 rfl .free rfl ?_
  refine o_fieldAddr' rfl .free rfl ?_
  refine o_lIF rfl .free rfl ?_
  refine o_done ?_
  refine s_block ?_
  refine s_seq ?_
  obtain ⟨a1, k2, hu1⟩ := bufVal_len hx.b1
  obtain ⟨a2, k3, hu2⟩ := bufVal_len hx.b2
  rw [hu1, hu2]
  unfold mkr
  refine o_enter rfl ?_
  refine o_cmps rfl rfl rfl .free rfl ?_
  refine o_assign rfl .free rfl ?_
  refine o_done ?_
  first | refine s_fp rfl (by rw [hp0]; decide) ?_ | refine s_fn rfl (by rw [hp0]; decide) ?_ | refine s_false (by simp [look, opd, *]) ?_
  refine s_seq ?_
  refine o_enter rfl ?_
  refine o_cmps rfl rfl rfl .free rfl ?_
  refine o_assign rfl .free rfl ?_
  refine o_done ?_
  first | refine s_tp rfl (by rw [hp0]; rfl) ?_ | refine s_tn rfl (by rw [hp0]; rfl) ?_ | refine s_true (by simp [look, opd, *]) ?_
  refine s_seq ?_
  refine s_here fun hlr => ?_
  have g1 := b.mk_g tk n
  have mh1 := b.mk_hits tk n
  have hz1 := hits_le 121 tk n
  refine s_mem (fun w h => h.f4) ?_
  refine d_tl 9 rfl rfl ?_
  refine d_takeA 0 rfl (by kernel_rfl) rfl (.inr heldx) (y_fieldAddr rfl) .free rfl ?_
  refine d_take 1 [8] rfl (by kernel_rfl) rfl heldx (y_lO1 rfl) .free rfl ?_
  refine d_takeA 2 rfl (by kernel_rfl) rfl (.inr heldx) (y_move rfl) .free rfl ?_
  refine d_takeA 3 rfl (by kernel_rfl) rfl (.inr heldx) (y_move rfl) .free rfl ?_
  first | refine d_takeA 4 rfl (by kernel_rfl) rfl (.inr heldx) (y_ixD rfl rfl 5 rfl) .free rfl ?_ | refine d_takeA 4 rfl (by kernel_rfl) rfl (.inr heldx) (y_ixP rfl rfl 5 rfl) .free rfl ?_
  refine d_take 5 [8] rfl (by kernel_rfl) rfl heldx (y_lIS rfl) .free rfl ?_
  refine d_call 6 rfl (by kernel_rfl) rfl rfl .free rfl (l5Whole_of ihn (by omega) (hf.as 5 b.tree (by omega) rfl) hok.2 htk b0 n (by omega) (by omega) _) ?_
  rintro _ J1 _ e1 ⟨cs1, rfl, hr_1, rfl⟩
  obtain ⟨o1, k1, _, rfl, -⟩ := hr_1.open
  have hlr := hlr.trans e1
  have hf := hf.mono e1
  have htk := htk.mono e1
  have hle := hle.trans e1
  unfold mkr
  refine ⟨(.inr heldx), ?_⟩
  first | refine d_takeA 7 rfl (by kernel_rfl) rfl (.inr heldx) (y_ixD rfl rfl 5 rfl) .free rfl ?_ | refine d_takeA 7 rfl (by kernel_rfl) rfl (.inr heldx) (y_ixP rfl rfl 5 rfl) .free rfl ?_
  refine d_st 8 rfl (by kernel_rfl) rfl rfl rfl rfl rfl .free (.inl (by kernel_rfl)) ?_
  refine d_done (by kernel_rfl) ?_
  refine s_seq ?_
  refine o_enter rfl ?_
  refine o_lOS rfl .free rfl ?_
  refine o_st rfl rfl rfl rfl .free ?_
  refine o_done ?_
  refine s_mem (fun w h => h.f2) (s_freeze ?_)
  intro hz
  have hf := hf.mono hz
  refine s_ret (.c rfl .nil) ?_
  refine ⟨_, _, hle.trans hz, fun w h => Mem.sub (L' := (b0, _) :: (bufOwn 9 (x.ns.map sv) x.B1 ++ (bufOwn 64 x.xs x.B2 ++ L))) (by repeat (first | exact List.Sublist.refl _ | apply List.Sublist.cons_cons | apply List.Sublist.cons)) h, _, x, rfl, .mk' rfl (.cons (hf.as 0 (.node tFun []) (by omega) rfl) (.cons (hf.as 1 (.node h1 []) (by omega) rfl) (.cons (hf.as 2 (.node z []) (by omega) rfl) (.cons (hf.as 3 s.tree (by omega) rfl) (.cons (hf.as 4 u.tree (by omega) rfl) (.cons (hr_1.mono hz) (.nil))))))) (fun y hy => by cases hy; exact still_set (xs := [_, _, _, _, _, _, _, _, _, _, _, _])) (by simp) hcc (by simp [maxN]) (by simp [maxN]), hx.mono (hle.trans hz), by simp, by simp, ?_⟩
  unfold MS.own mkr; rw [hu1, hu2]
set_option maxHeartbeats 1000000 in
theorem make_un {N : Nat} (ihn : MakeH N) {o : U2} {a : Ex} {I : Heap} {cs : List Value} (hlt : SizeOf.sizeOf (Ex.un o a) < N + 1) (h : Rep I (Ex.un o a).tree cs) (hok : (Ex.un o a).ok = true) {ot : Option Addr} {tk : List Txt} {ct : Nat} (htk : Strs I ot tk ct) (b0 n : Nat) (hn : n + (Ex.un o a).size + tk.length ≤ 900 + hits 121 tk n) (x : MS) (hx : x.ok I) (hxl : x.ns.length + (Ex.un o a).size ≤ 100000) (hxe : x.es.length = x.ns.length) (L : Own) :
    Fun Tryz.prog 85 [.pointer (some ⟨b0, 0, none⟩), .agg cs.toArray] I (x.own b0 ot tk ct n L) (MP b0 ot tk ct x ((Ex.un o a).mk tk n) L) := by
  obtain ⟨oa, c, oaf, cf1, rfl, hf, hcl, hcs⟩ := h.cells
  have hle : HLe I I := .refl _
  have hh0 := hits_le 121 tk n
  have hpos : 0 < (Ex.un o a).tree.parts.length := by show 0 < 2; decide
  obtain ⟨xa, rfl⟩ : ∃ xa, oa = some xa := ⟨_, some_oad hf.nil hpos⟩
  have hlen : (Ex.un o a).tree.parts.length = 2 := rfl
  have hp0 : ((Ex.un o a).tree.pt 0).atom = o.txt := rfl
  simp only [Ex.un.sizeOf_spec] at hlt
  have hok : a.ok = true := hok
  simp only [Ex.size] at hn hxl
  simp only [Ex.mk]
  unfold MS.own
  refine fun_intro (by simp) ?_
  refine s_seq ?_
  refine o_enter rfl ?_
  refine o_box rfl rfl .free rfl ?_
  intro b3
  refine o_alloc .free rfl ?_
  intro b4
  refine o_done ?_
  refine s_seq ?_
  refine s_seq ?_
  refine o_enter rfl ?_
  refine o_fieldAddr rfl .free rfl ?_
  refine o_lO1 rfl .free rfl ?_
  refine o_cmps rfl rfl rfl .free rfl ?_
  refine o_done ?_
  first | refine s_fp rfl (by simp [Ex.tree, Tree.atom]) ?_ | refine s_fn rfl (by simp [Ex.tree, Tree.atom]) ?_ | refine s_false (by simp [look, opd, *]) ?_
  refine s_skip ?_
  refine s_seq ?_
  refine o_enter rfl ?_
  refine o_fieldAddr rfl .free rfl ?_
  refine o_lO1 rfl .free rfl ?_
  refine o_assign rfl .free rfl ?_
  refine o_done ?_
  refine s_seq ?_
  refine o_enter rfl ?_
  refine o_lits0 .free rfl ?_
  intro b15
  refine o_move rfl .free rfl ?_
  refine o_append (B := some (b15, [])) (xs := []) (ys := cellsF oaf cf1 0 (Ex.un o a).tree.parts) (m := 0) (c := 0) (by intro kk; simp) (by rfl) rfl rfl ⟨rfl, Nat.le_refl _, rfl⟩ (fun _ h => h) (by have := hcl.length; omega) (fun a ha => by cases ha; exact (hcs _ rfl).reads) (by simp) hcl.plain hpos (by decide) (by omega) (by decide) .free rfl ?_
  intro bc sp cc hB'
  have hcc : (Ex.un o a).tree.parts.length ≤ cc := by have := hB'.2.1; omega
  refine o_put (t := 17) (v' := .slice (some ⟨bc, 0, none⟩) (Ex.un o a).tree.parts.length cc) rfl (by rw [Nat.zero_add]) ?_
  simp only [List.nil_append]
  simp only [show (Ex.un o a).tree.parts = [.node o.txt [], a.tree] from rfl, cellsF, List.cons_append, List.nil_append]
  refine o_struct rfl rfl rfl .free rfl ?_
  refine o_alloc .free rfl ?_
  intro b6
  refine o_st rfl rfl rfl rfl .free ?_
  refine o_done ?_
  refine s_seq ?_
  refine s_seq ?_
  refine o_enter rfl ?_
  refine o_move rfl .free rfl ?_
  first | refine o_ixD rfl rfl 0 rfl .free rfl ?_ | refine o_ixP rfl rfl 0 rfl .free rfl ?_
  refine o_fieldAddr' rfl .free rfl ?_
  refine o_lIF rfl .free rfl ?_
  refine o_done ?_
  refine s_block ?_
  refine s_seq ?_
  refine o_enter rfl ?_
  refine o_cmps rfl rfl rfl .free rfl ?_
  refine o_assign rfl .free rfl ?_
  refine o_done ?_
  first | refine s_fp rfl (by rw [hp0]; cases o <;> decide) ?_ | refine s_fn rfl (by rw [hp0]; cases o <;> decide) ?_ | refine s_false (by simp [look, opd, *]) ?_
  refine s_seq ?_
  refine o_enter rfl ?_
  refine o_cmps rfl rfl rfl .free rfl ?_
  refine o_assign rfl .free rfl ?_
  refine o_done ?_
  first | refine s_fp rfl (by rw [hp0]; cases o <;> decide) ?_ | refine s_fn rfl (by rw [hp0]; cases o <;> decide) ?_ | refine s_false (by simp [look, opd, *]) ?_
  refine s_seq ?_
  refine o_enter rfl ?_
  refine o_cmps rfl rfl rfl .free rfl ?_
  refine o_assign rfl .free rfl ?_
  refine o_done ?_
  first | refine s_fp rfl (by rw [hp0]; cases o <;> decide) ?_ | refine s_fn rfl (by rw [hp0]; cases o <;> decide) ?_ | refine s_false (by simp [look, opd, *]) ?_
  refine s_skip ?_
  refine s_inBlock ?_
  refine s_seq ?_
  refine s_seq ?_
  refine o_enter rfl ?_
  refine o_assign rfl .free rfl ?_
  refine o_done ?_
  refine s_block ?_
  refine s_loop ?_
  refine s_seq ?_
  refine s_seq ?_
  refine o_enter rfl ?_
  refine o_move rfl .free rfl ?_
  refine o_move rfl .free rfl ?_
  refine o_len_slice rfl .free rfl ?_
  refine o_cmp rfl rfl rfl .free rfl ?_
  refine o_done ?_
  refine s_condT rfl (by first | rfl | decide | (simp; done) | omega) ?_
  refine s_skip ?_
  refine s_seq ?_
  refine s_block ?_
  refine s_here fun hlr => ?_
  have g1 := a.mk_g tk n
  have mh1 := a.mk_hits tk n
  have gp1 := MK.pt_g tk _ g1.1 g1.2
  have mp1 := MK.pt_hits tk _ mh1
  have lp1 := MK.pt_len tk _ (a.mk_len tk n)
  have hz1 := hits_le 121 tk n
  refine d_x4 11 rfl rfl ?_
  refine d_takeA 0 rfl (by kernel_rfl) rfl (.inr heldx) (y_fieldAddr rfl) .free rfl ?_
  refine d_take 1 [10] rfl (by kernel_rfl) rfl heldx (y_lO1 rfl) .free rfl ?_
  refine d_takeA 2 rfl (by kernel_rfl) rfl (.inr heldx) (y_move rfl) .free rfl ?_
  refine d_takeA 3 rfl (by kernel_rfl) rfl (.inr heldx) (y_move rfl) .free rfl ?_
  refine d_takeA 4 rfl (by kernel_rfl) rfl (.inr heldx) (y_move rfl) .free rfl ?_
  refine d_takeA 5 rfl (by kernel_rfl) rfl (.inr heldx) (y_move rfl) .free rfl ?_
  first | refine d_takeA 6 rfl (by kernel_rfl) rfl (.inr heldx) (y_ixD rfl rfl _ rfl) .free rfl ?_ | refine d_takeA 6 rfl (by kernel_rfl) rfl (.inr heldx) (y_ixP rfl rfl _ rfl) .free rfl ?_
  refine d_take 7 [10] rfl (by kernel_rfl) rfl heldx (y_lIS rfl) .free rfl ?_
  refine d_mem (fun w h => Mem.mv4 h) ?_
  refine d_call 8 rfl (by kernel_rfl) rfl rfl .free rfl (l5Plain_of ihn (by omega) (hf.as 1 a.tree (by omega) rfl) hok htk b0 n (by omega) x hx (by omega) hxe _) ?_
  rintro _ J1 _ e1 ⟨cs1, y1, rfl, hr_1, hy1, hy1n, hy1s, rfl⟩
  obtain ⟨o1, k1, _, rfl, -⟩ := hr_1.open
  have hy1l : y1.ns.length = x.ns.length + ((a.mk tk n).pt tk).ns.length := by rw [hy1n]; simp
  have hy1e : y1.es.length = y1.ns.length := by rw [hy1s, hy1n]; simp [hxe]
  have hlr := hlr.trans e1
  have hf := hf.mono e1
  have htk := htk.mono e1
  have hle := hle.trans e1
  unfold MS.own
  refine ⟨(.inr heldx), ?_⟩
  refine d_mem (fun w h => Mem.vm4 h) ?_
  first | refine d_takeA 9 rfl (by kernel_rfl) rfl (.inr heldx) (y_ixD rfl rfl _ rfl) .free rfl ?_ | refine d_takeA 9 rfl (by kernel_rfl) rfl (.inr heldx) (y_ixP rfl rfl _ rfl) .free rfl ?_
  refine d_st 10 rfl (by kernel_rfl) rfl rfl rfl rfl rfl .free (.inl (by kernel_rfl)) ?_
  refine d_done (by kernel_rfl) ?_
  refine s_inBlock ?_
  refine o_enter rfl ?_
  refine o_move rfl .free rfl ?_
  refine o_arith rfl rfl rfl (by omega) .free rfl ?_
  refine o_assign rfl .free rfl ?_
  refine o_done ?_
  refine s_round ?_
  refine s_seq ?_
  refine s_seq ?_
  refine o_enter rfl ?_
  refine o_move rfl .free rfl ?_
  refine o_move rfl .free rfl ?_
  refine o_len_slice rfl .free rfl ?_
  refine o_cmp rfl rfl rfl .free rfl ?_
  refine o_done ?_
  refine s_condF rfl (by first | rfl | decide | (simp; done) | omega) ?_
  refine s_exit rfl ?_
  refine s_seq ?_
  refine o_enter rfl ?_
  refine o_lOS rfl .free rfl ?_
  refine o_st rfl rfl rfl rfl .free ?_
  refine o_done ?_
  refine s_mem (fun w h => h.f1) (s_freeze ?_)
  intro hz
  have hf := hf.mono hz
  refine s_ret (.c rfl .nil) ?_
  refine ⟨_, _, hle.trans hz, fun w h => h.drop.drop.drop, _, y1, rfl, .mk' rfl (.cons (hf.as 0 (.node o.txt []) (by omega) rfl) (.cons (hr_1.mono hz) (.nil))) (fun y hy => by cases hy; exact still_set (xs := [_, _, _, _])) (by simp) hcc (by simp [maxN]) (by simp [maxN]), hy1.mono hz, by simpa using hy1n, by simpa using hy1s, ?_⟩
  rfl
theorem make_atom {e : Ex} {I : Heap} {cs : List Value} (hb : e.bare = true) (h : Rep I e.tree cs) (hok : e.ok = true) {ot : Option Addr} {tk : List Txt} {ct : Nat} (b0 n : Nat) (x : MS) (hx : x.ok I) (L : Own) :
    Fun Tryz.prog 85 [.pointer (some ⟨b0, 0, none⟩), .agg cs.toArray] I (x.own b0 ot tk ct n L) (MP b0 ot tk ct x (e.mk tk n) L) := by
  obtain ⟨oa, c, oaf, cf1, rfl, hf⟩ := h.at'
  have hm : e.mk tk n = ⟨e, [], n, 0⟩ := by cases e <;> first | rfl | cases hb
  rw [hm]
  unfold MS.own
  refine fun_intro (by simp) ?_
  refine s_seq ?_
  refine o_enter rfl ?_
  refine o_box rfl rfl .free rfl ?_
  intro b3
  refine o_alloc .free rfl ?_
  intro b4
  refine o_done ?_
  refine s_seq ?_
  refine s_seq ?_
  refine o_enter rfl ?_
  refine o_fieldAddr rfl .free rfl ?_
  refine o_lO1 rfl .free rfl ?_
  refine o_cmps rfl rfl rfl .free rfl ?_
  refine o_done ?_
  first | refine s_tp rfl (by exact fun h2 => by have h3 := (Ex.atom_iff hok).1 h2; rw [hb] at h3; cases h3) ?_ | refine s_tn rfl (by exact fun h2 => by have h3 := (Ex.atom_iff hok).1 h2; rw [hb] at h3; cases h3) ?_ | refine s_true (by simp [look, opd, *]) ?_
  refine s_seq ?_
  refine o_enter rfl ?_
  refine o_lOS rfl .free rfl ?_
  refine o_st rfl rfl rfl rfl .free ?_
  refine o_done ?_
  refine s_ret (.c rfl .nil) ?_
  exact ⟨I, _, .refl _, fun w h => h.drop.drop, _, x, rfl, hf.rep, hx, by simp, by simp, rfl⟩
theorem make_all : ∀ N : Nat, MakeH N := by
  intro N
  induction N with
  | zero => intro I e cs h; omega
  | succ N ihn =>
    intro I e cs hlt h hok ot tk ct htk b0 n hn x hx hxl hxe L
    cases hb : e.bare with
    | true => exact make_atom hb h hok b0 n x hx L
    | false =>
      cases e with
      | num s => cases hb
      | name s => cases hb
      | bin o a b => exact make_bin ihn hlt h hok htk b0 n hn x hx hxl hxe L
      | ite a b d => exact make_ite ihn hlt h hok htk b0 n hn x hx hxl hxe L
      | lt z a b => exact make_lt ihn hlt h hok htk b0 n hn x hx hxl hxe L
      | fn h1 z s u b => exact make_fn ihn hlt h hok htk b0 n hn x hx hxl hxe L
      | un o a => exact make_un ihn hlt h hok htk b0 n hn x hx hxl hxe L
end Go.Proofs.YtdnmhgiaebbppaaGreat


/- 'NormalOf', by the reference. No conditions. -/
namespace Go.Proofs.YtdnmhgiaebbppaaGreat
set_option maxRecDepth 100000
set_option linter.unusedVariables false
set_option linter.unusedSimpArgs false

theorem tk_strs {e : Ex} (h : e.fine = true) : ∀ s ∈ e.tk, s.length ≤ maxN := atoms_len (by have := plain_fine h; simp only [Ex.fine, Bool.and_eq_true, decide_eq_true_eq, Tree.fits] at this; have := this.2.2; omega)
theorem g_l5Of {I : Heap} {e : Ex} {cs : List Value} (h : Rep I e.tree cs) (hfine : e.fine = true) (L : Own) : Fun Tryz.prog 48 [.agg cs.toArray] I L (fun v I' L' => ∃ ds, v = .tuple #[.agg (List.toArray ds), .bool (decide (e.made.n ≤ 100))] ∧ Rep I' e.normal.tree ds ∧ L = L') := by
  obtain ⟨oa, c, oaf, cf, rfl, hf⟩ := h.at'
  have hpf := plain_fine hfine
  have hpf2 := hpf
  simp only [Ex.fine, Bool.and_eq_true, decide_eq_true_eq, Tree.fits] at hpf2
  have hroom := made_room hfine
  have hpg := Ex.tree_good hpf2.1.1
  have hpz := hpf2.1.2
  have hpsz : e.plain.tree.size ≤ 120 := by rw [Ex.tree_size]; exact hpf2.1.2
  refine fun_intro (by simp) ?_
  refine s_seq ?_
  refine o_enter rfl ?_
  refine o_box rfl rfl .free rfl ?_
  intro b1
  refine o_alloc .free rfl ?_
  intro b2
  refine o_assign rfl .free rfl ?_
  refine o_done ?_
  refine s_seq ?_
  refine o_enter rfl ?_
  refine o_lOS rfl .free rfl ?_
  refine o_call rfl .free rfl (g_l2Plainly hf.rep hfine _) ?_
  rintro _ J1 _ e1 ⟨ds, rfl, hr, rfl⟩
  obtain ⟨o1, k1, _, rfl, -⟩ := hr.open
  refine o_move rfl .free rfl ?_
  refine o_extract rfl rfl .free rfl ?_
  refine o_extract rfl rfl .free rfl ?_
  refine o_alloc .free rfl ?_
  intro b4
  refine o_st rfl rfl rfl rfl .free ?_
  refine o_assign rfl .free rfl ?_
  refine o_done ?_
  refine s_seq ?_
  refine s_seq ?_
  refine o_enter rfl ?_
  refine o_move rfl .free rfl ?_
  refine o_not rfl .free rfl ?_
  refine o_done ?_
  first | refine s_fp rfl (by simp) ?_ | refine s_fn rfl (by simp) ?_ | refine s_false (by simp [look, opd, *]) ?_
  refine s_skip ?_
  refine s_seq ?_
  refine o_enter rfl ?_
  refine o_lOS rfl .free rfl ?_
  refine o_lits0 .free rfl ?_
  intro b17
  refine o_mem (L' := bufOwn 9 (([] : List Txt).map sv) (some (b17, [])) ++ _) (fun w h => h) ?_
  refine o_call rfl .free rfl (g_l1Atoms _ (Nat.lt_succ_self _) hr hpg.1 [] (some (b17, [])) 0 (by simp; omega) ⟨rfl, Nat.le_refl _, rfl⟩ _) ?_
  rintro _ _ _ _ ⟨rfl, B2, c2, rfl, hB2, rfl⟩
  have htl : e.tk.length ≤ 120 := hroom.2.2
  refine o_freezeStrs hB2 rfl (by show e.tk.length ≤ maxN; unfold maxN; omega) (tk_strs hfine) ?_
  intro J2 oz cz ez hbv hst
  refine o_put (t := 18) rfl hbv ?_
  have hst : Strs J2 oz e.tk cz := hst
  have hr := hr.mono ez
  have hle := e1.trans ez
  refine o_lits0 .free rfl ?_
  intro b19
  refine o_lits0 .free rfl ?_
  intro b20
  refine o_struct rfl rfl rfl .free rfl ?_
  refine o_box rfl rfl .free rfl ?_
  intro b22
  refine o_assign rfl .free rfl ?_
  refine o_done ?_
  refine s_seq ?_
  refine o_enter rfl ?_
  refine o_move rfl .free rfl ?_
  refine o_lOS rfl .free rfl ?_
  refine o_mem (L' := mkr b22 oz e.tk cz 0 (.slice (some ⟨b19, 0, none⟩) 0 0) (.slice (some ⟨b20, 0, none⟩) 0 0) :: _) (fun w h => h) ?_
  refine o_call rfl .free rfl (l5Whole_of (make_all _) (Nat.lt_succ_self _) hr hpf2.1.1 hst b22 0 (by omega) (by omega) _) ?_
  rintro _ J3 _ e3 ⟨cs3, rfl, hr3, rfl⟩
  have hr3 : Rep J3 e.normal.tree cs3 := hr3
  obtain ⟨o3, k3, _, rfl, -⟩ := hr3.open
  unfold mkr
  have hle := hle.trans e3
  refine o_alloc .free rfl ?_
  intro b7
  refine o_st rfl rfl rfl rfl .free ?_
  refine o_done ?_
  refine s_seq ?_
  refine d_all 8 rfl rfl ?_
  refine d_take 0 [6] rfl (by kernel_rfl) rfl heldx (y_lOS rfl) .free rfl ?_
  refine d_takeA 1 rfl (by kernel_rfl) rfl (.inr heldx) (y_move rfl) .free rfl ?_
  refine d_takeA 2 rfl (by kernel_rfl) rfl (.inr heldx) (y_nilCheck rfl) .free rfl ?_
  first | refine d_takeA 3 rfl (by kernel_rfl) rfl (.inr heldx) (y_fieldAddr rfl) .free rfl ?_ | refine d_takeA 3 rfl (by kernel_rfl) rfl (.inr heldx) (y_fieldAddr' rfl) .free rfl ?_
  refine d_two 4 6 (by kernel_rfl) ?_ ?_
  · skip
    refine i_yld 4 rfl rfl (y_lJ rfl) .free rfl (.inr heldx) ?_
    refine d_takeA 5 rfl (by kernel_rfl) rfl (.inr heldx) (y_cmp rfl rfl rfl) .free rfl ?_
    refine d_st 6 rfl (by kernel_rfl) rfl rfl rfl rfl rfl .free (.inl (by kernel_rfl)) ?_
    refine d_takeA 7 rfl (by kernel_rfl) rfl (.inl (by kernel_rfl)) (y_assign rfl) .free rfl ?_
    refine d_done (by kernel_rfl) ?_
    refine s_ret (.c rfl (.tmp rfl .nil)) ?_
    exact ⟨J3, L, hle, drops, _, by simp [retOne, Ex.made]; exact decide_eq_decide.2 (by omega), hr3, rfl⟩
  · skip
    refine i_st 6 rfl rfl rfl rfl rfl rfl .free (.inl (by kernel_rfl)) ?_
    refine d_yld 4 rfl (by kernel_rfl) rfl (y_lJ rfl) .free rfl (.inl (by kernel_rfl)) ?_
    refine d_takeA 5 rfl (by kernel_rfl) rfl (.inl (by kernel_rfl)) (y_cmp rfl rfl rfl) .free rfl ?_
    refine d_takeA 7 rfl (by kernel_rfl) rfl (.inl (by kernel_rfl)) (y_assign rfl) .free rfl ?_
    refine d_done (by kernel_rfl) ?_
    refine s_ret (.c rfl (.tmp rfl .nil)) ?_
    exact ⟨J3, L, hle, drops, _, by simp [retOne, Ex.made]; exact decide_eq_decide.2 (by omega), hr3, rfl⟩
theorem normal_len {e : Ex} (h : e.fine = true) : e.normal.tree.len ≤ 12000 := by
  have h1 := Ex.len_size (normal_ok h)
  have h2 := normal_size e
  have h3 := made_room h
  simp only [Ex.fine, Bool.and_eq_true, decide_eq_true_eq] at h
  omega
theorem g_NormalOf (s : Txt) (hs : s.length ≤ maxL) (I : Heap) (L : Own) : Fun Tryz.prog 27 [.string (str s)] I L (EL (nfOf s) L) := by
  refine fun_intro (by simp) ?_
  refine s_seq ?_
  refine o_enter rfl ?_
  refine o_assign rfl .free rfl ?_
  refine o_assign rfl .free rfl ?_
  refine o_done ?_
  refine s_seq ?_
  refine o_enter rfl ?_
  refine o_move rfl .free rfl ?_
  refine o_call rfl .free rfl (g_l2Parse' s hs _ _) ?_
  rintro _ J _ hleJ ⟨t, cs, ok, rfl, hrep, rfl, hpf⟩
  obtain ⟨oc, cc, _, rfl, -⟩ := hrep.open
  refine o_move rfl .free rfl ?_
  refine o_extract rfl rfl .free rfl ?_
  refine o_extract rfl rfl .free rfl ?_
  refine o_alloc .free rfl ?_
  intro b4
  refine o_st rfl rfl rfl rfl .free ?_
  refine o_assign rfl .free rfl ?_
  refine o_done ?_
  refine s_seq ?_
  refine s_seq ?_
  refine o_enter rfl ?_
  refine o_move rfl .free rfl ?_
  refine o_not rfl .free rfl ?_
  refine o_done ?_
  refine s_cond rfl ?_ ?_
  · intro c0
    try simp only [nb] at c0
    refine s_seq ?_
    refine o_enter rfl ?_
    refine o_assign rfl .free rfl ?_
    refine o_assign rfl .free rfl ?_
    refine o_done ?_
    refine s_ret (.tmp rfl (.tmp rfl .nil)) ?_
    exact ⟨J, L, hleJ, drops, by rw [nfOf_none (RX_none hpf c0)]; rfl, rfl⟩
  intro c0
  try simp only [nb] at c0
  obtain ⟨e, he, rfl, hok, hlen, hfine, htxt⟩ := RX_some hpf c0
  have hnf := nfOf_some he
  have hnok := normal_ok hfine
  have hnl := normal_len hfine
  have hnn := normal_next hfine
  have hx := exOf_text hnok
  have hfi : (exOf e.normal.tree.text).isSome = e.normal.fine := by rw [hx]; cases e.normal.fine <;> rfl
  refine s_skip ?_
  refine s_seq ?_
  refine o_enter rfl ?_
  refine o_lOS rfl .free rfl ?_
  refine o_call rfl .free rfl (g_l5Of hrep hfine _) ?_
  rintro _ J2 _ e2 ⟨ds, rfl, hr, rfl⟩
  obtain ⟨od, cd, _, rfl, -⟩ := hr.open
  have hle := hleJ.trans e2
  refine o_move rfl .free rfl ?_
  refine o_extract rfl rfl .free rfl ?_
  refine o_extract rfl rfl .free rfl ?_
  refine o_alloc .free rfl ?_
  intro b6
  refine o_st rfl rfl rfl rfl .free ?_
  refine o_assign rfl .free rfl ?_
  refine o_done ?_
  refine s_seq ?_
  refine s_seq ?_
  refine o_enter rfl ?_
  refine o_move rfl .free rfl ?_
  refine o_not rfl .free rfl ?_
  refine o_move rfl .free rfl ?_
  apply o_or 22 27 rfl
  · intro g5_3 hk
    try simp only [nb] at g5_3
    refine o_lOS rfl (.met rfl rfl) rfl ?_
    refine o_call rfl (.met rfl rfl) rfl (g_l1Text _ (Nat.lt_succ_self _) hr (Ex.tree_good hnok).1 (by omega) _) ?_
    rintro _ _ _ _ ⟨rfl, rfl, rfl⟩
    refine o_call rfl (.met rfl rfl) rfl (g_ExprValid' _ (by rw [Tree.text_len]; unfold maxL; omega) _ _) ?_
    rintro _ _ _ _ ⟨rfl, rfl, rfl⟩
    refine o_not rfl (.met rfl rfl) rfl ?_
    refine o_pick_false rfl rfl .free rfl ?_
    exact o_fin 4 rfl rfl hk
  · intro _ hk
    refine o_skips 4 rfl ?_
    refine o_pick_true rfl rfl .free rfl ?_
    exact o_fin 4 rfl rfl hk
  refine o_done ?_
  refine s_cond rfl ?_ ?_
  · intro c1
    try simp only [nb] at c1
    refine s_seq ?_
    refine o_enter rfl ?_
    refine o_assign rfl .free rfl ?_
    refine o_assign rfl .free rfl ?_
    refine o_done ?_
    refine s_ret (.tmp rfl (.tmp rfl .nil)) ?_
    refine ⟨J2, L, hle, drops, ?_, rfl⟩
    rw [hfi] at c1
    have hn : e.normal.fine = false := by
      cases hn : e.normal.fine with
      | false => rfl
      | true =>
        have := (hnn hn).2
        rw [hn] at c1
        simp at c1; omega
    rw [hnf, if_neg (by rw [hn]; simp)]; rfl
  intro c1
  try simp only [nb] at c1
  refine s_skip ?_
  refine s_seq ?_
  refine o_enter rfl ?_
  refine o_lOS rfl .free rfl ?_
  refine o_call rfl .free rfl (g_l1Text _ (Nat.lt_succ_self _) hr (Ex.tree_good hnok).1 (by omega) _) ?_
  rintro _ _ _ _ ⟨rfl, rfl, rfl⟩
  refine o_assign rfl .free rfl ?_
  refine o_assign rfl .free rfl ?_
  refine o_done ?_
  refine s_ret (.tmp rfl (.tmp rfl .nil)) ?_
  refine ⟨J2, L, hle, drops, ?_, rfl⟩
  rw [hfi] at c1
  rw [hnf, if_pos (by simpa using c1.2)]; rfl
end Go.Proofs.YtdnmhgiaebbppaaGreat


/- Drawn normal expressions. No conditions. -/
namespace Go.Proofs.YtdnmhgiaebbppaaGreat
set_option maxRecDepth 100000
set_option linter.unusedVariables false
set_option linter.unusedSimpArgs false

theorem nf_out {s o : Txt} (h : nfOf s = some o) : o.length ≤ 12000 := by
  unfold nfOf at h
  obtain ⟨e, he, h⟩ := Option.bind_eq_some_iff.1 h
  split at h
  · rename_i hf
    cases h
    simp only [Ex.fine, Bool.and_eq_true, decide_eq_true_eq, Tree.fits] at hf
    rw [Tree.text_len]; exact hf.2.2
  · cases h
theorem g_l91Normal {I : Heap} {oa : Option Addr} {l : List UInt8} {c : Nat} (h : Bytes I oa l c) (hl : l.length ≤ 2000) (b p : Nat) (hp : p + 9000 ≤ 1099511627776) (L : Own) :
    Fun Tryz.prog 13 [.pointer (some ⟨b, 0, none⟩)] I (rd b oa l c p :: L) (DT b oa l c p 9000 400001 L) := by
  refine fun_intro (by simp) ?_
  refine s_seq ?_
  refine o_enter rfl ?_
  refine o_assign rfl .free rfl ?_
  refine o_done ?_
  refine s_seq ?_
  refine o_enter rfl ?_
  refine o_move rfl .free rfl ?_
  refine o_call rfl .free rfl (g_l91Odd h hl b _ (by omega) _) ?_
  rintro _ J _ e ⟨s, p1, rfl, hs, hp1, hp2, rfl⟩
  have h := h.mono e
  refine o_assign rfl .free rfl ?_
  refine o_done ?_
  refine s_seq ?_
  refine o_enter rfl ?_
  refine o_move rfl .free rfl ?_
  refine o_call rfl .free rfl (g_NormalOf s (by unfold maxL; omega) _ _) ?_
  rintro _ J1 _ e1 ⟨rfl, rfl⟩
  have h := h.mono e1
  have hle := e.trans e1
  have hol : ((nfOf s).getD []).length ≤ 400001 := by
    cases ho : nfOf s with
    | none => decide
    | some o => have := nf_out ho; simp only [Option.getD_some]; omega
  refine o_move rfl .free rfl ?_
  refine o_extract rfl rfl .free rfl ?_
  refine o_extract rfl rfl .free rfl ?_
  refine o_assign rfl .free rfl ?_
  refine o_assign rfl .free rfl ?_
  refine o_done ?_
  refine s_seq ?_
  refine s_seq ?_
  refine o_enter rfl ?_
  refine o_move rfl .free rfl ?_
  refine o_move rfl .free rfl ?_
  first | refine g_if rfl rfl ?_ ?_ | refine g_ifn rfl rfl ?_ ?_ | refine g_b rfl rfl ?_ ?_
  · intro g3_2
    refine o_move rfl (.met rfl rfl) rfl ?_
    refine o_call rfl (.met rfl rfl) rfl (g_l6Rd_pick h hl b _ 4 (by omega) (by decide) _) ?_
    rintro _ _ _ _ ⟨r, rfl, rfl, rfl, hr⟩
    refine o_cmp rfl rfl rfl (.met rfl rfl) rfl ?_
    refine o_pick_true rfl rfl .free rfl ?_
    refine o_done ?_
    refine s_cond rfl ?_ ?_
    · intro c0
      try simp only [nb] at c0
      refine s_seq ?_
      refine o_enter rfl ?_
      refine o_move rfl .free rfl ?_
      refine o_assign rfl .free rfl ?_
      refine o_done ?_
      refine s_ret (.tmp rfl .nil) ?_
      exact ⟨_, _, hle, fun _ h => h, _, _, rfl, hol, by omega, by omega, rfl⟩
    intro c0
    try simp only [nb] at c0
    refine s_skip ?_
    refine s_seq ?_
    refine o_enter rfl ?_
    refine o_move rfl .free rfl ?_
    refine o_assign rfl .free rfl ?_
    refine o_done ?_
    refine s_ret (.tmp rfl .nil) ?_
    exact ⟨_, _, hle, fun _ h => h, _, _, rfl, hs, by omega, by omega, rfl⟩
  intro g3_2
  iterate 3 refine o_skip rfl rfl rfl ?_
  refine o_pick_false rfl rfl .free rfl ?_
  refine o_done ?_
  refine s_false rfl ?_
  refine s_skip ?_
  refine s_seq ?_
  refine o_enter rfl ?_
  refine o_move rfl .free rfl ?_
  refine o_assign rfl .free rfl ?_
  refine o_done ?_
  refine s_ret (.tmp rfl .nil) ?_
  exact ⟨_, _, hle, fun _ h => h, _, _, rfl, hs, by omega, by omega, rfl⟩
def DN (L : Own) : Post := fun v I' L' => ∃ s, v = .string (str s) ∧ List.length s ≤ 400001 ∧ L = L'
end Go.Proofs.YtdnmhgiaebbppaaGreat


/- Drawn bindings. No conditions. -/
namespace Go.Proofs.YtdnmhgiaebbppaaGreat
set_option maxRecDepth 100000
set_option linter.unusedVariables false
set_option linter.unusedSimpArgs false

theorem Mem.jn {I : Heap} {a b : Nat × Obj} {X Y L : Own} {w : World} (h : Mem I (a :: b :: (X ++ (Y ++ L))) w) : Mem I (Y ++ (a :: b :: (X ++ L))) w :=
  h.perm (List.perm_append_comm_assoc (a :: b :: X) Y L)
theorem Mem.jm {I : Heap} {a c b : Nat × Obj} {X L : Own} {w : World} (h : Mem I (a :: c :: b :: (X ++ L)) w) : Mem I (b :: (X ++ (a :: L))) w :=
  (Mem.sub (L' := a :: b :: (X ++ L)) (.cons_cons _ (.cons _ (.refl _))) h).f1.perm (List.Perm.cons _ (List.perm_append_comm_assoc [a] X L))
def jNames : List Txt := [[97], [98], [99]]
def jSimple : List Txt := [[49], [40, 43, 32, 49, 32, 50, 41], [97], [40, 112, 97, 105, 114, 32, 49, 32, 98, 41], [40, 102, 117, 110, 32, 102, 32, 120, 32, 105, 32, 105, 32, 120, 41], [40, 105, 102, 32, 97, 32, 49, 32, 50, 41]]
def jOdd : Txt := [40, 43, 32, 49, 32, 40, 43, 32, 49, 32, 50, 41, 41]
/-- Bindings that a loop has drawn. -/
structure JS where
  J : Heap
  i : Nat
  p : Nat
  l : List Txt
  B : Buf
  c : Nat
  m : List Txt
  D : Buf
  d : Nat
def shortL (l : List Txt) : Prop := ∀ s ∈ l, s.length ≤ 16
theorem shortL.maxN {l : List Txt} (h : shortL l) : ∀ s ∈ l, s.length ≤ maxN := fun s hs => by have := h s hs; unfold Go.Proofs.YtdnmhgiaebbppaaGreat.maxN; omega
theorem shortL.add {l : List Txt} {s : Txt} (h : shortL l) (hs : s.length ≤ 16) : shortL (l ++ [s]) := by
  intro x hx
  rcases List.mem_append.1 hx with hx | hx
  · exact h x hx
  · rw [List.mem_singleton.1 hx]; exact hs
def JS.ok (n : Nat) (I : Heap) (x : JS) : Prop := HLe I x.J ∧ x.i ≤ n ∧ x.p = 1 + 2 * x.i ∧ x.l.length = x.i ∧ x.m.length = x.i ∧ BufOk 1 x.l.length x.c (x.l.map sv) x.B ∧ BufOk 1 x.m.length x.d (x.m.map sv) x.D ∧ shortL x.l ∧ shortL x.m
def DJ (L : Own) : Post := fun v I' L' => ∃ o1 l c1 o2 m c2 s, v = .tuple #[.slice o1 (List.length l) c1, .slice o2 (List.length m) c2, .string (str s)] ∧ Strs I' o1 l c1 ∧ Strs I' o2 m c2 ∧ l.length ≤ 3 ∧ m.length ≤ 3 ∧ shortL l ∧ shortL m ∧ s.length ≤ 400001 ∧ L = L'
theorem g_DrawNormalJoin {I : Heap} {oa : Option Addr} {l : List UInt8} {c : Nat} (h : Bytes I oa l c) (L : Own) : Fun Tryz.prog 4 [.slice oa l.length c] I L (DJ L) := by
  refine fun_intro (by simp) ?_
  refine s_seq ?_
  refine o_enter rfl ?_
  iterate 3 refine o_assign rfl .free rfl ?_
  refine o_done ?_
  refine s_seq ?_
  refine o_enter rfl ?_
  refine o_move rfl .free rfl ?_
  refine o_call rfl .free rfl (g_l6Open h _) ?_
  rintro _ J1 _ e1 ⟨b, oa1, l1, cr, rfl, h1, hl1, rfl⟩
  refine o_assign rfl .free rfl ?_
  refine o_done ?_
  refine s_seq ?_
  refine o_enter rfl ?_
  refine o_lits0 .free rfl ?_
  intro b12
  refine o_assign rfl .free rfl ?_
  refine o_done ?_
  refine s_seq ?_
  refine o_enter rfl ?_
  refine o_lits0 .free rfl ?_
  intro b13
  refine o_assign rfl .free rfl ?_
  refine o_done ?_
  refine s_seq ?_
  refine o_enter rfl ?_
  refine o_move rfl .free rfl ?_
  refine o_mem (fun w h => h.f2) ?_
  refine o_call rfl .free rfl (g_l6Rd_pick h1 hl1 b _ 4 (by omega) (by decide) _) ?_
  rintro _ _ _ _ ⟨n, rfl, rfl, rfl, hn⟩
  refine o_assign rfl .free rfl ?_
  refine o_done ?_
  refine s_seq ?_
  refine s_seq ?_
  refine o_enter rfl ?_
  refine o_assign rfl .free rfl ?_
  refine o_done ?_
  refine s_block ?_
  refine s_while (X := JS) (fun x => n - x.i) (fun x => [(5, .pointer (some ⟨b, 0, none⟩)), (6, bufVal x.l.length x.c x.B), (7, bufVal x.m.length x.d x.D), (8, .int .i64 (n : Nat)), (9, .int .i64 (x.i : Nat))]) (fun x => x.J) (fun x => rd b oa1 l1 cr x.p :: (bufOwn 9 (x.m.map sv) x.D ++ (bufOwn 9 (x.l.map sv) x.B ++ L))) (JS.ok n J1) ⟨J1, 0, 1, [], some (b12, []), 0, [], some (b13, []), 0⟩ ⟨.refl _, Nat.zero_le _, rfl, rfl, rfl, ⟨rfl, Nat.le_refl _, rfl⟩, ⟨rfl, Nat.le_refl _, rfl⟩, (fun s hs => by cases hs), (fun s hs => by cases hs)⟩ ⟨rfl, rfl, rfl, rfl, rfl, trivial⟩ (fun _ h => h) ?_
  rintro ⟨J, i, p, l, B, c, m, D, d⟩ ⟨hle, hi, hp, hll, hml, hB, hD, hsl, hsm⟩ ih
  simp only at hle hi hp hll hml hB hD hsl hsm ih ⊢
  have h2 := h1.mono hle
  refine s_seq ?_
  refine s_seq ?_
  refine o_enter rfl ?_
  refine o_move rfl .free rfl ?_
  refine o_move rfl .free rfl ?_
  refine o_cmp rfl rfl rfl .free rfl ?_
  refine o_done ?_
  refine s_cond rfl ?_ ?_
  · intro c0
    try simp only [nb] at c0
    refine s_skip ?_
    refine s_seq ?_
    refine s_block ?_
    refine s_seq ?_
    refine o_enter rfl ?_
    refine o_move rfl .free rfl ?_
    refine o_move rfl .free rfl ?_
    refine o_lits rfl rfl (by rfl) (by rfl) (by rfl) (by decide) (by decide) (by rfl) .free rfl ?_
    intro b23
    refine o_freezeLit jNames (by decide) (by decide) ?_
    intro J2 e2 k1
    refine o_call rfl .free rfl (g_l6Rd_of (h2.mono e2) hl1 b _ (by omega) k1 (by decide) _) ?_
    rintro _ _ _ _ ⟨s1, rfl, hs1, rfl, rfl⟩
    have hz1 : s1.length ≤ 16 := by revert s1; decide
    refine o_lits rfl rfl (by rfl) (by rfl) (by rfl) (by decide) (by decide) (by rfl) .free rfl ?_
    intro b25
    refine o_append (B := B) (xs := l.map sv) (ys := [sv s1]) (m := l.length) (c := c) (by intro kk; simp) (by rfl) rfl rfl hB (fun _ h => h.jn) (by rfl) (fun a ha => by cases ha; exact reads_ownL (.head _) (by rfl)) (by simp) (by rfl) (by decide) (by decide) (by omega) (by decide) .free rfl ?_
    intro bb sb cb hB2
    refine o_assign rfl .free rfl ?_
    refine o_done ?_
    refine s_mem (fun w h => h.jm) ?_
    refine o_enter rfl ?_
    refine o_move rfl .free rfl ?_
    refine o_move rfl .free rfl ?_
    refine o_lits rfl rfl (by rfl) (by rfl) (by rfl) (by decide) (by decide) (by rfl) .free rfl ?_
    intro b29
    refine o_freezeLit jSimple (by decide) (by decide) ?_
    intro J3 e3 k2
    refine o_call rfl .free rfl (g_l6Rd_of ((h2.mono e2).mono e3) hl1 b _ (by omega) k2 (by decide) _) ?_
    rintro _ _ _ _ ⟨s2, rfl, hs2, rfl, rfl⟩
    have hz2 : s2.length ≤ 16 := by revert s2; decide
    refine o_lits rfl rfl (by rfl) (by rfl) (by rfl) (by decide) (by decide) (by rfl) .free rfl ?_
    intro b31
    refine o_append (B := D) (xs := m.map sv) (ys := [sv s2]) (m := m.length) (c := d) (by intro kk; simp) (by rfl) rfl rfl hD (fun _ h => h.u2) (by rfl) (fun a ha => by cases ha; exact reads_ownL (.head _) (by rfl)) (by simp) (by rfl) (by decide) (by decide) (by omega) (by decide) .free rfl ?_
    intro bq sq cq hD2
    refine o_assign rfl .free rfl ?_
    refine o_done ?_
    refine s_inBlock ?_
    refine o_enter rfl ?_
    refine o_move rfl .free rfl ?_
    refine o_arith rfl rfl rfl (by omega) .free rfl ?_
    refine o_assign rfl .free rfl ?_
    refine o_done ?_
    refine s_mem (fun w hw => Mem.f1 (Mem.sub (L' := (bq, _) :: rd b oa1 l1 cr (p + 1 + 1) :: (bb, _) :: L) (by repeat (first | exact List.Sublist.refl _ | apply List.Sublist.cons_cons | apply List.Sublist.cons)) hw)) (s_env (E' := [(5, .pointer (some ⟨b, 0, none⟩)), (6, bufVal (l ++ [s1]).length cb (some (bb, sb))), (7, bufVal (m ++ [s2]).length cq (some (bq, sq))), (8, .int .i64 (n : Nat)), (9, .int .i64 ((i + 1 : Nat)))]) ⟨rfl, by simp [bufVal]; rfl, by simp [bufVal]; rfl, rfl, rfl, trivial⟩ (s_mem (fun w hw => ?_) (ih ⟨J3, i + 1, p + 1 + 1, l ++ [s1], some (bb, sb), cb, m ++ [s2], some (bq, sq), cq⟩ ⟨(hle.trans e2).trans e3, by simp only; omega, by simp only; omega, by simp [hll], by simp [hml], by simpa using hB2, by simpa using hD2, hsl.add hz1, hsm.add hz2⟩ (by simp only; omega))))
    simp only [bufOwn, List.map_append, List.map_cons, List.map_nil, List.cons_append, List.nil_append]
    exact hw
  intro c0
  try simp only [nb] at c0
  have hin : i = n := by omega
  have hl3 : l.length ≤ 3 := by omega
  have hm3 : m.length ≤ 3 := by omega
  refine s_exit rfl ?_
  refine s_seq ?_
  refine s_seq ?_
  refine o_enter rfl ?_
  refine o_move rfl .free rfl ?_
  refine o_cmp rfl rfl rfl .free rfl ?_
  refine o_done ?_
  refine s_cond rfl ?_ ?_
  · intro c1
    try simp only [nb] at c1
    obtain ⟨x1, l', rfl⟩ : ∃ x l', l = x :: l' := by
      cases l with
      | nil => simp only [List.length_nil] at hll; omega
      | cons x l' => exact ⟨x, l', rfl⟩
    obtain ⟨y1, m', rfl⟩ : ∃ x m', m = x :: m' := by
      cases m with
      | nil => simp only [List.length_nil] at hml; omega
      | cons x m' => exact ⟨x, m', rfl⟩
    obtain ⟨bb, sb, rfl⟩ : ∃ bb sb, B = some (bb, sb) := by
      cases B with
      | none => exact absurd hB.1 (by simp)
      | some z => exact ⟨z.1, z.2, rfl⟩
    obtain ⟨bq, sq, rfl⟩ : ∃ bq sq, D = some (bq, sq) := by
      cases D with
      | none => exact absurd hD.1 (by simp)
      | some z => exact ⟨z.1, z.2, rfl⟩
    simp only [bufOwn, List.cons_append, List.nil_append, List.map_cons]
    have ha1 : shortL (tLet :: l') := fun s hs => by
      rcases List.mem_cons.1 hs with rfl | hs
      · decide
      · exact hsl s (.tail _ hs)
    have ha2 : shortL (jOdd :: m') := fun s hs => by
      rcases List.mem_cons.1 hs with rfl | hs
      · decide
      · exact hsm s (.tail _ hs)
    refine s_seq ?_
    refine o_enter rfl ?_
    refine o_move rfl .free rfl ?_
    refine o_call rfl .free rfl (g_l6Rd_pick h2 hl1 b _ 16 (by omega) (by decide) _) ?_
    rintro _ _ _ _ ⟨r, rfl, rfl, rfl, hr⟩
    refine o_done ?_
    refine s_block ?_
    refine s_seq ?_
    refine o_enter rfl ?_
    refine o_cmp rfl rfl rfl .free rfl ?_
    refine o_assign rfl .free rfl ?_
    refine o_done ?_
    refine s_cond rfl ?_ ?_
    · intro c2
      try simp only [nb] at c2
      refine o_enter rfl ?_
      refine o_move rfl .free rfl ?_
      first | refine o_ixD rfl rfl 0 rfl .free rfl ?_ | refine o_ixP rfl rfl 0 rfl .free rfl ?_
      refine o_st rfl rfl rfl rfl .free ?_
      refine o_mem (L' := bufOwn 9 ((y1 :: m').map sv) (some (bq, sq)) ++ (rd b oa1 l1 cr _ :: (bufOwn 9 ((tLet :: l').map sv) (some (bb, sb)) ++ L))) (fun w h => h.f1) ?_
      refine o_freezeStrs hD rfl (by unfold maxN; omega) hsm.maxN ?_
      intro K1 o2 k2 f1 hv2 hst2
      refine o_put (t := 7) rfl hv2 ?_
      refine o_mem (fun w h => Mem.u1 h) ?_
      refine o_freezeStrs (l := tLet :: l') hB rfl (by simpa using (by unfold maxN; simp at hl3; omega : l'.length + 1 ≤ maxN)) ha1.maxN ?_
      intro K2 o1 k1 f2 hv1 hst1
      refine o_put (t := 6) rfl hv1 ?_
      have hst2 := hst2.mono f2
      obtain ⟨la, hla, hlb, hlc⟩ : ∃ la : List Txt, la = tLet :: l' ∧ la.length ≤ 3 ∧ shortL la := ⟨_, rfl, hl3, ha1⟩
      obtain ⟨ma, hma, hmb, hmc⟩ : ∃ ma : List Txt, ma = y1 :: m' ∧ ma.length ≤ 3 ∧ shortL ma := ⟨_, rfl, hm3, hsm⟩
      rw [← hla] at hst1
      rw [← hla]
      rw [← hma] at hst2
      rw [← hma]
      refine o_done ?_
      refine s_inBlock ?_
      refine s_seq ?_
      have h3 := (h2.mono f1).mono f2
      refine o_enter rfl ?_
      iterate 3 refine o_move rfl .free rfl ?_
      refine o_call rfl .free rfl (g_l91Normal h3 hl1 b _ (by omega) _) ?_
      rintro _ J9 _ e9 ⟨s, p', rfl, hs, hp1, hp2, rfl⟩
      iterate 3 refine o_assign rfl .free rfl ?_
      refine o_done ?_
      refine s_ret (.tmp rfl (.tmp rfl (.tmp rfl .nil))) ?_
      exact ⟨J9, L, (((e1.trans hle).trans f1).trans f2).trans e9, fun _ h => h.drop, _, la, _, _, ma, _, s, rfl, hst1.mono e9, hst2.mono e9, hlb, hmb, hlc, hmc, hs, rfl⟩
    intro c2
    try simp only [nb] at c2
    refine s_seq ?_
    refine o_enter rfl ?_
    refine o_cmp rfl rfl rfl .free rfl ?_
    refine o_assign rfl .free rfl ?_
    refine o_done ?_
    refine s_cond rfl ?_ ?_
    · intro c3
      try simp only [nb] at c3
      refine o_enter rfl ?_
      refine o_move rfl .free rfl ?_
      first | refine o_ixD rfl rfl 0 rfl .free rfl ?_ | refine o_ixP rfl rfl 0 rfl .free rfl ?_
      refine o_st rfl rfl rfl rfl .free ?_
      refine o_mem (L' := bufOwn 9 ((jOdd :: m').map sv) (some (bq, sq)) ++ (rd b oa1 l1 cr _ :: (bufOwn 9 ((x1 :: l').map sv) (some (bb, sb)) ++ L))) (fun w h => h.f1) ?_
      refine o_freezeStrs (l := jOdd :: m') hD rfl (by simpa using (by unfold maxN; simp at hm3; omega : m'.length + 1 ≤ maxN)) ha2.maxN ?_
      intro K1 o2 k2 f1 hv2 hst2
      refine o_put (t := 7) rfl hv2 ?_
      refine o_mem (fun w h => Mem.u1 h) ?_
      refine o_freezeStrs hB rfl (by unfold maxN; omega) hsl.maxN ?_
      intro K2 o1 k1 f2 hv1 hst1
      refine o_put (t := 6) rfl hv1 ?_
      have hst2 := hst2.mono f2
      obtain ⟨la, hla, hlb, hlc⟩ : ∃ la : List Txt, la = x1 :: l' ∧ la.length ≤ 3 ∧ shortL la := ⟨_, rfl, hl3, hsl⟩
      obtain ⟨ma, hma, hmb, hmc⟩ : ∃ ma : List Txt, ma = jOdd :: m' ∧ ma.length ≤ 3 ∧ shortL ma := ⟨_, rfl, hm3, ha2⟩
      rw [← hla] at hst1
      rw [← hla]
      rw [← hma] at hst2
      rw [← hma]
      refine o_done ?_
      refine s_inBlock ?_
      refine s_seq ?_
      have h3 := (h2.mono f1).mono f2
      refine o_enter rfl ?_
      iterate 3 refine o_move rfl .free rfl ?_
      refine o_call rfl .free rfl (g_l91Normal h3 hl1 b _ (by omega) _) ?_
      rintro _ J9 _ e9 ⟨s, p', rfl, hs, hp1, hp2, rfl⟩
      iterate 3 refine o_assign rfl .free rfl ?_
      refine o_done ?_
      refine s_ret (.tmp rfl (.tmp rfl (.tmp rfl .nil))) ?_
      exact ⟨J9, L, (((e1.trans hle).trans f1).trans f2).trans e9, fun _ h => h.drop, _, la, _, _, ma, _, s, rfl, hst1.mono e9, hst2.mono e9, hlb, hmb, hlc, hmc, hs, rfl⟩
    intro c3
    try simp only [nb] at c3
    refine s_seq ?_
    refine s_mem (L' := bufOwn 9 ((y1 :: m').map sv) (some (bq, sq)) ++ (rd b oa1 l1 cr _ :: (bufOwn 9 ((x1 :: l').map sv) (some (bb, sb)) ++ L))) (fun w h => h.f1) ?_
    refine s_freezeStrs hD rfl (by unfold maxN; omega) hsm.maxN ?_
    intro K1 o2 k2 f1 hv2 hst2
    refine s_put (t := 7) rfl hv2 ?_
    refine s_mem (fun w h => Mem.u1 h) ?_
    refine s_freezeStrs hB rfl (by unfold maxN; omega) hsl.maxN ?_
    intro K2 o1 k1 f2 hv1 hst1
    refine s_put (t := 6) rfl hv1 ?_
    have hst2 := hst2.mono f2
    obtain ⟨ma, hma, hmb, hmc⟩ : ∃ ma : List Txt, ma = y1 :: m' ∧ ma.length ≤ 3 ∧ shortL ma := ⟨_, rfl, hm3, hsm⟩
    rw [← hma] at hst2
    rw [← hma]
    refine o_enter rfl ?_
    refine o_cmp rfl rfl rfl .free rfl ?_
    refine o_assign rfl .free rfl ?_
    refine o_done ?_
    refine s_cond rfl ?_ ?_
    · intro c4
      try simp only [nb] at c4
      have hcap := hst1.cap
      have hst1 := hst1.drop 1 (by simp)
      obtain ⟨la, hla, hlb, hlc⟩ : ∃ la : List Txt, la = (x1 :: l').drop 1 ∧ la.length ≤ 3 ∧ shortL la := ⟨_, rfl, by simp at hl3 ⊢; omega, fun s hs => hsl s (List.mem_of_mem_drop hs)⟩
      rw [← hla] at hst1
      refine o_enter rfl ?_
      refine o_move rfl .free rfl ?_
      refine o_slice_slice rfl rfl rfl 1 (x1 :: l').length rfl rfl ⟨by simp, hcap⟩ .free rfl ?_
      refine o_put (t := 48) rfl (show _ = Value.slice (if k1 = 1 then o1 else o1.map (·.add (1 * 1))) la.length (k1 - 1) by rw [hla]; rfl) ?_
      refine o_assign rfl .free rfl ?_
      refine o_done ?_
      refine s_inBlock ?_
      refine s_seq ?_
      have h3 := (h2.mono f1).mono f2
      refine o_enter rfl ?_
      iterate 3 refine o_move rfl .free rfl ?_
      refine o_call rfl .free rfl (g_l91Normal h3 hl1 b _ (by omega) _) ?_
      rintro _ J9 _ e9 ⟨s, p', rfl, hs, hp1, hp2, rfl⟩
      iterate 3 refine o_assign rfl .free rfl ?_
      refine o_done ?_
      refine s_ret (.tmp rfl (.tmp rfl (.tmp rfl .nil))) ?_
      exact ⟨J9, L, (((e1.trans hle).trans f1).trans f2).trans e9, fun _ h => h.drop, _, la, _, _, ma, _, s, rfl, hst1.mono e9, hst2.mono e9, hlb, hmb, hlc, hmc, hs, rfl⟩
    intro c4
    try simp only [nb] at c4
    obtain ⟨la, hla, hlb, hlc⟩ : ∃ la : List Txt, la = x1 :: l' ∧ la.length ≤ 3 ∧ shortL la := ⟨_, rfl, hl3, hsl⟩
    rw [← hla] at hst1
    rw [← hla]
    refine s_skip ?_
    refine s_inBlock ?_
    refine s_seq ?_
    have h3 := (h2.mono f1).mono f2
    refine o_enter rfl ?_
    iterate 3 refine o_move rfl .free rfl ?_
    refine o_call rfl .free rfl (g_l91Normal h3 hl1 b _ (by omega) _) ?_
    rintro _ J9 _ e9 ⟨s, p', rfl, hs, hp1, hp2, rfl⟩
    iterate 3 refine o_assign rfl .free rfl ?_
    refine o_done ?_
    refine s_ret (.tmp rfl (.tmp rfl (.tmp rfl .nil))) ?_
    exact ⟨J9, L, (((e1.trans hle).trans f1).trans f2).trans e9, fun _ h => h.drop, _, la, _, _, ma, _, s, rfl, hst1.mono e9, hst2.mono e9, hlb, hmb, hlc, hmc, hs, rfl⟩
  intro c1
  try simp only [nb] at c1
  refine s_mem (fun w h => Mem.u1 h) (s_freezeStrs hD rfl (by unfold maxN; omega) hsm.maxN ?_)
  intro K1 o2 k2 f1 hv2 hst2
  refine s_put (t := 7) rfl hv2 ?_
  refine s_mem (fun w h => Mem.u1 h) (s_freezeStrs hB rfl (by unfold maxN; omega) hsl.maxN ?_)
  intro K2 o1 k1 f2 hv1 hst1
  refine s_put (t := 6) rfl hv1 ?_
  have hst2 := hst2.mono f2
  obtain ⟨la, hla, hlb, hlc⟩ : ∃ la : List Txt, la = l ∧ la.length ≤ 3 ∧ shortL la := ⟨l, rfl, hl3, hsl⟩
  obtain ⟨ma, hma, hmb, hmc⟩ : ∃ ma : List Txt, ma = m ∧ ma.length ≤ 3 ∧ shortL ma := ⟨m, rfl, hm3, hsm⟩
  rw [← hla] at hst1
  rw [← hla]
  rw [← hma] at hst2
  rw [← hma]
  refine s_skip ?_
  refine s_seq ?_
  have h3 := (h2.mono f1).mono f2
  refine o_enter rfl ?_
  iterate 3 refine o_move rfl .free rfl ?_
  refine o_call rfl .free rfl (g_l91Normal h3 hl1 b _ (by omega) _) ?_
  rintro _ J9 _ e9 ⟨s, p', rfl, hs, hp1, hp2, rfl⟩
  iterate 3 refine o_assign rfl .free rfl ?_
  refine o_done ?_
  refine s_ret (.tmp rfl (.tmp rfl (.tmp rfl .nil))) ?_
  exact ⟨J9, L, (((e1.trans hle).trans f1).trans f2).trans e9, fun _ h => h.drop, _, la, _, _, ma, _, s, rfl, hst1.mono e9, hst2.mono e9, hlb, hmb, hlc, hmc, hs, rfl⟩
end Go.Proofs.YtdnmhgiaebbppaaGreat


/- Bindings counted; the names at the beginning. No conditions. -/
namespace Go.Proofs.YtdnmhgiaebbppaaGreat
set_option maxRecDepth 100000
set_option linter.unusedVariables false
set_option linter.unusedSimpArgs false

def Ex.one : Ex → Nat
  | .lt _ _ _ => 1
  | _ => 0
/-- How many 'let'. -/
def Ex.nl : Ex → Nat
  | .num _ => 0
  | .name _ => 0
  | .bin _ a b => a.nl + b.nl
  | .ite a b c => a.nl + b.nl + c.nl
  | .lt _ a b => 1 + a.nl + b.nl
  | .fn _ _ _ _ b => b.nl
  | .un _ a => a.nl
mutual
def Tree.nl : Tree → Nat
  | .node _ ps => (if (match ps with | [] => [] | p :: _ => p.atom) = tLet then 1 else 0) + nlL ps
def nlL : List Tree → Nat
  | [] => 0
  | t :: ts => t.nl + nlL ts
end
mutual
theorem Tree.nl_len : ∀ t : Tree, t.nl ≤ t.len
  | .node a [] => by simp [Tree.nl, nlL, tLet]
  | .node a (p :: ps) => by
    have h1 := nlL_len (p :: ps)
    simp only [Tree.nl, Tree.len, List.isEmpty_cons, cond_false]
    split <;> omega
theorem nlL_len : ∀ ts : List Tree, nlL ts ≤ lenL ts
  | [] => Nat.le_refl _
  | t :: ts => by have h1 := t.nl_len; have h2 := nlL_len ts; simp only [nlL, lenL]; omega
end
/-- The names of the 'let' at the beginning, and what they stand ahead of. -/
def Ex.path : Ex → List Txt
  | .lt x _ b => x :: b.path
  | _ => []
def Ex.last : Ex → Ex
  | .lt _ _ b => b.last
  | e => e
def netsOf (s : Txt) : Int := match normOf true s with
  | some e => (e.nl : Nat)
  | none => -1
def pathOf (s : Txt) : Option (List Txt × Txt) := (normOf true s).map fun e => (e.path, e.last.tree.text)
theorem pathOf_none {s : Txt} (h : normOf true s = none) : pathOf s = none := by unfold pathOf; rw [h]; rfl
theorem pathOf_some {s : Txt} {e : Ex} (h : normOf true s = some e) : pathOf s = some (e.path, e.last.tree.text) := by unfold pathOf; rw [h]; rfl
theorem path_end {e : Ex} (h : ¬ e.tree.head = tLet) : e.path = [] ∧ e.last = e := by
  cases e <;> first | exact ⟨rfl, rfl⟩ | exact absurd rfl h
theorem Ex.path_size : ∀ e : Ex, 3 * e.path.length + e.last.size ≤ e.size
  | .num _ => by simp [Ex.path, Ex.last]
  | .name _ => by simp [Ex.path, Ex.last]
  | .bin _ _ _ => by simp [Ex.path, Ex.last]
  | .ite _ _ _ => by simp [Ex.path, Ex.last]
  | .fn _ _ _ _ _ => by simp [Ex.path, Ex.last]
  | .un _ _ => by simp [Ex.path, Ex.last]
  | .lt x a b => by
    have h := b.path_size
    have : 1 ≤ a.size := by cases a <;> simp [Ex.size] <;> omega
    simp only [Ex.path, Ex.last, Ex.size, List.length_cons]; omega
theorem Ex.last_fine : ∀ {e : Ex}, e.fine = true → e.last.fine = true
  | .num _, h => h
  | .name _, h => h
  | .bin _ _ _, h => h
  | .ite _ _ _, h => h
  | .fn _ _ _ _ _, h => h
  | .un _ _, h => h
  | .lt x a b, h => Ex.last_fine (e := b) (sub_fine (e := .lt x a b) (.tail _ (.head _)) h).1
theorem Ex.path_names : ∀ {e : Ex}, e.ok = true → ∀ s ∈ e.path, isName s = true
  | .num _, h, s, hs => by cases hs
  | .name _, h, s, hs => by cases hs
  | .bin _ _ _, h, s, hs => by cases hs
  | .ite _ _ _, h, s, hs => by cases hs
  | .fn _ _ _ _ _, h, s, hs => by cases hs
  | .un _ _, h, s, hs => by cases hs
  | .lt x a b, h, s, hs => by
    simp only [Ex.ok, Bool.and_eq_true] at h
    rcases List.mem_cons.1 hs with rfl | hs
    · exact h.1.1
    · exact Ex.path_names h.2 s hs
theorem path_lets : ∀ (l : Bds) (e : Ex), (lets l e).path = l.map (·.1) ++ e.path ∧ (lets l e).last = e.last
  | [], e => ⟨rfl, rfl⟩
  | (x, a) :: l, e => by have := path_lets l e; simp only [lets, Ex.path, Ex.last, List.map_cons, List.cons_append, this.1, this.2, and_self]
end Go.Proofs.YtdnmhgiaebbppaaGreat


/- What the statements say of closed expressions, of parts and of prints. No conditions. -/
namespace Go.Proofs.YtdnmhgiaebbppaaGreat
set_option maxRecDepth 100000
set_option linter.unusedVariables false
set_option linter.unusedSimpArgs false

end Go.Proofs.YtdnmhgiaebbppaaGreat


/- Parts, sizes and heads of expressions, by the program and by the reference. No conditions. -/
namespace Go.Proofs.YtdnmhgiaebbppaaGreat
set_option maxRecDepth 100000
set_option linter.unusedVariables false
set_option linter.unusedSimpArgs false

/-- What a loop over the kids has gathered. -/
structure GK where
  i : Nat
  B : Buf
  c : Nat
def Ex.ks (e : Ex) : List Txt := e.sub.map fun a => a.tree.text
/-- How far a count has come. -/
structure GM where
  i : Nat
  J : Heap
theorem x_sameTexts {I : Heap} {oa ob : Option Addr} {l m : List Txt} {c c' : Nat} (h : Strs I oa l c) (h' : Strs I ob m c') (L : Own) :
    Fun Tryz.prog 8 [.slice oa l.length c, .slice ob m.length c'] I L (Only (.bool (decide (l = m))) I L) := by
  have hlen := h.len
  have hlen' := h'.len
  unfold maxN at hlen hlen'
  refine fun_intro (by simp) ?_
  refine s_seq ?_
  refine o_enter rfl ?_
  refine o_assign rfl .free rfl ?_
  refine o_done ?_
  refine s_seq ?_
  refine s_seq ?_
  refine o_enter rfl ?_
  refine o_move rfl .free rfl ?_
  refine o_len_slice rfl .free rfl ?_
  refine o_move rfl .free rfl ?_
  refine o_len_slice rfl .free rfl ?_
  refine o_cmp rfl rfl rfl .free rfl ?_
  refine o_done ?_
  refine s_cond rfl ?_ ?_
  · intro c0
    try simp only [nb] at c0
    refine s_seq ?_
    refine o_enter rfl ?_
    refine o_assign rfl .free rfl ?_
    refine o_done ?_
    refine s_ret (.tmp rfl .nil) ?_
    refine only rfl ?_
    have : l ≠ m := by rintro rfl; exact c0 rfl
    simp [retOne, this]
  intro c0
  try simp only [nb] at c0
  refine s_skip ?_
  refine s_seq ?_
  refine s_seq ?_
  refine o_enter rfl ?_
  refine o_assign rfl .free rfl ?_
  refine o_done ?_
  refine s_block ?_
  refine s_while (X := Nat) (fun i => l.length - i) (fun i => [(0, .slice oa l.length c), (1, .slice ob m.length c'), (5, .int .i64 (i : Nat))]) (fun _ => I) (fun _ => L) (fun i => i ≤ l.length ∧ l.take i = m.take i) 0 ⟨Nat.zero_le _, by simp⟩ ⟨rfl, rfl, rfl, trivial⟩ (fun _ h => h) ?_
  rintro i ⟨hi, hs⟩ ih
  have hlm : l.length = m.length := by omega
  refine s_seq ?_
  refine s_seq ?_
  refine o_enter rfl ?_
  refine o_move rfl .free rfl ?_
  refine o_move rfl .free rfl ?_
  refine o_len_slice rfl .free rfl ?_
  refine o_cmp rfl rfl rfl .free rfl ?_
  refine o_done ?_
  refine s_cond rfl ?_ ?_
  · intro c1
    try simp only [nb] at c1
    have hi1 : i < l.length := by omega
    have hi2 : i < m.length := by omega
    have hst1 := h.st i hi1
    have hst2 := h'.st i hi2
    refine s_skip ?_
    refine s_seq ?_
    refine s_block ?_
    refine s_seq ?_
    refine d_all 9 rfl rfl ?_
    refine d_takeA 0 rfl (by kernel_rfl) rfl (.inr heldx) (y_move rfl) .free rfl ?_
    refine d_takeA 1 rfl (by kernel_rfl) rfl (.inr heldx) (y_move rfl) .free rfl ?_
    first | refine d_takeA 2 rfl (by kernel_rfl) rfl (.inr heldx) (y_ixD rfl rfl _ rfl) .free rfl ?_ | refine d_takeA 2 rfl (by kernel_rfl) rfl (.inr heldx) (y_ixP rfl rfl _ rfl) .free rfl ?_
    refine d_take 3 [9] rfl (by kernel_rfl) rfl heldx (y_lI1 rfl) .free rfl ?_
    refine d_takeA 4 rfl (by kernel_rfl) rfl (.inr heldx) (y_move rfl) .free rfl ?_
    refine d_takeA 5 rfl (by kernel_rfl) rfl (.inr heldx) (y_move rfl) .free rfl ?_
    first | refine d_takeA 6 rfl (by kernel_rfl) rfl (.inr heldx) (y_ixD rfl rfl _ rfl) .free rfl ?_ | refine d_takeA 6 rfl (by kernel_rfl) rfl (.inr heldx) (y_ixP rfl rfl _ rfl) .free rfl ?_
    refine d_take 7 [9] rfl (by kernel_rfl) rfl heldx (y_lI1 rfl) .free rfl ?_
    refine d_takeA 8 rfl (by kernel_rfl) rfl (.inr heldx) (y_cmps rfl rfl rfl) .free rfl ?_
    refine d_done (by kernel_rfl) ?_
    refine s_cond rfl ?_ ?_
    · intro c2
      try simp only [nb] at c2
      refine s_seq ?_
      refine o_enter rfl ?_
      refine o_assign rfl .free rfl ?_
      refine o_done ?_
      refine s_ret (.tmp rfl .nil) ?_
      refine only rfl ?_
      have : l ≠ m := by rintro rfl; exact c2 rfl
      simp [retOne, this]
    intro c2
    try simp only [nb] at c2
    refine s_skip ?_
    refine s_inBlock ?_
    refine o_enter rfl ?_
    refine o_move rfl .free rfl ?_
    refine o_arith rfl rfl rfl (by omega) .free rfl ?_
    refine o_assign rfl .free rfl ?_
    refine o_done ?_
    refine s_env (E' := [(0, .slice oa l.length c), (1, .slice ob m.length c'), (5, .int .i64 ((i + 1 : Nat)))]) ⟨rfl, rfl, rfl, trivial⟩ (ih (i + 1) ⟨by omega, ?_⟩ (by omega))
    have hx : l[i] = m[i] := by simpa [hi1, hi2] using c2
    rw [List.take_succ_eq_append_getElem hi1, List.take_succ_eq_append_getElem hi2, hs, hx]
  intro c1
  try simp only [nb] at c1
  refine s_exit rfl ?_
  refine s_seq ?_
  refine o_enter rfl ?_
  refine o_assign rfl .free rfl ?_
  refine o_done ?_
  refine s_ret (.tmp rfl .nil) ?_
  refine only rfl ?_
  have : l = m := by
    have h1 : i = l.length := by omega
    rw [List.take_of_length_le (by omega), List.take_of_length_le (by omega)] at hs
    exact hs
  simp [retOne, this]
end Go.Proofs.YtdnmhgiaebbppaaGreat


/- Simple and normal expressions, bindings counted, paths. No conditions. -/
namespace Go.Proofs.YtdnmhgiaebbppaaGreat
set_option maxRecDepth 100000
set_option linter.unusedVariables false
set_option linter.unusedSimpArgs false

theorem exNorm_some {b : Bool} {s : Txt} {e : Ex} (h : exOf s = some e) : exNorm b s = e.norm b := by
  unfold exNorm normOf; rw [h]; cases hn : e.norm b <;> simp [hn]
theorem exNorm_none {b : Bool} {s : Txt} (h : exOf s = none) : exNorm b s = false := by unfold exNorm normOf; rw [h]; rfl
theorem f_NormalIs (s : Txt) (hs : s.length ≤ maxN) (I : Heap) (L : Own) : Fun Tryz.prog 9 [.string (str s)] I L (fun v I' L' => v = .bool (exNorm true s) ∧ L = L') := by
  refine fun_intro (by simp) ?_
  refine s_seq ?_
  refine o_enter rfl ?_
  refine o_assign rfl .free rfl ?_
  refine o_done ?_
  refine s_seq ?_
  refine o_enter rfl ?_
  refine o_move rfl .free rfl ?_
  refine o_call rfl .free rfl (f_readExpr s hs _ _) ?_
  rintro _ J _ hleJ ⟨t, cs, ok, rfl, hrep, rfl, hpf⟩
  obtain ⟨oc, cc, _, rfl, -⟩ := hrep.open
  have g1 := RX_get hpf
  refine o_move rfl .free rfl ?_
  refine o_extract rfl rfl .free rfl ?_
  refine o_extract rfl rfl .free rfl ?_
  refine o_alloc .free rfl ?_
  intro b3
  refine o_st rfl rfl rfl rfl .free ?_
  refine o_assign rfl .free rfl ?_
  refine o_done ?_
  refine s_seq ?_
  refine o_enter rfl ?_
  refine o_move rfl .free rfl ?_
  refine o_move rfl .free rfl ?_
  first | refine g_if rfl rfl ?_ ?_ | refine g_ifn rfl rfl ?_ ?_ | refine g_b rfl rfl ?_ ?_
  · intro g2_2
    obtain ⟨e, he, rfl⟩ := g1.2 g2_2
    refine o_lOS rfl (.met rfl rfl) rfl ?_
    refine o_call rfl (.met rfl rfl) rfl (f_form_isNormal hrep (exOf_is he).2.1 _) ?_
    rintro _ _ _ _ ⟨rfl, rfl, rfl⟩
    refine o_pick_true rfl rfl .free rfl ?_
    refine o_assign rfl .free rfl ?_
    refine o_done ?_
    refine s_ret (.tmp rfl .nil) ?_
    refine ⟨J, L, hleJ, drops, ?_, rfl⟩
    first
      | (rw [exNorm_some he]; rfl)
      | (rw [exNorm_none (g1.1 (by simpa using g2_2))]; rfl)
  intro g2_2
  refine o_skip rfl rfl rfl ?_
  refine o_skip rfl rfl rfl ?_
  refine o_pick_false rfl rfl .free rfl ?_
  refine o_assign rfl .free rfl ?_
  refine o_done ?_
  refine s_ret (.tmp rfl .nil) ?_
  refine ⟨J, L, hleJ, drops, ?_, rfl⟩
  first
    | (rw [exNorm_some he]; rfl)
    | (rw [exNorm_none (g1.1 (by simpa using g2_2))]; rfl)
end Go.Proofs.YtdnmhgiaebbppaaGreat


/- 'NormalPath', by the program and by the reference. No conditions. -/
namespace Go.Proofs.YtdnmhgiaebbppaaGreat
set_option maxRecDepth 100000
set_option linter.unusedVariables false
set_option linter.unusedSimpArgs false

def PO (o : Option (List Txt × Txt)) (L : Own) : Post := fun v I' L' => ∃ oa c, v = .tuple #[.slice oa (o.getD ([], [])).1.length c, .string (str (o.getD ([], [])).2), .bool o.isSome] ∧ Strs I' oa (o.getD ([], [])).1 c ∧ L = L'
/-- How far a walk over the bindings has come. -/
structure GPa where
  e : Ex
  l : List Txt
  B : Buf
  c : Nat
  oa : Option Addr
  k : Nat
def GPa.is (e0 : Ex) (J : Heap) (x : GPa) : Prop := e0.path = x.l ++ x.e.path ∧ e0.last = x.e.last ∧ x.e.ok = true ∧ BufOk 1 x.l.length x.c (x.l.map sv) x.B ∧ Rep J x.e.tree [.string (str x.e.tree.atom), .slice x.oa x.e.tree.parts.length x.k]
theorem f_NormalPath (s : Txt) (hs : s.length ≤ maxN) (I : Heap) (L : Own) : Fun Tryz.prog 7 [.string (str s)] I L (PO (pathOf s) L) := by
  refine fun_intro (by simp) ?_
  refine s_seq ?_
  refine o_enter rfl ?_
  iterate 3 refine o_assign rfl .free rfl ?_
  refine o_done ?_
  refine s_seq ?_
  refine o_enter rfl ?_
  refine o_move rfl .free rfl ?_
  refine o_call rfl .free rfl (f_readNormal s hs _ _) ?_
  rintro _ J _ hleJ ⟨t, cs, ok, rfl, hrep, rfl, hpf⟩
  obtain ⟨oc, cc, _, rfl, -⟩ := hrep.open
  have g1 := RX_get hpf
  refine o_move rfl .free rfl ?_
  refine o_extract rfl rfl .free rfl ?_
  refine o_extract rfl rfl .free rfl ?_
  refine o_alloc .free rfl ?_
  intro b5
  refine o_st rfl rfl rfl rfl .free ?_
  refine o_assign rfl .free rfl ?_
  refine o_done ?_
  refine s_seq ?_
  refine s_seq ?_
  refine o_enter rfl ?_
  refine o_move rfl .free rfl ?_
  refine o_not rfl .free rfl ?_
  refine o_done ?_
  refine s_cond rfl ?_ ?_
  · intro c0
    try simp only [nb] at c0
    refine s_seq ?_
    refine o_enter rfl ?_
    iterate 3 refine o_assign rfl .free rfl ?_
    refine o_done ?_
    refine s_ret (.tmp rfl (.tmp rfl (.tmp rfl .nil))) ?_
    exact ⟨J, L, hleJ, drops, none, 0, by rw [pathOf_none (g1.1 (by simpa using c0))]; rfl, by rw [pathOf_none (g1.1 (by simpa using c0))]; exact strs_nil _, rfl⟩
  intro c0
  try simp only [nb] at c0
  obtain ⟨e, he, rfl⟩ := g1.2 (by simpa using c0)
  have hx := normOf_some he
  have hsz := (exOf_is hx.1).2.2.1
  have hpz := e.path_size
  have hpn := Ex.path_names hx.2.2.1
  have hll : e.last.tree.len ≤ 12000 := by
    have := Ex.last_fine (exOf_is hx.1).1
    simp only [Ex.fine, Bool.and_eq_true, decide_eq_true_eq, Tree.fits] at this; exact this.2.2
  refine s_skip ?_
  refine s_seq ?_
  refine o_enter rfl ?_
  refine o_assign rfl .free rfl ?_
  refine o_done ?_
  refine s_seq ?_
  refine s_block ?_
  refine s_while (X := GPa) (fun x => x.e.size) (fun x => [(5, .pointer (some ⟨b5, 0, none⟩)), (7, bufVal x.l.length x.c x.B)]) (fun _ => J) (fun x => (b5, .cells [.string (str x.e.tree.atom), .slice x.oa x.e.tree.parts.length x.k].toArray 40 (0, 0)) :: (bufOwn 9 (x.l.map sv) x.B ++ L)) (GPa.is e J) ⟨e, [], none, 0, oc, cc⟩ ⟨rfl, rfl, hx.2.2.1, ⟨rfl, rfl, rfl⟩, hrep⟩ ⟨rfl, rfl, trivial⟩ (fun _ h => h) ?_
  rintro ⟨e1, l, B, c, oe, ke⟩ ⟨hp, hl, hok, hB, hr⟩ ih
  simp only at hp hl hok hB hr ih ⊢
  obtain ⟨oz, cz, oaf, cf, hez, hf⟩ := hr.at'
  simp only [List.cons.injEq, Value.slice.injEq, and_true, true_and] at hez
  obtain ⟨rfl, rfl⟩ := hez
  refine s_seq ?_
  refine s_seq ?_
  refine o_enter rfl ?_
  refine o_lOS rfl .free rfl ?_
  refine o_call rfl .free rfl (f_form_head hf.rep _) ?_
  rintro _ _ _ _ ⟨rfl, rfl, rfl⟩
  refine o_cmps rfl rfl rfl .free rfl ?_
  refine o_done ?_
  refine s_cond rfl ?_ ?_
  · intro c1
    try simp only [nb] at c1
    obtain ⟨x, a, b, rfl⟩ := Ex.of_let c1
    have hlen : (Ex.lt x a b).tree.parts.length = 4 := rfl
    simp only [Ex.ok, Bool.and_eq_true] at hok
    have hxl := Ex.name_len hok.1.1
    have hlz : l.length ≤ e.path.length := by rw [hp]; simp
    refine s_skip ?_
    refine s_block ?_
    refine s_seq ?_
    refine o_enter rfl ?_
    refine o_move rfl .free rfl ?_
    refine o_fieldAddr rfl .free rfl ?_
    refine o_lO1 rfl .free rfl ?_
    first | refine o_ixD rfl rfl 1 rfl .free rfl ?_ | refine o_ixP rfl rfl 1 rfl .free rfl ?_
    refine o_fieldAddr' rfl .free rfl ?_
    refine o_lIF rfl .free rfl ?_
    refine o_lits rfl rfl (by rfl) (by rfl) (by rfl) (by decide) (by decide) (by rfl) .free rfl ?_
    intro b24
    refine o_append (B := B) (xs := l.map sv) (ys := [sv x]) (m := l.length) (c := c) (by intro kk; simp) (by rfl) rfl rfl hB (fun _ h => h.u2) (by rfl) (fun a ha => by cases ha; exact reads_ownL (.head _) (by rfl)) (by simp) (by rfl) (by decide) (by decide) (by omega) (by decide) .free rfl ?_
    intro bb sp c2 hB'
    refine o_assign rfl .free rfl ?_
    refine o_done ?_
    refine o_enter rfl ?_
    refine o_fieldAddr rfl .free rfl ?_
    refine o_lO1 rfl .free rfl ?_
    first | refine o_ixD rfl rfl 3 rfl .free rfl ?_ | refine o_ixP rfl rfl 3 rfl .free rfl ?_
    refine o_lIS rfl .free rfl ?_
    refine o_st rfl rfl rfl rfl .free ?_
    refine o_done ?_
    refine s_inBlock ?_
    refine s_env (E' := [(5, .pointer (some ⟨b5, 0, none⟩)), (7, bufVal (l ++ [x]).length c2 (some (bb, sp)))]) ⟨rfl, by simp [bufVal]; rfl, trivial⟩ (s_mem (fun w hw => ?_) (ih ⟨b, l ++ [x], some (bb, sp), c2, oaf 3, cf 3⟩ ⟨by simp only; rw [hp]; simp [Ex.path], by simp only; rw [hl]; rfl, hok.2, by simpa using hB', hf.rp 3 (by omega)⟩ (by simp only [Ex.size]; omega)))
    have h2 := (Mem.sub (L' := (bb, _) :: (b5, _) :: L) (by repeat (first | exact List.Sublist.refl _ | apply List.Sublist.cons_cons | apply List.Sublist.cons)) hw).f1
    simp only [bufOwn, List.map_append, List.map_cons, List.map_nil, List.cons_append, List.nil_append]
    exact h2
  intro c1
  try simp only [nb] at c1
  obtain ⟨hpe, hle2⟩ := path_end c1
  rw [hpe, List.append_nil] at hp
  rw [hle2] at hl
  refine s_exit rfl ?_
  refine s_seq ?_
  refine s_mem (fun w h => h.u1) (s_freezeStrs hB rfl (by rw [← hp]; unfold maxN; omega) (by rw [← hp]; exact names_strs hpn) ?_)
  intro J3 oz cz ez hbv hst
  refine s_put (t := 7) rfl hbv ?_
  have hf := hf.mono ez
  refine o_enter rfl ?_
  refine o_move rfl .free rfl ?_
  refine o_lOS rfl .free rfl ?_
  refine o_call rfl .free rfl (f_form_text hf.rep (by rw [← hl, Tree.text_len]; unfold maxN; omega) _) ?_
  rintro _ _ _ _ ⟨rfl, rfl, rfl⟩
  iterate 3 refine o_assign rfl .free rfl ?_
  refine o_done ?_
  refine s_ret (.tmp rfl (.tmp rfl (.tmp rfl .nil))) ?_
  refine ⟨J3, L, hleJ.trans ez, drops, oz, cz, ?_, ?_, rfl⟩
  · rw [pathOf_some he, hp, hl]; rfl
  · rw [pathOf_some he]; show Strs J3 oz e.path cz; rw [hp]; exact hst
end Go.Proofs.YtdnmhgiaebbppaaGreat
