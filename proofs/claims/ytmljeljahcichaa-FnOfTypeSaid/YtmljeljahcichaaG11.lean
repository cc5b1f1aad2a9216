/- Types as they are drawn. No conditions. -/
import Derived.Test.YtmljeljahcichaaG10
namespace Go.Proofs.Ytmljeljahcichaa
set_option maxRecDepth 100000
set_option linter.unusedVariables false
set_option linter.unusedSimpArgs false

/-- A drawn text: its length is bounded, and so is how far the reader goes. -/
def DT (b : Nat) (oa : Option Addr) (l : List UInt8) (c p K B : Nat) (L : Own) : Post := fun v I' L' => ∃ s p', v = .string (str s) ∧ List.length s ≤ B ∧ p ≤ p' ∧ p' ≤ p + K ∧ L' = rd b oa l c p' :: L
def kT : Nat → Nat
  | 0 => 0
  | d + 1 => 2 + 2 * kT d
def bT : Nat → Nat
  | 0 => 1
  | d + 1 => 5 + 2 * bT d
theorem bT_pos : ∀ d, 1 ≤ bT d
  | 0 => Nat.le_refl _
  | d + 1 => by simp only [bT]; omega
theorem g_l91Type : ∀ (d : Nat) {I : Heap} {oa : Option Addr} {l : List UInt8} {c : Nat} (_ : Bytes I oa l c) (_ : l.length ≤ 2000) (b p : Nat) (_ : p + kT d ≤ 1099511627776) (_ : bT d ≤ 1000000) (_ : d ≤ 1000) (L : Own),
    Fun Try.prog 27 [.pointer (some ⟨b, 0, none⟩), .int .i64 (d : Nat)] I (rd b oa l c p :: L) (DT b oa l c p (kT d) (bT d) L) := by
  intro d
  induction d with
  | zero =>
    intro I oa l c h hl b p hp hb hd L
    refine fun_intro (by simp) ?_
    refine s_seq ?_
    refine o_enter rfl ?_
    refine o_assign rfl .free rfl ?_
    refine o_done ?_
    refine s_seq ?_
    refine s_seq ?_
    refine o_enter rfl ?_
    refine o_move rfl .free rfl ?_
    refine o_cmp rfl rfl rfl .free rfl ?_
    refine o_move rfl .free rfl ?_
    first | refine g_tp rfl rfl (by simp) ?_ | refine g_tn rfl rfl (by simp) ?_
    iterate 3 refine o_skip rfl rfl rfl ?_
    refine o_pick_true rfl rfl .free rfl ?_
    refine o_done ?_
    refine s_true rfl ?_
    refine s_seq ?_
    refine o_enter rfl ?_
    refine o_assign rfl .free rfl ?_
    refine o_done ?_
    refine s_ret (.tmp rfl .nil) ?_
    exact ⟨I, _, .refl _, fun _ h => h, [105], p, rfl, by decide, Nat.le_refl _, by omega, rfl⟩
  | succ d ihd =>
    intro I oa l c h hl b p hp hb hd L
    simp only [kT, bT] at hp hb ⊢
    have hbp := bT_pos d
    refine fun_intro (by simp) ?_
    refine s_seq ?_
    refine o_enter rfl ?_
    refine o_assign rfl .free rfl ?_
    refine o_done ?_
    refine s_seq ?_
    refine s_seq ?_
    refine o_enter rfl ?_
    refine o_move rfl .free rfl ?_
    refine o_cmp rfl rfl rfl .free rfl ?_
    refine o_move rfl .free rfl ?_
    first | refine g_fp rfl rfl (by omega) ?_ | refine g_fn rfl rfl (by omega) ?_
    refine o_move rfl (.met rfl rfl) rfl ?_
    refine o_call rfl (.met rfl rfl) rfl (g_l6Rd_pick h hl b p 2 (by omega) (by decide) L) ?_
    rintro _ _ _ _ ⟨r, rfl, rfl, rfl, hr⟩
    refine o_cmp rfl rfl rfl (.met rfl rfl) rfl ?_
    refine o_pick_false rfl rfl .free rfl ?_
    refine o_done ?_
    first | refine s_if rfl ?_ ?_ | refine s_ifn rfl ?_ ?_ | refine s_cond rfl ?_ ?_
    · intro c0
      refine s_seq ?_
      refine o_enter rfl ?_
      refine o_assign rfl .free rfl ?_
      refine o_done ?_
      refine s_ret (.tmp rfl .nil) ?_
      exact ⟨I, _, .refl _, fun _ h => h, [105], p + 1, rfl, by simp; omega, by omega, by omega, rfl⟩
    intro c0
    refine s_skip ?_
    refine s_seq ?_
    refine o_enter rfl ?_
    refine o_move rfl .free rfl ?_
    refine o_lits rfl rfl (by rfl) (by rfl) (by rfl) (by decide) (by decide) (by rfl) .free rfl ?_
    intro b13
    refine o_freezeLit [[62], [42]] (by decide) (by decide) ?_
    intro J e1 k1
    refine o_call rfl .free rfl (g_l6Rd_of (h.mono e1) hl b (p + 1) (by omega) k1 (by simp) L) ?_
    rintro _ _ _ _ ⟨s, rfl, hs, rfl, rfl⟩
    have hsl : s.length = 1 := by revert s; decide
    refine o_concat rfl rfl (by first | omega | (simp only [List.length_append, List.length_cons, List.length_nil]; omega) | (simp; omega)) .free rfl ?_
    refine o_concat rfl rfl (by first | omega | (simp only [List.length_append, List.length_cons, List.length_nil]; omega) | (simp; omega)) .free rfl ?_
    refine o_move rfl .free rfl ?_
    refine o_move rfl .free rfl ?_
    refine o_arith rfl rfl rfl (by omega) .free rfl ?_
    refine o_put (t := 19) (v' := .int .i64 (d : Nat)) rfl (by congr 1; omega) ?_
    refine o_call rfl .free rfl (ihd (h.mono e1) hl b (p + 1 + 1) (by omega) (by omega) (by omega) L) ?_
    rintro _ J2 _ e2 ⟨s1, p1, rfl, hs1, hp1, hp2, rfl⟩
    refine o_concat rfl rfl (by first | omega | (simp only [List.length_append, List.length_cons, List.length_nil]; omega) | (simp; omega)) .free rfl ?_
    refine o_concat rfl rfl (by first | omega | (simp only [List.length_append, List.length_cons, List.length_nil]; omega) | (simp; omega)) .free rfl ?_
    refine o_move rfl .free rfl ?_
    refine o_move rfl .free rfl ?_
    refine o_arith rfl rfl rfl (by omega) .free rfl ?_
    refine o_put (t := 25) (v' := .int .i64 (d : Nat)) rfl (by congr 1; omega) ?_
    refine o_call rfl .free rfl (ihd ((h.mono e1).mono e2) hl b p1 (by omega) (by omega) (by omega) L) ?_
    rintro _ J3 _ e3 ⟨s2, p2, rfl, hs2, hp3, hp4, rfl⟩
    refine o_concat rfl rfl (by first | omega | (simp only [List.length_append, List.length_cons, List.length_nil]; omega) | (simp; omega)) .free rfl ?_
    refine o_concat rfl rfl (by first | omega | (simp only [List.length_append, List.length_cons, List.length_nil]; omega) | (simp; omega)) .free rfl ?_
    refine o_assign rfl .free rfl ?_
    refine o_done ?_
    refine s_ret (.tmp rfl .nil) ?_
    exact ⟨J3, _, (e1.trans e2).trans e3, fun _ h => h, _, p2, rfl, by simp; omega, by omega, by omega, rfl⟩
theorem g_l91Typed {I : Heap} {oa : Option Addr} {l : List UInt8} {c : Nat} (h : Bytes I oa l c) (hl : l.length ≤ 2000) (b p : Nat) (hp : p + 100 ≤ 1099511627776) (L : Own) :
    Fun Try.prog 10 [.pointer (some ⟨b, 0, none⟩)] I (rd b oa l c p :: L) (DT b oa l c p 100 200 L) := by
  refine fun_intro (by simp) ?_
  refine s_seq ?_
  refine o_enter rfl ?_
  refine o_assign rfl .free rfl ?_
  refine o_done ?_
  refine s_seq ?_
  refine s_seq ?_
  refine o_enter rfl ?_
  refine o_move rfl .free rfl ?_
  refine o_call rfl .free rfl (g_l6Rd_pick h hl b p 16 (by omega) (by decide) L) ?_
  rintro _ _ _ _ ⟨r, rfl, rfl, rfl, hr⟩
  refine o_done ?_
  refine s_block ?_
  refine s_seq ?_
  refine o_enter rfl ?_
  refine o_cmp rfl rfl rfl .free rfl ?_
  refine o_assign rfl .free rfl ?_
  refine o_done ?_
  first | refine s_if rfl ?_ ?_ | refine s_ifn rfl ?_ ?_ | refine s_cond rfl ?_ ?_
  · intro c0
    refine s_seq ?_
    refine o_enter rfl ?_
    refine o_move rfl .free rfl ?_
    refine o_lits rfl rfl (by rfl) (by rfl) (by rfl) (by decide) (by decide) (by rfl) .free rfl ?_
    intro b8
    refine o_freezeLit [[], [120], [40, 62, 32, 105, 41], [40, 42, 32, 105, 32, 105, 32, 105, 41], [40, 43, 32, 105, 32, 105, 41], [40, 105, 32, 105, 32, 105, 41]] (by decide) (by decide) ?_
    intro J e1 k1
    refine o_call rfl .free rfl (g_l6Rd_of (h.mono e1) hl b (p + 1) (by omega) k1 (by simp) L) ?_
    rintro _ _ _ _ ⟨s, rfl, hs, rfl, rfl⟩
    refine o_assign rfl .free rfl ?_
    refine o_done ?_
    refine s_ret (.tmp rfl .nil) ?_
    exact ⟨J, _, e1, fun _ h => h, s, p + 1 + 1, rfl, by revert s; decide, by omega, by omega, rfl⟩
  intro c0
  refine s_seq ?_
  refine o_enter rfl ?_
  refine o_cmp rfl rfl rfl .free rfl ?_
  refine o_assign rfl .free rfl ?_
  refine o_done ?_
  first | refine s_if rfl ?_ ?_ | refine s_ifn rfl ?_ ?_ | refine s_cond rfl ?_ ?_
  · intro c1
    refine s_seq ?_
    refine o_enter rfl ?_
    refine o_move rfl .free rfl ?_
    refine o_call rfl .free rfl (g_l91Type 4 h hl b (p + 1) (by simp only [kT]; omega) (by decide) (by decide) L) ?_
    rintro _ J2 _ e2 ⟨s1, p1, rfl, hs1, hp1, hp2, rfl⟩
    simp only [kT, bT] at hs1 hp2
    refine o_concat rfl rfl (by first | omega | (simp only [List.length_append, List.length_cons, List.length_nil]; omega) | (simp; omega)) .free rfl ?_
    refine o_concat rfl rfl (by first | omega | (simp only [List.length_append, List.length_cons, List.length_nil]; omega) | (simp; omega)) .free rfl ?_
    refine o_move rfl .free rfl ?_
    refine o_call rfl .free rfl (g_l91Type 4 (h.mono e2) hl b p1 (by simp only [kT]; omega) (by decide) (by decide) L) ?_
    rintro _ J3 _ e3 ⟨s2, p2, rfl, hs2, hp3, hp4, rfl⟩
    simp only [kT, bT] at hs2 hp4
    refine o_concat rfl rfl (by first | omega | (simp only [List.length_append, List.length_cons, List.length_nil]; omega) | (simp; omega)) .free rfl ?_
    refine o_concat rfl rfl (by first | omega | (simp only [List.length_append, List.length_cons, List.length_nil]; omega) | (simp; omega)) .free rfl ?_
    refine o_assign rfl .free rfl ?_
    refine o_done ?_
    refine s_ret (.tmp rfl .nil) ?_
    exact ⟨J3, _, e2.trans e3, fun _ h => h, _, p2, rfl, by simp; omega, by omega, by omega, rfl⟩
  intro c1
  refine s_skip ?_
  refine s_inBlock ?_
  refine s_seq ?_
  refine o_enter rfl ?_
  refine o_move rfl .free rfl ?_
  refine o_call rfl .free rfl (g_l91Type 3 h hl b (p + 1) (by simp only [kT]; omega) (by decide) (by decide) L) ?_
  rintro _ J2 _ e2 ⟨s1, p1, rfl, hs1, hp1, hp2, rfl⟩
  simp only [kT, bT] at hs1 hp2
  refine o_assign rfl .free rfl ?_
  refine o_done ?_
  refine s_ret (.tmp rfl .nil) ?_
  exact ⟨J2, _, e2, fun _ h => h, s1, p1, rfl, by omega, by omega, by omega, rfl⟩
theorem g_DrawExprOf {I : Heap} {oa : Option Addr} {l : List UInt8} {c : Nat} (h : Bytes I oa l c) (L : Own) : Fun Try.prog 4 [.slice oa l.length c] I L (fun v I' L' => ∃ s, v = .string (str s) ∧ List.length s ≤ 200 ∧ L = L') := by
  refine fun_intro (by simp) ?_
  refine s_seq ?_
  refine o_enter rfl ?_
  refine o_assign rfl .free rfl ?_
  refine o_done ?_
  refine s_seq ?_
  refine o_enter rfl ?_
  refine o_move rfl .free rfl ?_
  refine o_call rfl .free rfl (g_l6Open h _) ?_
  rintro _ J1 _ e1 ⟨b, oa1, l1, c1, rfl, h1, hl1, rfl⟩
  refine o_call rfl .free rfl (g_l91Typed h1 hl1 b 0 (by decide) L) ?_
  rintro _ J2 _ e2 ⟨s, p', rfl, hs, hp1, hp2, rfl⟩
  refine o_assign rfl .free rfl ?_
  refine o_done ?_
  refine s_ret (.tmp rfl .nil) ?_
  exact ⟨J2, L, e1.trans e2, fun _ h => h.drop, s, rfl, hs, rfl⟩
end Go.Proofs.Ytmljeljahcichaa


/- Values and their prints. No conditions. -/
namespace Go.Proofs.Ytmljeljahcichaa
set_option maxRecDepth 100000
set_option linter.unusedVariables false
set_option linter.unusedSimpArgs false

def Ex.value : Ex → Bool
  | .num _ => true
  | .fn _ _ _ _ _ => true
  | .bin .pair a b => a.value && b.value
  | _ => false
def Ex.print : Ex → Tree
  | .bin .pair a b => .node [] [.node tPair [], a.print, b.print]
  | .fn _ _ _ _ _ => .node tFun []
  | e => e.tree
theorem Ex.print_len : ∀ e : Ex, e.print.len ≤ e.tree.len
  | .bin .pair a b => by
    have := a.print_len; have := b.print_len
    simp [Ex.print, Ex.tree, Tree.len, lenL, B5.txt]; omega
  | .bin .add a b => Nat.le_refl _
  | .bin .sub a b => Nat.le_refl _
  | .bin .mul a b => Nat.le_refl _
  | .bin .call a b => Nat.le_refl _
  | .fn f x s t b => by simp [Ex.print, Ex.tree, Tree.len, lenL]; omega
  | .num s => Nat.le_refl _
  | .name s => Nat.le_refl _
  | .ite a b c => Nat.le_refl _
  | .lt x a b => Nat.le_refl _
  | .un o a => Nat.le_refl _
theorem Ex.is_pair {e : Ex} (h : e.tree.is tPair 3 = true) : ∃ a b, e = .bin .pair a b := by
  simp only [Tree.is, Bool.and_eq_true, decide_eq_true_eq] at h
  exact Ex.of_bin (o := .pair) h.2
theorem Ex.not_pair {e : Ex} (h : e.tree.is tPair 3 = false) : ∀ a b, e ≠ .bin .pair a b := by
  rintro a b rfl; simp [Tree.is, Ex.tree, Tree.parts, Tree.head, Tree.atom, B5.txt] at h
theorem Ex.value_other {e : Ex} (hok : e.ok = true) (h : ∀ a b, e ≠ .bin .pair a b) : e.value = (decide (e.tree.head = tFun) || (e.tree.parts.isEmpty && isNum e.tree.atom)) := by
  cases e with
  | num s => have h1 : isNum s = true := hok; simp [Ex.value, Ex.tree, Tree.parts, Tree.atom, h1]
  | name s =>
    have h1 := name_not_num (show isName s = true from hok)
    simp only [Ex.tree, Tree.parts, Tree.atom, h1]; rfl
  | bin o a b => cases o <;> first | exact absurd rfl (h a b) | rfl
  | ite a b c => rfl
  | lt x a b => rfl
  | fn f x s t b => rfl
  | un o a => cases o <;> rfl

theorem f_form_isValue : ∀ (n : Nat) {I : Heap} {e : Ex} {cs : List Value} (_ : SizeOf.sizeOf e < n) (_ : Rep I e.tree cs) (_ : e.ok = true) (L : Own), Fun Try.prog 24 [.agg cs.toArray] I L (Only (.bool e.value) I L) := by
  intro n
  induction n with
  | zero => intro I e cs h; omega
  | succ n ihn =>
    intro I e cs hlt h hok L
    obtain ⟨oa, c, oaf, cf, rfl, hf⟩ := h.at'
    have ha := hf.alen
    refine fun_intro (by simp) ?_
    refine s_seq ?_
    refine o_enter rfl ?_
    refine o_box rfl rfl .free rfl ?_
    intro b1
    refine o_assign rfl .free rfl ?_
    refine o_done ?_
    refine s_seq ?_
    refine s_seq ?_
    refine o_enter rfl ?_
    refine o_lOS rfl .free rfl ?_
    refine o_call rfl .free rfl (f_form_is hf.rep _ 3 _) ?_
    rintro _ _ _ _ ⟨rfl, rfl, rfl⟩
    refine o_done ?_
    refine s_cond rfl ?_ ?_
    · intro c0
      try simp only [nb] at c0
      obtain ⟨a, b, rfl⟩ := Ex.is_pair c0
      simp only [Ex.ok, Bool.and_eq_true] at hok
      simp only [Ex.bin.sizeOf_spec] at hlt
      have hlen : (Ex.bin .pair a b).tree.parts.length = 3 := rfl
      refine s_seq ?_
      refine o_enter rfl ?_
      refine o_fieldAddr rfl .free rfl ?_
      refine o_lO1 rfl .free rfl ?_
      first | refine o_ixD rfl rfl 1 rfl .free rfl ?_ | refine o_ixP rfl rfl 1 rfl .free rfl ?_
      refine o_lIS rfl .free rfl ?_
      refine o_call rfl .free rfl (ihn (by omega) (hf.as 1 a.tree (by omega) rfl) hok.1 _) ?_
      rintro _ _ _ _ ⟨rfl, rfl, rfl⟩
      refine o_move rfl .free rfl ?_
      apply o_and 10 16 rfl
      · intro g2_6 hk
        try simp only [nb] at g2_6
        refine o_fieldAddr rfl (.met rfl rfl) rfl ?_
        refine o_lO1 rfl (.met rfl rfl) rfl ?_
        first | refine o_ixD rfl rfl 2 rfl (.met rfl rfl) rfl ?_ | refine o_ixP rfl rfl 2 rfl (.met rfl rfl) rfl ?_
        refine o_lIS rfl (.met rfl rfl) rfl ?_
        refine o_call rfl (.met rfl rfl) rfl (ihn (by omega) (hf.as 2 b.tree (by omega) rfl) hok.2 _) ?_
        rintro _ _ _ _ ⟨rfl, rfl, rfl⟩
        refine o_pick_true rfl rfl .free rfl ?_
        exact o_fin 5 rfl rfl hk
      · intro _ hk
        refine o_skips 5 rfl ?_
        refine o_pick_false rfl rfl .free rfl ?_
        exact o_fin 5 rfl rfl hk
      refine o_assign rfl .free rfl ?_
      refine o_done ?_
      refine s_ret (.tmp rfl .nil) ?_
      refine done_only rfl (by intro _ h; first | exact h | exact dr1 h | exact dr2 h | exact dr3 h | exact dr4 h | exact dr5 h | exact dr6 h | exact dr6 h.drop | exact dr6 h.drop.drop | exact dr6 h.drop.drop.drop) ?_
      rfl
    intro c0
    try simp only [nb] at c0
    refine s_skip ?_
    refine s_seq ?_
    refine o_enter rfl ?_
    refine o_lOS rfl .free rfl ?_
    refine o_call rfl .free rfl (f_form_head hf.rep _) ?_
    rintro _ _ _ _ ⟨rfl, rfl, rfl⟩
    refine o_cmps rfl rfl rfl .free rfl ?_
    refine o_move rfl .free rfl ?_
    apply o_or 20 28 rfl
    · intro g3_4 hk
      try simp only [nb] at g3_4
      refine o_lOS rfl (.met rfl rfl) rfl ?_
      refine o_call rfl (.met rfl rfl) rfl (f_form_isAtom hf.rep _) ?_
      rintro _ _ _ _ ⟨rfl, rfl, rfl⟩
      refine o_move rfl (.met rfl rfl) rfl ?_
      apply o_and 23 27 rfl
      · intro g3_7 hk
        try simp only [nb] at g3_7
        refine o_fieldAddr rfl (.met rfl rfl) rfl ?_
        refine o_lO1 rfl (.met rfl rfl) rfl ?_
        refine o_call rfl (.met rfl rfl) rfl (f_isNumeral e.tree.atom ha _ _) ?_
        rintro _ _ _ _ ⟨rfl, rfl, rfl⟩
        refine o_pick_true rfl rfl (.met rfl rfl) rfl ?_
        exact o_fin 3 rfl rfl hk
      · intro _ hk
        refine o_skips 3 rfl ?_
        refine o_pick_false rfl rfl (.met rfl rfl) rfl ?_
        exact o_fin 3 rfl rfl hk
      refine o_pick_false rfl rfl .free rfl ?_
      exact o_fin 4 rfl rfl hk
    · intro _ hk
      refine o_skips 7 rfl ?_
      refine o_pick_true rfl rfl .free rfl ?_
      exact o_fin 7 rfl rfl hk
    refine o_assign rfl .free rfl ?_
    refine o_done ?_
    refine s_ret (.tmp rfl .nil) ?_
    refine done_only rfl (by intro _ h; first | exact h | exact dr1 h | exact dr2 h | exact dr3 h | exact dr4 h | exact dr5 h | exact dr6 h | exact dr6 h.drop | exact dr6 h.drop.drop | exact dr6 h.drop.drop.drop) ?_
    rw [Ex.value_other hok (Ex.not_pair c0)]; rfl
theorem pair_text (a b : Tree) : (Tree.node [] [.node tPair [], a, b]).text = [40, 112, 97, 105, 114, 32] ++ a.text ++ [32] ++ b.text ++ [41] := by
  simp [Tree.text, textL, tPair]
theorem Ex.print_atom {e : Ex} (h : e.bare = true) : e.print = e.tree := by cases e <;> first | rfl | cases h
/-- A value, if the text is one. -/
def valueOf (s : Txt) : Option Ex := match closedOf s with
  | some e => if e.value = true then some e else none
  | none => none
def printOf (s : Txt) : Option Txt := (valueOf s).map fun e => e.print.text
theorem f_value_rx {I : Heap} {s : Txt} {t : Tree} {cs : List Value} {ok : Bool} (h : Rep I t cs) (hpf : match closedOf s with | some e => ok = true ∧ t = e.tree | none => ok = false) (hc : ok = true) (L : Own) :
    Fun Try.prog 24 [.agg cs.toArray] I L (Only (.bool (valueOf s).isSome) I L) := by
  cases hcl : closedOf s with
  | none => rw [hcl] at hpf; rw [hpf] at hc; cases hc
  | some e =>
    rw [hcl] at hpf
    obtain ⟨_, rfl⟩ := hpf
    obtain ⟨h2, h3⟩ := closedOf_some hcl
    have h4 := (exOf_some h2).2.1
    simp only [Ex.fine, Bool.and_eq_true] at h4
    have : (valueOf s).isSome = e.value := by unfold valueOf; rw [hcl]; cases hv : e.value <;> simp [hv]
    rw [this]; exact f_form_isValue _ (Nat.lt_succ_self _) h h4.1.1 L
theorem valueOf_none {s : Txt} (h : closedOf s = none) : valueOf s = none := by unfold valueOf; rw [h]
theorem valueOf_some {s : Txt} (h : (valueOf s).isSome = true) : ∃ e, valueOf s = some e ∧ exOf s = some e ∧ closedOf s = some e ∧ e.value = true ∧ e.ok = true ∧ e.tree.len ≤ 12000 := by
  cases hv : valueOf s with
  | none => rw [hv] at h; cases h
  | some e =>
    unfold valueOf at hv
    cases hc : closedOf s with
    | none => rw [hc] at hv; cases hv
    | some e' =>
      rw [hc] at hv
      simp only at hv
      split at hv
      · rename_i hval
        cases hv
        have h1 := (closedOf_some hc).1
        have h2 := (exOf_some h1).2.1
        simp only [Ex.fine, Bool.and_eq_true, Tree.fits, decide_eq_true_eq] at h2
        exact ⟨e, rfl, h1, rfl, hval, h2.1.1, h2.2.2⟩
      · cases hv
end Go.Proofs.Ytmljeljahcichaa


/- An expression of each type. No conditions. -/
namespace Go.Proofs.Ytmljeljahcichaa
set_option maxRecDepth 100000
set_option linter.unusedVariables false
set_option linter.unusedSimpArgs false

def Ty.sample : Ty → Ex
  | .i => .num [48]
  | .pr a b => .bin .pair a.sample b.sample
  | .fn a b => .fn [102] [120] a b b.sample
theorem Ty.sample_ok : ∀ {t : Ty}, t.size ≤ 16 → t.sample.ok = true
  | .i, _ => by decide
  | .pr a b, h => by
    simp only [Ty.size] at h
    simp only [Ty.sample, Ex.ok, Bool.and_eq_true]
    exact ⟨Ty.sample_ok (by omega), Ty.sample_ok (by omega)⟩
  | .fn a b, h => by
    simp only [Ty.size] at h
    simp only [Ty.sample, Ex.ok, Bool.and_eq_true, decide_eq_true_eq]
    exact ⟨⟨⟨⟨⟨by decide, by decide⟩, by decide⟩, by omega⟩, by omega⟩, Ty.sample_ok (by omega)⟩
theorem Ty.sample_len : ∀ {t : Ty}, t.size ≤ 16 → t.sample.tree.len ≤ 200 * t.size
  | .i, _ => by decide
  | .pr a b, h => by
    simp only [Ty.size] at h ⊢
    have h1 := Ty.sample_len (t := a) (by omega)
    have h2 := Ty.sample_len (t := b) (by omega)
    simp only [Ty.sample, Ex.tree, Tree.len, lenL, List.isEmpty_cons, cond_false, List.isEmpty_nil, cond_true, B5.txt, tPair, List.length_cons, List.length_nil]
    omega
  | .fn a b, h => by
    simp only [Ty.size] at h ⊢
    have h2 := Ty.sample_len (t := b) (by omega)
    have h3 := a.tree_small
    have h4 := b.tree_small
    simp only [Ty.sample, Ex.tree, Tree.len, lenL, List.isEmpty_cons, cond_false, List.isEmpty_nil, cond_true, tFun, List.length_cons, List.length_nil]
    omega
theorem Ty.sample_chk : ∀ {t : Ty} {l : List Txt} {m : List Ty}, t.size ≤ 16 → t.sample.chk l m = .ok t
  | .i, l, m, _ => rfl
  | .pr a b, l, m, h => by
    have h0 := h
    simp only [Ty.size] at h
    simp only [Ty.sample, Ex.chk, Ty.sample_chk (t := a) (l := l) (m := m) (by omega), Ty.sample_chk (t := b) (l := l) (m := m) (by omega), B5.ty, if_pos h0]
  | .fn a b, l, m, h => by
    have h0 := h
    simp only [Ty.size] at h
    simp only [Ty.sample, Ex.chk, if_pos h0, Ty.sample_chk (t := b) (by omega), if_true]
theorem Ty.sample_value : ∀ t : Ty, t.sample.value = true
  | .i => rfl
  | .pr a b => by simp [Ty.sample, Ex.value, a.sample_value, b.sample_value]
  | .fn a b => rfl
def Ex.txt (e : Ex) : Txt := e.tree.text
theorem Ty.sample_textlen {t : Ty} (h : t.size ≤ 16) : t.sample.tree.text.length ≤ 3200 := by
  have := Ty.sample_len h; rw [Tree.text_len]; omega
theorem fun_text (f x : Txt) (s t : Ty) (b : Ex) : (Ex.fn f x s t b).tree.text = [40, 102, 117, 110, 32] ++ f ++ [32] ++ x ++ [32] ++ s.tree.text ++ [32] ++ t.tree.text ++ [32] ++ b.tree.text ++ [41] := by
  simp [Ex.tree, Tree.text, textL, tFun]
/-- What 'ExprOf' returns. -/
def ofOf (s : Txt) : Option Txt := match tyOf s with
  | some t => if t.sample.fine = true then some t.sample.tree.text else none
  | none => none
theorem ofOf_none {s : Txt} (h : tyOf s = none) : ofOf s = none := by unfold ofOf; rw [h]
theorem ofOf_some {s : Txt} {t : Ty} (h : tyOf s = some t) : ofOf s = if t.sample.fine = true then some t.sample.tree.text else none := by unfold ofOf; rw [h]
theorem of_facts {s o : Txt} (h : ofOf s = some o) : ∃ t, tyOf s = some t ∧ s = t.tree.text ∧ exOf o = some t.sample ∧ closedOf o = some t.sample ∧ tyC o = some t ∧ (valueOf o).isSome = true ∧ o.length ≤ 3200 := by
  cases ht : tyOf s with
  | none => rw [ofOf_none ht] at h; cases h
  | some t =>
    rw [ofOf_some ht] at h
    obtain ⟨h1, h2, h3⟩ := tyOf_some ht
    split at h
    · rename_i hf
      cases h
      have hx := exOf_text (Ty.sample_ok h2)
      rw [if_pos hf] at hx
      have hty : t.sample.ty [] [] = some t := by unfold Ex.ty; rw [Ty.sample_chk h2]
      have hc : closedOf t.sample.tree.text = some t.sample := by
        unfold closedOf; rw [hx]; simp [Ex.ty_closed hty]
      refine ⟨t, rfl, h3, hx, hc, ?_, ?_, Ty.sample_textlen h2⟩
      · unfold tyC; rw [hx]; exact hty
      · unfold valueOf; rw [hc]; simp [t.sample_value]
    · cases h
end Go.Proofs.Ytmljeljahcichaa


/- An expression of each type, by the program and by the reference. No conditions. -/
namespace Go.Proofs.Ytmljeljahcichaa
set_option maxRecDepth 100000
set_option linter.unusedVariables false
set_option linter.unusedSimpArgs false

theorem f_sample : ∀ (n : Nat) {I : Heap} {t : Ty} {cs : List Value} (_ : SizeOf.sizeOf t < n) (_ : Rep I t.tree cs) (L : Own), Fun Try.prog 13 [.agg cs.toArray] I L (RP t.sample.tree L) := by
  intro n
  induction n with
  | zero => intro I t cs h; omega
  | succ n ihn =>
    intro I t cs hlt h L
    obtain ⟨oc, cc, oaf, cf, rfl, hf⟩ := h.at'
    have hle : HLe I I := .refl _
    refine fun_intro (by simp) ?_
    refine s_seq ?_
    refine o_enter rfl ?_
    refine o_box rfl rfl .free rfl ?_
    intro b1
    refine o_alloc .free rfl ?_
    intro b2
    refine o_done ?_
    refine s_seq ?_
    refine s_seq ?_
    refine o_enter rfl ?_
    refine o_lOS rfl .free rfl ?_
    refine o_call rfl .free rfl (f_form_head hf.rep _) ?_
    rintro _ _ _ _ ⟨rfl, rfl, rfl⟩
    refine o_done ?_
    refine s_block ?_
    refine s_seq ?_
    refine o_enter rfl ?_
    refine o_cmps rfl rfl rfl .free rfl ?_
    refine o_assign rfl .free rfl ?_
    refine o_done ?_
    refine s_cond rfl ?_ ?_
    · intro c0
      try simp only [nb] at c0
      obtain ⟨a, b, rfl⟩ : ∃ a b, t = .pr a b := by
        cases t with
        | i => exact absurd c0 (by decide)
        | pr a b => exact ⟨a, b, rfl⟩
        | fn a b => exact absurd (show ([62] : Txt) = [42] from c0) (by decide)
      have hlen : (Ty.pr a b).tree.parts.length = 3 := rfl
      simp only [Ty.pr.sizeOf_spec] at hlt
      refine s_seq ?_
      refine d_all 13 rfl rfl ?_
      refine d_takeA 0 rfl (by kernel_rfl) rfl (.inr heldx) (y_fieldAddr rfl) .free rfl ?_
      refine d_take 1 [12] rfl (by kernel_rfl) rfl heldx (y_lO1 rfl) .free rfl ?_
      first | refine d_takeA 2 rfl (by kernel_rfl) rfl (.inr heldx) (y_ixD rfl rfl 1 rfl) .free rfl ?_ | refine d_takeA 2 rfl (by kernel_rfl) rfl (.inr heldx) (y_ixP rfl rfl 1 rfl) .free rfl ?_
      refine d_take 3 [12] rfl (by kernel_rfl) rfl heldx (y_lIS rfl) .free rfl ?_
      refine d_takeA 5 rfl (by kernel_rfl) rfl (.inr heldx) (y_fieldAddr rfl) .free rfl ?_
      refine d_take 6 [12] rfl (by kernel_rfl) rfl heldx (y_lO1 rfl) .free rfl ?_
      first | refine d_takeA 7 rfl (by kernel_rfl) rfl (.inr heldx) (y_ixD rfl rfl 2 rfl) .free rfl ?_ | refine d_takeA 7 rfl (by kernel_rfl) rfl (.inr heldx) (y_ixP rfl rfl 2 rfl) .free rfl ?_
      refine d_take 8 [12] rfl (by kernel_rfl) rfl heldx (y_lIS rfl) .free rfl ?_
      refine d_call 4 rfl (by kernel_rfl) rfl rfl .free rfl (ihn (t := a) (by omega) (hf.as 1 a.tree (by omega) rfl) _) ?_
      rintro _ J1 _ e1 ⟨cs1, rfl, h1, rfl⟩
      obtain ⟨o1, k1, _, rfl, -⟩ := h1.open
      have hf := hf.mono e1
      refine ⟨(.inr heldx), ?_⟩
      refine d_call 9 rfl (by kernel_rfl) rfl rfl .free rfl (ihn (t := b) (by omega) (hf.as 2 b.tree (by omega) rfl) _) ?_
      rintro _ J2 _ e2 ⟨cs2, rfl, h2, rfl⟩
      obtain ⟨o2, k2, _, rfl, -⟩ := h2.open
      have h1 := h1.mono e2
      have hle := e1.trans e2
      refine ⟨(.inr heldx), ?_⟩
      refine d_lits 10 rfl (by kernel_rfl) rfl rfl rfl (by rfl) (by rfl) (by rfl) (by decide) (by decide) (by rfl) .free rfl (.inr heldx) ?_
      intro b17
      refine d_freeze ?_
      intro hz
      have hfs := forms_lit0 (c := 2) (b := b17) (RepL.two h1 h2) hz (by simp) (by simp [maxN])
      have hle := hle.trans hz
      refine d_call 11 rfl (by kernel_rfl) rfl rfl .free rfl (f_headed [112, 97, 105, 114] (by decide) hfs (by simp [maxN]) _) ?_
      rintro _ J3 _ e3 ⟨cs3, rfl, h3, rfl⟩
      obtain ⟨o3, k3, _, rfl, -⟩ := h3.open
      have hle := hle.trans e3
      refine ⟨(.inr heldx), ?_⟩
      refine d_st 12 rfl (by kernel_rfl) rfl rfl rfl rfl rfl .free (.inl (by kernel_rfl)) ?_
      refine d_done (by kernel_rfl) ?_
      refine s_ret (.cell rfl (by first | exact loads_still1 (by assumption) rfl | exact loads_ownS (by first | exact m0 | exact m1 | exact m2 | exact m3 | exact m4 | exact m5 | exact m6 | exact List.mem_append_right _ m0 | exact List.mem_append_right _ m1 | exact List.mem_append_right _ m2 | exact List.mem_append_right _ m3 | exact .tail _ (List.mem_append_right _ m0) | exact .tail _ (List.mem_append_right _ m1) | exact .tail _ (List.mem_append_right _ m2) | exact .tail _ (List.mem_append_right _ m3)) (by rfl) | exact loads_own1 (by first | exact m0 | exact m1 | exact m2 | exact m3 | exact m4 | exact m5 | exact m6 | exact List.mem_append_right _ m0 | exact List.mem_append_right _ m1 | exact List.mem_append_right _ m2 | exact List.mem_append_right _ m3 | exact .tail _ (List.mem_append_right _ m0) | exact .tail _ (List.mem_append_right _ m1) | exact .tail _ (List.mem_append_right _ m2) | exact .tail _ (List.mem_append_right _ m3)) (by rfl) rfl | exact loads_stillS (by assumption) (by rfl) | exact loads_stillF (by assumption) (by rfl) rfl) .nil) ?_
      exact ⟨J3, L, hle, (by intro _ h; first | exact h | exact dr1 h | exact dr2 h | exact dr3 h | exact dr4 h | exact dr5 h | exact dr6 h | exact dr6 h.drop | exact dr6 h.drop.drop | exact dr6 h.drop.drop.drop), _, rfl, h3, rfl⟩
    intro c0
    try simp only [nb] at c0
    refine s_seq ?_
    refine o_enter rfl ?_
    refine o_cmps rfl rfl rfl .free rfl ?_
    refine o_assign rfl .free rfl ?_
    refine o_done ?_
    refine s_cond rfl ?_ ?_
    · intro c1
      try simp only [nb] at c1
      obtain ⟨a, b, rfl⟩ : ∃ a b, t = .fn a b := by
        cases t with
        | i => exact absurd c1 (by decide)
        | fn a b => exact ⟨a, b, rfl⟩
        | pr a b => exact absurd rfl c0
      have hlen : (Ty.fn a b).tree.parts.length = 3 := rfl
      simp only [Ty.fn.sizeOf_spec] at hlt
      refine s_seq ?_
      refine d_all 18 rfl rfl ?_
      refine d_takeA 2 rfl (by kernel_rfl) rfl (.inr heldx) (y_fieldAddr rfl) .free rfl ?_
      refine d_take 3 [17] rfl (by kernel_rfl) rfl heldx (y_lO1 rfl) .free rfl ?_
      first | refine d_takeA 4 rfl (by kernel_rfl) rfl (.inr heldx) (y_ixD rfl rfl 1 rfl) .free rfl ?_ | refine d_takeA 4 rfl (by kernel_rfl) rfl (.inr heldx) (y_ixP rfl rfl 1 rfl) .free rfl ?_
      refine d_take 5 [17] rfl (by kernel_rfl) rfl heldx (y_lIS rfl) .free rfl ?_
      refine d_takeA 6 rfl (by kernel_rfl) rfl (.inr heldx) (y_fieldAddr rfl) .free rfl ?_
      refine d_take 7 [17] rfl (by kernel_rfl) rfl heldx (y_lO1 rfl) .free rfl ?_
      first | refine d_takeA 8 rfl (by kernel_rfl) rfl (.inr heldx) (y_ixD rfl rfl 2 rfl) .free rfl ?_ | refine d_takeA 8 rfl (by kernel_rfl) rfl (.inr heldx) (y_ixP rfl rfl 2 rfl) .free rfl ?_
      refine d_take 9 [17] rfl (by kernel_rfl) rfl heldx (y_lIS rfl) .free rfl ?_
      refine d_takeA 10 rfl (by kernel_rfl) rfl (.inr heldx) (y_fieldAddr rfl) .free rfl ?_
      refine d_take 11 [17] rfl (by kernel_rfl) rfl heldx (y_lO1 rfl) .free rfl ?_
      first | refine d_takeA 12 rfl (by kernel_rfl) rfl (.inr heldx) (y_ixD rfl rfl 2 rfl) .free rfl ?_ | refine d_takeA 12 rfl (by kernel_rfl) rfl (.inr heldx) (y_ixP rfl rfl 2 rfl) .free rfl ?_
      refine d_take 13 [17] rfl (by kernel_rfl) rfl heldx (y_lIS rfl) .free rfl ?_
      refine d_call 0 rfl (by kernel_rfl) rfl rfl .free rfl (f_atom [102] (by decide) _ _) ?_
      rintro _ _ _ _ ⟨rfl, rfl, rfl⟩
      refine ⟨(.inr heldx), ?_⟩
      refine d_call 1 rfl (by kernel_rfl) rfl rfl .free rfl (f_atom [120] (by decide) _ _) ?_
      rintro _ _ _ _ ⟨rfl, rfl, rfl⟩
      refine ⟨(.inr heldx), ?_⟩
      refine d_call 14 rfl (by kernel_rfl) rfl rfl .free rfl (ihn (t := b) (by omega) (hf.as 2 b.tree (by omega) rfl) _) ?_
      rintro _ J1 _ e1 ⟨cs1, rfl, h1, rfl⟩
      obtain ⟨o1, k1, _, rfl, -⟩ := h1.open
      have hf := hf.mono e1
      have hle := e1
      refine ⟨(.inr heldx), ?_⟩
      refine d_lits 15 rfl (by kernel_rfl) rfl rfl rfl (by rfl) (by rfl) (by rfl) (by decide) (by decide) (by rfl) .free rfl (.inr heldx) ?_
      intro b36
      refine d_freeze ?_
      intro hz
      have hfs := forms_lit0 (ts := [.node [102] [], .node [120] [], a.tree, b.tree, b.sample.tree]) (c := 5) (b := b36) (.cons (.ofAtom (by decide)) (.cons (.ofAtom (by decide)) (.cons (hf.as 1 a.tree (by omega) rfl) (.cons (hf.as 2 b.tree (by omega) rfl) (.cons h1 .nil))))) hz (by simp) (by simp [maxN])
      have hle := hle.trans hz
      refine d_call 16 rfl (by kernel_rfl) rfl rfl .free rfl (f_headed [102, 117, 110] (by decide) hfs (by simp [maxN]) _) ?_
      rintro _ J3 _ e3 ⟨cs3, rfl, h3, rfl⟩
      obtain ⟨o3, k3, _, rfl, -⟩ := h3.open
      have hle := hle.trans e3
      refine ⟨(.inr heldx), ?_⟩
      refine d_st 17 rfl (by kernel_rfl) rfl rfl rfl rfl rfl .free (.inl (by kernel_rfl)) ?_
      refine d_done (by kernel_rfl) ?_
      refine s_ret (.cell rfl (by first | exact loads_still1 (by assumption) rfl | exact loads_ownS (by first | exact m0 | exact m1 | exact m2 | exact m3 | exact m4 | exact m5 | exact m6 | exact List.mem_append_right _ m0 | exact List.mem_append_right _ m1 | exact List.mem_append_right _ m2 | exact List.mem_append_right _ m3 | exact .tail _ (List.mem_append_right _ m0) | exact .tail _ (List.mem_append_right _ m1) | exact .tail _ (List.mem_append_right _ m2) | exact .tail _ (List.mem_append_right _ m3)) (by rfl) | exact loads_own1 (by first | exact m0 | exact m1 | exact m2 | exact m3 | exact m4 | exact m5 | exact m6 | exact List.mem_append_right _ m0 | exact List.mem_append_right _ m1 | exact List.mem_append_right _ m2 | exact List.mem_append_right _ m3 | exact .tail _ (List.mem_append_right _ m0) | exact .tail _ (List.mem_append_right _ m1) | exact .tail _ (List.mem_append_right _ m2) | exact .tail _ (List.mem_append_right _ m3)) (by rfl) rfl | exact loads_stillS (by assumption) (by rfl) | exact loads_stillF (by assumption) (by rfl) rfl) .nil) ?_
      exact ⟨J3, L, hle, (by intro _ h; first | exact h | exact dr1 h | exact dr2 h | exact dr3 h | exact dr4 h | exact dr5 h | exact dr6 h | exact dr6 h.drop | exact dr6 h.drop.drop | exact dr6 h.drop.drop.drop), _, rfl, h3, rfl⟩
    intro c1
    try simp only [nb] at c1
    refine s_skip ?_
    refine s_inBlock ?_
    refine s_seq ?_
    refine o_enter rfl ?_
    refine o_call rfl .free rfl (f_atom [48] (by decide) _ _) ?_
    rintro _ _ _ _ ⟨rfl, rfl, rfl⟩
    refine o_st rfl rfl rfl rfl .free ?_
    refine o_done ?_
    refine s_ret (.cell rfl (by first | exact loads_still1 (by assumption) rfl | exact loads_ownS (by first | exact m0 | exact m1 | exact m2 | exact m3 | exact m4 | exact m5 | exact m6 | exact List.mem_append_right _ m0 | exact List.mem_append_right _ m1 | exact List.mem_append_right _ m2 | exact List.mem_append_right _ m3 | exact .tail _ (List.mem_append_right _ m0) | exact .tail _ (List.mem_append_right _ m1) | exact .tail _ (List.mem_append_right _ m2) | exact .tail _ (List.mem_append_right _ m3)) (by rfl) | exact loads_own1 (by first | exact m0 | exact m1 | exact m2 | exact m3 | exact m4 | exact m5 | exact m6 | exact List.mem_append_right _ m0 | exact List.mem_append_right _ m1 | exact List.mem_append_right _ m2 | exact List.mem_append_right _ m3 | exact .tail _ (List.mem_append_right _ m0) | exact .tail _ (List.mem_append_right _ m1) | exact .tail _ (List.mem_append_right _ m2) | exact .tail _ (List.mem_append_right _ m3)) (by rfl) rfl | exact loads_stillS (by assumption) (by rfl) | exact loads_stillF (by assumption) (by rfl) rfl) .nil) ?_
    refine ⟨I, L, .refl _, (by intro _ h; first | exact h | exact dr1 h | exact dr2 h | exact dr3 h | exact dr4 h | exact dr5 h | exact dr6 h | exact dr6 h.drop | exact dr6 h.drop.drop | exact dr6 h.drop.drop.drop), _, rfl, ?_, rfl⟩
    cases t with
    | i => exact .ofAtom (by decide)
    | fn a b => exact absurd rfl c1
    | pr a b => exact absurd rfl c0
theorem f_ExprOf (s : Txt) (hs : s.length ≤ maxN) (I : Heap) (L : Own) : Fun Try.prog 5 [.string (str s)] I L (EL (ofOf s) L) := by
  refine fun_intro (by simp) ?_
  refine s_seq ?_
  refine o_enter rfl ?_
  refine o_assign rfl .free rfl ?_
  refine o_assign rfl .free rfl ?_
  refine o_done ?_
  refine s_seq ?_
  refine o_enter rfl ?_
  refine o_move rfl .free rfl ?_
  refine o_call rfl .free rfl (f_readType s hs _ _) ?_
  rintro _ J1 _ e1 ⟨t, cs, ok, rfl, hrep, rfl, hpf⟩
  obtain ⟨o1, k1, _, rfl, -⟩ := hrep.open
  have hty := typeOf_true hpf
  refine o_move rfl .free rfl ?_
  refine o_extract rfl rfl .free rfl ?_
  refine o_extract rfl rfl .free rfl ?_
  refine o_alloc .free rfl ?_
  intro b4
  refine o_st rfl rfl rfl rfl .free ?_
  refine o_assign rfl .free rfl ?_
  refine o_done ?_
  refine s_seq ?_
  refine s_seq ?_
  refine o_enter rfl ?_
  refine o_move rfl .free rfl ?_
  refine o_not rfl .free rfl ?_
  refine o_done ?_
  refine s_cond rfl ?_ ?_
  · intro c0
    try simp only [nb] at c0
    refine s_seq ?_
    refine o_enter rfl ?_
    refine o_assign rfl .free rfl ?_
    refine o_assign rfl .free rfl ?_
    refine o_done ?_
    refine s_ret (.tmp rfl (.tmp rfl .nil)) ?_
    refine ⟨J1, L, e1, (by intro _ h; first | exact h | exact dr1 h | exact dr2 h | exact dr3 h | exact dr4 h | exact dr5 h | exact dr6 h | exact dr6 h.drop | exact dr6 h.drop.drop | exact dr6 h.drop.drop.drop), ?_, rfl⟩
    rw [c0] at hty
    rw [ofOf_none (by unfold tyOf; rw [hty]; rfl)]; rfl
  intro c0
  try simp only [nb] at c0
  rw [c0] at hty
  obtain ⟨a, ha, rfl, hsz, -⟩ := tyOf_of hty
  have hsl := Ty.sample_len hsz
  refine s_skip ?_
  refine s_seq ?_
  refine o_enter rfl ?_
  refine o_lOS rfl .free rfl ?_
  refine o_call rfl .free rfl (f_sample _ (Nat.lt_succ_self _) hrep _) ?_
  rintro _ J2 _ e2 ⟨cs2, rfl, h2, rfl⟩
  obtain ⟨o2, k2, _, rfl, -⟩ := h2.open
  refine o_alloc .free rfl ?_
  intro b6
  refine o_st rfl rfl rfl rfl .free ?_
  refine o_done ?_
  refine s_seq ?_
  refine s_seq ?_
  refine o_enter rfl ?_
  refine o_lOS rfl .free rfl ?_
  refine o_call rfl .free rfl (f_fine h2 (Ty.sample_ok hsz) (by omega) _) ?_
  rintro _ _ _ _ ⟨rfl, rfl, rfl⟩
  refine o_not rfl .free rfl ?_
  refine o_done ?_
  refine s_cond rfl ?_ ?_
  · intro c1
    try simp only [nb] at c1
    refine s_seq ?_
    refine o_enter rfl ?_
    refine o_assign rfl .free rfl ?_
    refine o_assign rfl .free rfl ?_
    refine o_done ?_
    refine s_ret (.tmp rfl (.tmp rfl .nil)) ?_
    refine ⟨J2, L, e1.trans e2, (by intro _ h; first | exact h | exact dr1 h | exact dr2 h | exact dr3 h | exact dr4 h | exact dr5 h | exact dr6 h | exact dr6 h.drop | exact dr6 h.drop.drop | exact dr6 h.drop.drop.drop), ?_, rfl⟩
    rw [ofOf_some ha, if_neg (by rw [c1]; decide)]; rfl
  intro c1
  try simp only [nb] at c1
  refine s_skip ?_
  refine s_seq ?_
  refine o_enter rfl ?_
  refine o_lOS rfl .free rfl ?_
  refine o_call rfl .free rfl (f_form_text h2 (by have := Ty.sample_textlen hsz; unfold maxN; omega) _) ?_
  rintro _ _ _ _ ⟨rfl, rfl, rfl⟩
  refine o_assign rfl .free rfl ?_
  refine o_assign rfl .free rfl ?_
  refine o_done ?_
  refine s_ret (.tmp rfl (.tmp rfl .nil)) ?_
  refine ⟨J2, L, e1.trans e2, (by intro _ h; first | exact h | exact dr1 h | exact dr2 h | exact dr3 h | exact dr4 h | exact dr5 h | exact dr6 h | exact dr6 h.drop | exact dr6 h.drop.drop | exact dr6 h.drop.drop.drop), ?_, rfl⟩
  rw [ofOf_some ha, if_pos c1]; rfl
theorem g_l3Of : ∀ (n : Nat) {I : Heap} {t : Ty} {cs : List Value} (_ : SizeOf.sizeOf t < n) (_ : Rep I t.tree cs) (_ : t.size ≤ 16) (L : Own), Fun Try.prog 19 [.agg cs.toArray] I L (Only (.string (str t.sample.tree.text)) I L) := by
  intro n
  induction n with
  | zero => intro I t cs h; omega
  | succ n ihn =>
    intro I t cs hlt h hsz L
    obtain ⟨oc, cc, oaf, cf, rfl, hf⟩ := h.at'
    have hg := t.tree_good.1
    have hfn := hf.nil
    refine fun_intro (by simp) ?_
    refine s_seq ?_
    refine o_enter rfl ?_
    refine o_box rfl rfl .free rfl ?_
    intro b1
    refine o_assign rfl .free rfl ?_
    refine o_done ?_
    refine s_seq ?_
    refine s_seq ?_
    refine o_enter rfl ?_
    refine o_fieldAddr rfl .free rfl ?_
    refine o_lO1 rfl .free rfl ?_
    refine o_cmps rfl rfl rfl .free rfl ?_
    refine o_done ?_
    refine s_cond rfl ?_ ?_
    · intro c0
      try simp only [nb] at c0
      refine s_seq ?_
      refine o_enter rfl ?_
      refine o_assign rfl .free rfl ?_
      refine o_done ?_
      refine s_ret (.tmp rfl .nil) ?_
      refine done_only rfl (by intro _ h; first | exact h | exact dr1 h | exact dr2 h | exact dr3 h | exact dr4 h | exact dr5 h | exact dr6 h | exact dr6 h.drop | exact dr6 h.drop.drop | exact dr6 h.drop.drop.drop) ?_
      cases t with
      | i => rfl
      | fn a b => exact absurd rfl c0
      | pr a b => exact absurd rfl c0
    intro c0
    try simp only [nb] at c0
    have hpl : t.tree.parts.length = 3 := by
      cases t with
      | i => exact absurd c0 (by decide)
      | fn a b => rfl
      | pr a b => rfl
    have hhd := head_at (t := t.tree) (by omega)
    refine s_skip ?_
    refine s_seq ?_
    refine s_seq ?_
    refine o_enter rfl ?_
    refine o_fieldAddr rfl .free rfl ?_
    refine o_lO1 rfl .free rfl ?_
    first | refine o_ixD rfl rfl 0 rfl .free rfl ?_ | refine o_ixP rfl rfl 0 rfl .free rfl ?_
    refine o_fieldAddr' rfl .free rfl ?_
    refine o_lIF rfl .free rfl ?_
    refine o_cmps rfl rfl rfl .free rfl ?_
    refine o_done ?_
    refine s_cond rfl ?_ ?_
    · intro c1
      try simp only [nb] at c1
      obtain ⟨a, b, rfl⟩ : ∃ a b, t = .pr a b := by
        cases t with
        | i => exact absurd c0 (by decide)
        | pr a b => exact ⟨a, b, rfl⟩
        | fn a b => exact absurd (show ([62] : Txt) = [42] from c1) (by decide)
      simp only [Ty.pr.sizeOf_spec] at hlt
      simp only [Ty.size] at hsz
      have ha16 : a.size ≤ 16 := by omega
      have hb16 : b.size ≤ 16 := by omega
      have hl1 := Ty.sample_textlen ha16
      have hl2 := Ty.sample_textlen hb16
      refine s_seq ?_
      refine d_all 15 rfl rfl ?_
      refine d_takeA 0 rfl (by kernel_rfl) rfl (.inr heldx) (y_fieldAddr rfl) .free rfl ?_
      refine d_take 1 [15] rfl (by kernel_rfl) rfl heldx (y_lO1 rfl) .free rfl ?_
      first | refine d_takeA 2 rfl (by kernel_rfl) rfl (.inr heldx) (y_ixD rfl rfl 1 rfl) .free rfl ?_ | refine d_takeA 2 rfl (by kernel_rfl) rfl (.inr heldx) (y_ixP rfl rfl 1 rfl) .free rfl ?_
      refine d_take 3 [15] rfl (by kernel_rfl) rfl heldx (y_lIS rfl) .free rfl ?_
      refine d_takeA 7 rfl (by kernel_rfl) rfl (.inr heldx) (y_fieldAddr rfl) .free rfl ?_
      refine d_take 8 [15] rfl (by kernel_rfl) rfl heldx (y_lO1 rfl) .free rfl ?_
      first | refine d_takeA 9 rfl (by kernel_rfl) rfl (.inr heldx) (y_ixD rfl rfl 2 rfl) .free rfl ?_ | refine d_takeA 9 rfl (by kernel_rfl) rfl (.inr heldx) (y_ixP rfl rfl 2 rfl) .free rfl ?_
      refine d_take 10 [15] rfl (by kernel_rfl) rfl heldx (y_lIS rfl) .free rfl ?_
      refine d_call 4 rfl (by kernel_rfl) rfl rfl .free rfl (ihn (t := a) (by omega) (hf.as 1 a.tree (by omega) rfl) ha16 _) ?_
      rintro _ _ _ _ ⟨rfl, rfl, rfl⟩
      refine ⟨(.inr heldx), ?_⟩
      refine d_takeA 5 rfl (by kernel_rfl) rfl (.inr heldx) (y_concat rfl rfl (by first | omega | (simp only [List.length_append, List.length_cons, List.length_nil]; omega) | (simp; omega))) .free rfl ?_
      refine d_takeA 6 rfl (by kernel_rfl) rfl (.inr heldx) (y_concat rfl rfl (by first | omega | (simp only [List.length_append, List.length_cons, List.length_nil]; omega) | (simp; omega))) .free rfl ?_
      refine d_call 11 rfl (by kernel_rfl) rfl rfl .free rfl (ihn (t := b) (by omega) (hf.as 2 b.tree (by omega) rfl) hb16 _) ?_
      rintro _ _ _ _ ⟨rfl, rfl, rfl⟩
      refine ⟨(.inr heldx), ?_⟩
      refine d_takeA 12 rfl (by kernel_rfl) rfl (.inr heldx) (y_concat rfl rfl (by first | omega | (simp only [List.length_append, List.length_cons, List.length_nil]; omega) | (simp; omega))) .free rfl ?_
      refine d_takeA 13 rfl (by kernel_rfl) rfl (.inr heldx) (y_concat rfl rfl (by first | omega | (simp only [List.length_append, List.length_cons, List.length_nil]; omega) | (simp; omega))) .free rfl ?_
      refine d_takeA 14 rfl (by kernel_rfl) rfl (.inr heldx) (y_assign rfl) .free rfl ?_
      refine d_done (by kernel_rfl) ?_
      refine s_ret (.tmp rfl .nil) ?_
      refine done_only rfl (by intro _ h; first | exact h | exact dr1 h | exact dr2 h | exact dr3 h | exact dr4 h | exact dr5 h | exact dr6 h | exact dr6 h.drop | exact dr6 h.drop.drop | exact dr6 h.drop.drop.drop) ?_
      have := pair_text a.sample.tree b.sample.tree
      rw [show (Ty.pr a b).sample.tree.text = _ from this]; rfl
    intro c1
    try simp only [nb] at c1
    obtain ⟨a, b, rfl⟩ : ∃ a b, t = .fn a b := by
      cases t with
      | i => exact absurd c0 (by decide)
      | fn a b => exact ⟨a, b, rfl⟩
      | pr a b => exact absurd rfl c1
    simp only [Ty.fn.sizeOf_spec] at hlt
    simp only [Ty.size] at hsz
    have ha16 : a.size ≤ 16 := by omega
    have hb16 : b.size ≤ 16 := by omega
    have hl1 := Ty.text_len ha16
    have hl2 := Ty.text_len hb16
    have hl3 := Ty.sample_textlen hb16
    have hs1 := a.tree_small
    have hs2 := b.tree_small
    refine s_skip ?_
    refine s_seq ?_
    refine d_all 22 rfl rfl ?_
    refine d_takeA 0 rfl (by kernel_rfl) rfl (.inr heldx) (y_fieldAddr rfl) .free rfl ?_
    refine d_take 1 [22] rfl (by kernel_rfl) rfl heldx (y_lO1 rfl) .free rfl ?_
    first | refine d_takeA 2 rfl (by kernel_rfl) rfl (.inr heldx) (y_ixD rfl rfl 1 rfl) .free rfl ?_ | refine d_takeA 2 rfl (by kernel_rfl) rfl (.inr heldx) (y_ixP rfl rfl 1 rfl) .free rfl ?_
    refine d_take 3 [22] rfl (by kernel_rfl) rfl heldx (y_lIS rfl) .free rfl ?_
    refine d_takeA 7 rfl (by kernel_rfl) rfl (.inr heldx) (y_fieldAddr rfl) .free rfl ?_
    refine d_take 8 [22] rfl (by kernel_rfl) rfl heldx (y_lO1 rfl) .free rfl ?_
    first | refine d_takeA 9 rfl (by kernel_rfl) rfl (.inr heldx) (y_ixD rfl rfl 2 rfl) .free rfl ?_ | refine d_takeA 9 rfl (by kernel_rfl) rfl (.inr heldx) (y_ixP rfl rfl 2 rfl) .free rfl ?_
    refine d_take 10 [22] rfl (by kernel_rfl) rfl heldx (y_lIS rfl) .free rfl ?_
    refine d_takeA 14 rfl (by kernel_rfl) rfl (.inr heldx) (y_fieldAddr rfl) .free rfl ?_
    refine d_take 15 [22] rfl (by kernel_rfl) rfl heldx (y_lO1 rfl) .free rfl ?_
    first | refine d_takeA 16 rfl (by kernel_rfl) rfl (.inr heldx) (y_ixD rfl rfl 2 rfl) .free rfl ?_ | refine d_takeA 16 rfl (by kernel_rfl) rfl (.inr heldx) (y_ixP rfl rfl 2 rfl) .free rfl ?_
    refine d_take 17 [22] rfl (by kernel_rfl) rfl heldx (y_lIS rfl) .free rfl ?_
    refine d_call 4 rfl (by kernel_rfl) rfl rfl .free rfl (g_l1Text (t := a.tree) _ (Nat.lt_succ_self _) (hf.as 1 a.tree (by omega) rfl) a.tree_good.1 (by omega) _) ?_
    rintro _ _ _ _ ⟨rfl, rfl, rfl⟩
    refine ⟨(.inr heldx), ?_⟩
    refine d_takeA 5 rfl (by kernel_rfl) rfl (.inr heldx) (y_concat rfl rfl (by first | omega | (simp only [List.length_append, List.length_cons, List.length_nil]; omega) | (simp; omega))) .free rfl ?_
    refine d_takeA 6 rfl (by kernel_rfl) rfl (.inr heldx) (y_concat rfl rfl (by first | omega | (simp only [List.length_append, List.length_cons, List.length_nil]; omega) | (simp; omega))) .free rfl ?_
    refine d_call 11 rfl (by kernel_rfl) rfl rfl .free rfl (g_l1Text (t := b.tree) _ (Nat.lt_succ_self _) (hf.as 2 b.tree (by omega) rfl) b.tree_good.1 (by omega) _) ?_
    rintro _ _ _ _ ⟨rfl, rfl, rfl⟩
    refine ⟨(.inr heldx), ?_⟩
    refine d_takeA 12 rfl (by kernel_rfl) rfl (.inr heldx) (y_concat rfl rfl (by first | omega | (simp only [List.length_append, List.length_cons, List.length_nil]; omega) | (simp; omega))) .free rfl ?_
    refine d_takeA 13 rfl (by kernel_rfl) rfl (.inr heldx) (y_concat rfl rfl (by first | omega | (simp only [List.length_append, List.length_cons, List.length_nil]; omega) | (simp; omega))) .free rfl ?_
    refine d_call 18 rfl (by kernel_rfl) rfl rfl .free rfl (ihn (t := b) (by omega) (hf.as 2 b.tree (by omega) rfl) hb16 _) ?_
    rintro _ _ _ _ ⟨rfl, rfl, rfl⟩
    refine ⟨(.inr heldx), ?_⟩
    refine d_takeA 19 rfl (by kernel_rfl) rfl (.inr heldx) (y_concat rfl rfl (by first | omega | (simp only [List.length_append, List.length_cons, List.length_nil]; omega) | (simp; omega))) .free rfl ?_
    refine d_takeA 20 rfl (by kernel_rfl) rfl (.inr heldx) (y_concat rfl rfl (by first | omega | (simp only [List.length_append, List.length_cons, List.length_nil]; omega) | (simp; omega))) .free rfl ?_
    refine d_takeA 21 rfl (by kernel_rfl) rfl (.inr heldx) (y_assign rfl) .free rfl ?_
    refine d_done (by kernel_rfl) ?_
    refine s_ret (.tmp rfl .nil) ?_
    refine done_only rfl (by intro _ h; first | exact h | exact dr1 h | exact dr2 h | exact dr3 h | exact dr4 h | exact dr5 h | exact dr6 h | exact dr6 h.drop | exact dr6 h.drop.drop | exact dr6 h.drop.drop.drop) ?_
    have := fun_text [102] [120] a b b.sample
    rw [show (Ty.fn a b).sample.tree.text = _ from this]; rfl
def smp (t : Tree) : Ex := (t.ty.getD .i).sample
theorem smp_tree (a : Ty) : smp a.tree = a.sample := by unfold smp; rw [a.tree_ty]; rfl
theorem g_l3Of' {I : Heap} {t : Tree} {cs : List Value} (h : Rep I t cs) (ht : ∃ a : Ty, t = a.tree ∧ a.size ≤ 16) (L : Own) : Fun Try.prog 19 [.agg cs.toArray] I L (Only (.string (str (smp t).tree.text)) I L) := by
  obtain ⟨a, rfl, h1⟩ := ht
  rw [smp_tree]
  exact g_l3Of _ (Nat.lt_succ_self _) h h1 L
theorem g_ExprOf (s : Txt) (hs : s.length ≤ maxN) (I : Heap) (L : Own) : Fun Try.prog 6 [.string (str s)] I L (EL (ofOf s) L) := by
  refine fun_intro (by simp) ?_
  refine s_seq ?_
  refine o_enter rfl ?_
  refine o_assign rfl .free rfl ?_
  refine o_assign rfl .free rfl ?_
  refine o_done ?_
  refine s_seq ?_
  refine o_enter rfl ?_
  refine o_move rfl .free rfl ?_
  refine o_call rfl .free rfl (g_l1Parse s hs _ _) ?_
  rintro _ J _ e1 ⟨t, cs, ok, rfl, hrep, rfl, hpf⟩
  obtain ⟨o1, k1, _, rfl, -⟩ := hrep.open
  have hty := tyOf_read hpf
  refine o_move rfl .free rfl ?_
  refine o_extract rfl rfl .free rfl ?_
  refine o_extract rfl rfl .free rfl ?_
  refine o_alloc .free rfl ?_
  intro b4
  refine o_st rfl rfl rfl rfl .free ?_
  refine o_assign rfl .free rfl ?_
  refine o_done ?_
  refine s_seq ?_
  refine s_seq ?_
  refine o_enter rfl ?_
  refine o_move rfl .free rfl ?_
  refine o_not rfl .free rfl ?_
  refine o_move rfl .free rfl ?_
  apply o_or 13 17 rfl
  · intro g2_3 hk
    try simp only [nb] at g2_3
    have hp := parse_good (RD_some hpf g2_3)
    refine o_lOS rfl (.met rfl rfl) rfl ?_
    refine o_call rfl (.met rfl rfl) rfl (g_l1Typed hrep hp.1 (Tree.size_maxN hp.2.1) _) ?_
    rintro _ _ _ _ ⟨rfl, rfl, rfl⟩
    refine o_not rfl (.met rfl rfl) rfl ?_
    refine o_pick_false rfl rfl .free rfl ?_
    exact o_fin 3 rfl rfl hk
  · intro _ hk
    refine o_skips 3 rfl ?_
    refine o_pick_true rfl rfl .free rfl ?_
    exact o_fin 3 rfl rfl hk
  refine o_move rfl .free rfl ?_
  apply o_or 18 23 rfl
  · intro g2_8 hk
    try simp only [nb] at g2_8
    obtain ⟨a, ha, hta, hsz⟩ := hty.1 g2_8.1 g2_8.2
    have hl : (smp t).tree.text.length ≤ 3200 := by rw [hta, smp_tree]; exact Ty.sample_textlen hsz
    refine o_lOS rfl (.met rfl rfl) rfl ?_
    refine o_call rfl (.met rfl rfl) rfl (g_l3Of' hrep ⟨a, hta, hsz⟩ _) ?_
    rintro _ _ _ _ ⟨rfl, rfl, rfl⟩
    refine o_call rfl (.met rfl rfl) rfl (g_ExprValid _ (by unfold maxN; omega) _ _) ?_
    rintro _ _ _ _ ⟨rfl, rfl, rfl⟩
    refine o_not rfl (.met rfl rfl) rfl ?_
    refine o_pick_false rfl rfl .free rfl ?_
    exact o_fin 4 rfl rfl hk
  · intro _ hk
    refine o_skips 4 rfl ?_
    refine o_pick_true rfl rfl .free rfl ?_
    exact o_fin 4 rfl rfl hk
  refine o_done ?_
  refine s_cond rfl ?_ ?_
  · intro c0
    try simp only [nb] at c0
    refine s_seq ?_
    refine o_enter rfl ?_
    refine o_assign rfl .free rfl ?_
    refine o_assign rfl .free rfl ?_
    refine o_done ?_
    refine s_ret (.tmp rfl (.tmp rfl .nil)) ?_
    refine ⟨J, L, e1, (by intro _ h; first | exact h | exact dr1 h | exact dr2 h | exact dr3 h | exact dr4 h | exact dr5 h | exact dr6 h | exact dr6 h.drop | exact dr6 h.drop.drop | exact dr6 h.drop.drop.drop), ?_, rfl⟩
    have hz : ofOf s = none := by
      by_cases h1 : ok = true
      · by_cases h2 : t.typed = true
        · obtain ⟨a, ha, hta, hsz⟩ := hty.1 h1 h2
          rcases c0 with (h | h) | h
          · rw [h1] at h; cases h
          · rw [h2] at h; cases h
          · rw [hta, smp_tree, exOf_text (Ty.sample_ok hsz)] at h
            rw [ofOf_some ha]
            cases hf : a.sample.fine with
            | true => rw [hf] at h; cases h
            | false => rfl
        · exact ofOf_none (hty.2 (.inr (by simpa using h2)))
      · exact ofOf_none (hty.2 (.inl (by simpa using h1)))
    rw [hz]; rfl
  intro c0
  try simp only [nb] at c0
  obtain ⟨⟨h1, h2⟩, h3⟩ := c0
  obtain ⟨a, ha, rfl, hsz⟩ := hty.1 h1 h2
  refine s_skip ?_
  refine s_seq ?_
  refine o_enter rfl ?_
  refine o_lOS rfl .free rfl ?_
  refine o_call rfl .free rfl (g_l3Of _ (Nat.lt_succ_self _) hrep hsz _) ?_
  rintro _ _ _ _ ⟨rfl, rfl, rfl⟩
  refine o_assign rfl .free rfl ?_
  refine o_assign rfl .free rfl ?_
  refine o_done ?_
  refine s_ret (.tmp rfl (.tmp rfl .nil)) ?_
  refine ⟨J, L, e1, (by intro _ h; first | exact h | exact dr1 h | exact dr2 h | exact dr3 h | exact dr4 h | exact dr5 h | exact dr6 h | exact dr6 h.drop | exact dr6 h.drop.drop | exact dr6 h.drop.drop.drop), ?_, rfl⟩
  rw [smp_tree, exOf_text (Ty.sample_ok hsz)] at h3
  cases hf : a.sample.fine with
  | false => rw [hf] at h3; cases h3
  | true => rw [ofOf_some ha, if_pos hf]; rfl
theorem f_ValueIs (s : Txt) (hs : s.length ≤ maxN) (I : Heap) (L : Own) : Fun Try.prog 9 [.string (str s)] I L (fun v I' L' => v = .bool (valueOf s).isSome ∧ L = L') := by
  refine fun_intro (by simp) ?_
  refine s_seq ?_
  refine o_enter rfl ?_
  refine o_assign rfl .free rfl ?_
  refine o_done ?_
  refine s_seq ?_
  refine o_enter rfl ?_
  refine o_move rfl .free rfl ?_
  refine o_call rfl .free rfl (f_readClosed s hs _ _) ?_
  rintro _ J1 _ e1 ⟨t, cs, ok, rfl, hrep, rfl, hpf⟩
  obtain ⟨o1, k1, _, rfl, -⟩ := hrep.open
  have g1 := RX_get hpf
  refine o_move rfl .free rfl ?_
  refine o_extract rfl rfl .free rfl ?_
  refine o_extract rfl rfl .free rfl ?_
  refine o_alloc .free rfl ?_
  intro b3
  refine o_st rfl rfl rfl rfl .free ?_
  refine o_assign rfl .free rfl ?_
  refine o_done ?_
  refine s_seq ?_
  refine o_enter rfl ?_
  refine o_move rfl .free rfl ?_
  refine o_move rfl .free rfl ?_
  apply o_and 11 14 rfl
  · intro g2_2 hk
    try simp only [nb] at g2_2
    refine o_lOS rfl (.met rfl rfl) rfl ?_
    refine o_call rfl (.met rfl rfl) rfl (f_value_rx hrep hpf g2_2 _) ?_
    rintro _ _ _ _ ⟨rfl, rfl, rfl⟩
    refine o_pick_true rfl rfl .free rfl ?_
    exact o_fin 2 rfl rfl hk
  · intro _ hk
    refine o_skips 2 rfl ?_
    refine o_pick_false rfl rfl .free rfl ?_
    exact o_fin 2 rfl rfl hk
  refine o_assign rfl .free rfl ?_
  refine o_done ?_
  refine s_ret (.tmp rfl .nil) ?_
  refine ⟨J1, L, e1, (by intro _ h; first | exact h | exact dr1 h | exact dr2 h | exact dr3 h | exact dr4 h | exact dr5 h | exact dr6 h | exact dr6 h.drop | exact dr6 h.drop.drop | exact dr6 h.drop.drop.drop), ?_, rfl⟩
  cases ok with
  | false => rw [valueOf_none (g1.1 rfl)]; rfl
  | true => simp [retOne]
end Go.Proofs.Ytmljeljahcichaa


/- The walk of the statement 'FnOfType'. No conditions. -/
namespace Go.Proofs.Ytmljeljahcichaa
set_option maxRecDepth 100000
set_option linter.unusedVariables false
set_option linter.unusedSimpArgs false

theorem law_FnOfType {I : Heap} {oa : Option Addr} {code : List UInt8} {c : Nat} (h : Bytes I oa code c) (L : Own) : Fun Try.prog 3 [.slice oa code.length c] I L (YES L) := by
  have hlen := h.len
  refine fun_intro (by simp) ?_
  refine s_seq ?_
  refine o_enter rfl ?_
  refine o_assign rfl .free rfl ?_
  refine o_done ?_
  refine s_seq ?_
  refine s_seq ?_
  refine o_enter rfl ?_
  refine o_move rfl .free rfl ?_
  refine o_len_slice rfl .free rfl ?_
  refine o_cmp rfl rfl rfl .free rfl ?_
  refine o_done ?_
  refine s_cond rfl ?_ ?_
  · intro c0
    try simp only [nb] at c0
    refine s_seq ?_
    refine o_enter rfl ?_
    refine o_assign rfl .free rfl ?_
    refine o_done ?_
    refine s_ret (.tmp rfl .nil) ?_
    exact ⟨I, L, .refl _, fun _ h => h, rfl, rfl⟩
  intro c0
  try simp only [nb] at c0
  refine s_skip ?_
  refine s_seq ?_
  refine o_enter rfl ?_
  refine o_move rfl .free rfl ?_
  refine o_call rfl .free rfl (g_DrawExprOf h _) ?_
  rintro _ J1 _ e1 ⟨s, rfl, hsl, rfl⟩
  have hs : s.length ≤ maxN := by unfold maxN; omega
  refine o_assign rfl .free rfl ?_
  refine o_done ?_
  refine s_seq ?_
  refine o_enter rfl ?_
  refine o_move rfl .free rfl ?_
  refine o_call rfl .free rfl (f_ExprOf s hs _ _) ?_
  rintro _ J2 _ e2 ⟨rfl, rfl⟩
  refine o_move rfl .free rfl ?_
  refine o_extract rfl rfl .free rfl ?_
  refine o_extract rfl rfl .free rfl ?_
  refine o_assign rfl .free rfl ?_
  refine o_assign rfl .free rfl ?_
  refine o_done ?_
  refine s_seq ?_
  refine o_enter rfl ?_
  refine o_move rfl .free rfl ?_
  refine o_call rfl .free rfl (g_ExprOf s hs _ _) ?_
  rintro _ J3 _ e3 ⟨rfl, rfl⟩
  have hle := (e1.trans e2).trans e3
  refine o_move rfl .free rfl ?_
  refine o_extract rfl rfl .free rfl ?_
  refine o_extract rfl rfl .free rfl ?_
  refine o_assign rfl .free rfl ?_
  refine o_assign rfl .free rfl ?_
  refine o_done ?_
  refine s_seq ?_
  refine s_seq ?_
  refine o_enter rfl ?_
  refine o_move rfl .free rfl ?_
  refine o_move rfl .free rfl ?_
  refine o_cmpb rfl rfl rfl .free rfl ?_
  refine o_move rfl .free rfl ?_
  apply o_or 28 32 rfl
  · intro g6_4 hk
    try simp only [nb] at g6_4
    refine o_move rfl (.met rfl rfl) rfl ?_
    refine o_move rfl (.met rfl rfl) rfl ?_
    refine o_cmps rfl rfl rfl (.met rfl rfl) rfl ?_
    refine o_pick_false rfl rfl .free rfl ?_
    exact o_fin 3 rfl rfl hk
  · intro _ hk
    refine o_skips 3 rfl ?_
    refine o_pick_true rfl rfl .free rfl ?_
    exact o_fin 3 rfl rfl hk
  refine o_move rfl .free rfl ?_
  apply o_or 33 36 rfl
  · intro g6_9 hk
    try simp only [nb] at g6_9
    refine o_move rfl (.met rfl rfl) rfl ?_
    refine o_not rfl (.met rfl rfl) rfl ?_
    refine o_pick_false rfl rfl .free rfl ?_
    exact o_fin 2 rfl rfl hk
  · intro _ hk
    refine o_skips 2 rfl ?_
    refine o_pick_true rfl rfl .free rfl ?_
    exact o_fin 2 rfl rfl hk
  refine o_done ?_
  refine s_cond rfl ?_ ?_
  · intro c1
    try simp only [nb] at c1
    refine s_seq ?_
    refine o_enter rfl ?_
    refine o_move rfl .free rfl ?_
    refine o_move rfl .free rfl ?_
    refine o_cmpb rfl rfl rfl .free rfl ?_
    refine o_move rfl .free rfl ?_
    apply o_and 40 44 rfl
    · intro g7_4 hk
      try simp only [nb] at g7_4
      refine o_move rfl (.met rfl rfl) rfl ?_
      refine o_move rfl (.met rfl rfl) rfl ?_
      refine o_cmps rfl rfl rfl (.met rfl rfl) rfl ?_
      refine o_pick_true rfl rfl .free rfl ?_
      exact o_fin 3 rfl rfl hk
    · intro _ hk
      refine o_skips 3 rfl ?_
      refine o_pick_false rfl rfl .free rfl ?_
      exact o_fin 3 rfl rfl hk
    refine o_assign rfl .free rfl ?_
    refine o_done ?_
    refine s_ret (.tmp rfl .nil) ?_
    refine ⟨J3, L, hle, (by intro _ h; first | exact h | exact dr1 h | exact dr2 h | exact dr3 h | exact dr4 h | exact dr5 h | exact dr6 h | exact dr6 h.drop | exact dr6 h.drop.drop | exact dr6 h.drop.drop.drop), ?_, rfl⟩
    simp [retOne]
  intro c1
  try simp only [nb] at c1
  obtain ⟨o, ho⟩ : ∃ o, ofOf s = some o := Option.isSome_iff_exists.1 (by simpa using c1)
  rw [ho]
  obtain ⟨t, ht, hst, hx, hcl, htc, hv, hol⟩ := of_facts ho
  have hol' : o.length ≤ maxN := by unfold maxN; omega
  refine s_skip ?_
  refine s_seq ?_
  refine o_enter rfl ?_
  refine o_lits0 .free rfl ?_
  intro b46
  refine o_lits0 .free rfl ?_
  intro b47
  refine o_move rfl .free rfl ?_
  refine o_call rfl .free rfl (f_ExprType (l := []) (m := []) (strs_empty _ _) (strs_empty _ _) o hol' _) ?_
  rintro _ J4 _ e4 ⟨rfl, rfl⟩
  rw [exTy_nil, htc]
  have hle := hle.trans e4
  refine o_move rfl .free rfl ?_
  refine o_extract rfl rfl .free rfl ?_
  refine o_extract rfl rfl .free rfl ?_
  refine o_assign rfl .free rfl ?_
  refine o_assign rfl .free rfl ?_
  refine o_done ?_
  refine s_seq ?_
  refine o_enter rfl ?_
  refine o_move rfl .free rfl ?_
  refine o_move rfl .free rfl ?_
  apply o_and 53 57 rfl
  · intro g9_2 hk
    try simp only [nb] at g9_2
    refine o_move rfl (.met rfl rfl) rfl ?_
    refine o_move rfl (.met rfl rfl) rfl ?_
    refine o_cmps rfl rfl rfl (.met rfl rfl) rfl ?_
    refine o_pick_true rfl rfl .free rfl ?_
    exact o_fin 3 rfl rfl hk
  · intro _ hk
    refine o_skips 3 rfl ?_
    refine o_pick_false rfl rfl .free rfl ?_
    exact o_fin 3 rfl rfl hk
  refine o_move rfl .free rfl ?_
  apply o_and 58 61 rfl
  · intro g9_7 hk
    try simp only [nb] at g9_7
    refine o_move rfl (.met rfl rfl) rfl ?_
    refine o_call rfl (.met rfl rfl) rfl (f_ExprTyped o hol' _ _) ?_
    rintro _ J5 _ e5 ⟨rfl, rfl⟩
    refine o_mem (fun w h => Mem.le e5 h) ?_
    refine o_pick_true rfl rfl .free rfl ?_
    exact o_fin 2 rfl rfl hk
  · intro _ hk
    refine o_skips 2 rfl ?_
    refine o_pick_false rfl rfl .free rfl ?_
    exact o_fin 2 rfl rfl hk
  refine o_move rfl .free rfl ?_
  apply o_and 62 65 rfl
  · intro g9_11 hk
    try simp only [nb] at g9_11
    refine o_move rfl (.met rfl rfl) rfl ?_
    refine o_call rfl (.met rfl rfl) rfl (f_ValueIs o hol' _ _) ?_
    rintro _ J6 _ e6 ⟨rfl, rfl⟩
    refine o_mem (fun w h => Mem.le e6 h) ?_
    refine o_pick_true rfl rfl .free rfl ?_
    exact o_fin 2 rfl rfl hk
  · intro _ hk
    refine o_skips 2 rfl ?_
    refine o_pick_false rfl rfl .free rfl ?_
    exact o_fin 2 rfl rfl hk
  refine o_assign rfl .free rfl ?_
  refine o_done ?_
  refine s_ret (.tmp rfl .nil) ?_
  refine ⟨J4, L, hle, (by intro _ h; first | exact h | exact dr1 h | exact dr2 h | exact dr3 h | exact dr4 h | exact dr5 h | exact dr6 h | exact dr6 h.drop | exact dr6 h.drop.drop | exact dr6 h.drop.drop.drop), ?_, rfl⟩
  simp [retOne, htc, hv, hst]
end Go.Proofs.Ytmljeljahcichaa
