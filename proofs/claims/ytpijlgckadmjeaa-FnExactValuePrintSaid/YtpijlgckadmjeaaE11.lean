
/- Values and their prints. No conditions. -/
import Derived.Test.YtpijlgckadmjeaaE10
namespace Go.Proofs.Ytpijlgckadmjeaa
set_option maxRecDepth 100000
set_option linter.unusedVariables false
set_option linter.unusedSimpArgs false

def Ex.value : Ex → Bool
  | .num _ => true
  | .fn _ _ _ _ _ => true
  | .bin .pair a b => a.value && b.value
  | _ => false
def Ex.print : Ex → Tree
  | .bin .pair a b => .node [] [.node tPair [], a.print, b.print]
  | .fn _ _ _ _ _ => .node tFun []
  | e => e.tree
theorem Ex.print_len : ∀ e : Ex, e.print.len ≤ e.tree.len
  | .bin .pair a b => by
    have := a.print_len; have := b.print_len
    simp [Ex.print, Ex.tree, Tree.len, lenL, B5.txt]; omega
  | .bin .add a b => Nat.le_refl _
  | .bin .sub a b => Nat.le_refl _
  | .bin .mul a b => Nat.le_refl _
  | .bin .call a b => Nat.le_refl _
  | .fn f x s t b => by simp [Ex.print, Ex.tree, Tree.len, lenL]; omega
  | .num s => Nat.le_refl _
  | .name s => Nat.le_refl _
  | .ite a b c => Nat.le_refl _
  | .lt x a b => Nat.le_refl _
  | .un o a => Nat.le_refl _
theorem Ex.is_pair {e : Ex} (h : e.tree.is tPair 3 = true) : ∃ a b, e = .bin .pair a b := by
  simp only [Tree.is, Bool.and_eq_true, decide_eq_true_eq] at h
  exact Ex.of_bin (o := .pair) h.2
theorem Ex.not_pair {e : Ex} (h : e.tree.is tPair 3 = false) : ∀ a b, e ≠ .bin .pair a b := by
  rintro a b rfl; simp [Tree.is, Ex.tree, Tree.parts, Tree.head, Tree.atom, B5.txt] at h
theorem Ex.value_other {e : Ex} (hok : e.ok = true) (h : ∀ a b, e ≠ .bin .pair a b) : e.value = (decide (e.tree.head = tFun) || (e.tree.parts.isEmpty && isNum e.tree.atom)) := by
  cases e with
  | num s => have h1 : isNum s = true := hok; simp [Ex.value, Ex.tree, Tree.parts, Tree.atom, h1]
  | name s =>
    have h1 := name_not_num (show isName s = true from hok)
    simp only [Ex.tree, Tree.parts, Tree.atom, h1]; rfl
  | bin o a b => cases o <;> first | exact absurd rfl (h a b) | rfl
  | ite a b c => rfl
  | lt x a b => rfl
  | fn f x s t b => rfl
  | un o a => cases o <;> rfl

theorem f_form_isValue : ∀ (n : Nat) {I : Heap} {e : Ex} {cs : List Value} (_ : SizeOf.sizeOf e < n) (_ : Rep I e.tree cs) (_ : e.ok = true) (L : Own), Fun Try.prog 10 [.agg cs.toArray] I L (Only (.bool e.value) I L) := by
  intro n
  induction n with
  | zero => intro I e cs h; omega
  | succ n ihn =>
    intro I e cs hlt h hok L
    obtain ⟨oa, c, oaf, cf, rfl, hf⟩ := h.at'
    have ha := hf.alen
    refine fun_intro (by simp) ?_
    refine s_seq ?_
    refine o_enter rfl ?_
    refine o_box rfl rfl .free rfl ?_
    intro b1
    refine o_assign rfl .free rfl ?_
    refine o_done ?_
    refine s_seq ?_
    refine s_seq ?_
    refine o_enter rfl ?_
    refine o_load rfl (loads_ownS (by first | exact m0 | exact m1 | exact m2 | exact m3 | exact m4 | exact m5 | exact m6) (by rfl)) .free rfl ?_
    refine o_call rfl .free rfl (f_form_is hf.rep _ 3 _) ?_
    rintro _ _ _ _ ⟨rfl, rfl, rfl⟩
    refine o_done ?_
    refine s_cond rfl ?_ ?_
    · intro c0
      try simp only [Bool.and_eq_true, Bool.or_eq_true, Bool.not_eq_true', Bool.not_eq_false', Bool.and_eq_false_iff, Bool.or_eq_false_iff, decide_eq_true_eq, decide_eq_false_iff_not] at c0
      obtain ⟨a, b, rfl⟩ := Ex.is_pair c0
      simp only [Ex.ok, Bool.and_eq_true] at hok
      simp only [Ex.bin.sizeOf_spec] at hlt
      have hlen : (Ex.bin .pair a b).tree.parts.length = 3 := rfl
      refine s_seq ?_
      refine o_enter rfl ?_
      refine o_fieldAddr rfl .free rfl ?_
      refine o_load rfl (loads_own1 (by first | exact m0 | exact m1 | exact m2 | exact m3 | exact m4 | exact m5 | exact m6) (by rfl) rfl) .free rfl ?_
      first | refine o_indexAddrD rfl rfl 1 rfl (by first | omega | exact lt_of (by assumption) (by decide) | (simp; done) | (simp; omega) | decide | (simp at *; omega)) (by first | assumption | exact FormAt.nil (by assumption) | exact Strs.nil' (by assumption) | exact Nums.nil' (by assumption) | exact Raw.nil' (by assumption)) .free rfl ?_ | refine o_indexAddr' rfl rfl 1 rfl (by first | omega | exact lt_of (by assumption) (by decide) | (simp; done) | (simp; omega) | decide | (simp at *; omega)) (by first | rfl | assumption) .free rfl ?_
      refine o_load rfl (by first | exact loads_stillS (FormAt.st (by assumption) _ (by first | omega | decide | (simp; done) | exact lt_of (by assumption) (by decide))) (by rfl) | exact loads_stillS (by assumption) (by rfl)) .free rfl ?_
      refine o_call rfl .free rfl (ihn (by omega) (hf.as 1 a.tree (by omega) rfl) hok.1 _) ?_
      rintro _ _ _ _ ⟨rfl, rfl, rfl⟩
      refine o_move rfl .free rfl ?_
      apply o_and 10 16 rfl
      · intro g2_6 hk
        try simp only [Bool.and_eq_true, Bool.or_eq_true, Bool.not_eq_true', Bool.not_eq_false', Bool.and_eq_false_iff, Bool.or_eq_false_iff, decide_eq_true_eq, decide_eq_false_iff_not] at g2_6
        refine o_fieldAddr rfl (.met rfl rfl) rfl ?_
        refine o_load rfl (loads_own1 (by first | exact m0 | exact m1 | exact m2 | exact m3 | exact m4 | exact m5 | exact m6) (by rfl) rfl) (.met rfl rfl) rfl ?_
        first | refine o_indexAddrD rfl rfl 2 rfl (by first | omega | exact lt_of (by assumption) (by decide) | (simp; done) | (simp; omega) | decide | (simp at *; omega)) (by first | assumption | exact FormAt.nil (by assumption) | exact Strs.nil' (by assumption) | exact Nums.nil' (by assumption) | exact Raw.nil' (by assumption)) (.met rfl rfl) rfl ?_ | refine o_indexAddr' rfl rfl 2 rfl (by first | omega | exact lt_of (by assumption) (by decide) | (simp; done) | (simp; omega) | decide | (simp at *; omega)) (by first | rfl | assumption) (.met rfl rfl) rfl ?_
        refine o_load rfl (by first | exact loads_stillS (FormAt.st (by assumption) _ (by first | omega | decide | (simp; done) | exact lt_of (by assumption) (by decide))) (by rfl) | exact loads_stillS (by assumption) (by rfl)) (.met rfl rfl) rfl ?_
        refine o_call rfl (.met rfl rfl) rfl (ihn (by omega) (hf.as 2 b.tree (by omega) rfl) hok.2 _) ?_
        rintro _ _ _ _ ⟨rfl, rfl, rfl⟩
        refine o_pick_true rfl rfl .free rfl ?_
        exact o_fin 5 rfl rfl hk
      · intro _ hk
        refine o_skips 5 rfl ?_
        refine o_pick_false rfl rfl .free rfl ?_
        exact o_fin 5 rfl rfl hk
      refine o_assign rfl .free rfl ?_
      refine o_done ?_
      refine s_ret (.tmp rfl .nil) ?_
      refine done_only rfl (by intro _ h; first | exact h | exact dr1 h | exact dr2 h | exact dr3 h | exact dr4 h | exact dr5 h | exact dr6 h) ?_
      rfl
    · intro c0
      try simp only [Bool.and_eq_true, Bool.or_eq_true, Bool.not_eq_true', Bool.not_eq_false', Bool.and_eq_false_iff, Bool.or_eq_false_iff, decide_eq_true_eq, decide_eq_false_iff_not] at c0
      refine s_skip ?_
      refine s_seq ?_
      refine o_enter rfl ?_
      refine o_load rfl (loads_ownS (by first | exact m0 | exact m1 | exact m2 | exact m3 | exact m4 | exact m5 | exact m6) (by rfl)) .free rfl ?_
      refine o_call rfl .free rfl (f_form_head hf.rep _) ?_
      rintro _ _ _ _ ⟨rfl, rfl, rfl⟩
      refine o_cmps rfl rfl rfl .free rfl ?_
      refine o_move rfl .free rfl ?_
      apply o_or 20 28 rfl
      · intro g3_4 hk
        try simp only [Bool.and_eq_true, Bool.or_eq_true, Bool.not_eq_true', Bool.not_eq_false', Bool.and_eq_false_iff, Bool.or_eq_false_iff, decide_eq_true_eq, decide_eq_false_iff_not] at g3_4
        refine o_load rfl (loads_ownS (by first | exact m0 | exact m1 | exact m2 | exact m3 | exact m4 | exact m5 | exact m6) (by rfl)) (.met rfl rfl) rfl ?_
        refine o_call rfl (.met rfl rfl) rfl (f_form_isAtom hf.rep _) ?_
        rintro _ _ _ _ ⟨rfl, rfl, rfl⟩
        refine o_move rfl (.met rfl rfl) rfl ?_
        apply o_and 23 27 rfl
        · intro g3_7 hk
          try simp only [Bool.and_eq_true, Bool.or_eq_true, Bool.not_eq_true', Bool.not_eq_false', Bool.and_eq_false_iff, Bool.or_eq_false_iff, decide_eq_true_eq, decide_eq_false_iff_not] at g3_7
          refine o_fieldAddr rfl (.met rfl rfl) rfl ?_
          refine o_load rfl (loads_own1 (by first | exact m0 | exact m1 | exact m2 | exact m3 | exact m4 | exact m5 | exact m6) (by rfl) rfl) (.met rfl rfl) rfl ?_
          refine o_call rfl (.met rfl rfl) rfl (f_isNumeral e.tree.atom ha _ _) ?_
          rintro _ _ _ _ ⟨rfl, rfl, rfl⟩
          refine o_pick_true rfl rfl (.met rfl rfl) rfl ?_
          exact o_fin 3 rfl rfl hk
        · intro _ hk
          refine o_skips 3 rfl ?_
          refine o_pick_false rfl rfl (.met rfl rfl) rfl ?_
          exact o_fin 3 rfl rfl hk
        refine o_pick_false rfl rfl .free rfl ?_
        exact o_fin 4 rfl rfl hk
      · intro _ hk
        refine o_skips 7 rfl ?_
        refine o_pick_true rfl rfl .free rfl ?_
        exact o_fin 7 rfl rfl hk
      refine o_assign rfl .free rfl ?_
      refine o_done ?_
      refine s_ret (.tmp rfl .nil) ?_
      refine done_only rfl (by intro _ h; first | exact h | exact dr1 h | exact dr2 h | exact dr3 h | exact dr4 h | exact dr5 h | exact dr6 h) ?_
      rw [Ex.value_other hok (Ex.not_pair c0)]; rfl
theorem g_l4Is : ∀ (n : Nat) {I : Heap} {e : Ex} {cs : List Value} (_ : SizeOf.sizeOf e < n) (_ : Rep I e.tree cs) (_ : e.ok = true) (L : Own), Fun Try.prog 17 [.agg cs.toArray] I L (Only (.bool e.value) I L) := by
  intro n
  induction n with
  | zero => intro I e cs h; omega
  | succ n ihn =>
    intro I e cs hlt h hok L
    obtain ⟨oa, c, oaf, cf, rfl, hf⟩ := h.at'
    have ha := hf.alen
    refine fun_intro (by simp) ?_
    refine s_seq ?_
    refine o_enter rfl ?_
    refine o_box rfl rfl .free rfl ?_
    intro b1
    refine o_assign rfl .free rfl ?_
    refine o_done ?_
    refine s_seq ?_
    refine s_seq ?_
    refine o_enter rfl ?_
    refine o_fieldAddr rfl .free rfl ?_
    refine o_load rfl (loads_own1 (by first | exact m0 | exact m1 | exact m2 | exact m3 | exact m4 | exact m5 | exact m6) (by rfl) rfl) .free rfl ?_
    refine o_cmps rfl rfl rfl .free rfl ?_
    refine o_done ?_
    refine s_cond rfl ?_ ?_
    · intro c0
      try simp only [Bool.and_eq_true, Bool.or_eq_true, Bool.not_eq_true', Bool.not_eq_false', Bool.and_eq_false_iff, Bool.or_eq_false_iff, decide_eq_true_eq, decide_eq_false_iff_not] at c0
      refine s_seq ?_
      refine o_enter rfl ?_
      refine o_fieldAddr rfl .free rfl ?_
      refine o_load rfl (loads_own1 (by first | exact m0 | exact m1 | exact m2 | exact m3 | exact m4 | exact m5 | exact m6) (by rfl) rfl) .free rfl ?_
      refine o_call rfl .free rfl (g_l2Name e.tree.atom ha _ _) ?_
      rintro _ _ _ _ ⟨rfl, rfl, rfl⟩
      refine o_not rfl .free rfl ?_
      refine o_assign rfl .free rfl ?_
      refine o_done ?_
      refine s_ret (.tmp rfl .nil) ?_
      refine done_only rfl (by intro _ h; first | exact h | exact dr1 h | exact dr2 h | exact dr3 h | exact dr4 h | exact dr5 h | exact dr6 h) ?_
      have hb : e.bare = true := by
        cases hb : e.bare with
        | true => rfl
        | false => exact absurd ((Ex.atom_iff hok).2 hb) c0
      cases e with
      | num s =>
        have h2 : isName s = false := by
          cases h3 : isName s with
          | false => rfl
          | true => have h4 := name_not_num h3; rw [show isNum s = true from hok] at h4; cases h4
        simp [retOne, Ex.tree, Tree.atom, h2, Ex.value]
      | name s => simp [retOne, Ex.tree, Tree.atom, show isName s = true from hok, Ex.value]
      | _ => cases hb
    · intro c0
      try simp only [Bool.and_eq_true, Bool.or_eq_true, Bool.not_eq_true', Bool.not_eq_false', Bool.and_eq_false_iff, Bool.or_eq_false_iff, decide_eq_true_eq, decide_eq_false_iff_not] at c0
      obtain ⟨hne, h0⟩ := good_ne (Ex.tree_good hok).1 (by simpa using c0)
      have hhd := head_at h0
      refine s_skip ?_
      refine s_seq ?_
      refine s_seq ?_
      refine o_enter rfl ?_
      refine o_fieldAddr rfl .free rfl ?_
      refine o_load rfl (loads_own1 (by first | exact m0 | exact m1 | exact m2 | exact m3 | exact m4 | exact m5 | exact m6) (by rfl) rfl) .free rfl ?_
      first | refine o_indexAddrD rfl rfl 0 rfl (by first | omega | exact lt_of (by assumption) (by decide) | (simp; done) | (simp; omega) | decide | (simp at *; omega)) (by first | assumption | exact FormAt.nil (by assumption) | exact Strs.nil' (by assumption) | exact Nums.nil' (by assumption) | exact Raw.nil' (by assumption)) .free rfl ?_ | refine o_indexAddr' rfl rfl 0 rfl (by first | omega | exact lt_of (by assumption) (by decide) | (simp; done) | (simp; omega) | decide | (simp at *; omega)) (by first | rfl | assumption) .free rfl ?_
      refine o_fieldAddr' rfl .free rfl ?_
      refine o_load rfl (by first | exact loads_stillF (FormAt.st (by assumption) _ (by first | omega | decide | (simp; done) | exact lt_of (by assumption) (by decide))) (by rfl) rfl | exact loads_stillF (by assumption) (by rfl) rfl) .free rfl ?_
      refine o_cmps rfl rfl rfl .free rfl ?_
      refine o_done ?_
      refine s_cond rfl ?_ ?_
      · intro c1
        try simp only [Bool.and_eq_true, Bool.or_eq_true, Bool.not_eq_true', Bool.not_eq_false', Bool.and_eq_false_iff, Bool.or_eq_false_iff, decide_eq_true_eq, decide_eq_false_iff_not] at c1
        obtain ⟨a, b, rfl⟩ := Ex.of_bin (o := .pair) (hhd.trans c1)
        simp only [Ex.ok, Bool.and_eq_true] at hok
        simp only [Ex.bin.sizeOf_spec] at hlt
        have hlen : (Ex.bin .pair a b).tree.parts.length = 3 := rfl
        refine s_seq ?_
        refine o_enter rfl ?_
        refine o_fieldAddr rfl .free rfl ?_
        refine o_load rfl (loads_own1 (by first | exact m0 | exact m1 | exact m2 | exact m3 | exact m4 | exact m5 | exact m6) (by rfl) rfl) .free rfl ?_
        first | refine o_indexAddrD rfl rfl 1 rfl (by first | omega | exact lt_of (by assumption) (by decide) | (simp; done) | (simp; omega) | decide | (simp at *; omega)) (by first | assumption | exact FormAt.nil (by assumption) | exact Strs.nil' (by assumption) | exact Nums.nil' (by assumption) | exact Raw.nil' (by assumption)) .free rfl ?_ | refine o_indexAddr' rfl rfl 1 rfl (by first | omega | exact lt_of (by assumption) (by decide) | (simp; done) | (simp; omega) | decide | (simp at *; omega)) (by first | rfl | assumption) .free rfl ?_
        refine o_load rfl (by first | exact loads_stillS (FormAt.st (by assumption) _ (by first | omega | decide | (simp; done) | exact lt_of (by assumption) (by decide))) (by rfl) | exact loads_stillS (by assumption) (by rfl)) .free rfl ?_
        refine o_call rfl .free rfl (ihn (by omega) (hf.as 1 a.tree (by omega) rfl) hok.1 _) ?_
        rintro _ _ _ _ ⟨rfl, rfl, rfl⟩
        refine o_move rfl .free rfl ?_
        apply o_and 21 27 rfl
        · intro g4_6 hk
          try simp only [Bool.and_eq_true, Bool.or_eq_true, Bool.not_eq_true', Bool.not_eq_false', Bool.and_eq_false_iff, Bool.or_eq_false_iff, decide_eq_true_eq, decide_eq_false_iff_not] at g4_6
          refine o_fieldAddr rfl (.met rfl rfl) rfl ?_
          refine o_load rfl (loads_own1 (by first | exact m0 | exact m1 | exact m2 | exact m3 | exact m4 | exact m5 | exact m6) (by rfl) rfl) (.met rfl rfl) rfl ?_
          first | refine o_indexAddrD rfl rfl 2 rfl (by first | omega | exact lt_of (by assumption) (by decide) | (simp; done) | (simp; omega) | decide | (simp at *; omega)) (by first | assumption | exact FormAt.nil (by assumption) | exact Strs.nil' (by assumption) | exact Nums.nil' (by assumption) | exact Raw.nil' (by assumption)) (.met rfl rfl) rfl ?_ | refine o_indexAddr' rfl rfl 2 rfl (by first | omega | exact lt_of (by assumption) (by decide) | (simp; done) | (simp; omega) | decide | (simp at *; omega)) (by first | rfl | assumption) (.met rfl rfl) rfl ?_
          refine o_load rfl (by first | exact loads_stillS (FormAt.st (by assumption) _ (by first | omega | decide | (simp; done) | exact lt_of (by assumption) (by decide))) (by rfl) | exact loads_stillS (by assumption) (by rfl)) (.met rfl rfl) rfl ?_
          refine o_call rfl (.met rfl rfl) rfl (ihn (by omega) (hf.as 2 b.tree (by omega) rfl) hok.2 _) ?_
          rintro _ _ _ _ ⟨rfl, rfl, rfl⟩
          refine o_pick_true rfl rfl .free rfl ?_
          exact o_fin 5 rfl rfl hk
        · intro _ hk
          refine o_skips 5 rfl ?_
          refine o_pick_false rfl rfl .free rfl ?_
          exact o_fin 5 rfl rfl hk
        refine o_assign rfl .free rfl ?_
        refine o_done ?_
        refine s_ret (.tmp rfl .nil) ?_
        refine done_only rfl (by intro _ h; first | exact h | exact dr1 h | exact dr2 h | exact dr3 h | exact dr4 h | exact dr5 h | exact dr6 h) ?_
        rfl
      · intro c1
        try simp only [Bool.and_eq_true, Bool.or_eq_true, Bool.not_eq_true', Bool.not_eq_false', Bool.and_eq_false_iff, Bool.or_eq_false_iff, decide_eq_true_eq, decide_eq_false_iff_not] at c1
        refine s_skip ?_
        refine s_seq ?_
        refine o_enter rfl ?_
        refine o_fieldAddr rfl .free rfl ?_
        refine o_load rfl (loads_own1 (by first | exact m0 | exact m1 | exact m2 | exact m3 | exact m4 | exact m5 | exact m6) (by rfl) rfl) .free rfl ?_
        first | refine o_indexAddrD rfl rfl 0 rfl (by first | omega | exact lt_of (by assumption) (by decide) | (simp; done) | (simp; omega) | decide | (simp at *; omega)) (by first | assumption | exact FormAt.nil (by assumption) | exact Strs.nil' (by assumption) | exact Nums.nil' (by assumption) | exact Raw.nil' (by assumption)) .free rfl ?_ | refine o_indexAddr' rfl rfl 0 rfl (by first | omega | exact lt_of (by assumption) (by decide) | (simp; done) | (simp; omega) | decide | (simp at *; omega)) (by first | rfl | assumption) .free rfl ?_
        refine o_fieldAddr' rfl .free rfl ?_
        refine o_load rfl (by first | exact loads_stillF (FormAt.st (by assumption) _ (by first | omega | decide | (simp; done) | exact lt_of (by assumption) (by decide))) (by rfl) rfl | exact loads_stillF (by assumption) (by rfl) rfl) .free rfl ?_
        refine o_cmps rfl rfl rfl .free rfl ?_
        refine o_assign rfl .free rfl ?_
        refine o_done ?_
        refine s_ret (.tmp rfl .nil) ?_
        refine done_only rfl (by intro _ h; first | exact h | exact dr1 h | exact dr2 h | exact dr3 h | exact dr4 h | exact dr5 h | exact dr6 h) ?_
        rw [Ex.value_other hok (by rintro a b rfl; exact c1 rfl), hhd]
        have : e.tree.parts.isEmpty = false := by cases hh : e.tree.parts with
          | nil => exact absurd hh hne
          | cons => rfl
        rw [this]; simp only [Bool.false_and, Bool.or_false]; rfl
theorem f_form_print : ∀ (n : Nat) {I : Heap} {e : Ex} {cs : List Value} (_ : SizeOf.sizeOf e < n) (_ : Rep I e.tree cs) (L : Own), Fun Try.prog 11 [.agg cs.toArray] I L (RP e.print L) := by
  intro n
  induction n with
  | zero => intro I e cs h; omega
  | succ n ihn =>
    intro I e cs hlt h L
    obtain ⟨oa, c, oaf, cf, rfl, hf⟩ := h.at'
    refine fun_intro (by simp) ?_
    refine s_seq ?_
    refine o_enter rfl ?_
    refine o_box rfl rfl .free rfl ?_
    intro b1
    refine o_alloc .free rfl ?_
    intro b2
    refine o_done ?_
    refine s_seq ?_
    refine s_seq ?_
    refine o_enter rfl ?_
    refine o_load rfl (loads_ownS (by first | exact m0 | exact m1 | exact m2 | exact m3 | exact m4 | exact m5 | exact m6) (by rfl)) .free rfl ?_
    refine o_call rfl .free rfl (f_form_head hf.rep _) ?_
    rintro _ _ _ _ ⟨rfl, rfl, rfl⟩
    refine o_done ?_
    refine s_block ?_
    refine s_seq ?_
    refine o_enter rfl ?_
    refine o_cmps rfl rfl rfl .free rfl ?_
    refine o_assign rfl .free rfl ?_
    refine o_done ?_
    refine s_cond rfl ?_ ?_
    · intro c0
      try simp only [Bool.and_eq_true, Bool.or_eq_true, Bool.not_eq_true', Bool.not_eq_false', Bool.and_eq_false_iff, Bool.or_eq_false_iff, decide_eq_true_eq, decide_eq_false_iff_not] at c0
      obtain ⟨a, b, rfl⟩ := Ex.of_bin (o := .pair) c0
      simp only [Ex.bin.sizeOf_spec] at hlt
      have hlen : (Ex.bin .pair a b).tree.parts.length = 3 := rfl
      refine s_seq ?_
      refine d_all 13 rfl rfl ?_
      refine d_takeA 0 rfl (by kernel_rfl) rfl (.inr heldx) (y_fieldAddr rfl) .free rfl ?_
      refine d_take 1 [12] rfl (by kernel_rfl) rfl heldx (y_load rfl (loads_own1 (by first | exact m0 | exact m1 | exact m2 | exact m3 | exact m4 | exact m5 | exact m6) (by rfl) rfl)) .free rfl ?_
      first | refine d_takeA 2 rfl (by kernel_rfl) rfl (.inr heldx) (y_indexAddrD rfl rfl 1 rfl (by first | omega | exact lt_of (by assumption) (by decide) | (simp; done) | (simp; omega) | decide | (simp at *; omega)) (by first | assumption | exact FormAt.nil (by assumption) | exact Strs.nil' (by assumption) | exact Nums.nil' (by assumption) | exact Raw.nil' (by assumption))) .free rfl ?_ | refine d_takeA 2 rfl (by kernel_rfl) rfl (.inr heldx) (y_indexAddr' rfl rfl 1 rfl (by first | omega | exact lt_of (by assumption) (by decide) | (simp; done) | (simp; omega) | decide | (simp at *; omega)) (by first | rfl | assumption)) .free rfl ?_
      refine d_take 3 [12] rfl (by kernel_rfl) rfl heldx (y_load rfl (by first | exact loads_stillS (FormAt.st (by assumption) _ (by first | omega | decide | (simp; done) | exact lt_of (by assumption) (by decide))) (by rfl) | exact loads_stillS (by assumption) (by rfl))) .free rfl ?_
      refine d_takeA 5 rfl (by kernel_rfl) rfl (.inr heldx) (y_fieldAddr rfl) .free rfl ?_
      refine d_take 6 [12] rfl (by kernel_rfl) rfl heldx (y_load rfl (loads_own1 (by first | exact m0 | exact m1 | exact m2 | exact m3 | exact m4 | exact m5 | exact m6) (by rfl) rfl)) .free rfl ?_
      first | refine d_takeA 7 rfl (by kernel_rfl) rfl (.inr heldx) (y_indexAddrD rfl rfl 2 rfl (by first | omega | exact lt_of (by assumption) (by decide) | (simp; done) | (simp; omega) | decide | (simp at *; omega)) (by first | assumption | exact FormAt.nil (by assumption) | exact Strs.nil' (by assumption) | exact Nums.nil' (by assumption) | exact Raw.nil' (by assumption))) .free rfl ?_ | refine d_takeA 7 rfl (by kernel_rfl) rfl (.inr heldx) (y_indexAddr' rfl rfl 2 rfl (by first | omega | exact lt_of (by assumption) (by decide) | (simp; done) | (simp; omega) | decide | (simp at *; omega)) (by first | rfl | assumption)) .free rfl ?_
      refine d_take 8 [12] rfl (by kernel_rfl) rfl heldx (y_load rfl (by first | exact loads_stillS (FormAt.st (by assumption) _ (by first | omega | decide | (simp; done) | exact lt_of (by assumption) (by decide))) (by rfl) | exact loads_stillS (by assumption) (by rfl))) .free rfl ?_
      refine d_call 4 rfl (by kernel_rfl) rfl rfl .free rfl (ihn (by omega) (hf.as 1 a.tree (by omega) rfl) _) ?_
      rintro _ J1 _ e1 ⟨cs1, rfl, h1, rfl⟩
      obtain ⟨o1, k1, _, rfl, -⟩ := h1.open
      have hf := hf.mono e1
      refine ⟨(.inr heldx), ?_⟩
      refine d_call 9 rfl (by kernel_rfl) rfl rfl .free rfl (ihn (by omega) (hf.as 2 b.tree (by omega) rfl) _) ?_
      rintro _ J2 _ e2 ⟨cs2, rfl, h2, rfl⟩
      obtain ⟨o2, k2, _, rfl, -⟩ := h2.open
      have e3 := e1.trans e2
      refine ⟨(.inr heldx), ?_⟩
      refine d_lits 10 rfl (by kernel_rfl) rfl rfl rfl (by rfl) (by rfl) (by rfl) (by decide) (by decide) (by rfl) .free rfl (.inr heldx) ?_
      intro b17
      refine d_freeze ?_
      intro hz
      have e4 := e3.trans hz
      have hfs := forms_lit0 (c := 2) (b := b17) (RepL.two (h1.mono e2) h2) hz (by simp) (by simp [maxN])
      refine d_call 11 rfl (by kernel_rfl) rfl rfl .free rfl (f_headed tPair (by decide) hfs (by simp [maxN]) _) ?_
      rintro _ J4 _ e5 ⟨cs4, rfl, h4, rfl⟩
      obtain ⟨o4, k4, _, rfl, -⟩ := h4.open
      have e6 := e4.trans e5
      refine ⟨(.inr heldx), ?_⟩
      refine d_store 12 rfl (by kernel_rfl) rfl rfl rfl rfl rfl (by first | rfl | (simp only [List.toList_toArray, List.all_cons, List.all_nil, plainCell_buf, Bool.and_true, Bool.true_and] <;> rfl)) (by first | exact u0 | exact u1 | exact u2 | exact u3 | exact u4 | exact u5 | exact u6) (by rfl) .free (.inl (by kernel_rfl)) ?_
      refine d_done (by kernel_rfl) ?_
      refine s_ret (.cell rfl (by first | exact loads_still1 (by assumption) rfl | exact loads_ownS (by first | exact m0 | exact m1 | exact m2 | exact m3 | exact m4 | exact m5 | exact m6) (by rfl) | exact loads_own1 (by first | exact m0 | exact m1 | exact m2 | exact m3 | exact m4 | exact m5 | exact m6) (by rfl) rfl | exact loads_stillS (by assumption) (by rfl) | exact loads_stillF (by assumption) (by rfl) rfl) .nil) ?_
      exact ⟨J4, L, e6, (by intro _ h; first | exact h | exact dr1 h | exact dr2 h | exact dr3 h | exact dr4 h | exact dr5 h | exact dr6 h), _, rfl, h4, rfl⟩
    · intro c0
      try simp only [Bool.and_eq_true, Bool.or_eq_true, Bool.not_eq_true', Bool.not_eq_false', Bool.and_eq_false_iff, Bool.or_eq_false_iff, decide_eq_true_eq, decide_eq_false_iff_not] at c0
      refine s_seq ?_
      refine o_enter rfl ?_
      refine o_cmps rfl rfl rfl .free rfl ?_
      refine o_assign rfl .free rfl ?_
      refine o_done ?_
      refine s_cond rfl ?_ ?_
      · intro c1
        try simp only [Bool.and_eq_true, Bool.or_eq_true, Bool.not_eq_true', Bool.not_eq_false', Bool.and_eq_false_iff, Bool.or_eq_false_iff, decide_eq_true_eq, decide_eq_false_iff_not] at c1
        obtain ⟨f, x, s, t, b, rfl⟩ := Ex.of_fun c1
        refine s_seq ?_
        refine o_enter rfl ?_
        refine o_call rfl .free rfl (f_atom tFun (by decide) _ _) ?_
        rintro _ _ _ _ ⟨rfl, rfl, rfl⟩
        refine o_store rfl rfl rfl rfl (by first | rfl | (simp only [List.toList_toArray, List.all_cons, List.all_nil, plainCell_buf, Bool.and_true, Bool.true_and] <;> rfl)) (by first | exact u0 | exact u1 | exact u2 | exact u3 | exact u4 | exact u5 | exact u6) (by rfl) .free ?_
        refine o_done ?_
        refine s_ret (.cell rfl (by first | exact loads_still1 (by assumption) rfl | exact loads_ownS (by first | exact m0 | exact m1 | exact m2 | exact m3 | exact m4 | exact m5 | exact m6) (by rfl) | exact loads_own1 (by first | exact m0 | exact m1 | exact m2 | exact m3 | exact m4 | exact m5 | exact m6) (by rfl) rfl | exact loads_stillS (by assumption) (by rfl) | exact loads_stillF (by assumption) (by rfl) rfl) .nil) ?_
        exact ⟨I, L, .refl _, (by intro _ h; first | exact h | exact dr1 h | exact dr2 h | exact dr3 h | exact dr4 h | exact dr5 h | exact dr6 h), _, rfl, .ofAtom (by decide), rfl⟩
      · intro c1
        try simp only [Bool.and_eq_true, Bool.or_eq_true, Bool.not_eq_true', Bool.not_eq_false', Bool.and_eq_false_iff, Bool.or_eq_false_iff, decide_eq_true_eq, decide_eq_false_iff_not] at c1
        refine s_skip ?_
        refine s_inBlock ?_
        refine s_seq ?_
        refine o_enter rfl ?_
        refine o_load rfl (loads_ownS (by first | exact m0 | exact m1 | exact m2 | exact m3 | exact m4 | exact m5 | exact m6) (by rfl)) .free rfl ?_
        refine o_store rfl rfl rfl rfl (by first | rfl | (simp only [List.toList_toArray, List.all_cons, List.all_nil, plainCell_buf, Bool.and_true, Bool.true_and] <;> rfl)) (by first | exact u0 | exact u1 | exact u2 | exact u3 | exact u4 | exact u5 | exact u6) (by rfl) .free ?_
        refine o_done ?_
        refine s_ret (.cell rfl (by first | exact loads_still1 (by assumption) rfl | exact loads_ownS (by first | exact m0 | exact m1 | exact m2 | exact m3 | exact m4 | exact m5 | exact m6) (by rfl) | exact loads_own1 (by first | exact m0 | exact m1 | exact m2 | exact m3 | exact m4 | exact m5 | exact m6) (by rfl) rfl | exact loads_stillS (by assumption) (by rfl) | exact loads_stillF (by assumption) (by rfl) rfl) .nil) ?_
        refine ⟨I, L, .refl _, (by intro _ h; first | exact h | exact dr1 h | exact dr2 h | exact dr3 h | exact dr4 h | exact dr5 h | exact dr6 h), _, rfl, ?_, rfl⟩
        have : e.print = e.tree := by
          cases e with
          | bin o a b => cases o <;> first | rfl | exact absurd rfl c0
          | fn f x s t b => exact absurd rfl c1
          | _ => rfl
        rw [this]; exact hf.rep
theorem pair_text (a b : Tree) : (Tree.node [] [.node tPair [], a, b]).text = [40, 112, 97, 105, 114, 32] ++ a.text ++ [32] ++ b.text ++ [41] := by
  simp [Tree.text, textL, tPair]
theorem Ex.print_atom {e : Ex} (h : e.bare = true) : e.print = e.tree := by cases e <;> first | rfl | cases h
theorem g_l4Print : ∀ (n : Nat) {I : Heap} {e : Ex} {cs : List Value} (_ : SizeOf.sizeOf e < n) (_ : Rep I e.tree cs) (_ : e.ok = true) (_ : e.value = true) (_ : e.tree.len ≤ 12000) (L : Own), Fun Try.prog 8 [.agg cs.toArray] I L (Only (.string (str e.print.text)) I L) := by
  intro n
  induction n with
  | zero => intro I e cs h; omega
  | succ n ihn =>
    intro I e cs hlt h hok hv hz L
    obtain ⟨oa, c, oaf, cf, rfl, hf⟩ := h.at'
    refine fun_intro (by simp) ?_
    refine s_seq ?_
    refine o_enter rfl ?_
    refine o_box rfl rfl .free rfl ?_
    intro b1
    refine o_assign rfl .free rfl ?_
    refine o_done ?_
    refine s_seq ?_
    refine s_seq ?_
    refine o_enter rfl ?_
    refine o_fieldAddr rfl .free rfl ?_
    refine o_load rfl (loads_own1 (by first | exact m0 | exact m1 | exact m2 | exact m3 | exact m4 | exact m5 | exact m6) (by rfl) rfl) .free rfl ?_
    refine o_cmps rfl rfl rfl .free rfl ?_
    refine o_done ?_
    refine s_cond rfl ?_ ?_
    · intro c0
      try simp only [Bool.and_eq_true, Bool.or_eq_true, Bool.not_eq_true', Bool.not_eq_false', Bool.and_eq_false_iff, Bool.or_eq_false_iff, decide_eq_true_eq, decide_eq_false_iff_not] at c0
      refine s_seq ?_
      refine o_enter rfl ?_
      refine o_fieldAddr rfl .free rfl ?_
      refine o_load rfl (loads_own1 (by first | exact m0 | exact m1 | exact m2 | exact m3 | exact m4 | exact m5 | exact m6) (by rfl) rfl) .free rfl ?_
      refine o_assign rfl .free rfl ?_
      refine o_done ?_
      refine s_ret (.tmp rfl .nil) ?_
      refine done_only rfl (by intro _ h; first | exact h | exact dr1 h | exact dr2 h | exact dr3 h | exact dr4 h | exact dr5 h | exact dr6 h) ?_
      have hb : e.bare = true := by
        cases hb : e.bare with
        | true => rfl
        | false => exact absurd ((Ex.atom_iff hok).2 hb) c0
      rw [Ex.print_atom hb, Tree.text_atom _ (by rw [Ex.bare_parts] at hb; simpa using hb)]; rfl
    · intro c0
      try simp only [Bool.and_eq_true, Bool.or_eq_true, Bool.not_eq_true', Bool.not_eq_false', Bool.and_eq_false_iff, Bool.or_eq_false_iff, decide_eq_true_eq, decide_eq_false_iff_not] at c0
      obtain ⟨hne, h0⟩ := good_ne (Ex.tree_good hok).1 (by simpa using c0)
      have hhd := head_at h0
      refine s_skip ?_
      refine s_seq ?_
      refine s_seq ?_
      refine o_enter rfl ?_
      refine o_fieldAddr rfl .free rfl ?_
      refine o_load rfl (loads_own1 (by first | exact m0 | exact m1 | exact m2 | exact m3 | exact m4 | exact m5 | exact m6) (by rfl) rfl) .free rfl ?_
      first | refine o_indexAddrD rfl rfl 0 rfl (by first | omega | exact lt_of (by assumption) (by decide) | (simp; done) | (simp; omega) | decide | (simp at *; omega)) (by first | assumption | exact FormAt.nil (by assumption) | exact Strs.nil' (by assumption) | exact Nums.nil' (by assumption) | exact Raw.nil' (by assumption)) .free rfl ?_ | refine o_indexAddr' rfl rfl 0 rfl (by first | omega | exact lt_of (by assumption) (by decide) | (simp; done) | (simp; omega) | decide | (simp at *; omega)) (by first | rfl | assumption) .free rfl ?_
      refine o_fieldAddr' rfl .free rfl ?_
      refine o_load rfl (by first | exact loads_stillF (FormAt.st (by assumption) _ (by first | omega | decide | (simp; done) | exact lt_of (by assumption) (by decide))) (by rfl) rfl | exact loads_stillF (by assumption) (by rfl) rfl) .free rfl ?_
      refine o_cmps rfl rfl rfl .free rfl ?_
      refine o_done ?_
      refine s_cond rfl ?_ ?_
      · intro c1
        try simp only [Bool.and_eq_true, Bool.or_eq_true, Bool.not_eq_true', Bool.not_eq_false', Bool.and_eq_false_iff, Bool.or_eq_false_iff, decide_eq_true_eq, decide_eq_false_iff_not] at c1
        obtain ⟨a, b, rfl⟩ := Ex.of_bin (o := .pair) (hhd.trans c1)
        simp only [Ex.ok, Bool.and_eq_true] at hok
        simp only [Ex.value, Bool.and_eq_true] at hv
        simp only [Ex.bin.sizeOf_spec] at hlt
        have hlen : (Ex.bin .pair a b).tree.parts.length = 3 := rfl
        have hza : (Ex.bin .pair a b).tree.len = 8 + a.tree.len + b.tree.len := by simp [Ex.tree, Tree.len, lenL, B5.txt, tPair]; omega
        have ta := a.print.text_len; have tb := b.print.text_len; have la := a.print_len; have lb := b.print_len
        refine s_seq ?_
        refine d_all 15 rfl rfl ?_
        refine d_takeA 0 rfl (by kernel_rfl) rfl (.inr heldx) (y_fieldAddr rfl) .free rfl ?_
        refine d_take 1 [15] rfl (by kernel_rfl) rfl heldx (y_load rfl (loads_own1 (by first | exact m0 | exact m1 | exact m2 | exact m3 | exact m4 | exact m5 | exact m6) (by rfl) rfl)) .free rfl ?_
        first | refine d_takeA 2 rfl (by kernel_rfl) rfl (.inr heldx) (y_indexAddrD rfl rfl 1 rfl (by first | omega | exact lt_of (by assumption) (by decide) | (simp; done) | (simp; omega) | decide | (simp at *; omega)) (by first | assumption | exact FormAt.nil (by assumption) | exact Strs.nil' (by assumption) | exact Nums.nil' (by assumption) | exact Raw.nil' (by assumption))) .free rfl ?_ | refine d_takeA 2 rfl (by kernel_rfl) rfl (.inr heldx) (y_indexAddr' rfl rfl 1 rfl (by first | omega | exact lt_of (by assumption) (by decide) | (simp; done) | (simp; omega) | decide | (simp at *; omega)) (by first | rfl | assumption)) .free rfl ?_
        refine d_take 3 [15] rfl (by kernel_rfl) rfl heldx (y_load rfl (by first | exact loads_stillS (FormAt.st (by assumption) _ (by first | omega | decide | (simp; done) | exact lt_of (by assumption) (by decide))) (by rfl) | exact loads_stillS (by assumption) (by rfl))) .free rfl ?_
        refine d_takeA 7 rfl (by kernel_rfl) rfl (.inr heldx) (y_fieldAddr rfl) .free rfl ?_
        refine d_take 8 [15] rfl (by kernel_rfl) rfl heldx (y_load rfl (loads_own1 (by first | exact m0 | exact m1 | exact m2 | exact m3 | exact m4 | exact m5 | exact m6) (by rfl) rfl)) .free rfl ?_
        first | refine d_takeA 9 rfl (by kernel_rfl) rfl (.inr heldx) (y_indexAddrD rfl rfl 2 rfl (by first | omega | exact lt_of (by assumption) (by decide) | (simp; done) | (simp; omega) | decide | (simp at *; omega)) (by first | assumption | exact FormAt.nil (by assumption) | exact Strs.nil' (by assumption) | exact Nums.nil' (by assumption) | exact Raw.nil' (by assumption))) .free rfl ?_ | refine d_takeA 9 rfl (by kernel_rfl) rfl (.inr heldx) (y_indexAddr' rfl rfl 2 rfl (by first | omega | exact lt_of (by assumption) (by decide) | (simp; done) | (simp; omega) | decide | (simp at *; omega)) (by first | rfl | assumption)) .free rfl ?_
        refine d_take 10 [15] rfl (by kernel_rfl) rfl heldx (y_load rfl (by first | exact loads_stillS (FormAt.st (by assumption) _ (by first | omega | decide | (simp; done) | exact lt_of (by assumption) (by decide))) (by rfl) | exact loads_stillS (by assumption) (by rfl))) .free rfl ?_
        refine d_call 4 rfl (by kernel_rfl) rfl rfl .free rfl (ihn (by omega) (hf.as 1 a.tree (by omega) rfl) hok.1 hv.1 (by omega) _) ?_
        rintro _ _ _ _ ⟨rfl, rfl, rfl⟩
        refine ⟨(.inr heldx), ?_⟩
        refine d_takeA 5 rfl (by kernel_rfl) rfl (.inr heldx) (y_concat rfl rfl (by first | omega | (simp only [List.length_append, List.length_cons, List.length_nil]; omega) | (simp; omega))) .free rfl ?_
        refine d_takeA 6 rfl (by kernel_rfl) rfl (.inr heldx) (y_concat rfl rfl (by first | omega | (simp only [List.length_append, List.length_cons, List.length_nil]; omega) | (simp; omega))) .free rfl ?_
        refine d_call 11 rfl (by kernel_rfl) rfl rfl .free rfl (ihn (by omega) (hf.as 2 b.tree (by omega) rfl) hok.2 hv.2 (by omega) _) ?_
        rintro _ _ _ _ ⟨rfl, rfl, rfl⟩
        refine ⟨(.inr heldx), ?_⟩
        refine d_takeA 12 rfl (by kernel_rfl) rfl (.inr heldx) (y_concat rfl rfl (by first | omega | (simp only [List.length_append, List.length_cons, List.length_nil]; omega) | (simp; omega))) .free rfl ?_
        refine d_takeA 13 rfl (by kernel_rfl) rfl (.inr heldx) (y_concat rfl rfl (by first | omega | (simp only [List.length_append, List.length_cons, List.length_nil]; omega) | (simp; omega))) .free rfl ?_
        refine d_takeA 14 rfl (by kernel_rfl) rfl (.inr heldx) (y_assign rfl) .free rfl ?_
        refine d_done (by kernel_rfl) ?_
        refine s_ret (.tmp rfl .nil) ?_
        refine done_only rfl (by intro _ h; first | exact h | exact dr1 h | exact dr2 h | exact dr3 h | exact dr4 h | exact dr5 h | exact dr6 h) ?_
        rw [show (Ex.bin .pair a b).print = Tree.node [] [.node tPair [], a.print, b.print] from rfl, pair_text]; rfl
      · intro c1
        try simp only [Bool.and_eq_true, Bool.or_eq_true, Bool.not_eq_true', Bool.not_eq_false', Bool.and_eq_false_iff, Bool.or_eq_false_iff, decide_eq_true_eq, decide_eq_false_iff_not] at c1
        refine s_skip ?_
        refine s_seq ?_
        refine o_enter rfl ?_
        refine o_assign rfl .free rfl ?_
        refine o_done ?_
        refine s_ret (.tmp rfl .nil) ?_
        refine done_only rfl (by intro _ h; first | exact h | exact dr1 h | exact dr2 h | exact dr3 h | exact dr4 h | exact dr5 h | exact dr6 h) ?_
        have : e.print = .node tFun [] := by
          rw [Ex.value_other hok (by rintro a b rfl; exact c1 rfl)] at hv
          have hpe : e.tree.parts.isEmpty = false := by
            cases hh : e.tree.parts with
            | nil => exact absurd hh hne
            | cons => rfl
          simp only [hpe, Bool.false_and, Bool.or_false, decide_eq_true_eq] at hv
          obtain ⟨f, x, s, t, b, rfl⟩ := Ex.of_fun hv
          rfl
        rw [this]; rfl

/-- A value, if the text is one. -/
def valueOf (s : Txt) : Option Ex := match closedOf s with
  | some e => if e.value = true then some e else none
  | none => none
def printOf (s : Txt) : Option Txt := (valueOf s).map fun e => e.print.text
theorem g_value_rx {I : Heap} {s : Txt} {t : Tree} {cs : List Value} {ok : Bool} (h : Rep I t cs) (hpf : match exOf s with | some e => ok = true ∧ t = e.tree | none => ok = false) (hc : ok = true ∧ (closedOf s).isSome = true) (L : Own) :
    Fun Try.prog 17 [.agg cs.toArray] I L (Only (.bool (valueOf s).isSome) I L) := by
  obtain ⟨e, he, rfl, h1, _⟩ := RX_some hpf hc.1
  have : (valueOf s).isSome = e.value := by
    cases hcl : closedOf s with
    | none => have := hc.2; rw [hcl] at this; cases this
    | some e' =>
      obtain ⟨h2, h3⟩ := closedOf_some hcl
      rw [he] at h2; cases h2
      unfold valueOf; rw [hcl]; cases hv : e.value <;> simp [hv]
  rw [this]; exact g_l4Is _ (Nat.lt_succ_self _) h h1 L
theorem f_value_rx {I : Heap} {s : Txt} {t : Tree} {cs : List Value} {ok : Bool} (h : Rep I t cs) (hpf : match closedOf s with | some e => ok = true ∧ t = e.tree | none => ok = false) (hc : ok = true) (L : Own) :
    Fun Try.prog 10 [.agg cs.toArray] I L (Only (.bool (valueOf s).isSome) I L) := by
  cases hcl : closedOf s with
  | none => rw [hcl] at hpf; rw [hpf] at hc; cases hc
  | some e =>
    rw [hcl] at hpf
    obtain ⟨_, rfl⟩ := hpf
    obtain ⟨h2, h3⟩ := closedOf_some hcl
    have h4 := (exOf_some h2).2.1
    simp only [Ex.fine, Bool.and_eq_true] at h4
    have : (valueOf s).isSome = e.value := by unfold valueOf; rw [hcl]; cases hv : e.value <;> simp [hv]
    rw [this]; exact f_form_isValue _ (Nat.lt_succ_self _) h h4.1.1 L
theorem valueOf_none {s : Txt} (h : closedOf s = none) : valueOf s = none := by unfold valueOf; rw [h]
theorem valueOf_some {s : Txt} (h : (valueOf s).isSome = true) : ∃ e, valueOf s = some e ∧ exOf s = some e ∧ closedOf s = some e ∧ e.value = true ∧ e.ok = true ∧ e.tree.len ≤ 12000 := by
  cases hv : valueOf s with
  | none => rw [hv] at h; cases h
  | some e =>
    unfold valueOf at hv
    cases hc : closedOf s with
    | none => rw [hc] at hv; cases hv
    | some e' =>
      rw [hc] at hv
      simp only at hv
      split at hv
      · rename_i hval
        cases hv
        have h1 := (closedOf_some hc).1
        have h2 := (exOf_some h1).2.1
        simp only [Ex.fine, Bool.and_eq_true, Tree.fits, decide_eq_true_eq] at h2
        exact ⟨e, rfl, h1, rfl, hval, h2.1.1, h2.2.2⟩
      · cases hv
theorem g_ValueIs (s : Txt) (hs : s.length ≤ maxL) (I : Heap) (L : Own) : Fun Try.prog 7 [.string (str s)] I L (Only (.bool (valueOf s).isSome) I L) := by
  refine fun_intro (by simp) ?_
  refine s_seq ?_
  refine o_enter rfl ?_
  refine o_assign rfl .free rfl ?_
  refine o_done ?_
  refine s_seq ?_
  refine o_enter rfl ?_
  refine o_move rfl .free rfl ?_
  refine o_call rfl .free rfl (g_l2Parse' s hs _ _) ?_
  rintro _ J _ hleJ ⟨t, cs, ok, rfl, hrep, rfl, hpf⟩
  obtain ⟨oa, cc, vs, rfl, -⟩ := hrep.open
  refine o_move rfl .free rfl ?_
  refine o_extract rfl rfl .free rfl ?_
  refine o_extract rfl rfl .free rfl ?_
  refine o_alloc .free rfl ?_
  intro b3
  refine o_store rfl rfl rfl rfl (by first | rfl | (simp only [List.toList_toArray, List.all_cons, List.all_nil, plainCell_buf, Bool.and_true, Bool.true_and] <;> rfl)) (by first | exact u0 | exact u1 | exact u2 | exact u3 | exact u4 | exact u5 | exact u6) (by rfl) .free ?_
  refine o_assign rfl .free rfl ?_
  refine o_done ?_
  refine s_seq ?_
  refine o_enter rfl ?_
  refine o_move rfl .free rfl ?_
  refine o_move rfl .free rfl ?_
  apply o_and 11 14 rfl
  · intro g2_2 hk
    try simp only [Bool.and_eq_true, Bool.or_eq_true, Bool.not_eq_true', Bool.not_eq_false', Bool.and_eq_false_iff, Bool.or_eq_false_iff, decide_eq_true_eq, decide_eq_false_iff_not] at g2_2
    refine o_move rfl (.met rfl rfl) rfl ?_
    refine o_call rfl (.met rfl rfl) rfl (g_ExprClosed s hs _ _) ?_
    rintro _ _ _ _ ⟨rfl, rfl, rfl⟩
    refine o_pick_true rfl rfl .free rfl ?_
    exact o_fin 2 rfl rfl hk
  · intro _ hk
    refine o_skips 2 rfl ?_
    refine o_pick_false rfl rfl .free rfl ?_
    exact o_fin 2 rfl rfl hk
  refine o_move rfl .free rfl ?_
  apply o_and 15 18 rfl
  · intro g2_6 hk
    try simp only [Bool.and_eq_true, Bool.or_eq_true, Bool.not_eq_true', Bool.not_eq_false', Bool.and_eq_false_iff, Bool.or_eq_false_iff, decide_eq_true_eq, decide_eq_false_iff_not] at g2_6
    refine o_load rfl (loads_ownS (by first | exact m0 | exact m1 | exact m2 | exact m3 | exact m4 | exact m5 | exact m6) (by rfl)) (.met rfl rfl) rfl ?_
    refine o_call rfl (.met rfl rfl) rfl (g_value_rx hrep hpf g2_6 _) ?_
    rintro _ _ _ _ ⟨rfl, rfl, rfl⟩
    refine o_pick_true rfl rfl .free rfl ?_
    exact o_fin 2 rfl rfl hk
  · intro _ hk
    refine o_skips 2 rfl ?_
    refine o_pick_false rfl rfl .free rfl ?_
    exact o_fin 2 rfl rfl hk
  refine o_assign rfl .free rfl ?_
  refine o_done ?_
  refine s_ret (.tmp rfl .nil) ?_
  refine done_fgt hleJ (by intro _ h; first | exact h | exact dr1 h | exact dr2 h | exact dr3 h | exact dr4 h | exact dr5 h | exact dr6 h) ?_
  refine congrArg Value.bool ?_
  cases ok with
  | false =>
    have : valueOf s = none := valueOf_none (by unfold closedOf; rw [RX_none hpf rfl])
    rw [this]; rfl
  | true =>
    cases hc : closedOf s with
    | none => rw [valueOf_none hc]; rfl
    | some e => rfl
theorem g_ValuePrint (s : Txt) (hs : s.length ≤ maxL) (I : Heap) (L : Own) : Fun Try.prog 4 [.string (str s)] I L (EL (printOf s) L) := by
  refine fun_intro (by simp) ?_
  refine s_seq ?_
  refine o_enter rfl ?_
  refine o_assign rfl .free rfl ?_
  refine o_assign rfl .free rfl ?_
  refine o_done ?_
  refine s_seq ?_
  refine o_enter rfl ?_
  refine o_move rfl .free rfl ?_
  refine o_call rfl .free rfl (g_l2Parse' s hs _ _) ?_
  rintro _ J _ hleJ ⟨t, cs, ok, rfl, hrep, rfl, hpf⟩
  obtain ⟨oa, cc, vs, rfl, -⟩ := hrep.open
  refine o_move rfl .free rfl ?_
  refine o_extract rfl rfl .free rfl ?_
  refine o_extract rfl rfl .free rfl ?_
  refine o_alloc .free rfl ?_
  intro b4
  refine o_store rfl rfl rfl rfl (by first | rfl | (simp only [List.toList_toArray, List.all_cons, List.all_nil, plainCell_buf, Bool.and_true, Bool.true_and] <;> rfl)) (by first | exact u0 | exact u1 | exact u2 | exact u3 | exact u4 | exact u5 | exact u6) (by rfl) .free ?_
  refine o_assign rfl .free rfl ?_
  refine o_done ?_
  refine s_seq ?_
  refine s_seq ?_
  refine o_enter rfl ?_
  refine o_move rfl .free rfl ?_
  refine o_not rfl .free rfl ?_
  refine o_move rfl .free rfl ?_
  apply o_or 13 17 rfl
  · intro g2_3 hk
    try simp only [Bool.and_eq_true, Bool.or_eq_true, Bool.not_eq_true', Bool.not_eq_false', Bool.and_eq_false_iff, Bool.or_eq_false_iff, decide_eq_true_eq, decide_eq_false_iff_not] at g2_3
    refine o_move rfl (.met rfl rfl) rfl ?_
    refine o_call rfl (.met rfl rfl) rfl (g_ValueIs s hs _ _) ?_
    rintro _ _ _ _ ⟨rfl, rfl, rfl⟩
    refine o_not rfl (.met rfl rfl) rfl ?_
    refine o_pick_false rfl rfl .free rfl ?_
    exact o_fin 3 rfl rfl hk
  · intro _ hk
    refine o_skips 3 rfl ?_
    refine o_pick_true rfl rfl .free rfl ?_
    exact o_fin 3 rfl rfl hk
  refine o_done ?_
  refine s_cond rfl ?_ ?_
  · intro c0
    try simp only [Bool.and_eq_true, Bool.or_eq_true, Bool.not_eq_true', Bool.not_eq_false', Bool.and_eq_false_iff, Bool.or_eq_false_iff, decide_eq_true_eq, decide_eq_false_iff_not] at c0
    refine s_seq ?_
    refine o_enter rfl ?_
    refine o_assign rfl .free rfl ?_
    refine o_assign rfl .free rfl ?_
    refine o_done ?_
    refine s_ret (.tmp rfl (.tmp rfl .nil)) ?_
    refine ⟨J, L, hleJ, (by intro _ h; first | exact h | exact dr1 h | exact dr2 h | exact dr3 h | exact dr4 h | exact dr5 h | exact dr6 h), ?_, rfl⟩
    have : valueOf s = none := by
      rcases c0 with h | h
      · exact valueOf_none (by unfold closedOf; rw [RX_none hpf h])
      · cases hv : valueOf s with
        | none => rfl
        | some e => rw [hv] at h; cases h
    rw [printOf, this]; rfl
  · intro c0
    try simp only [Bool.and_eq_true, Bool.or_eq_true, Bool.not_eq_true', Bool.not_eq_false', Bool.and_eq_false_iff, Bool.or_eq_false_iff, decide_eq_true_eq, decide_eq_false_iff_not] at c0
    obtain ⟨e, hv, hx, hc, hval, hok, hlen⟩ := valueOf_some c0.2
    rw [hx] at hpf
    obtain ⟨_, rfl⟩ := hpf
    refine s_skip ?_
    refine s_seq ?_
    refine o_enter rfl ?_
    refine o_load rfl (loads_ownS (by first | exact m0 | exact m1 | exact m2 | exact m3 | exact m4 | exact m5 | exact m6) (by rfl)) .free rfl ?_
    refine o_call rfl .free rfl (g_l4Print _ (Nat.lt_succ_self _) hrep hok hval hlen _) ?_
    rintro _ _ _ _ ⟨rfl, rfl, rfl⟩
    refine o_assign rfl .free rfl ?_
    refine o_assign rfl .free rfl ?_
    refine o_done ?_
    refine s_ret (.tmp rfl (.tmp rfl .nil)) ?_
    exact ⟨J, L, hleJ, (by intro _ h; first | exact h | exact dr1 h | exact dr2 h | exact dr3 h | exact dr4 h | exact dr5 h | exact dr6 h), by rw [printOf, hv]; rfl, rfl⟩
theorem f_ValuePrint (s : Txt) (hs : s.length ≤ maxN) (I : Heap) (L : Own) : Fun Try.prog 5 [.string (str s)] I L (EL (printOf s) L) := by
  refine fun_intro (by simp) ?_
  refine s_seq ?_
  refine o_enter rfl ?_
  refine o_assign rfl .free rfl ?_
  refine o_assign rfl .free rfl ?_
  refine o_done ?_
  refine s_seq ?_
  refine o_enter rfl ?_
  refine o_move rfl .free rfl ?_
  refine o_call rfl .free rfl (f_readClosed s hs _ _) ?_
  rintro _ J _ hleJ ⟨t, cs, ok, rfl, hrep, rfl, hpf⟩
  obtain ⟨oa, cc, vs, rfl, -⟩ := hrep.open
  refine o_move rfl .free rfl ?_
  refine o_extract rfl rfl .free rfl ?_
  refine o_extract rfl rfl .free rfl ?_
  refine o_alloc .free rfl ?_
  intro b4
  refine o_store rfl rfl rfl rfl (by first | rfl | (simp only [List.toList_toArray, List.all_cons, List.all_nil, plainCell_buf, Bool.and_true, Bool.true_and] <;> rfl)) (by first | exact u0 | exact u1 | exact u2 | exact u3 | exact u4 | exact u5 | exact u6) (by rfl) .free ?_
  refine o_assign rfl .free rfl ?_
  refine o_done ?_
  refine s_seq ?_
  refine s_seq ?_
  refine o_enter rfl ?_
  refine o_move rfl .free rfl ?_
  refine o_not rfl .free rfl ?_
  refine o_move rfl .free rfl ?_
  apply o_or 13 17 rfl
  · intro g2_3 hk
    try simp only [Bool.and_eq_true, Bool.or_eq_true, Bool.not_eq_true', Bool.not_eq_false', Bool.and_eq_false_iff, Bool.or_eq_false_iff, decide_eq_true_eq, decide_eq_false_iff_not] at g2_3
    refine o_load rfl (loads_ownS (by first | exact m0 | exact m1 | exact m2 | exact m3 | exact m4 | exact m5 | exact m6) (by rfl)) (.met rfl rfl) rfl ?_
    refine o_call rfl (.met rfl rfl) rfl (f_value_rx hrep hpf g2_3 _) ?_
    rintro _ _ _ _ ⟨rfl, rfl, rfl⟩
    refine o_not rfl (.met rfl rfl) rfl ?_
    refine o_pick_false rfl rfl .free rfl ?_
    exact o_fin 3 rfl rfl hk
  · intro _ hk
    refine o_skips 3 rfl ?_
    refine o_pick_true rfl rfl .free rfl ?_
    exact o_fin 3 rfl rfl hk
  refine o_done ?_
  refine s_cond rfl ?_ ?_
  · intro c0
    try simp only [Bool.and_eq_true, Bool.or_eq_true, Bool.not_eq_true', Bool.not_eq_false', Bool.and_eq_false_iff, Bool.or_eq_false_iff, decide_eq_true_eq, decide_eq_false_iff_not] at c0
    refine s_seq ?_
    refine o_enter rfl ?_
    refine o_assign rfl .free rfl ?_
    refine o_assign rfl .free rfl ?_
    refine o_done ?_
    refine s_ret (.tmp rfl (.tmp rfl .nil)) ?_
    refine ⟨J, L, hleJ, (by intro _ h; first | exact h | exact dr1 h | exact dr2 h | exact dr3 h | exact dr4 h | exact dr5 h | exact dr6 h), ?_, rfl⟩
    have : valueOf s = none := by
      rcases c0 with h | h
      · refine valueOf_none ?_
        cases hc : closedOf s with
        | none => rfl
        | some e => rw [hc] at hpf; rw [hpf.1] at h; cases h
      · cases hv : valueOf s with
        | none => rfl
        | some e => rw [hv] at h; cases h
    rw [printOf, this]; rfl
  · intro c0
    try simp only [Bool.and_eq_true, Bool.or_eq_true, Bool.not_eq_true', Bool.not_eq_false', Bool.and_eq_false_iff, Bool.or_eq_false_iff, decide_eq_true_eq, decide_eq_false_iff_not] at c0
    obtain ⟨e, hv, hx, hc, hval, hok, hlen⟩ := valueOf_some c0.2
    rw [hc] at hpf
    obtain ⟨_, rfl⟩ := hpf
    have hpl := e.print_len
    have hpt := e.print.text_len
    refine s_skip ?_
    refine s_seq ?_
    refine o_enter rfl ?_
    refine o_load rfl (loads_ownS (by first | exact m0 | exact m1 | exact m2 | exact m3 | exact m4 | exact m5 | exact m6) (by rfl)) .free rfl ?_
    refine o_call rfl .free rfl (f_form_print _ (Nat.lt_succ_self _) hrep _) ?_
    rintro _ J2 _ e2 ⟨cs2, rfl, h2, rfl⟩
    refine o_call rfl .free rfl (f_form_text h2 (by unfold maxN; omega) _) ?_
    rintro _ _ _ _ ⟨rfl, rfl, rfl⟩
    refine o_assign rfl .free rfl ?_
    refine o_assign rfl .free rfl ?_
    refine o_done ?_
    refine s_ret (.tmp rfl (.tmp rfl .nil)) ?_
    exact ⟨J2, L, hleJ.trans e2, (by intro _ h; first | exact h | exact dr1 h | exact dr2 h | exact dr3 h | exact dr4 h | exact dr5 h | exact dr6 h), by rw [printOf, hv]; rfl, rfl⟩
end Go.Proofs.Ytpijlgckadmjeaa
