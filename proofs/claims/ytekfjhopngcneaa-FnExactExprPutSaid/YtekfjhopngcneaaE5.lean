
/- Reading expressions; writing forms. No conditions. -/
import Derived.Test.YtekfjhopngcneaaE4
namespace Go.Proofs.Ytekfjhopngcneaa
set_option maxRecDepth 100000
set_option linter.unusedVariables false
set_option linter.unusedSimpArgs false

theorem good_ne {t : Tree} (hg : t.good = true) (h : t.atom = []) : t.parts ≠ [] ∧ 0 < t.parts.length := by
  have : t.parts ≠ [] := by rcases t.good_cases hg with hh | hh <;> simp_all
  exact ⟨this, List.length_pos_iff.2 this⟩
theorem good_nil {t : Tree} (hg : t.good = true) (h : t.atom ≠ []) : t.parts = [] := by rcases t.good_cases hg with hh | hh <;> simp_all
theorem head_at {t : Tree} (h : 0 < t.parts.length) : t.head = (t.pt 0).atom := by
  cases t with
  | node a ps => cases ps with
    | nil => simp [Tree.parts] at h
    | cons p ps => rfl
theorem ex_atom {t : Tree} (h : t.parts = []) : t.ex.isSome = (isName t.atom || isNum t.atom) := by
  cases t with
  | node a ps =>
    simp only [Tree.parts] at h
    subst h
    simp only [Tree.atom, Tree.ex]
    cases isName a <;> cases isNum a <;> rfl
/-- What the range of kids says of the head. -/
theorem range_facts (h : Txt) : (kidRange h).1 ≤ (kidRange h).2 ∧ (kidRange h).2 ≤ 6 ∧ ((kidRange h).1 = 0 → (kidRange h).2 = 0) ∧ ((kidRange h).1 ≠ 0 → (kidRange h).1 < (kidRange h).2) ∧ (1 < (kidRange h).1 ↔ h = tLet ∨ h = tFun) ∧ ((kidRange h).1 = 5 ↔ h = tFun) ∧ ((kidRange h).1 = 5 → (kidRange h).2 = 6) := by
  rcases kidRange_cases h with ⟨o, e, hr⟩ | ⟨e, hr⟩ | ⟨e, hr⟩ | ⟨e, hr⟩ | ⟨o, e, hr⟩ | ⟨hr, _, _, _, h4, h5⟩
  · rw [hr, e]; have := o.txt_ne; simp [this]
  · rw [hr, e]; simp; decide
  · rw [hr, e]; simp; decide
  · rw [hr, e]; simp
  · rw [hr, e]; have := o.txt_ne; simp [this]
  · rw [hr]; simp [h4, h5]
theorem kids_range {t : Tree} (h : t.parts.length = (kidRange t.head).2) : kids t = List.range' (kidRange t.head).1 ((kidRange t.head).2 - (kidRange t.head).1) := if_pos h

theorem g_l2Valid : ∀ (n : Nat) {I : Heap} {t : Tree} {cs : List Value} (_ : SizeOf.sizeOf t < n) (_ : Rep I t cs) (_ : t.good = true) (_ : t.len ≤ 12000000) (L : Own),
    Fun Try.prog 19 [.agg cs.toArray] I L (Only (.bool t.ex.isSome) I L) := by
  intro n
  induction n with
  | zero => intro I t cs h; omega
  | succ n ihn =>
    intro I t cs hlt h hg hz L
    obtain ⟨oa, c, oaf, cf, rfl, hf⟩ := h.at'
    have hp := hf.len
    have ha := hf.alen
    unfold maxN at hp
    refine fun_intro (by simp) ?_
    refine s_seq ?_
    refine o_enter rfl ?_
    refine o_box rfl rfl .free rfl ?_
    intro b1
    refine o_assign rfl .free rfl ?_
    refine o_done ?_
    refine s_seq ?_
    refine s_seq ?_
    refine o_enter rfl ?_
    refine o_fieldAddr rfl .free rfl ?_
    refine o_load rfl (loads_own1 (by first | exact m0 | exact m1 | exact m2 | exact m3 | exact m4 | exact m5 | exact m6) (by rfl) rfl) .free rfl ?_
    refine o_cmps rfl rfl rfl .free rfl ?_
    refine o_done ?_
    refine s_cond rfl ?_ ?_
    · intro c0
      try simp only [Bool.and_eq_true, Bool.or_eq_true, Bool.not_eq_true', Bool.not_eq_false', Bool.and_eq_false_iff, Bool.or_eq_false_iff, decide_eq_true_eq, decide_eq_false_iff_not] at c0
      refine s_seq ?_
      refine o_enter rfl ?_
      refine o_fieldAddr rfl .free rfl ?_
      refine o_load rfl (loads_own1 (by first | exact m0 | exact m1 | exact m2 | exact m3 | exact m4 | exact m5 | exact m6) (by rfl) rfl) .free rfl ?_
      refine o_call rfl .free rfl (g_l2Number t.atom ha _ _) ?_
      rintro _ _ _ _ ⟨rfl, rfl, rfl⟩
      refine o_move rfl .free rfl ?_
      refine o_extract rfl rfl .free rfl ?_
      refine o_extract rfl rfl .free rfl ?_
      refine o_assign rfl .free rfl ?_
      refine o_assign rfl .free rfl ?_
      refine o_done ?_
      refine s_seq ?_
      refine o_enter rfl ?_
      refine o_move rfl .free rfl ?_
      refine o_move rfl .free rfl ?_
      apply o_or 18 22 rfl
      · intro g3_2 hk
        try simp only [Bool.and_eq_true, Bool.or_eq_true, Bool.not_eq_true', Bool.not_eq_false', Bool.and_eq_false_iff, Bool.or_eq_false_iff, decide_eq_true_eq, decide_eq_false_iff_not] at g3_2
        refine o_fieldAddr rfl (.met rfl rfl) rfl ?_
        refine o_load rfl (loads_own1 (by first | exact m0 | exact m1 | exact m2 | exact m3 | exact m4 | exact m5 | exact m6) (by rfl) rfl) (.met rfl rfl) rfl ?_
        refine o_call rfl (.met rfl rfl) rfl (g_l2Name t.atom ha _ _) ?_
        rintro _ _ _ _ ⟨rfl, rfl, rfl⟩
        refine o_pick_false rfl rfl .free rfl ?_
        exact o_fin 3 rfl rfl hk
      · intro _ hk
        refine o_skips 3 rfl ?_
        refine o_pick_true rfl rfl .free rfl ?_
        exact o_fin 3 rfl rfl hk
      refine o_assign rfl .free rfl ?_
      refine o_done ?_
      refine s_ret (.tmp rfl .nil) ?_
      refine done_only rfl (by intro _ h; first | exact h | exact dr1 h | exact dr2 h | exact dr3 h | exact dr4 h | exact dr5 h | exact dr6 h) ?_
      rw [ex_atom (good_nil hg (by simpa using c0))]
      exact congrArg Value.bool (Bool.or_comm ..)
    · intro c0
      try simp only [Bool.and_eq_true, Bool.or_eq_true, Bool.not_eq_true', Bool.not_eq_false', Bool.and_eq_false_iff, Bool.or_eq_false_iff, decide_eq_true_eq, decide_eq_false_iff_not] at c0
      obtain ⟨hne, h0⟩ := good_ne hg (by simpa using c0)
      have hhd := head_at h0
      obtain ⟨k1, k2, k3, k4, k5, k6, k7⟩ := range_facts t.head
      refine s_skip ?_
      refine s_seq ?_
      refine o_enter rfl ?_
      refine o_fieldAddr rfl .free rfl ?_
      refine o_load rfl (loads_own1 (by first | exact m0 | exact m1 | exact m2 | exact m3 | exact m4 | exact m5 | exact m6) (by rfl) rfl) .free rfl ?_
      first | refine o_indexAddrD rfl rfl 0 rfl (by first | omega | exact lt_of (by assumption) (by decide) | (simp; done) | (simp; omega) | decide | (simp at *; omega)) (by first | assumption | exact FormAt.nil (by assumption) | exact Strs.nil' (by assumption) | exact Nums.nil' (by assumption) | exact Raw.nil' (by assumption)) .free rfl ?_ | refine o_indexAddr' rfl rfl 0 rfl (by first | omega | exact lt_of (by assumption) (by decide) | (simp; done) | (simp; omega) | decide | (simp at *; omega)) (by first | rfl | assumption) .free rfl ?_
      refine o_fieldAddr' rfl .free rfl ?_
      refine o_load rfl (by first | exact loads_stillF (FormAt.st (by assumption) _ (by first | omega | decide | (simp; done) | exact lt_of (by assumption) (by decide))) (by rfl) rfl | exact loads_stillF (by assumption) (by rfl) rfl | exact loads_scalar rfl (reads_cut (reads_sub (by assumption) (by intro _ h; first | exact h | exact dr1 h | exact dr2 h | exact dr3 h | exact dr4 h | exact dr5 h | exact dr6 h)) (by rfl))) .free rfl ?_
      refine o_call rfl .free rfl (g_l2Kids (t.pt 0).atom _ _) ?_
      rw [← hhd]; rintro _ _ _ _ ⟨rfl, rfl, rfl⟩
      refine o_move rfl .free rfl ?_
      refine o_extract rfl rfl .free rfl ?_
      refine o_extract rfl rfl .free rfl ?_
      refine o_assign rfl .free rfl ?_
      refine o_assign rfl .free rfl ?_
      refine o_done ?_
      refine s_seq ?_
      refine s_seq ?_
      refine o_enter rfl ?_
      refine o_move rfl .free rfl ?_
      refine o_cmp rfl rfl rfl .free rfl ?_
      refine o_move rfl .free rfl ?_
      apply o_or 34 40 rfl
      · intro g5_3 hk
        try simp only [Bool.and_eq_true, Bool.or_eq_true, Bool.not_eq_true', Bool.not_eq_false', Bool.and_eq_false_iff, Bool.or_eq_false_iff, decide_eq_true_eq, decide_eq_false_iff_not] at g5_3
        refine o_fieldAddr rfl (.met rfl rfl) rfl ?_
        refine o_load rfl (loads_own1 (by first | exact m0 | exact m1 | exact m2 | exact m3 | exact m4 | exact m5 | exact m6) (by rfl) rfl) (.met rfl rfl) rfl ?_
        refine o_len_slice rfl (.met rfl rfl) rfl ?_
        refine o_move rfl (.met rfl rfl) rfl ?_
        refine o_cmp rfl rfl rfl (.met rfl rfl) rfl ?_
        refine o_pick_false rfl rfl .free rfl ?_
        exact o_fin 5 rfl rfl hk
      · intro _ hk
        refine o_skips 5 rfl ?_
        refine o_pick_true rfl rfl .free rfl ?_
        exact o_fin 5 rfl rfl hk
      refine o_done ?_
      refine s_cond rfl ?_ ?_
      · intro c1
        try simp only [Bool.and_eq_true, Bool.or_eq_true, Bool.not_eq_true', Bool.not_eq_false', Bool.and_eq_false_iff, Bool.or_eq_false_iff, decide_eq_true_eq, decide_eq_false_iff_not] at c1
        refine s_seq ?_
        refine o_enter rfl ?_
        refine o_assign rfl .free rfl ?_
        refine o_done ?_
        refine s_ret (.tmp rfl .nil) ?_
        refine done_only rfl (by intro _ h; first | exact h | exact dr1 h | exact dr2 h | exact dr3 h | exact dr4 h | exact dr5 h | exact dr6 h) ?_
        have hk : kids t = [] := by
          unfold kids
          split
          · have : (kidRange t.head).1 = 0 := by omega
            rw [this, k3 this]; rfl
          · rfl
        rw [kids_none hne hk]; rfl
      · intro c1
        try simp only [Bool.and_eq_true, Bool.or_eq_true, Bool.not_eq_true', Bool.not_eq_false', Bool.and_eq_false_iff, Bool.or_eq_false_iff, decide_eq_true_eq, decide_eq_false_iff_not] at c1
        have hl : t.parts.length = (kidRange t.head).2 := by omega
        have hkr := kids_range hl
        have hk0 : kids t ≠ [] := by
          intro e; rw [e] at hkr; have := congrArg List.length hkr; simp at this; omega
        have hks := kids_some hk0
        refine s_skip ?_
        refine s_seq ?_
        refine s_seq ?_
        refine o_enter rfl ?_
        refine o_move rfl .free rfl ?_
        refine o_cmp rfl rfl rfl .free rfl ?_
        refine o_move rfl .free rfl ?_
        apply o_and 43 51 rfl
        · intro g7_3 hk
          try simp only [Bool.and_eq_true, Bool.or_eq_true, Bool.not_eq_true', Bool.not_eq_false', Bool.and_eq_false_iff, Bool.or_eq_false_iff, decide_eq_true_eq, decide_eq_false_iff_not] at g7_3
          have hl1 : 1 < t.parts.length := by omega
          have ha1 := (hf.rp 1 hl1).atom_le
          refine o_fieldAddr rfl (.met rfl rfl) rfl ?_
          refine o_load rfl (loads_own1 (by first | exact m0 | exact m1 | exact m2 | exact m3 | exact m4 | exact m5 | exact m6) (by rfl) rfl) (.met rfl rfl) rfl ?_
          first | refine o_indexAddrD rfl rfl 1 rfl (by first | omega | exact lt_of (by assumption) (by decide) | (simp; done) | (simp; omega) | decide | (simp at *; omega)) (by first | assumption | exact FormAt.nil (by assumption) | exact Strs.nil' (by assumption) | exact Nums.nil' (by assumption) | exact Raw.nil' (by assumption)) (.met rfl rfl) rfl ?_ | refine o_indexAddr' rfl rfl 1 rfl (by first | omega | exact lt_of (by assumption) (by decide) | (simp; done) | (simp; omega) | decide | (simp at *; omega)) (by first | rfl | assumption) (.met rfl rfl) rfl ?_
          refine o_fieldAddr' rfl (.met rfl rfl) rfl ?_
          refine o_load rfl (by first | exact loads_stillF (FormAt.st (by assumption) _ (by first | omega | decide | (simp; done) | exact lt_of (by assumption) (by decide))) (by rfl) rfl | exact loads_stillF (by assumption) (by rfl) rfl | exact loads_scalar rfl (reads_cut (reads_sub (by assumption) (by intro _ h; first | exact h | exact dr1 h | exact dr2 h | exact dr3 h | exact dr4 h | exact dr5 h | exact dr6 h)) (by rfl))) (.met rfl rfl) rfl ?_
          refine o_call rfl (.met rfl rfl) rfl (g_l2Name (t.pt 1).atom ha1 _ _) ?_
          rintro _ _ _ _ ⟨rfl, rfl, rfl⟩
          refine o_not rfl (.met rfl rfl) rfl ?_
          refine o_pick_true rfl rfl .free rfl ?_
          exact o_fin 7 rfl rfl hk
        · intro _ hk
          refine o_skips 7 rfl ?_
          refine o_pick_false rfl rfl .free rfl ?_
          exact o_fin 7 rfl rfl hk
        refine o_done ?_
        refine s_cond rfl ?_ ?_
        · intro c2
          try simp only [Bool.and_eq_true, Bool.or_eq_true, Bool.not_eq_true', Bool.not_eq_false', Bool.and_eq_false_iff, Bool.or_eq_false_iff, decide_eq_true_eq, decide_eq_false_iff_not] at c2
          refine s_seq ?_
          refine o_enter rfl ?_
          refine o_assign rfl .free rfl ?_
          refine o_done ?_
          refine s_ret (.tmp rfl .nil) ?_
          refine done_only rfl (by intro _ h; first | exact h | exact dr1 h | exact dr2 h | exact dr3 h | exact dr4 h | exact dr5 h | exact dr6 h) ?_
          have hl1 : 1 < t.parts.length := by omega
          have h1 : 1 < (kidRange t.head).1 := by omega
          rw [hks, exTail]
          rcases k5.1 h1 with e | e
          · rw [if_pos e, c2.2]; simp [retOne]
          · rw [if_neg (by rw [e]; decide), if_pos e, c2.2]; simp [retOne]
        · intro c2
          try simp only [Bool.and_eq_true, Bool.or_eq_true, Bool.not_eq_true', Bool.not_eq_false', Bool.and_eq_false_iff, Bool.or_eq_false_iff, decide_eq_true_eq, decide_eq_false_iff_not] at c2
          refine s_skip ?_
          refine s_seq ?_
          refine s_seq ?_
          refine d_all 40 rfl rfl ?_
          refine d_takeA 0 rfl (by kernel_rfl) rfl (.inr heldx) (y_move rfl) .free rfl ?_
          refine d_takeA 1 rfl (by kernel_rfl) rfl (.inr heldx) (y_cmp rfl rfl rfl) .free rfl ?_
          refine d_takeA 2 rfl (by kernel_rfl) rfl (.inr heldx) (y_move rfl) .free rfl ?_
          apply d_and 54 91 rfl
          · intro g9_3 hk
            try simp only [Bool.and_eq_true, Bool.or_eq_true, Bool.not_eq_true', Bool.not_eq_false', Bool.and_eq_false_iff, Bool.or_eq_false_iff, decide_eq_true_eq, decide_eq_false_iff_not] at g9_3
            have h56 : (kidRange t.head).1 = 5 := by omega
            have h6 := k7 h56
            have ha1 := (hf.rp 1 (by omega)).atom_le
            have ha2 := (hf.rp 2 (by omega)).atom_le
            have hz3 := t.pt_len 3 (by omega)
            have hz4 := t.pt_len 4 (by omega)
            have hg3 := Tree.pt_good hg 3 (by omega)
            have hg4 := Tree.pt_good hg 4 (by omega)
            refine d_takeA 3 rfl (by kernel_rfl) rfl (.inr heldx) (y_fieldAddr rfl) (.met rfl rfl) rfl ?_
            refine d_take 4 [40] rfl (by kernel_rfl) rfl heldx (y_load rfl (loads_own1 (by first | exact m0 | exact m1 | exact m2 | exact m3 | exact m4 | exact m5 | exact m6) (by rfl) rfl)) (.met rfl rfl) rfl ?_
            first | refine d_takeA 5 rfl (by kernel_rfl) rfl (.inr heldx) (y_indexAddrD rfl rfl 2 rfl (by first | omega | exact lt_of (by assumption) (by decide) | (simp; done) | (simp; omega) | decide | (simp at *; omega)) (by first | assumption | exact FormAt.nil (by assumption) | exact Strs.nil' (by assumption) | exact Nums.nil' (by assumption) | exact Raw.nil' (by assumption))) (.met rfl rfl) rfl ?_ | refine d_takeA 5 rfl (by kernel_rfl) rfl (.inr heldx) (y_indexAddr' rfl rfl 2 rfl (by first | omega | exact lt_of (by assumption) (by decide) | (simp; done) | (simp; omega) | decide | (simp at *; omega)) (by first | rfl | assumption)) (.met rfl rfl) rfl ?_
            refine d_takeA 6 rfl (by kernel_rfl) rfl (.inr heldx) (y_fieldAddr' rfl) (.met rfl rfl) rfl ?_
            refine d_take 7 [40] rfl (by kernel_rfl) rfl heldx (y_load rfl (by first | exact loads_stillF (FormAt.st (by assumption) _ (by first | omega | decide | (simp; done) | exact lt_of (by assumption) (by decide))) (by rfl) rfl | exact loads_stillF (by assumption) (by rfl) rfl | exact loads_scalar rfl (reads_cut (reads_sub (by assumption) (by intro _ h; first | exact h | exact dr1 h | exact dr2 h | exact dr3 h | exact dr4 h | exact dr5 h | exact dr6 h)) (by rfl)))) (.met rfl rfl) rfl ?_
            refine d_call 8 rfl (by kernel_rfl) rfl rfl (.met rfl rfl) rfl (g_l2Name (t.pt 2).atom ha2 _ _) ?_
            rintro _ _ _ _ ⟨rfl, rfl, rfl⟩
            refine ⟨(.inr heldx), ?_⟩
            refine d_takeA 9 rfl (by kernel_rfl) rfl (.inr heldx) (y_not rfl) (.met rfl rfl) rfl ?_
            refine d_takeA 10 rfl (by kernel_rfl) rfl (.inr heldx) (y_move rfl) (.met rfl rfl) rfl ?_
            apply d_or 62 74 rfl
            · intro g9_11 hk
              try simp only [Bool.and_eq_true, Bool.or_eq_true, Bool.not_eq_true', Bool.not_eq_false', Bool.and_eq_false_iff, Bool.or_eq_false_iff, decide_eq_true_eq, decide_eq_false_iff_not] at g9_11
              refine d_takeA 11 rfl (by kernel_rfl) rfl (.inr heldx) (y_fieldAddr rfl) (.met rfl rfl) rfl ?_
              refine d_take 12 [40] rfl (by kernel_rfl) rfl heldx (y_load rfl (loads_own1 (by first | exact m0 | exact m1 | exact m2 | exact m3 | exact m4 | exact m5 | exact m6) (by rfl) rfl)) (.met rfl rfl) rfl ?_
              first | refine d_takeA 13 rfl (by kernel_rfl) rfl (.inr heldx) (y_indexAddrD rfl rfl 1 rfl (by first | omega | exact lt_of (by assumption) (by decide) | (simp; done) | (simp; omega) | decide | (simp at *; omega)) (by first | assumption | exact FormAt.nil (by assumption) | exact Strs.nil' (by assumption) | exact Nums.nil' (by assumption) | exact Raw.nil' (by assumption))) (.met rfl rfl) rfl ?_ | refine d_takeA 13 rfl (by kernel_rfl) rfl (.inr heldx) (y_indexAddr' rfl rfl 1 rfl (by first | omega | exact lt_of (by assumption) (by decide) | (simp; done) | (simp; omega) | decide | (simp at *; omega)) (by first | rfl | assumption)) (.met rfl rfl) rfl ?_
              refine d_takeA 14 rfl (by kernel_rfl) rfl (.inr heldx) (y_fieldAddr' rfl) (.met rfl rfl) rfl ?_
              refine d_take 15 [40] rfl (by kernel_rfl) rfl heldx (y_load rfl (by first | exact loads_stillF (FormAt.st (by assumption) _ (by first | omega | decide | (simp; done) | exact lt_of (by assumption) (by decide))) (by rfl) rfl | exact loads_stillF (by assumption) (by rfl) rfl | exact loads_scalar rfl (reads_cut (reads_sub (by assumption) (by intro _ h; first | exact h | exact dr1 h | exact dr2 h | exact dr3 h | exact dr4 h | exact dr5 h | exact dr6 h)) (by rfl)))) (.met rfl rfl) rfl ?_
              refine d_takeA 16 rfl (by kernel_rfl) rfl (.inr heldx) (y_fieldAddr rfl) (.met rfl rfl) rfl ?_
              refine d_take 17 [40] rfl (by kernel_rfl) rfl heldx (y_load rfl (loads_own1 (by first | exact m0 | exact m1 | exact m2 | exact m3 | exact m4 | exact m5 | exact m6) (by rfl) rfl)) (.met rfl rfl) rfl ?_
              first | refine d_takeA 18 rfl (by kernel_rfl) rfl (.inr heldx) (y_indexAddrD rfl rfl 2 rfl (by first | omega | exact lt_of (by assumption) (by decide) | (simp; done) | (simp; omega) | decide | (simp at *; omega)) (by first | assumption | exact FormAt.nil (by assumption) | exact Strs.nil' (by assumption) | exact Nums.nil' (by assumption) | exact Raw.nil' (by assumption))) (.met rfl rfl) rfl ?_ | refine d_takeA 18 rfl (by kernel_rfl) rfl (.inr heldx) (y_indexAddr' rfl rfl 2 rfl (by first | omega | exact lt_of (by assumption) (by decide) | (simp; done) | (simp; omega) | decide | (simp at *; omega)) (by first | rfl | assumption)) (.met rfl rfl) rfl ?_
              refine d_takeA 19 rfl (by kernel_rfl) rfl (.inr heldx) (y_fieldAddr' rfl) (.met rfl rfl) rfl ?_
              refine d_take 20 [40] rfl (by kernel_rfl) rfl heldx (y_load rfl (by first | exact loads_stillF (FormAt.st (by assumption) _ (by first | omega | decide | (simp; done) | exact lt_of (by assumption) (by decide))) (by rfl) rfl | exact loads_stillF (by assumption) (by rfl) rfl | exact loads_scalar rfl (reads_cut (reads_sub (by assumption) (by intro _ h; first | exact h | exact dr1 h | exact dr2 h | exact dr3 h | exact dr4 h | exact dr5 h | exact dr6 h)) (by rfl)))) (.met rfl rfl) rfl ?_
              refine d_takeA 21 rfl (by kernel_rfl) rfl (.inr heldx) (y_cmps rfl rfl rfl) (.met rfl rfl) rfl ?_
              refine d_takeA 22 rfl (by kernel_rfl) rfl (.inr heldx) (y_pick_false rfl rfl) (.met rfl rfl) rfl ?_
              exact d_fin 11 rfl rfl hk
            · intro _ hk
              refine d_takeskip 11 rfl (by kernel_rfl) rfl (.inr heldx) rfl rfl rfl ?_
              refine d_takeskip 12 rfl (by kernel_rfl) rfl (.inr heldx) rfl rfl rfl ?_
              refine d_takeskip 13 rfl (by kernel_rfl) rfl (.inr heldx) rfl rfl rfl ?_
              refine d_takeskip 14 rfl (by kernel_rfl) rfl (.inr heldx) rfl rfl rfl ?_
              refine d_takeskip 15 rfl (by kernel_rfl) rfl (.inr heldx) rfl rfl rfl ?_
              refine d_takeskip 16 rfl (by kernel_rfl) rfl (.inr heldx) rfl rfl rfl ?_
              refine d_takeskip 17 rfl (by kernel_rfl) rfl (.inr heldx) rfl rfl rfl ?_
              refine d_takeskip 18 rfl (by kernel_rfl) rfl (.inr heldx) rfl rfl rfl ?_
              refine d_takeskip 19 rfl (by kernel_rfl) rfl (.inr heldx) rfl rfl rfl ?_
              refine d_takeskip 20 rfl (by kernel_rfl) rfl (.inr heldx) rfl rfl rfl ?_
              refine d_takeskip 21 rfl (by kernel_rfl) rfl (.inr heldx) rfl rfl rfl ?_
              refine d_takeA 22 rfl (by kernel_rfl) rfl (.inr heldx) (y_pick_true rfl rfl) (.met rfl rfl) rfl ?_
              exact d_fin 11 rfl rfl hk
            refine d_takeA 23 rfl (by kernel_rfl) rfl (.inr heldx) (y_move rfl) (.met rfl rfl) rfl ?_
            apply d_or 75 82 rfl
            · intro g9_24 hk
              try simp only [Bool.and_eq_true, Bool.or_eq_true, Bool.not_eq_true', Bool.not_eq_false', Bool.and_eq_false_iff, Bool.or_eq_false_iff, decide_eq_true_eq, decide_eq_false_iff_not] at g9_24
              refine d_takeA 24 rfl (by kernel_rfl) rfl (.inr heldx) (y_fieldAddr rfl) (.met rfl rfl) rfl ?_
              refine d_take 25 [40] rfl (by kernel_rfl) rfl heldx (y_load rfl (loads_own1 (by first | exact m0 | exact m1 | exact m2 | exact m3 | exact m4 | exact m5 | exact m6) (by rfl) rfl)) (.met rfl rfl) rfl ?_
              first | refine d_takeA 26 rfl (by kernel_rfl) rfl (.inr heldx) (y_indexAddrD rfl rfl 3 rfl (by first | omega | exact lt_of (by assumption) (by decide) | (simp; done) | (simp; omega) | decide | (simp at *; omega)) (by first | assumption | exact FormAt.nil (by assumption) | exact Strs.nil' (by assumption) | exact Nums.nil' (by assumption) | exact Raw.nil' (by assumption))) (.met rfl rfl) rfl ?_ | refine d_takeA 26 rfl (by kernel_rfl) rfl (.inr heldx) (y_indexAddr' rfl rfl 3 rfl (by first | omega | exact lt_of (by assumption) (by decide) | (simp; done) | (simp; omega) | decide | (simp at *; omega)) (by first | rfl | assumption)) (.met rfl rfl) rfl ?_
              refine d_take 27 [40] rfl (by kernel_rfl) rfl heldx (y_load rfl (by first | exact loads_stillS (FormAt.st (by assumption) _ (by first | omega | decide | (simp; done) | exact lt_of (by assumption) (by decide))) (by rfl) | exact loads_stillS (by assumption) (by rfl) | exact loads_rd (reads_sub (by assumption) (by intro _ h; first | exact h | exact dr1 h | exact dr2 h | exact dr3 h | exact dr4 h | exact dr5 h | exact dr6 h)) (by rfl))) (.met rfl rfl) rfl ?_
              refine d_call 28 rfl (by kernel_rfl) rfl rfl (.met rfl rfl) rfl (g_l1Typed (hf.rp 3 (by omega)) hg3 (Tree.size_maxN (by omega)) _) ?_
              rintro _ _ _ _ ⟨rfl, rfl, rfl⟩
              refine ⟨(.inr heldx), ?_⟩
              refine d_takeA 29 rfl (by kernel_rfl) rfl (.inr heldx) (y_not rfl) (.met rfl rfl) rfl ?_
              refine d_takeA 30 rfl (by kernel_rfl) rfl (.inr heldx) (y_pick_false rfl rfl) (.met rfl rfl) rfl ?_
              exact d_fin 6 rfl rfl hk
            · intro _ hk
              refine d_takeskip 24 rfl (by kernel_rfl) rfl (.inr heldx) rfl rfl rfl ?_
              refine d_takeskip 25 rfl (by kernel_rfl) rfl (.inr heldx) rfl rfl rfl ?_
              refine d_takeskip 26 rfl (by kernel_rfl) rfl (.inr heldx) rfl rfl rfl ?_
              refine d_takeskip 27 rfl (by kernel_rfl) rfl (.inr heldx) rfl rfl rfl ?_
              refine d_takeskip 28 rfl (by kernel_rfl) rfl (.inr heldx) rfl rfl rfl ?_
              refine d_takeskip 29 rfl (by kernel_rfl) rfl (.inr heldx) rfl rfl rfl ?_
              refine d_takeA 30 rfl (by kernel_rfl) rfl (.inr heldx) (y_pick_true rfl rfl) (.met rfl rfl) rfl ?_
              exact d_fin 6 rfl rfl hk
            refine d_takeA 31 rfl (by kernel_rfl) rfl (.inr heldx) (y_move rfl) (.met rfl rfl) rfl ?_
            apply d_or 83 90 rfl
            · intro g9_32 hk
              try simp only [Bool.and_eq_true, Bool.or_eq_true, Bool.not_eq_true', Bool.not_eq_false', Bool.and_eq_false_iff, Bool.or_eq_false_iff, decide_eq_true_eq, decide_eq_false_iff_not] at g9_32
              refine d_takeA 32 rfl (by kernel_rfl) rfl (.inr heldx) (y_fieldAddr rfl) (.met rfl rfl) rfl ?_
              refine d_take 33 [40] rfl (by kernel_rfl) rfl heldx (y_load rfl (loads_own1 (by first | exact m0 | exact m1 | exact m2 | exact m3 | exact m4 | exact m5 | exact m6) (by rfl) rfl)) (.met rfl rfl) rfl ?_
              first | refine d_takeA 34 rfl (by kernel_rfl) rfl (.inr heldx) (y_indexAddrD rfl rfl 4 rfl (by first | omega | exact lt_of (by assumption) (by decide) | (simp; done) | (simp; omega) | decide | (simp at *; omega)) (by first | assumption | exact FormAt.nil (by assumption) | exact Strs.nil' (by assumption) | exact Nums.nil' (by assumption) | exact Raw.nil' (by assumption))) (.met rfl rfl) rfl ?_ | refine d_takeA 34 rfl (by kernel_rfl) rfl (.inr heldx) (y_indexAddr' rfl rfl 4 rfl (by first | omega | exact lt_of (by assumption) (by decide) | (simp; done) | (simp; omega) | decide | (simp at *; omega)) (by first | rfl | assumption)) (.met rfl rfl) rfl ?_
              refine d_take 35 [40] rfl (by kernel_rfl) rfl heldx (y_load rfl (by first | exact loads_stillS (FormAt.st (by assumption) _ (by first | omega | decide | (simp; done) | exact lt_of (by assumption) (by decide))) (by rfl) | exact loads_stillS (by assumption) (by rfl) | exact loads_rd (reads_sub (by assumption) (by intro _ h; first | exact h | exact dr1 h | exact dr2 h | exact dr3 h | exact dr4 h | exact dr5 h | exact dr6 h)) (by rfl))) (.met rfl rfl) rfl ?_
              refine d_call 36 rfl (by kernel_rfl) rfl rfl (.met rfl rfl) rfl (g_l1Typed (hf.rp 4 (by omega)) hg4 (Tree.size_maxN (by omega)) _) ?_
              rintro _ _ _ _ ⟨rfl, rfl, rfl⟩
              refine ⟨(.inr heldx), ?_⟩
              refine d_takeA 37 rfl (by kernel_rfl) rfl (.inr heldx) (y_not rfl) (.met rfl rfl) rfl ?_
              refine d_takeA 38 rfl (by kernel_rfl) rfl (.inr heldx) (y_pick_false rfl rfl) (.met rfl rfl) rfl ?_
              exact d_fin 6 rfl rfl hk
            · intro _ hk
              refine d_takeskip 32 rfl (by kernel_rfl) rfl (.inr heldx) rfl rfl rfl ?_
              refine d_takeskip 33 rfl (by kernel_rfl) rfl (.inr heldx) rfl rfl rfl ?_
              refine d_takeskip 34 rfl (by kernel_rfl) rfl (.inr heldx) rfl rfl rfl ?_
              refine d_takeskip 35 rfl (by kernel_rfl) rfl (.inr heldx) rfl rfl rfl ?_
              refine d_takeskip 36 rfl (by kernel_rfl) rfl (.inr heldx) rfl rfl rfl ?_
              refine d_takeskip 37 rfl (by kernel_rfl) rfl (.inr heldx) rfl rfl rfl ?_
              refine d_takeA 38 rfl (by kernel_rfl) rfl (.inr heldx) (y_pick_true rfl rfl) (.met rfl rfl) rfl ?_
              exact d_fin 6 rfl rfl hk
            refine d_takeA 39 rfl (by kernel_rfl) rfl (.inr heldx) (y_pick_true rfl rfl) .free rfl ?_
            exact d_fin 13 rfl rfl hk
          · intro _ hk
            refine d_takeskip 3 rfl (by kernel_rfl) rfl (.inr heldx) rfl rfl rfl ?_
            refine d_takeskip 4 rfl (by kernel_rfl) rfl (.inr heldx) rfl rfl rfl ?_
            refine d_takeskip 5 rfl (by kernel_rfl) rfl (.inr heldx) rfl rfl rfl ?_
            refine d_takeskip 6 rfl (by kernel_rfl) rfl (.inr heldx) rfl rfl rfl ?_
            refine d_takeskip 7 rfl (by kernel_rfl) rfl (.inr heldx) rfl rfl rfl ?_
            refine d_takeskip 8 rfl (by kernel_rfl) rfl (.inr heldx) rfl rfl rfl ?_
            refine d_takeskip 9 rfl (by kernel_rfl) rfl (.inr heldx) rfl rfl rfl ?_
            refine d_takeskip 10 rfl (by kernel_rfl) rfl (.inr heldx) rfl rfl rfl ?_
            refine d_takeskipu 11 rfl (by kernel_rfl) rfl (.inr heldx) rfl rfl rfl ?_
            refine d_takeskipu 12 rfl (by kernel_rfl) rfl (.inr heldx) rfl rfl rfl ?_
            refine d_takeskipu 13 rfl (by kernel_rfl) rfl (.inr heldx) rfl rfl rfl ?_
            refine d_takeskipu 14 rfl (by kernel_rfl) rfl (.inr heldx) rfl rfl rfl ?_
            refine d_takeskipu 15 rfl (by kernel_rfl) rfl (.inr heldx) rfl rfl rfl ?_
            refine d_takeskipu 16 rfl (by kernel_rfl) rfl (.inr heldx) rfl rfl rfl ?_
            refine d_takeskipu 17 rfl (by kernel_rfl) rfl (.inr heldx) rfl rfl rfl ?_
            refine d_takeskipu 18 rfl (by kernel_rfl) rfl (.inr heldx) rfl rfl rfl ?_
            refine d_takeskipu 19 rfl (by kernel_rfl) rfl (.inr heldx) rfl rfl rfl ?_
            refine d_takeskipu 20 rfl (by kernel_rfl) rfl (.inr heldx) rfl rfl rfl ?_
            refine d_takeskipu 21 rfl (by kernel_rfl) rfl (.inr heldx) rfl rfl rfl ?_
            refine d_takeskip 22 rfl (by kernel_rfl) rfl (.inr heldx) rfl rfl rfl ?_
            refine d_takeskip 23 rfl (by kernel_rfl) rfl (.inr heldx) rfl rfl rfl ?_
            refine d_takeskipu 24 rfl (by kernel_rfl) rfl (.inr heldx) rfl rfl rfl ?_
            refine d_takeskipu 25 rfl (by kernel_rfl) rfl (.inr heldx) rfl rfl rfl ?_
            refine d_takeskipu 26 rfl (by kernel_rfl) rfl (.inr heldx) rfl rfl rfl ?_
            refine d_takeskipu 27 rfl (by kernel_rfl) rfl (.inr heldx) rfl rfl rfl ?_
            refine d_takeskipu 28 rfl (by kernel_rfl) rfl (.inr heldx) rfl rfl rfl ?_
            refine d_takeskipu 29 rfl (by kernel_rfl) rfl (.inr heldx) rfl rfl rfl ?_
            refine d_takeskip 30 rfl (by kernel_rfl) rfl (.inr heldx) rfl rfl rfl ?_
            refine d_takeskip 31 rfl (by kernel_rfl) rfl (.inr heldx) rfl rfl rfl ?_
            refine d_takeskipu 32 rfl (by kernel_rfl) rfl (.inr heldx) rfl rfl rfl ?_
            refine d_takeskipu 33 rfl (by kernel_rfl) rfl (.inr heldx) rfl rfl rfl ?_
            refine d_takeskipu 34 rfl (by kernel_rfl) rfl (.inr heldx) rfl rfl rfl ?_
            refine d_takeskipu 35 rfl (by kernel_rfl) rfl (.inr heldx) rfl rfl rfl ?_
            refine d_takeskipu 36 rfl (by kernel_rfl) rfl (.inr heldx) rfl rfl rfl ?_
            refine d_takeskipu 37 rfl (by kernel_rfl) rfl (.inr heldx) rfl rfl rfl ?_
            refine d_takeskip 38 rfl (by kernel_rfl) rfl (.inr heldx) rfl rfl rfl ?_
            refine d_takeA 39 rfl (by kernel_rfl) rfl (.inr heldx) (y_pick_false rfl rfl) .free rfl ?_
            exact d_fin 36 rfl rfl hk
          refine d_done (by kernel_rfl) ?_
          refine s_cond rfl ?_ ?_
          · intro c3
            try simp only [Bool.and_eq_true, Bool.or_eq_true, Bool.not_eq_true', Bool.not_eq_false', Bool.and_eq_false_iff, Bool.or_eq_false_iff, decide_eq_true_eq, decide_eq_false_iff_not] at c3
            have h56 : (kidRange t.head).1 = 5 := by omega
            have h6 := k7 h56
            refine s_seq ?_
            refine o_enter rfl ?_
            refine o_assign rfl .free rfl ?_
            refine o_done ?_
            refine s_ret (.tmp rfl .nil) ?_
            refine done_only rfl (by intro _ h; first | exact h | exact dr1 h | exact dr2 h | exact dr3 h | exact dr4 h | exact dr5 h | exact dr6 h) ?_
            have hh := k6.1 h56
            rw [hks, exTail, if_neg (by rw [hh]; decide), if_pos hh]
            have : (isName (t.pt 1).atom && isName (t.pt 2).atom && decide ((t.pt 1).atom ≠ (t.pt 2).atom) && (t.pt 3).typed && (t.pt 4).typed) = false := by
              have := c3.2
              grind
            rw [this]; simp [retOne]
          · intro c3
            try simp only [Bool.and_eq_true, Bool.or_eq_true, Bool.not_eq_true', Bool.not_eq_false', Bool.and_eq_false_iff, Bool.or_eq_false_iff, decide_eq_true_eq, decide_eq_false_iff_not] at c3
            have htail : exTail t = true := by
              unfold exTail
              by_cases e : t.head = tLet
              · rw [if_pos e]
                have := k5.2 (.inl e)
                rcases c2 with h | h
                · omega
                · simpa using h
              · rw [if_neg e]
                by_cases e' : t.head = tFun
                · have h5 := k6.2 e'
                  have h6 := k7 h5
                  rw [if_pos e']
                  grind
                · rw [if_neg e']
            refine s_skip ?_
            refine s_seq ?_
            refine s_seq ?_
            refine o_enter rfl ?_
            refine o_move rfl .free rfl ?_
            refine o_assign rfl .free rfl ?_
            refine o_done ?_
            refine s_block ?_
            refine s_while (X := Nat) (fun j => (kids t).length - j) (fun j => [(1, .pointer (some ⟨b1, 0, none⟩)), (6, .int .i64 ((kidRange t.head).2 : Nat)), (7, .int .i64 (((kidRange t.head).1 + j : Nat)))]) (fun _ => I) (fun _ => (b1, .cells [.string (str t.atom), .slice oa t.parts.length c].toArray _ (0, 0)) :: L) (fun j => j ≤ (kids t).length ∧ ((kids t).take j).all (fun i => (t.pt i).ex.isSome) = true) 0 ⟨by omega, rfl⟩ ⟨rfl, rfl, rfl, trivial⟩ (by intro _ h; first | exact h | exact dr1 h | exact dr2 h | exact dr3 h | exact dr4 h | exact dr5 h | exact dr6 h) ?_
            rintro j ⟨hj, hall⟩ ih
            have hkl : (kids t).length = (kidRange t.head).2 - (kidRange t.head).1 := by rw [hkr, List.length_range']
            refine s_seq ?_
            refine s_seq ?_
            refine o_enter rfl ?_
            refine o_move rfl .free rfl ?_
            refine o_move rfl .free rfl ?_
            refine o_cmp rfl rfl rfl .free rfl ?_
            refine o_done ?_
            refine s_cond rfl ?_ ?_
            · intro c4
              try simp only [Bool.and_eq_true, Bool.or_eq_true, Bool.not_eq_true', Bool.not_eq_false', Bool.and_eq_false_iff, Bool.or_eq_false_iff, decide_eq_true_eq, decide_eq_false_iff_not] at c4
              have hjl : j < (kids t).length := by omega
              have hkj : (kids t)[j] = (kidRange t.head).1 + j := by simp only [hkr, List.getElem_range']; omega
              have hkt : (kidRange t.head).1 + j < t.parts.length := by omega
              refine s_skip ?_
              refine s_seq ?_
              refine s_block ?_
              refine s_seq ?_
              refine o_enter rfl ?_
              refine o_fieldAddr rfl .free rfl ?_
              refine o_load rfl (loads_own1 (by first | exact m0 | exact m1 | exact m2 | exact m3 | exact m4 | exact m5 | exact m6) (by rfl) rfl) .free rfl ?_
              refine o_move rfl .free rfl ?_
              first | refine o_indexAddrD rfl rfl _ rfl (by first | omega | exact lt_of (by assumption) (by decide) | (simp; done) | (simp; omega) | decide | (simp at *; omega)) (by first | assumption | exact FormAt.nil (by assumption) | exact Strs.nil' (by assumption) | exact Nums.nil' (by assumption) | exact Raw.nil' (by assumption)) .free rfl ?_ | refine o_indexAddr' rfl rfl _ rfl (by first | omega | exact lt_of (by assumption) (by decide) | (simp; done) | (simp; omega) | decide | (simp at *; omega)) (by first | rfl | assumption) .free rfl ?_
              refine o_load rfl (by first | exact loads_stillS (FormAt.st (by assumption) _ (by first | omega | decide | (simp; done) | exact lt_of (by assumption) (by decide))) (by rfl) | exact loads_stillS (by assumption) (by rfl) | exact loads_rd (reads_sub (by assumption) (by intro _ h; first | exact h | exact dr1 h | exact dr2 h | exact dr3 h | exact dr4 h | exact dr5 h | exact dr6 h)) (by rfl)) .free rfl ?_
              refine o_call rfl .free rfl (ihn (t := t.pt ((kidRange t.head).1 + j)) (by have := t.pt_lt _ hkt; omega) (hf.rp _ hkt) (Tree.pt_good hg _ hkt) (by have := t.pt_len _ hkt; omega) _) ?_
              rintro _ _ _ _ ⟨rfl, rfl, rfl⟩
              refine o_not rfl .free rfl ?_
              refine o_done ?_
              refine s_cond rfl ?_ ?_
              · intro c5
                try simp only [Bool.and_eq_true, Bool.or_eq_true, Bool.not_eq_true', Bool.not_eq_false', Bool.and_eq_false_iff, Bool.or_eq_false_iff, decide_eq_true_eq, decide_eq_false_iff_not] at c5
                refine s_seq ?_
                refine o_enter rfl ?_
                refine o_assign rfl .free rfl ?_
                refine o_done ?_
                refine s_ret (.tmp rfl .nil) ?_
                refine done_only rfl (by intro _ h; first | exact h | exact dr1 h | exact dr2 h | exact dr3 h | exact dr4 h | exact dr5 h | exact dr6 h) ?_
                rw [hks]
                have : (kids t).all (fun i => (t.pt i).ex.isSome) = false := by
                  rw [List.all_eq_false]; exact ⟨_, List.getElem_mem hjl, by rw [hkj]; simpa using c5⟩
                rw [this]; rfl
              · intro c5
                try simp only [Bool.and_eq_true, Bool.or_eq_true, Bool.not_eq_true', Bool.not_eq_false', Bool.and_eq_false_iff, Bool.or_eq_false_iff, decide_eq_true_eq, decide_eq_false_iff_not] at c5
                refine s_skip ?_
                refine s_inBlock ?_
                refine o_enter rfl ?_
                refine o_move rfl .free rfl ?_
                refine o_arith rfl rfl rfl (by omega) .free rfl ?_
                refine o_assign rfl .free rfl ?_
                refine o_done ?_
                refine s_env (E' := [(1, .pointer (some ⟨b1, 0, none⟩)), (6, .int .i64 ((kidRange t.head).2 : Nat)), (7, .int .i64 (((kidRange t.head).1 + (j + 1) : Nat)))]) ⟨rfl, rfl, rfl, trivial⟩ (ih (j + 1) ⟨by omega, ?_⟩ (by omega))
                rw [List.take_succ_eq_append_getElem hjl, List.all_append, hall]
                simp only [List.all_cons, List.all_nil, Bool.and_true, Bool.true_and]
                rw [hkj]; simpa using c5
            · intro c4
              try simp only [Bool.and_eq_true, Bool.or_eq_true, Bool.not_eq_true', Bool.not_eq_false', Bool.and_eq_false_iff, Bool.or_eq_false_iff, decide_eq_true_eq, decide_eq_false_iff_not] at c4
              refine s_exit rfl ?_
              refine s_seq ?_
              refine o_enter rfl ?_
              refine o_assign rfl .free rfl ?_
              refine o_done ?_
              refine s_ret (.tmp rfl .nil) ?_
              refine done_only rfl (by intro _ h; first | exact h | exact dr1 h | exact dr2 h | exact dr3 h | exact dr4 h | exact dr5 h | exact dr6 h) ?_
              obtain rfl : j = (kids t).length := by omega
              rw [List.take_length] at hall
              rw [hks, hall, htail]; rfl

/-- What has been written when 'i' parts are. -/
def outT (ps : List Tree) (i : Nat) : Txt := if i = 0 then [40] else openT (ps.take i)
theorem outT_succ (ps : List Tree) (i : Nat) (hi : i < ps.length) : outT ps (i + 1) = (if i = 0 then outT ps i else outT ps i ++ [32]) ++ ps[i].text := by
  unfold outT
  rw [if_neg (by omega), openT_take ps i hi]
  by_cases h : i = 0
  · simp [h, openT]
  · simp [h]
theorem outT_len (ps : List Tree) (i : Nat) (hi : i ≤ ps.length) : (outT ps i).length ≤ 1 + (openT ps).length := by
  unfold outT
  split
  · simp
  · have := openT_len ps i; omega
theorem g_l1Text : ∀ (n : Nat) {I : Heap} {t : Tree} {cs : List Value} (_ : SizeOf.sizeOf t < n) (_ : Rep I t cs) (_ : t.good = true) (_ : t.len ≤ 12000000) (L : Own),
    Fun Try.prog 9 [.agg cs.toArray] I L (Only (.string (str t.text)) I L) := by
  intro n
  induction n with
  | zero => intro I t cs h; omega
  | succ n ihn =>
    intro I t cs hlt h hg hz L
    obtain ⟨oa, c, oaf, cf, rfl, hf⟩ := h.at'
    have hp := hf.len
    unfold maxN at hp
    refine fun_intro (by simp) ?_
    refine s_seq ?_
    refine o_enter rfl ?_
    refine o_box rfl rfl .free rfl ?_
    intro b1
    refine o_assign rfl .free rfl ?_
    refine o_done ?_
    refine s_seq ?_
    refine s_seq ?_
    refine o_enter rfl ?_
    refine o_fieldAddr rfl .free rfl ?_
    refine o_load rfl (loads_own1 (by first | exact m0 | exact m1 | exact m2 | exact m3 | exact m4 | exact m5 | exact m6) (by rfl) rfl) .free rfl ?_
    refine o_cmps rfl rfl rfl .free rfl ?_
    refine o_done ?_
    refine s_cond rfl ?_ ?_
    · intro c0
      try simp only [Bool.and_eq_true, Bool.or_eq_true, Bool.not_eq_true', Bool.not_eq_false', Bool.and_eq_false_iff, Bool.or_eq_false_iff, decide_eq_true_eq, decide_eq_false_iff_not] at c0
      refine s_seq ?_
      refine o_enter rfl ?_
      refine o_fieldAddr rfl .free rfl ?_
      refine o_load rfl (loads_own1 (by first | exact m0 | exact m1 | exact m2 | exact m3 | exact m4 | exact m5 | exact m6) (by rfl) rfl) .free rfl ?_
      refine o_assign rfl .free rfl ?_
      refine o_done ?_
      refine s_ret (.tmp rfl .nil) ?_
      refine done_only rfl (by intro _ h; first | exact h | exact dr1 h | exact dr2 h | exact dr3 h | exact dr4 h | exact dr5 h | exact dr6 h) ?_
      rw [t.text_atom (good_nil hg (by simpa using c0))]; rfl
    · intro c0
      try simp only [Bool.and_eq_true, Bool.or_eq_true, Bool.not_eq_true', Bool.not_eq_false', Bool.and_eq_false_iff, Bool.or_eq_false_iff, decide_eq_true_eq, decide_eq_false_iff_not] at c0
      obtain ⟨hne, h0⟩ := good_ne hg (by simpa using c0)
      have htx := t.text_eq hne
      have htl := t.text_len
      rw [htx, List.length_append] at htl
      simp only [List.length_cons, List.length_nil] at htl
      refine s_skip ?_
      refine s_seq ?_
      refine o_enter rfl ?_
      refine o_assign rfl .free rfl ?_
      refine o_done ?_
      refine s_seq ?_
      refine s_seq ?_
      refine o_enter rfl ?_
      refine o_assign rfl .free rfl ?_
      refine o_done ?_
      refine s_block ?_
      refine s_while (X := Nat) (fun i => t.parts.length - i) (fun i => [(1, .pointer (some ⟨b1, 0, none⟩)), (3, .string (str (outT t.parts i))), (4, .int .i64 (i : Nat))]) (fun _ => I) (fun _ => (b1, .cells [.string (str t.atom), .slice oa t.parts.length c].toArray _ (0, 0)) :: L) (fun i => i ≤ t.parts.length) 0 (by omega) ⟨rfl, rfl, rfl, trivial⟩ (by intro _ h; first | exact h | exact dr1 h | exact dr2 h | exact dr3 h | exact dr4 h | exact dr5 h | exact dr6 h) ?_
      rintro i hi ih
      have hol := outT_len t.parts i hi
      refine s_seq ?_
      refine s_seq ?_
      refine o_enter rfl ?_
      refine o_move rfl .free rfl ?_
      refine o_fieldAddr rfl .free rfl ?_
      refine o_load rfl (loads_own1 (by first | exact m0 | exact m1 | exact m2 | exact m3 | exact m4 | exact m5 | exact m6) (by rfl) rfl) .free rfl ?_
      refine o_len_slice rfl .free rfl ?_
      refine o_cmp rfl rfl rfl .free rfl ?_
      refine o_done ?_
      refine s_cond rfl ?_ ?_
      · intro c1
        try simp only [Bool.and_eq_true, Bool.or_eq_true, Bool.not_eq_true', Bool.not_eq_false', Bool.and_eq_false_iff, Bool.or_eq_false_iff, decide_eq_true_eq, decide_eq_false_iff_not] at c1
        have hpl := t.pt_len i (by omega)
        have hos := outT_succ t.parts i (by omega)
        rw [← Tree.pt_at (by omega)] at hos
        have hpt := (t.pt i).text_len
        refine s_skip ?_
        refine s_seq ?_
        refine s_block ?_
        refine s_seq ?_
        refine s_seq ?_
        refine o_enter rfl ?_
        refine o_move rfl .free rfl ?_
        refine o_cmp rfl rfl rfl .free rfl ?_
        refine o_done ?_
        refine s_cond rfl ?_ ?_
        · intro c2
          try simp only [Bool.and_eq_true, Bool.or_eq_true, Bool.not_eq_true', Bool.not_eq_false', Bool.and_eq_false_iff, Bool.or_eq_false_iff, decide_eq_true_eq, decide_eq_false_iff_not] at c2
          refine o_enter rfl ?_
          refine o_move rfl .free rfl ?_
          refine o_concat rfl rfl (by first | omega | (simp only [List.length_append, List.length_cons, List.length_nil]; omega) | (simp; omega)) .free rfl ?_
          refine o_assign rfl .free rfl ?_
          refine o_done ?_
          refine o_enter rfl ?_
          refine o_move rfl .free rfl ?_
          refine o_fieldAddr rfl .free rfl ?_
          refine o_load rfl (loads_own1 (by first | exact m0 | exact m1 | exact m2 | exact m3 | exact m4 | exact m5 | exact m6) (by rfl) rfl) .free rfl ?_
          refine o_move rfl .free rfl ?_
          first | refine o_indexAddrD rfl rfl _ rfl (by first | omega | exact lt_of (by assumption) (by decide) | (simp; done) | (simp; omega) | decide | (simp at *; omega)) (by first | assumption | exact FormAt.nil (by assumption) | exact Strs.nil' (by assumption) | exact Nums.nil' (by assumption) | exact Raw.nil' (by assumption)) .free rfl ?_ | refine o_indexAddr' rfl rfl _ rfl (by first | omega | exact lt_of (by assumption) (by decide) | (simp; done) | (simp; omega) | decide | (simp at *; omega)) (by first | rfl | assumption) .free rfl ?_
          refine o_load rfl (by first | exact loads_stillS (FormAt.st (by assumption) _ (by first | omega | decide | (simp; done) | exact lt_of (by assumption) (by decide))) (by rfl) | exact loads_stillS (by assumption) (by rfl) | exact loads_rd (reads_sub (by assumption) (by intro _ h; first | exact h | exact dr1 h | exact dr2 h | exact dr3 h | exact dr4 h | exact dr5 h | exact dr6 h)) (by rfl)) .free rfl ?_
          refine o_call rfl .free rfl (ihn (t := t.pt i) (by have := t.pt_lt i (by omega); omega) (hf.rp i (by omega)) (Tree.pt_good hg i (by omega)) (by omega) _) ?_
          rintro _ _ _ _ ⟨rfl, rfl, rfl⟩
          refine o_concat rfl rfl (by first | omega | (simp only [List.length_append, List.length_cons, List.length_nil]; omega) | (simp; omega)) .free rfl ?_
          refine o_assign rfl .free rfl ?_
          refine o_done ?_
          refine s_inBlock ?_
          refine o_enter rfl ?_
          refine o_move rfl .free rfl ?_
          refine o_arith rfl rfl rfl (by omega) .free rfl ?_
          refine o_assign rfl .free rfl ?_
          refine o_done ?_
          refine s_env (E' := [(1, .pointer (some ⟨b1, 0, none⟩)), (3, .string (str (outT t.parts (i + 1)))), (4, .int .i64 ((i + 1 : Nat)))]) ⟨rfl, ?_, rfl, trivial⟩ (ih (i + 1) (by omega) (by omega))
          first
            | (rw [hos, if_neg (by omega)]; rfl)
            | (rw [hos, if_pos (by omega)]; rfl)
        · intro c2
          try simp only [Bool.and_eq_true, Bool.or_eq_true, Bool.not_eq_true', Bool.not_eq_false', Bool.and_eq_false_iff, Bool.or_eq_false_iff, decide_eq_true_eq, decide_eq_false_iff_not] at c2
          refine s_skip ?_
          refine o_enter rfl ?_
          refine o_move rfl .free rfl ?_
          refine o_fieldAddr rfl .free rfl ?_
          refine o_load rfl (loads_own1 (by first | exact m0 | exact m1 | exact m2 | exact m3 | exact m4 | exact m5 | exact m6) (by rfl) rfl) .free rfl ?_
          refine o_move rfl .free rfl ?_
          first | refine o_indexAddrD rfl rfl _ rfl (by first | omega | exact lt_of (by assumption) (by decide) | (simp; done) | (simp; omega) | decide | (simp at *; omega)) (by first | assumption | exact FormAt.nil (by assumption) | exact Strs.nil' (by assumption) | exact Nums.nil' (by assumption) | exact Raw.nil' (by assumption)) .free rfl ?_ | refine o_indexAddr' rfl rfl _ rfl (by first | omega | exact lt_of (by assumption) (by decide) | (simp; done) | (simp; omega) | decide | (simp at *; omega)) (by first | rfl | assumption) .free rfl ?_
          refine o_load rfl (by first | exact loads_stillS (FormAt.st (by assumption) _ (by first | omega | decide | (simp; done) | exact lt_of (by assumption) (by decide))) (by rfl) | exact loads_stillS (by assumption) (by rfl) | exact loads_rd (reads_sub (by assumption) (by intro _ h; first | exact h | exact dr1 h | exact dr2 h | exact dr3 h | exact dr4 h | exact dr5 h | exact dr6 h)) (by rfl)) .free rfl ?_
          refine o_call rfl .free rfl (ihn (t := t.pt i) (by have := t.pt_lt i (by omega); omega) (hf.rp i (by omega)) (Tree.pt_good hg i (by omega)) (by omega) _) ?_
          rintro _ _ _ _ ⟨rfl, rfl, rfl⟩
          refine o_concat rfl rfl (by first | omega | (simp only [List.length_append, List.length_cons, List.length_nil]; omega) | (simp; omega)) .free rfl ?_
          refine o_assign rfl .free rfl ?_
          refine o_done ?_
          refine s_inBlock ?_
          refine o_enter rfl ?_
          refine o_move rfl .free rfl ?_
          refine o_arith rfl rfl rfl (by omega) .free rfl ?_
          refine o_assign rfl .free rfl ?_
          refine o_done ?_
          refine s_env (E' := [(1, .pointer (some ⟨b1, 0, none⟩)), (3, .string (str (outT t.parts (i + 1)))), (4, .int .i64 ((i + 1 : Nat)))]) ⟨rfl, ?_, rfl, trivial⟩ (ih (i + 1) (by omega) (by omega))
          first
            | (rw [hos, if_neg (by omega)]; rfl)
            | (rw [hos, if_pos (by omega)]; rfl)
      · intro c1
        try simp only [Bool.and_eq_true, Bool.or_eq_true, Bool.not_eq_true', Bool.not_eq_false', Bool.and_eq_false_iff, Bool.or_eq_false_iff, decide_eq_true_eq, decide_eq_false_iff_not] at c1
        obtain rfl : i = t.parts.length := by omega
        have hpos : outT t.parts t.parts.length = openT t.parts := by unfold outT; rw [if_neg (by omega), List.take_length]
        rw [hpos]
        refine s_exit rfl ?_
        refine s_seq ?_
        refine o_enter rfl ?_
        refine o_move rfl .free rfl ?_
        refine o_concat rfl rfl (by first | omega | (simp only [List.length_append, List.length_cons, List.length_nil]; omega) | (simp; omega)) .free rfl ?_
        refine o_assign rfl .free rfl ?_
        refine o_done ?_
        refine s_ret (.tmp rfl .nil) ?_
        refine done_only rfl (by intro _ h; first | exact h | exact dr1 h | exact dr2 h | exact dr3 h | exact dr4 h | exact dr5 h | exact dr6 h) ?_
        rw [htx]; rfl

theorem f_form_isExpression {I : Heap} {t : Tree} {cs : List Value} (h : Rep I t cs) (hg : t.good = true) (hz : t.len ≤ 12000000) (L : Own) :
    Fun Try.prog 16 [.agg cs.toArray] I L (Only (.bool (decide (t.size ≤ 120) && t.fits && t.ex.isSome)) I L) := by
  obtain ⟨oa, c, oaf, cf, rfl, hf⟩ := h.at'
  refine fun_intro (by simp) ?_
  refine s_seq ?_
  refine o_enter rfl ?_
  refine o_box rfl rfl .free rfl ?_
  intro b1
  refine o_assign rfl .free rfl ?_
  refine o_done ?_
  refine s_seq ?_
  refine o_enter rfl ?_
  refine o_load rfl (loads_ownS (by first | exact m0 | exact m1 | exact m2 | exact m3 | exact m4 | exact m5 | exact m6) (by rfl)) .free rfl ?_
  refine o_call rfl .free rfl (f_form_size _ (Nat.lt_succ_self _) h (Tree.size_maxN hz) _) ?_
  rintro _ _ _ _ ⟨rfl, rfl, rfl⟩
  refine o_cmp rfl rfl rfl .free rfl ?_
  refine o_move rfl .free rfl ?_
  apply o_and 6 9 rfl
  · intro g1_4 hk
    try simp only [Bool.and_eq_true, Bool.or_eq_true, Bool.not_eq_true', Bool.not_eq_false', Bool.and_eq_false_iff, Bool.or_eq_false_iff, decide_eq_true_eq, decide_eq_false_iff_not] at g1_4
    refine o_load rfl (loads_ownS (by first | exact m0 | exact m1 | exact m2 | exact m3 | exact m4 | exact m5 | exact m6) (by rfl)) (.met rfl rfl) rfl ?_
    refine o_call rfl (.met rfl rfl) rfl (f_form_fits h (by unfold maxN; omega) _) ?_
    rintro _ _ _ _ ⟨rfl, rfl, rfl⟩
    refine o_pick_true rfl rfl .free rfl ?_
    exact o_fin 2 rfl rfl hk
  · intro _ hk
    refine o_skips 2 rfl ?_
    refine o_pick_false rfl rfl .free rfl ?_
    exact o_fin 2 rfl rfl hk
  refine o_move rfl .free rfl ?_
  apply o_and 10 13 rfl
  · intro g1_8 hk
    try simp only [Bool.and_eq_true, Bool.or_eq_true, Bool.not_eq_true', Bool.not_eq_false', Bool.and_eq_false_iff, Bool.or_eq_false_iff, decide_eq_true_eq, decide_eq_false_iff_not] at g1_8
    refine o_load rfl (loads_ownS (by first | exact m0 | exact m1 | exact m2 | exact m3 | exact m4 | exact m5 | exact m6) (by rfl)) (.met rfl rfl) rfl ?_
    refine o_call rfl (.met rfl rfl) rfl (f_form_isExpr _ (Nat.lt_succ_self _) h hg hz _) ?_
    rintro _ _ _ _ ⟨rfl, rfl, rfl⟩
    refine o_pick_true rfl rfl .free rfl ?_
    exact o_fin 2 rfl rfl hk
  · intro _ hk
    refine o_skips 2 rfl ?_
    refine o_pick_false rfl rfl .free rfl ?_
    exact o_fin 2 rfl rfl hk
  refine o_assign rfl .free rfl ?_
  refine o_done ?_
  refine s_ret (.tmp rfl .nil) ?_
  refine done_only rfl (by intro _ h; first | exact h | exact dr1 h | exact dr2 h | exact dr3 h | exact dr4 h | exact dr5 h | exact dr6 h) ?_
  have e : decide ((t.size : Int) ≤ 120) = decide (t.size ≤ 120) := by rw [Bool.eq_iff_iff]; simp; omega
  simp only [retOne, e]

/-- What reading an expression returns. -/
def RX (p : Option Ex) (L : Own) : Post := fun v I' L' => ∃ t cs ok, v = .tuple #[.agg cs.toArray, .bool ok] ∧ Rep I' t cs ∧ L = L' ∧
  (match p with
   | some e => ok = true ∧ t = e.tree
   | none => ok = false)
theorem RD_some {s : Txt} {t : Tree} {ok : Bool} (hpf : match parse s with | some t0 => ok = true ∧ t = t0 | none => ok = false) (h : ok = true) : parse s = some t := by
  cases hp : parse s with
  | none => rw [hp] at hpf; simp [h] at hpf
  | some t0 => rw [hp] at hpf; rw [hpf.2]
theorem parse_good {s : Txt} {t : Tree} (h : parse s = some t) : t.good = true ∧ t.len ≤ 12000000 ∧ t.fits = true := by
  obtain ⟨h1, h2, h3⟩ := parse_fits h
  simp only [Tree.fits, Bool.and_eq_true, decide_eq_true_eq] at h1
  exact ⟨h2, by omega, by simp [Tree.fits, h1]⟩
theorem exOf_of {s : Txt} {t : Tree} {ok : Bool} (hpf : match parse s with | some t0 => ok = true ∧ t = t0 | none => ok = false) (b : Bool) (hb : b = (ok && (decide (t.size ≤ 120) && t.ex.isSome))) :
    match exOf s with | some e => b = true ∧ t = e.tree | none => b = false := by
  cases ok with
  | false =>
    have hp : parse s = none := by
      cases hp : parse s with
      | none => rfl
      | some t0 => rw [hp] at hpf; exact absurd hpf.1 (by simp)
    unfold exOf
    rw [hp]; simpa using hb
  | true =>
    have hp := RD_some hpf rfl
    have hx : exOf s = match t.ex with | some e => (if e.size ≤ 120 then some e else none) | none => none := by unfold exOf; rw [hp]; rfl
    cases he : t.ex with
    | none =>
      have h2 : exOf s = none := by rw [hx, he]
      rw [h2]; simpa [he] using hb
    | some e =>
      obtain ⟨rfl, _⟩ := Tree.ex_tree (parse_good hp).1 he
      rw [Ex.tree_size] at hb
      by_cases hz : e.size ≤ 120
      · have h2 : exOf s = some e := by rw [hx, he]; exact if_pos hz
        rw [h2]; exact ⟨by rw [hb]; simp [hz, he], rfl⟩
      · have h2 : exOf s = none := by rw [hx, he]; exact if_neg hz
        rw [h2]; simp [hb, hz]
theorem f_readExpr (s : Txt) (hs : s.length ≤ maxN) (I : Heap) (L : Own) : Fun Try.prog 12 [.string (str s)] I L (RX (exOf s) L) := by
  refine fun_intro (by simp) ?_
  refine s_seq ?_
  refine o_enter rfl ?_
  refine o_alloc .free rfl ?_
  intro b2
  refine o_assign rfl .free rfl ?_
  refine o_done ?_
  refine s_seq ?_
  refine o_enter rfl ?_
  refine o_move rfl .free rfl ?_
  refine o_call rfl .free rfl (f_read s hs _ _) ?_
  rintro _ J _ hleJ ⟨t, cs, ok, rfl, hrep, rfl, hpf⟩
  obtain ⟨oa, cc, vs, rfl, -⟩ := hrep.open
  refine o_move rfl .free rfl ?_
  refine o_extract rfl rfl .free rfl ?_
  refine o_extract rfl rfl .free rfl ?_
  refine o_alloc .free rfl ?_
  intro b4
  refine o_store rfl rfl rfl rfl (by first | rfl | (simp only [List.toList_toArray, List.all_cons, List.all_nil, plainCell_buf, Bool.and_true, Bool.true_and] <;> rfl)) (by first | exact u0 | exact u1 | exact u2 | exact u3 | exact u4 | exact u5 | exact u6) (by rfl) .free ?_
  refine o_assign rfl .free rfl ?_
  refine o_done ?_
  refine s_seq ?_
  refine d_all 8 rfl rfl ?_
  refine d_take 0 [6] rfl (by kernel_rfl) rfl heldx (y_load rfl (loads_ownS (by first | exact m0 | exact m1 | exact m2 | exact m3 | exact m4 | exact m5 | exact m6) (by rfl))) .free rfl ?_
  refine d_takeA 1 rfl (by kernel_rfl) rfl (.inr heldx) (y_move rfl) .free rfl ?_
  refine d_takeA 2 rfl (by kernel_rfl) rfl (.inr heldx) (y_move rfl) .free rfl ?_
  apply d_and 13 16 rfl
  · intro g2_3 hk
    try simp only [Bool.and_eq_true, Bool.or_eq_true, Bool.not_eq_true', Bool.not_eq_false', Bool.and_eq_false_iff, Bool.or_eq_false_iff, decide_eq_true_eq, decide_eq_false_iff_not] at g2_3
    obtain ⟨hg, hz, hfit⟩ := parse_good (RD_some hpf g2_3)
    refine d_take 3 [4, 6] rfl (by kernel_rfl) rfl heldx (y_load rfl (loads_ownS (by first | exact m0 | exact m1 | exact m2 | exact m3 | exact m4 | exact m5 | exact m6) (by rfl))) (.met rfl rfl) rfl ?_
    refine d_call 4 rfl (by kernel_rfl) rfl rfl (.met rfl rfl) rfl (f_form_isExpression hrep hg hz _) ?_
    rintro _ _ _ _ ⟨rfl, rfl, rfl⟩
    refine ⟨(.inr heldx), ?_⟩
    refine d_takeA 5 rfl (by kernel_rfl) rfl (.inr heldx) (y_pick_true rfl rfl) .free rfl ?_
    exact d_fin 2 rfl rfl hk
  · intro _ hk
    refine d_takeskip 3 rfl (by kernel_rfl) rfl (.inr heldx) rfl rfl rfl ?_
    refine d_takeskip 4 rfl (by kernel_rfl) rfl (.inr heldx) rfl rfl rfl ?_
    refine d_takeA 5 rfl (by kernel_rfl) rfl (.inr heldx) (y_pick_false rfl rfl) .free rfl ?_
    exact d_fin 2 rfl rfl hk
  refine d_store 6 rfl (by kernel_rfl) rfl rfl rfl rfl rfl (by first | rfl | (simp only [List.toList_toArray, List.all_cons, List.all_nil, plainCell_buf, Bool.and_true, Bool.true_and] <;> rfl)) (by first | exact u0 | exact u1 | exact u2 | exact u3 | exact u4 | exact u5 | exact u6) (by rfl) .free (.inl (by kernel_rfl)) ?_
  refine d_takeA 7 rfl (by kernel_rfl) rfl (.inl (by kernel_rfl)) (y_assign rfl) .free rfl ?_
  refine d_done (by kernel_rfl) ?_
  refine s_ret (.cell rfl (by first | exact loads_still1 (by assumption) rfl | exact loads_ownS (by first | exact m0 | exact m1 | exact m2 | exact m3 | exact m4 | exact m5 | exact m6) (by rfl) | exact loads_own1 (by first | exact m0 | exact m1 | exact m2 | exact m3 | exact m4 | exact m5 | exact m6) (by rfl) rfl | exact loads_stillS (by assumption) (by rfl) | exact loads_stillF (by assumption) (by rfl) rfl) (.tmp rfl .nil)) ?_
  refine ⟨J, L, hleJ, fun _ h => h.drop.drop, t, _, _, rfl, hrep, rfl, exOf_of hpf _ ?_⟩
  cases ok with
  | false => rfl
  | true =>
    obtain ⟨hg, hz, hfit⟩ := parse_good (RD_some hpf rfl)
    simp [hfit]
theorem g_l2Parse' (s : Txt) (hs : s.length ≤ maxL) (I : Heap) (L : Own) : Fun Try.prog 6 [.string (str s)] I L (RX (exOf s) L) := by
  refine fun_intro (by simp) ?_
  refine s_seq ?_
  refine o_enter rfl ?_
  refine o_alloc .free rfl ?_
  intro b2
  refine o_assign rfl .free rfl ?_
  refine o_done ?_
  refine s_seq ?_
  refine o_enter rfl ?_
  refine o_move rfl .free rfl ?_
  refine o_call rfl .free rfl (g_l1Parse' s hs _ _) ?_
  rintro _ J _ hleJ ⟨t, cs, ok, rfl, hrep, rfl, hpf⟩
  obtain ⟨oa, cc, vs, rfl, -⟩ := hrep.open
  refine o_move rfl .free rfl ?_
  refine o_extract rfl rfl .free rfl ?_
  refine o_extract rfl rfl .free rfl ?_
  refine o_alloc .free rfl ?_
  intro b4
  refine o_store rfl rfl rfl rfl (by first | rfl | (simp only [List.toList_toArray, List.all_cons, List.all_nil, plainCell_buf, Bool.and_true, Bool.true_and] <;> rfl)) (by first | exact u0 | exact u1 | exact u2 | exact u3 | exact u4 | exact u5 | exact u6) (by rfl) .free ?_
  refine o_assign rfl .free rfl ?_
  refine o_done ?_
  refine s_seq ?_
  refine d_all 13 rfl rfl ?_
  refine d_take 0 [11] rfl (by kernel_rfl) rfl heldx (y_load rfl (loads_ownS (by first | exact m0 | exact m1 | exact m2 | exact m3 | exact m4 | exact m5 | exact m6) (by rfl))) .free rfl ?_
  refine d_takeA 1 rfl (by kernel_rfl) rfl (.inr heldx) (y_move rfl) .free rfl ?_
  refine d_takeA 2 rfl (by kernel_rfl) rfl (.inr heldx) (y_move rfl) .free rfl ?_
  apply d_and 13 16 rfl
  · intro g2_3 hk
    try simp only [Bool.and_eq_true, Bool.or_eq_true, Bool.not_eq_true', Bool.not_eq_false', Bool.and_eq_false_iff, Bool.or_eq_false_iff, decide_eq_true_eq, decide_eq_false_iff_not] at g2_3
    obtain ⟨hg, hz, hfit⟩ := parse_good (RD_some hpf g2_3)
    refine d_take 3 [4, 6, 8, 11] rfl (by kernel_rfl) rfl heldx (y_load rfl (loads_ownS (by first | exact m0 | exact m1 | exact m2 | exact m3 | exact m4 | exact m5 | exact m6) (by rfl))) (.met rfl rfl) rfl ?_
    refine d_call 4 rfl (by kernel_rfl) rfl rfl (.met rfl rfl) rfl (g_l2Valid _ (Nat.lt_succ_self _) hrep hg hz _) ?_
    rintro _ _ _ _ ⟨rfl, rfl, rfl⟩
    refine ⟨(.inr heldx), ?_⟩
    refine d_takeA 5 rfl (by kernel_rfl) rfl (.inr heldx) (y_pick_true rfl rfl) .free rfl ?_
    exact d_fin 2 rfl rfl hk
  · intro _ hk
    refine d_takeskip 3 rfl (by kernel_rfl) rfl (.inr heldx) rfl rfl rfl ?_
    refine d_takeskip 4 rfl (by kernel_rfl) rfl (.inr heldx) rfl rfl rfl ?_
    refine d_takeA 5 rfl (by kernel_rfl) rfl (.inr heldx) (y_pick_false rfl rfl) .free rfl ?_
    exact d_fin 2 rfl rfl hk
  refine d_takeA 6 rfl (by kernel_rfl) rfl (.inr heldx) (y_move rfl) .free rfl ?_
  apply d_and 17 21 rfl
  · intro g2_7 hk
    try simp only [Bool.and_eq_true, Bool.or_eq_true, Bool.not_eq_true', Bool.not_eq_false', Bool.and_eq_false_iff, Bool.or_eq_false_iff, decide_eq_true_eq, decide_eq_false_iff_not] at g2_7
    obtain ⟨hg, hz, hfit⟩ := parse_good (RD_some hpf g2_7.1)
    refine d_take 7 [8, 11] rfl (by kernel_rfl) rfl heldx (y_load rfl (loads_ownS (by first | exact m0 | exact m1 | exact m2 | exact m3 | exact m4 | exact m5 | exact m6) (by rfl))) (.met rfl rfl) rfl ?_
    refine d_call 8 rfl (by kernel_rfl) rfl rfl (.met rfl rfl) rfl (g_l1Size _ (Nat.lt_succ_self _) hrep hg (Tree.size_maxN hz) _) ?_
    rintro _ _ _ _ ⟨rfl, rfl, rfl⟩
    refine ⟨(.inr heldx), ?_⟩
    refine d_takeA 9 rfl (by kernel_rfl) rfl (.inr heldx) (y_cmp rfl rfl rfl) (.met rfl rfl) rfl ?_
    refine d_takeA 10 rfl (by kernel_rfl) rfl (.inr heldx) (y_pick_true rfl rfl) .free rfl ?_
    exact d_fin 3 rfl rfl hk
  · intro _ hk
    refine d_takeskip 7 rfl (by kernel_rfl) rfl (.inr heldx) rfl rfl rfl ?_
    refine d_takeskip 8 rfl (by kernel_rfl) rfl (.inr heldx) rfl rfl rfl ?_
    refine d_takeskip 9 rfl (by kernel_rfl) rfl (.inr heldx) rfl rfl rfl ?_
    refine d_takeA 10 rfl (by kernel_rfl) rfl (.inr heldx) (y_pick_false rfl rfl) .free rfl ?_
    exact d_fin 3 rfl rfl hk
  refine d_store 11 rfl (by kernel_rfl) rfl rfl rfl rfl rfl (by first | rfl | (simp only [List.toList_toArray, List.all_cons, List.all_nil, plainCell_buf, Bool.and_true, Bool.true_and] <;> rfl)) (by first | exact u0 | exact u1 | exact u2 | exact u3 | exact u4 | exact u5 | exact u6) (by rfl) .free (.inl (by kernel_rfl)) ?_
  refine d_takeA 12 rfl (by kernel_rfl) rfl (.inl (by kernel_rfl)) (y_assign rfl) .free rfl ?_
  refine d_done (by kernel_rfl) ?_
  refine s_ret (.cell rfl (by first | exact loads_still1 (by assumption) rfl | exact loads_ownS (by first | exact m0 | exact m1 | exact m2 | exact m3 | exact m4 | exact m5 | exact m6) (by rfl) | exact loads_own1 (by first | exact m0 | exact m1 | exact m2 | exact m3 | exact m4 | exact m5 | exact m6) (by rfl) rfl | exact loads_stillS (by assumption) (by rfl) | exact loads_stillF (by assumption) (by rfl) rfl) (.tmp rfl .nil)) ?_
  refine ⟨J, L, hleJ, fun _ h => h.drop.drop, t, _, _, rfl, hrep, rfl, exOf_of hpf _ ?_⟩
  have e : decide ((t.size : Int) ≤ 120) = decide (t.size ≤ 120) := by rw [Bool.eq_iff_iff]; simp; omega
  rw [e]
  cases ok <;> cases t.ex.isSome <;> simp
theorem g_l2Parse (s : Txt) (hs : s.length ≤ maxN) (I : Heap) (L : Own) : Fun Try.prog 6 [.string (str s)] I L (RX (exOf s) L) := g_l2Parse' s (maxN_maxL hs) I L
theorem g_ExprValid' (s : Txt) (hs : s.length ≤ maxL) (I : Heap) (L : Own) : Fun Try.prog 11 [.string (str s)] I L (Only (.bool (exOf s).isSome) I L) := by
  refine fun_intro (by simp) ?_
  refine s_seq ?_
  refine o_enter rfl ?_
  refine o_assign rfl .free rfl ?_
  refine o_done ?_
  refine s_seq ?_
  refine o_enter rfl ?_
  refine o_move rfl .free rfl ?_
  refine o_call rfl .free rfl (g_l2Parse' s hs _ _) ?_
  rintro _ J _ hleJ ⟨t, cs, ok, rfl, hrep, rfl, hpf⟩
  obtain ⟨oa, cc, vs, rfl, -⟩ := hrep.open
  refine o_move rfl .free rfl ?_
  refine o_extract rfl rfl .free rfl ?_
  refine o_extract rfl rfl .free rfl ?_
  refine o_alloc .free rfl ?_
  intro b3
  refine o_store rfl rfl rfl rfl (by first | rfl | (simp only [List.toList_toArray, List.all_cons, List.all_nil, plainCell_buf, Bool.and_true, Bool.true_and] <;> rfl)) (by first | exact u0 | exact u1 | exact u2 | exact u3 | exact u4 | exact u5 | exact u6) (by rfl) .free ?_
  refine o_assign rfl .free rfl ?_
  refine o_done ?_
  refine s_seq ?_
  refine o_enter rfl ?_
  refine o_move rfl .free rfl ?_
  refine o_assign rfl .free rfl ?_
  refine o_done ?_
  refine s_ret (.tmp rfl .nil) ?_
  refine done_fgt hleJ (by intro _ h; first | exact h | exact dr1 h | exact dr2 h | exact dr3 h | exact dr4 h | exact dr5 h | exact dr6 h) ?_
  refine congrArg Value.bool ?_
  cases hp : exOf s with
  | none => rw [hp] at hpf; exact hpf
  | some e => rw [hp] at hpf; exact hpf.1
theorem g_ExprValid (s : Txt) (hs : s.length ≤ maxN) (I : Heap) (L : Own) : Fun Try.prog 11 [.string (str s)] I L (Only (.bool (exOf s).isSome) I L) := g_ExprValid' s (maxN_maxL hs) I L
end Go.Proofs.Ytekfjhopngcneaa
