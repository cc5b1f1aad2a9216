
/- Which forms are expressions, by the program. No conditions. -/
import Derived.Test.YtekfjhopngcneaaE3
import Derived.Test.YtekfjhopngcneaaM4
namespace Go.Proofs.Ytekfjhopngcneaa
set_option maxRecDepth 100000
set_option linter.unusedVariables false
set_option linter.unusedSimpArgs false

theorem kids_len {t : Tree} (h : kids t ≠ []) : t.parts.length = (kidRange t.head).2 := by
  unfold kids at h
  split at h
  · assumption
  · exact absurd rfl h
theorem Tree.size_maxN {t : Tree} (h : t.len ≤ 12000 * 1000) : t.size ≤ maxN := by have := t.size_len; unfold maxN; omega
theorem f_form_isExpr : ∀ (n : Nat) {I : Heap} {t : Tree} {cs : List Value} (_ : SizeOf.sizeOf t < n) (_ : Rep I t cs) (_ : t.good = true) (_ : t.len ≤ 12000000) (L : Own),
    Fun Try.prog 37 [.agg cs.toArray] I L (Only (.bool t.ex.isSome) I L) := by
  intro n
  induction n with
  | zero => intro I t cs h; omega
  | succ n ihn =>
    intro I t cs hlt h hg hz L
    obtain ⟨oa, c, oaf, cf, rfl, hf⟩ := h.at'
    have hp := hf.len
    unfold maxN at hp
    refine fun_intro (by simp) ?_
    refine s_seq ?_
    refine o_enter rfl ?_
    refine o_box rfl rfl .free rfl ?_
    intro b1
    refine o_assign rfl .free rfl ?_
    refine o_done ?_
    refine s_seq ?_
    refine s_seq ?_
    refine o_enter rfl ?_
    refine o_load rfl (loads_ownS (by first | exact m0 | exact m1 | exact m2 | exact m3 | exact m4 | exact m5 | exact m6) (by rfl)) .free rfl ?_
    refine o_call rfl .free rfl (f_form_isAtom h _) ?_
    rintro _ _ _ _ ⟨rfl, rfl, rfl⟩
    refine o_done ?_
    refine s_cond rfl ?_ ?_
    · intro c0
      try simp only [Bool.and_eq_true, Bool.or_eq_true, Bool.not_eq_true', Bool.not_eq_false', Bool.and_eq_false_iff, Bool.or_eq_false_iff, decide_eq_true_eq, decide_eq_false_iff_not] at c0
      refine s_seq ?_
      refine o_enter rfl ?_
      refine o_load rfl (loads_ownS (by first | exact m0 | exact m1 | exact m2 | exact m3 | exact m4 | exact m5 | exact m6) (by rfl)) .free rfl ?_
      refine o_call rfl .free rfl (f_form_isBare h _) ?_
      rintro _ _ _ _ ⟨rfl, rfl, rfl⟩
      refine o_assign rfl .free rfl ?_
      refine o_done ?_
      refine s_ret (.tmp rfl .nil) ?_
      refine done_only rfl (by intro _ h; first | exact h | exact dr1 h | exact dr2 h | exact dr3 h | exact dr4 h | exact dr5 h | exact dr6 h) ?_
      have e : t.parts = [] := by simpa using c0
      refine congrArg Value.bool ?_
      cases t with
      | node a ps =>
        simp only [Tree.parts] at e
        subst e
        simp only [Tree.parts, Tree.atom, Tree.ex, List.isEmpty_nil, Bool.true_and]
        cases isName a <;> cases isNum a <;> rfl
    · intro c0
      try simp only [Bool.and_eq_true, Bool.or_eq_true, Bool.not_eq_true', Bool.not_eq_false', Bool.and_eq_false_iff, Bool.or_eq_false_iff, decide_eq_true_eq, decide_eq_false_iff_not] at c0
      have hne : t.parts ≠ [] := by simpa using c0
      refine s_skip ?_
      refine s_seq ?_
      refine o_enter rfl ?_
      refine o_load rfl (loads_ownS (by first | exact m0 | exact m1 | exact m2 | exact m3 | exact m4 | exact m5 | exact m6) (by rfl)) .free rfl ?_
      refine o_call rfl .free rfl (f_form_kids h _) ?_
      rintro _ J _ e ⟨ok, ck, rfl, hk, rfl⟩
      have hf := hf.mono e
      refine o_assign rfl .free rfl ?_
      refine o_done ?_
      refine s_seq ?_
      refine s_seq ?_
      refine o_enter rfl ?_
      refine o_move rfl .free rfl ?_
      refine o_len_slice rfl .free rfl ?_
      refine o_cmp rfl rfl rfl .free rfl ?_
      refine o_done ?_
      refine s_cond rfl ?_ ?_
      · intro c1
        try simp only [Bool.and_eq_true, Bool.or_eq_true, Bool.not_eq_true', Bool.not_eq_false', Bool.and_eq_false_iff, Bool.or_eq_false_iff, decide_eq_true_eq, decide_eq_false_iff_not] at c1
        have hk0 : kids t = [] := List.length_eq_zero_iff.1 (by omega)
        refine s_seq ?_
        refine o_enter rfl ?_
        refine o_assign rfl .free rfl ?_
        refine o_done ?_
        refine s_ret (.tmp rfl .nil) ?_
        refine done_fgt e (by intro _ h; first | exact h | exact dr1 h | exact dr2 h | exact dr3 h | exact dr4 h | exact dr5 h | exact dr6 h) ?_
        rw [kids_none hne hk0]; rfl
      · intro c1
        try simp only [Bool.and_eq_true, Bool.or_eq_true, Bool.not_eq_true', Bool.not_eq_false', Bool.and_eq_false_iff, Bool.or_eq_false_iff, decide_eq_true_eq, decide_eq_false_iff_not] at c1
        have hk0 : kids t ≠ [] := fun h0 => c1 (by rw [h0]; rfl)
        have hkl := kids_len hk0
        have hks := kids_some hk0
        have hkm := hk.cap
        have hk5 := kids_le t
        refine s_skip ?_
        refine s_seq ?_
        refine s_seq ?_
        refine o_enter rfl ?_
        refine o_move rfl .free rfl ?_
        refine o_len_slice rfl .free rfl ?_
        refine o_move rfl .free rfl ?_
        refine o_done ?_
        refine s_block ?_
        refine s_while (X := Nat) (fun i => (kids t).length - i) (fun i => [(1, .pointer (some ⟨b1, 0, none⟩)), (17, .slice ok (kids t).length ck), (18, .int .i64 ((kids t).length : Nat)), (19, .int .i64 (i : Nat))]) (fun _ => J) (fun _ => (b1, .cells [.string (str t.atom), .slice oa t.parts.length c].toArray _ (0, 0)) :: L) (fun i => i ≤ (kids t).length ∧ ((kids t).take i).all (fun i => (t.pt i).ex.isSome) = true) 0 ⟨by omega, rfl⟩ ⟨rfl, rfl, rfl, rfl, trivial⟩ (by intro _ h; first | exact h | exact dr1 h | exact dr2 h | exact dr3 h | exact dr4 h | exact dr5 h | exact dr6 h) ?_
        rintro i ⟨hi, hall⟩ ih
        refine s_seq ?_
        refine o_enter rfl ?_
        refine o_cmp rfl rfl rfl .free rfl ?_
        refine o_done ?_
        refine s_seq ?_
        refine s_cond rfl ?_ ?_
        · intro c2
          try simp only [Bool.and_eq_true, Bool.or_eq_true, Bool.not_eq_true', Bool.not_eq_false', Bool.and_eq_false_iff, Bool.or_eq_false_iff, decide_eq_true_eq, decide_eq_false_iff_not] at c2
          have hki : (kids t).getD i 0 = (kids t)[i] := by simp [show i < (kids t).length by omega]
          have hkt : (kids t).getD i 0 < t.parts.length := by rw [hki]; exact (kids_lt (List.getElem_mem (show i < (kids t).length by omega))).1
          refine s_skip ?_
          refine s_seq ?_
          refine s_block ?_
          refine s_seq ?_
          refine o_enter rfl ?_
          first | refine o_indexAddrD rfl rfl _ rfl (by first | omega | exact lt_of (by assumption) (by decide) | (simp; done) | (simp; omega) | decide | (simp at *; omega)) (by first | assumption | exact FormAt.nil (by assumption) | exact Strs.nil' (by assumption) | exact Nums.nil' (by assumption) | exact Raw.nil' (by assumption)) .free rfl ?_ | refine o_indexAddr' rfl rfl _ rfl (by first | omega | exact lt_of (by assumption) (by decide) | (simp; done) | (simp; omega) | decide | (simp at *; omega)) (by first | rfl | assumption) .free rfl ?_
          refine o_load rfl (by first | exact loads_still1 (Nums.st (by assumption) _ (by first | omega | decide | (simp; done) | exact lt_of (by assumption) (by decide))) rfl | exact loads_still1 (Strs.st (by assumption) _ (by first | omega | decide | (simp; done) | exact lt_of (by assumption) (by decide))) rfl | exact loads_still1 (Raw.st (by assumption) _ (by first | omega | decide | (simp; done) | exact lt_of (by assumption) (by decide))) rfl | exact loads_still1 (by assumption) rfl | exact loads_scalar rfl (by assumption)) .free rfl ?_
          refine o_assign rfl .free rfl ?_
          refine o_done ?_
          refine s_seq ?_
          refine o_enter rfl ?_
          refine o_fieldAddr rfl .free rfl ?_
          refine o_load rfl (loads_own1 (by first | exact m0 | exact m1 | exact m2 | exact m3 | exact m4 | exact m5 | exact m6) (by rfl) rfl) .free rfl ?_
          refine o_move rfl .free rfl ?_
          first | refine o_indexAddrD rfl rfl _ rfl (by first | omega | exact lt_of (by assumption) (by decide) | (simp; done) | (simp; omega) | decide | (simp at *; omega)) (by first | assumption | exact FormAt.nil (by assumption) | exact Strs.nil' (by assumption) | exact Nums.nil' (by assumption) | exact Raw.nil' (by assumption)) .free rfl ?_ | refine o_indexAddr' rfl rfl _ rfl (by first | omega | exact lt_of (by assumption) (by decide) | (simp; done) | (simp; omega) | decide | (simp at *; omega)) (by first | rfl | assumption) .free rfl ?_
          refine o_load rfl (by first | exact loads_stillS (FormAt.st (by assumption) _ (by first | omega | decide | (simp; done) | exact lt_of (by assumption) (by decide))) (by rfl) | exact loads_stillS (by assumption) (by rfl) | exact loads_rd (reads_sub (by assumption) (by intro _ h; first | exact h | exact dr1 h | exact dr2 h | exact dr3 h | exact dr4 h | exact dr5 h | exact dr6 h)) (by rfl)) .free rfl ?_
          refine o_call rfl .free rfl (ihn (t := t.pt ((kids t).getD i 0)) (by have := t.pt_lt _ hkt; omega) (hf.rp _ hkt) (Tree.pt_good hg _ hkt) (by have := t.pt_len _ hkt; omega) _) ?_
          rintro _ _ _ _ ⟨rfl, rfl, rfl⟩
          refine o_not rfl .free rfl ?_
          refine o_done ?_
          refine s_cond rfl ?_ ?_
          · intro c3
            try simp only [Bool.and_eq_true, Bool.or_eq_true, Bool.not_eq_true', Bool.not_eq_false', Bool.and_eq_false_iff, Bool.or_eq_false_iff, decide_eq_true_eq, decide_eq_false_iff_not] at c3
            refine s_seq ?_
            refine o_enter rfl ?_
            refine o_assign rfl .free rfl ?_
            refine o_done ?_
            refine s_ret (.tmp rfl .nil) ?_
            refine done_fgt e (by intro _ h; first | exact h | exact dr1 h | exact dr2 h | exact dr3 h | exact dr4 h | exact dr5 h | exact dr6 h) ?_
            rw [hks]
            have : (kids t).all (fun i => (t.pt i).ex.isSome) = false := by
              rw [List.all_eq_false]; exact ⟨_, List.getElem_mem (show i < (kids t).length by omega), by rw [← hki]; simpa using c3⟩
            rw [this]; rfl
          · intro c3
            try simp only [Bool.and_eq_true, Bool.or_eq_true, Bool.not_eq_true', Bool.not_eq_false', Bool.and_eq_false_iff, Bool.or_eq_false_iff, decide_eq_true_eq, decide_eq_false_iff_not] at c3
            refine s_skip ?_
            refine s_inBlock ?_
            refine o_enter rfl ?_
            refine o_arith rfl rfl rfl (by omega) .free rfl ?_
            refine o_move rfl .free rfl ?_
            refine o_done ?_
            refine s_env (E' := [(1, .pointer (some ⟨b1, 0, none⟩)), (17, .slice ok (kids t).length ck), (18, .int .i64 ((kids t).length : Nat)), (19, .int .i64 ((i + 1 : Nat)))]) ⟨rfl, rfl, rfl, rfl, trivial⟩ (ih (i + 1) ⟨by omega, ?_⟩ (by omega))
            rw [List.take_succ_eq_append_getElem (by omega), List.all_append, hall]
            simp only [List.all_cons, List.all_nil, Bool.and_true, Bool.true_and]
            rw [← hki]; simpa using c3
        · intro c2
          try simp only [Bool.and_eq_true, Bool.or_eq_true, Bool.not_eq_true', Bool.not_eq_false', Bool.and_eq_false_iff, Bool.or_eq_false_iff, decide_eq_true_eq, decide_eq_false_iff_not] at c2
          obtain rfl : i = (kids t).length := by omega
          rw [List.take_length] at hall
          rw [hall] at hks
          refine s_exit rfl ?_
          refine s_seq ?_
          refine s_seq ?_
          refine o_enter rfl ?_
          refine o_load rfl (loads_ownS (by first | exact m0 | exact m1 | exact m2 | exact m3 | exact m4 | exact m5 | exact m6) (by rfl)) .free rfl ?_
          refine o_call rfl .free rfl (f_form_head hf.rep _) ?_
          rintro _ _ _ _ ⟨rfl, rfl, rfl⟩
          refine o_done ?_
          refine s_block ?_
          refine s_seq ?_
          refine o_enter rfl ?_
          refine o_cmps rfl rfl rfl .free rfl ?_
          refine o_assign rfl .free rfl ?_
          refine o_done ?_
          refine s_cond rfl ?_ ?_
          · intro c4
            try simp only [Bool.and_eq_true, Bool.or_eq_true, Bool.not_eq_true', Bool.not_eq_false', Bool.and_eq_false_iff, Bool.or_eq_false_iff, decide_eq_true_eq, decide_eq_false_iff_not] at c4
            have hl4 : t.parts.length = 4 := by rw [hkl, c4]; decide
            have ha1 := (hf.rp 1 (by omega)).atom_le
            refine s_seq ?_
            refine o_enter rfl ?_
            refine o_fieldAddr rfl .free rfl ?_
            refine o_load rfl (loads_own1 (by first | exact m0 | exact m1 | exact m2 | exact m3 | exact m4 | exact m5 | exact m6) (by rfl) rfl) .free rfl ?_
            first | refine o_indexAddrD rfl rfl 1 rfl (by first | omega | exact lt_of (by assumption) (by decide) | (simp; done) | (simp; omega) | decide | (simp at *; omega)) (by first | assumption | exact FormAt.nil (by assumption) | exact Strs.nil' (by assumption) | exact Nums.nil' (by assumption) | exact Raw.nil' (by assumption)) .free rfl ?_ | refine o_indexAddr' rfl rfl 1 rfl (by first | omega | exact lt_of (by assumption) (by decide) | (simp; done) | (simp; omega) | decide | (simp at *; omega)) (by first | rfl | assumption) .free rfl ?_
            refine o_fieldAddr' rfl .free rfl ?_
            refine o_load rfl (by first | exact loads_stillF (FormAt.st (by assumption) _ (by first | omega | decide | (simp; done) | exact lt_of (by assumption) (by decide))) (by rfl) rfl | exact loads_stillF (by assumption) (by rfl) rfl | exact loads_scalar rfl (reads_cut (reads_sub (by assumption) (by intro _ h; first | exact h | exact dr1 h | exact dr2 h | exact dr3 h | exact dr4 h | exact dr5 h | exact dr6 h)) (by rfl))) .free rfl ?_
            refine o_call rfl .free rfl (f_isName (t.pt 1).atom ha1 _ _) ?_
            rintro _ _ _ _ ⟨rfl, rfl, rfl⟩
            refine o_assign rfl .free rfl ?_
            refine o_done ?_
            refine s_ret (.tmp rfl .nil) ?_
            refine done_fgt e (by intro _ h; first | exact h | exact dr1 h | exact dr2 h | exact dr3 h | exact dr4 h | exact dr5 h | exact dr6 h) ?_
            rw [hks, exTail, if_pos (show t.head = tLet from c4)]; rfl
          · intro c4
            try simp only [Bool.and_eq_true, Bool.or_eq_true, Bool.not_eq_true', Bool.not_eq_false', Bool.and_eq_false_iff, Bool.or_eq_false_iff, decide_eq_true_eq, decide_eq_false_iff_not] at c4
            refine s_seq ?_
            refine o_enter rfl ?_
            refine o_cmps rfl rfl rfl .free rfl ?_
            refine o_assign rfl .free rfl ?_
            refine o_done ?_
            refine s_cond rfl ?_ ?_
            · intro c5
              try simp only [Bool.and_eq_true, Bool.or_eq_true, Bool.not_eq_true', Bool.not_eq_false', Bool.and_eq_false_iff, Bool.or_eq_false_iff, decide_eq_true_eq, decide_eq_false_iff_not] at c5
              have hl6 : t.parts.length = 6 := by rw [hkl, c5]; decide
              have ha1 := (hf.rp 1 (by omega)).atom_le
              have ha2 := (hf.rp 2 (by omega)).atom_le
              have hz3 := t.pt_len 3 (by omega)
              have hz4 := t.pt_len 4 (by omega)
              refine s_seq ?_
              refine d_all 12 rfl rfl ?_
              refine d_takeA 0 rfl (by kernel_rfl) rfl (.inr heldx) (y_fieldAddr rfl) .free rfl ?_
              refine d_take 1 [12] rfl (by kernel_rfl) rfl heldx (y_load rfl (loads_own1 (by first | exact m0 | exact m1 | exact m2 | exact m3 | exact m4 | exact m5 | exact m6) (by rfl) rfl)) .free rfl ?_
              first | refine d_takeA 2 rfl (by kernel_rfl) rfl (.inr heldx) (y_indexAddrD rfl rfl 1 rfl (by first | omega | exact lt_of (by assumption) (by decide) | (simp; done) | (simp; omega) | decide | (simp at *; omega)) (by first | assumption | exact FormAt.nil (by assumption) | exact Strs.nil' (by assumption) | exact Nums.nil' (by assumption) | exact Raw.nil' (by assumption))) .free rfl ?_ | refine d_takeA 2 rfl (by kernel_rfl) rfl (.inr heldx) (y_indexAddr' rfl rfl 1 rfl (by first | omega | exact lt_of (by assumption) (by decide) | (simp; done) | (simp; omega) | decide | (simp at *; omega)) (by first | rfl | assumption)) .free rfl ?_
              refine d_takeA 3 rfl (by kernel_rfl) rfl (.inr heldx) (y_fieldAddr' rfl) .free rfl ?_
              refine d_take 4 [12] rfl (by kernel_rfl) rfl heldx (y_load rfl (by first | exact loads_stillF (FormAt.st (by assumption) _ (by first | omega | decide | (simp; done) | exact lt_of (by assumption) (by decide))) (by rfl) rfl | exact loads_stillF (by assumption) (by rfl) rfl | exact loads_scalar rfl (reads_cut (reads_sub (by assumption) (by intro _ h; first | exact h | exact dr1 h | exact dr2 h | exact dr3 h | exact dr4 h | exact dr5 h | exact dr6 h)) (by rfl)))) .free rfl ?_
              refine d_takeA 5 rfl (by kernel_rfl) rfl (.inr heldx) (y_fieldAddr rfl) .free rfl ?_
              refine d_take 6 [12] rfl (by kernel_rfl) rfl heldx (y_load rfl (loads_own1 (by first | exact m0 | exact m1 | exact m2 | exact m3 | exact m4 | exact m5 | exact m6) (by rfl) rfl)) .free rfl ?_
              first | refine d_takeA 7 rfl (by kernel_rfl) rfl (.inr heldx) (y_indexAddrD rfl rfl 2 rfl (by first | omega | exact lt_of (by assumption) (by decide) | (simp; done) | (simp; omega) | decide | (simp at *; omega)) (by first | assumption | exact FormAt.nil (by assumption) | exact Strs.nil' (by assumption) | exact Nums.nil' (by assumption) | exact Raw.nil' (by assumption))) .free rfl ?_ | refine d_takeA 7 rfl (by kernel_rfl) rfl (.inr heldx) (y_indexAddr' rfl rfl 2 rfl (by first | omega | exact lt_of (by assumption) (by decide) | (simp; done) | (simp; omega) | decide | (simp at *; omega)) (by first | rfl | assumption)) .free rfl ?_
              refine d_takeA 8 rfl (by kernel_rfl) rfl (.inr heldx) (y_fieldAddr' rfl) .free rfl ?_
              refine d_take 9 [12] rfl (by kernel_rfl) rfl heldx (y_load rfl (by first | exact loads_stillF (FormAt.st (by assumption) _ (by first | omega | decide | (simp; done) | exact lt_of (by assumption) (by decide))) (by rfl) rfl | exact loads_stillF (by assumption) (by rfl) rfl | exact loads_scalar rfl (reads_cut (reads_sub (by assumption) (by intro _ h; first | exact h | exact dr1 h | exact dr2 h | exact dr3 h | exact dr4 h | exact dr5 h | exact dr6 h)) (by rfl)))) .free rfl ?_
              refine d_takeA 10 rfl (by kernel_rfl) rfl (.inr heldx) (y_assign rfl) .free rfl ?_
              refine d_takeA 11 rfl (by kernel_rfl) rfl (.inr heldx) (y_assign rfl) .free rfl ?_
              refine d_done (by kernel_rfl) ?_
              refine s_seq ?_
              refine o_enter rfl ?_
              refine o_move rfl .free rfl ?_
              refine o_call rfl .free rfl (f_isName (t.pt 1).atom ha1 _ _) ?_
              rintro _ _ _ _ ⟨rfl, rfl, rfl⟩
              refine o_move rfl .free rfl ?_
              apply o_and 55 58 rfl
              · intro g17_3 hk
                try simp only [Bool.and_eq_true, Bool.or_eq_true, Bool.not_eq_true', Bool.not_eq_false', Bool.and_eq_false_iff, Bool.or_eq_false_iff, decide_eq_true_eq, decide_eq_false_iff_not] at g17_3
                refine o_move rfl (.met rfl rfl) rfl ?_
                refine o_call rfl (.met rfl rfl) rfl (f_isName (t.pt 2).atom ha2 _ _) ?_
                rintro _ _ _ _ ⟨rfl, rfl, rfl⟩
                refine o_pick_true rfl rfl .free rfl ?_
                exact o_fin 2 rfl rfl hk
              · intro _ hk
                refine o_skips 2 rfl ?_
                refine o_pick_false rfl rfl .free rfl ?_
                exact o_fin 2 rfl rfl hk
              refine o_move rfl .free rfl ?_
              apply o_and 59 63 rfl
              · intro g17_7 hk
                try simp only [Bool.and_eq_true, Bool.or_eq_true, Bool.not_eq_true', Bool.not_eq_false', Bool.and_eq_false_iff, Bool.or_eq_false_iff, decide_eq_true_eq, decide_eq_false_iff_not] at g17_7
                refine o_move rfl (.met rfl rfl) rfl ?_
                refine o_move rfl (.met rfl rfl) rfl ?_
                refine o_cmps rfl rfl rfl (.met rfl rfl) rfl ?_
                refine o_pick_true rfl rfl .free rfl ?_
                exact o_fin 3 rfl rfl hk
              · intro _ hk
                refine o_skips 3 rfl ?_
                refine o_pick_false rfl rfl .free rfl ?_
                exact o_fin 3 rfl rfl hk
              refine o_move rfl .free rfl ?_
              apply o_and 64 70 rfl
              · intro g17_12 hk
                try simp only [Bool.and_eq_true, Bool.or_eq_true, Bool.not_eq_true', Bool.not_eq_false', Bool.and_eq_false_iff, Bool.or_eq_false_iff, decide_eq_true_eq, decide_eq_false_iff_not] at g17_12
                refine o_fieldAddr rfl (.met rfl rfl) rfl ?_
                refine o_load rfl (loads_own1 (by first | exact m0 | exact m1 | exact m2 | exact m3 | exact m4 | exact m5 | exact m6) (by rfl) rfl) (.met rfl rfl) rfl ?_
                first | refine o_indexAddrD rfl rfl 3 rfl (by first | omega | exact lt_of (by assumption) (by decide) | (simp; done) | (simp; omega) | decide | (simp at *; omega)) (by first | assumption | exact FormAt.nil (by assumption) | exact Strs.nil' (by assumption) | exact Nums.nil' (by assumption) | exact Raw.nil' (by assumption)) (.met rfl rfl) rfl ?_ | refine o_indexAddr' rfl rfl 3 rfl (by first | omega | exact lt_of (by assumption) (by decide) | (simp; done) | (simp; omega) | decide | (simp at *; omega)) (by first | rfl | assumption) (.met rfl rfl) rfl ?_
                refine o_load rfl (by first | exact loads_stillS (FormAt.st (by assumption) _ (by first | omega | decide | (simp; done) | exact lt_of (by assumption) (by decide))) (by rfl) | exact loads_stillS (by assumption) (by rfl) | exact loads_rd (reads_sub (by assumption) (by intro _ h; first | exact h | exact dr1 h | exact dr2 h | exact dr3 h | exact dr4 h | exact dr5 h | exact dr6 h)) (by rfl)) (.met rfl rfl) rfl ?_
                refine o_call rfl (.met rfl rfl) rfl (f_form_typed (hf.rp 3 (by omega)) (Tree.size_maxN (by omega)) _) ?_
                rintro _ _ _ _ ⟨rfl, rfl, rfl⟩
                refine o_pick_true rfl rfl .free rfl ?_
                exact o_fin 5 rfl rfl hk
              · intro _ hk
                refine o_skips 5 rfl ?_
                refine o_pick_false rfl rfl .free rfl ?_
                exact o_fin 5 rfl rfl hk
              refine o_move rfl .free rfl ?_
              apply o_and 71 77 rfl
              · intro g17_19 hk
                try simp only [Bool.and_eq_true, Bool.or_eq_true, Bool.not_eq_true', Bool.not_eq_false', Bool.and_eq_false_iff, Bool.or_eq_false_iff, decide_eq_true_eq, decide_eq_false_iff_not] at g17_19
                refine o_fieldAddr rfl (.met rfl rfl) rfl ?_
                refine o_load rfl (loads_own1 (by first | exact m0 | exact m1 | exact m2 | exact m3 | exact m4 | exact m5 | exact m6) (by rfl) rfl) (.met rfl rfl) rfl ?_
                first | refine o_indexAddrD rfl rfl 4 rfl (by first | omega | exact lt_of (by assumption) (by decide) | (simp; done) | (simp; omega) | decide | (simp at *; omega)) (by first | assumption | exact FormAt.nil (by assumption) | exact Strs.nil' (by assumption) | exact Nums.nil' (by assumption) | exact Raw.nil' (by assumption)) (.met rfl rfl) rfl ?_ | refine o_indexAddr' rfl rfl 4 rfl (by first | omega | exact lt_of (by assumption) (by decide) | (simp; done) | (simp; omega) | decide | (simp at *; omega)) (by first | rfl | assumption) (.met rfl rfl) rfl ?_
                refine o_load rfl (by first | exact loads_stillS (FormAt.st (by assumption) _ (by first | omega | decide | (simp; done) | exact lt_of (by assumption) (by decide))) (by rfl) | exact loads_stillS (by assumption) (by rfl) | exact loads_rd (reads_sub (by assumption) (by intro _ h; first | exact h | exact dr1 h | exact dr2 h | exact dr3 h | exact dr4 h | exact dr5 h | exact dr6 h)) (by rfl)) (.met rfl rfl) rfl ?_
                refine o_call rfl (.met rfl rfl) rfl (f_form_typed (hf.rp 4 (by omega)) (Tree.size_maxN (by omega)) _) ?_
                rintro _ _ _ _ ⟨rfl, rfl, rfl⟩
                refine o_pick_true rfl rfl .free rfl ?_
                exact o_fin 5 rfl rfl hk
              · intro _ hk
                refine o_skips 5 rfl ?_
                refine o_pick_false rfl rfl .free rfl ?_
                exact o_fin 5 rfl rfl hk
              refine o_assign rfl .free rfl ?_
              refine o_done ?_
              refine s_ret (.tmp rfl .nil) ?_
              refine done_fgt e (by intro _ h; first | exact h | exact dr1 h | exact dr2 h | exact dr3 h | exact dr4 h | exact dr5 h | exact dr6 h) ?_
              rw [hks, exTail, if_neg (show ¬ t.head = tLet from c4), if_pos (show t.head = tFun from c5)]
              simp [retOne]
            · intro c5
              try simp only [Bool.and_eq_true, Bool.or_eq_true, Bool.not_eq_true', Bool.not_eq_false', Bool.and_eq_false_iff, Bool.or_eq_false_iff, decide_eq_true_eq, decide_eq_false_iff_not] at c5
              refine s_skip ?_
              refine s_inBlock ?_
              refine s_seq ?_
              refine o_enter rfl ?_
              refine o_assign rfl .free rfl ?_
              refine o_done ?_
              refine s_ret (.tmp rfl .nil) ?_
              refine done_fgt e (by intro _ h; first | exact h | exact dr1 h | exact dr2 h | exact dr3 h | exact dr4 h | exact dr5 h | exact dr6 h) ?_
              rw [hks, exTail, if_neg (show ¬ t.head = tLet from c4), if_neg (show ¬ t.head = tFun from c5)]; rfl
end Go.Proofs.Ytekfjhopngcneaa
