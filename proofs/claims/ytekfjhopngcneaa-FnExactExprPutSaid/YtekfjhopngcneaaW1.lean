
/- What the small functions of forms, names and digits return. No conditions. -/
import Derived.Test.YtekfjhopngcneaaFns
import Derived.Test.YtekfjhopngcneaaTree
namespace Go.Proofs.Ytekfjhopngcneaa
set_option maxRecDepth 100000
set_option linter.unusedVariables false
set_option linter.unusedSimpArgs false



theorem f_within (lo n hi : Int) (I : Heap) (L : Own) : Fun Try.prog 28 [.int .i64 n, .int .i64 lo, .int .i64 hi] I L (Only (.bool (decide (lo ≤ n ∧ n ≤ hi))) I L) := by
  refine fun_intro (by simp) ?_
  refine s_seq ?_
  refine o_enter rfl ?_
  refine o_assign rfl .free rfl ?_
  refine o_done ?_
  refine s_seq ?_
  refine o_enter rfl ?_
  refine o_move rfl .free rfl ?_
  refine o_move rfl .free rfl ?_
  refine o_cmp rfl rfl rfl .free rfl ?_
  refine o_move rfl .free rfl ?_
  apply o_and 10 14 rfl
  · intro g1_4 hk
    try simp only [Bool.and_eq_true, Bool.or_eq_true, Bool.not_eq_true', Bool.not_eq_false', Bool.and_eq_false_iff, Bool.or_eq_false_iff, decide_eq_true_eq, decide_eq_false_iff_not] at g1_4
    refine o_move rfl (.met rfl rfl) rfl ?_
    refine o_move rfl (.met rfl rfl) rfl ?_
    refine o_cmp rfl rfl rfl (.met rfl rfl) rfl ?_
    refine o_pick_true rfl rfl .free rfl ?_
    exact o_fin 3 rfl rfl hk
  · intro _ hk
    refine o_skips 3 rfl ?_
    refine o_pick_false rfl rfl .free rfl ?_
    exact o_fin 3 rfl rfl hk
  refine o_assign rfl .free rfl ?_
  refine o_done ?_
  refine s_ret (.tmp rfl .nil) ?_
  refine done_only rfl (by intro _ h; first | exact h | exact dr1 h | exact dr2 h | exact dr3 h | exact dr4 h | exact dr5 h | exact dr6 h) ?_
  simp [retOne, *]
theorem g_l6In (lo n hi : Int) (I : Heap) (L : Own) : Fun Try.prog 21 [.int .i64 n, .int .i64 lo, .int .i64 hi] I L (Only (.bool (decide (lo ≤ n ∧ n ≤ hi))) I L) := by
  refine fun_intro (by simp) ?_
  refine s_seq ?_
  refine o_enter rfl ?_
  refine o_assign rfl .free rfl ?_
  refine o_done ?_
  refine s_seq ?_
  refine o_enter rfl ?_
  refine o_move rfl .free rfl ?_
  refine o_move rfl .free rfl ?_
  refine o_cmp rfl rfl rfl .free rfl ?_
  refine o_move rfl .free rfl ?_
  apply o_and 10 14 rfl
  · intro g1_4 hk
    try simp only [Bool.and_eq_true, Bool.or_eq_true, Bool.not_eq_true', Bool.not_eq_false', Bool.and_eq_false_iff, Bool.or_eq_false_iff, decide_eq_true_eq, decide_eq_false_iff_not] at g1_4
    refine o_move rfl (.met rfl rfl) rfl ?_
    refine o_move rfl (.met rfl rfl) rfl ?_
    refine o_cmp rfl rfl rfl (.met rfl rfl) rfl ?_
    refine o_pick_true rfl rfl .free rfl ?_
    exact o_fin 3 rfl rfl hk
  · intro _ hk
    refine o_skips 3 rfl ?_
    refine o_pick_false rfl rfl .free rfl ?_
    exact o_fin 3 rfl rfl hk
  refine o_assign rfl .free rfl ?_
  refine o_done ?_
  refine s_ret (.tmp rfl .nil) ?_
  refine done_only rfl (by intro _ h; first | exact h | exact dr1 h | exact dr2 h | exact dr3 h | exact dr4 h | exact dr5 h | exact dr6 h) ?_
  simp [retOne, *]

theorem f_isAtomByte (b : UInt8) (I : Heap) (L : Own) : Fun Try.prog 58 [.int .u8 (b.toNat : Nat)] I L (Only (.bool (abyte b)) I L) := by
  refine fun_intro (by simp) ?_
  refine s_seq ?_
  refine o_enter rfl ?_
  refine o_assign rfl .free rfl ?_
  refine o_done ?_
  refine s_seq ?_
  refine o_enter rfl ?_
  refine o_move rfl .free rfl ?_
  refine o_cmp rfl rfl rfl .free rfl ?_
  refine o_move rfl .free rfl ?_
  apply o_and 5 8 rfl
  · intro g1_3 hk
    try simp only [Bool.and_eq_true, Bool.or_eq_true, Bool.not_eq_true', Bool.not_eq_false', Bool.and_eq_false_iff, Bool.or_eq_false_iff, decide_eq_true_eq, decide_eq_false_iff_not] at g1_3
    refine o_move rfl (.met rfl rfl) rfl ?_
    refine o_cmp rfl rfl rfl (.met rfl rfl) rfl ?_
    refine o_pick_true rfl rfl .free rfl ?_
    exact o_fin 2 rfl rfl hk
  · intro _ hk
    refine o_skips 2 rfl ?_
    refine o_pick_false rfl rfl .free rfl ?_
    exact o_fin 2 rfl rfl hk
  refine o_move rfl .free rfl ?_
  apply o_or 9 16 rfl
  · intro g1_7 hk
    try simp only [Bool.and_eq_true, Bool.or_eq_true, Bool.not_eq_true', Bool.not_eq_false', Bool.and_eq_false_iff, Bool.or_eq_false_iff, decide_eq_true_eq, decide_eq_false_iff_not] at g1_7
    refine o_move rfl (.met rfl rfl) rfl ?_
    refine o_cmp rfl rfl rfl (.met rfl rfl) rfl ?_
    refine o_move rfl (.met rfl rfl) rfl ?_
    apply o_and 12 15 rfl
    · intro g1_10 hk
      try simp only [Bool.and_eq_true, Bool.or_eq_true, Bool.not_eq_true', Bool.not_eq_false', Bool.and_eq_false_iff, Bool.or_eq_false_iff, decide_eq_true_eq, decide_eq_false_iff_not] at g1_10
      refine o_move rfl (.met rfl rfl) rfl ?_
      refine o_cmp rfl rfl rfl (.met rfl rfl) rfl ?_
      refine o_pick_true rfl rfl (.met rfl rfl) rfl ?_
      exact o_fin 2 rfl rfl hk
    · intro _ hk
      refine o_skips 2 rfl ?_
      refine o_pick_false rfl rfl (.met rfl rfl) rfl ?_
      exact o_fin 2 rfl rfl hk
    refine o_pick_false rfl rfl .free rfl ?_
    exact o_fin 4 rfl rfl hk
  · intro _ hk
    refine o_skips 6 rfl ?_
    refine o_pick_true rfl rfl .free rfl ?_
    exact o_fin 6 rfl rfl hk
  refine o_move rfl .free rfl ?_
  apply o_or 17 20 rfl
  · intro g1_15 hk
    try simp only [Bool.and_eq_true, Bool.or_eq_true, Bool.not_eq_true', Bool.not_eq_false', Bool.and_eq_false_iff, Bool.or_eq_false_iff, decide_eq_true_eq, decide_eq_false_iff_not] at g1_15
    refine o_move rfl (.met rfl rfl) rfl ?_
    refine o_cmp rfl rfl rfl (.met rfl rfl) rfl ?_
    refine o_pick_false rfl rfl .free rfl ?_
    exact o_fin 2 rfl rfl hk
  · intro _ hk
    refine o_skips 2 rfl ?_
    refine o_pick_true rfl rfl .free rfl ?_
    exact o_fin 2 rfl rfl hk
  refine o_move rfl .free rfl ?_
  apply o_or 21 24 rfl
  · intro g1_19 hk
    try simp only [Bool.and_eq_true, Bool.or_eq_true, Bool.not_eq_true', Bool.not_eq_false', Bool.and_eq_false_iff, Bool.or_eq_false_iff, decide_eq_true_eq, decide_eq_false_iff_not] at g1_19
    refine o_move rfl (.met rfl rfl) rfl ?_
    refine o_cmp rfl rfl rfl (.met rfl rfl) rfl ?_
    refine o_pick_false rfl rfl .free rfl ?_
    exact o_fin 2 rfl rfl hk
  · intro _ hk
    refine o_skips 2 rfl ?_
    refine o_pick_true rfl rfl .free rfl ?_
    exact o_fin 2 rfl rfl hk
  refine o_move rfl .free rfl ?_
  apply o_or 25 28 rfl
  · intro g1_23 hk
    try simp only [Bool.and_eq_true, Bool.or_eq_true, Bool.not_eq_true', Bool.not_eq_false', Bool.and_eq_false_iff, Bool.or_eq_false_iff, decide_eq_true_eq, decide_eq_false_iff_not] at g1_23
    refine o_move rfl (.met rfl rfl) rfl ?_
    refine o_cmp rfl rfl rfl (.met rfl rfl) rfl ?_
    refine o_pick_false rfl rfl .free rfl ?_
    exact o_fin 2 rfl rfl hk
  · intro _ hk
    refine o_skips 2 rfl ?_
    refine o_pick_true rfl rfl .free rfl ?_
    exact o_fin 2 rfl rfl hk
  refine o_move rfl .free rfl ?_
  apply o_or 29 32 rfl
  · intro g1_27 hk
    try simp only [Bool.and_eq_true, Bool.or_eq_true, Bool.not_eq_true', Bool.not_eq_false', Bool.and_eq_false_iff, Bool.or_eq_false_iff, decide_eq_true_eq, decide_eq_false_iff_not] at g1_27
    refine o_move rfl (.met rfl rfl) rfl ?_
    refine o_cmp rfl rfl rfl (.met rfl rfl) rfl ?_
    refine o_pick_false rfl rfl .free rfl ?_
    exact o_fin 2 rfl rfl hk
  · intro _ hk
    refine o_skips 2 rfl ?_
    refine o_pick_true rfl rfl .free rfl ?_
    exact o_fin 2 rfl rfl hk
  refine o_assign rfl .free rfl ?_
  refine o_done ?_
  refine s_ret (.tmp rfl .nil) ?_
  refine done_only rfl (by intro _ h; first | exact h | exact dr1 h | exact dr2 h | exact dr3 h | exact dr4 h | exact dr5 h | exact dr6 h) ?_
  refine congrArg Value.bool ?_; rw [Bool.eq_iff_iff]; simp [abyte]; omega
theorem g_l1Byte (b : UInt8) (I : Heap) (L : Own) : Fun Try.prog 55 [.int .u8 (b.toNat : Nat)] I L (Only (.bool (abyte b)) I L) := by
  refine fun_intro (by simp) ?_
  refine s_seq ?_
  refine o_enter rfl ?_
  refine o_assign rfl .free rfl ?_
  refine o_done ?_
  refine s_seq ?_
  refine o_enter rfl ?_
  refine o_move rfl .free rfl ?_
  refine o_cmp rfl rfl rfl .free rfl ?_
  refine o_move rfl .free rfl ?_
  apply o_and 5 8 rfl
  · intro g1_3 hk
    try simp only [Bool.and_eq_true, Bool.or_eq_true, Bool.not_eq_true', Bool.not_eq_false', Bool.and_eq_false_iff, Bool.or_eq_false_iff, decide_eq_true_eq, decide_eq_false_iff_not] at g1_3
    refine o_move rfl (.met rfl rfl) rfl ?_
    refine o_cmp rfl rfl rfl (.met rfl rfl) rfl ?_
    refine o_pick_true rfl rfl .free rfl ?_
    exact o_fin 2 rfl rfl hk
  · intro _ hk
    refine o_skips 2 rfl ?_
    refine o_pick_false rfl rfl .free rfl ?_
    exact o_fin 2 rfl rfl hk
  refine o_move rfl .free rfl ?_
  apply o_or 9 16 rfl
  · intro g1_7 hk
    try simp only [Bool.and_eq_true, Bool.or_eq_true, Bool.not_eq_true', Bool.not_eq_false', Bool.and_eq_false_iff, Bool.or_eq_false_iff, decide_eq_true_eq, decide_eq_false_iff_not] at g1_7
    refine o_move rfl (.met rfl rfl) rfl ?_
    refine o_cmp rfl rfl rfl (.met rfl rfl) rfl ?_
    refine o_move rfl (.met rfl rfl) rfl ?_
    apply o_and 12 15 rfl
    · intro g1_10 hk
      try simp only [Bool.and_eq_true, Bool.or_eq_true, Bool.not_eq_true', Bool.not_eq_false', Bool.and_eq_false_iff, Bool.or_eq_false_iff, decide_eq_true_eq, decide_eq_false_iff_not] at g1_10
      refine o_move rfl (.met rfl rfl) rfl ?_
      refine o_cmp rfl rfl rfl (.met rfl rfl) rfl ?_
      refine o_pick_true rfl rfl (.met rfl rfl) rfl ?_
      exact o_fin 2 rfl rfl hk
    · intro _ hk
      refine o_skips 2 rfl ?_
      refine o_pick_false rfl rfl (.met rfl rfl) rfl ?_
      exact o_fin 2 rfl rfl hk
    refine o_pick_false rfl rfl .free rfl ?_
    exact o_fin 4 rfl rfl hk
  · intro _ hk
    refine o_skips 6 rfl ?_
    refine o_pick_true rfl rfl .free rfl ?_
    exact o_fin 6 rfl rfl hk
  refine o_move rfl .free rfl ?_
  apply o_or 17 20 rfl
  · intro g1_15 hk
    try simp only [Bool.and_eq_true, Bool.or_eq_true, Bool.not_eq_true', Bool.not_eq_false', Bool.and_eq_false_iff, Bool.or_eq_false_iff, decide_eq_true_eq, decide_eq_false_iff_not] at g1_15
    refine o_move rfl (.met rfl rfl) rfl ?_
    refine o_cmp rfl rfl rfl (.met rfl rfl) rfl ?_
    refine o_pick_false rfl rfl .free rfl ?_
    exact o_fin 2 rfl rfl hk
  · intro _ hk
    refine o_skips 2 rfl ?_
    refine o_pick_true rfl rfl .free rfl ?_
    exact o_fin 2 rfl rfl hk
  refine o_move rfl .free rfl ?_
  apply o_or 21 24 rfl
  · intro g1_19 hk
    try simp only [Bool.and_eq_true, Bool.or_eq_true, Bool.not_eq_true', Bool.not_eq_false', Bool.and_eq_false_iff, Bool.or_eq_false_iff, decide_eq_true_eq, decide_eq_false_iff_not] at g1_19
    refine o_move rfl (.met rfl rfl) rfl ?_
    refine o_cmp rfl rfl rfl (.met rfl rfl) rfl ?_
    refine o_pick_false rfl rfl .free rfl ?_
    exact o_fin 2 rfl rfl hk
  · intro _ hk
    refine o_skips 2 rfl ?_
    refine o_pick_true rfl rfl .free rfl ?_
    exact o_fin 2 rfl rfl hk
  refine o_move rfl .free rfl ?_
  apply o_or 25 28 rfl
  · intro g1_23 hk
    try simp only [Bool.and_eq_true, Bool.or_eq_true, Bool.not_eq_true', Bool.not_eq_false', Bool.and_eq_false_iff, Bool.or_eq_false_iff, decide_eq_true_eq, decide_eq_false_iff_not] at g1_23
    refine o_move rfl (.met rfl rfl) rfl ?_
    refine o_cmp rfl rfl rfl (.met rfl rfl) rfl ?_
    refine o_pick_false rfl rfl .free rfl ?_
    exact o_fin 2 rfl rfl hk
  · intro _ hk
    refine o_skips 2 rfl ?_
    refine o_pick_true rfl rfl .free rfl ?_
    exact o_fin 2 rfl rfl hk
  refine o_move rfl .free rfl ?_
  apply o_or 29 32 rfl
  · intro g1_27 hk
    try simp only [Bool.and_eq_true, Bool.or_eq_true, Bool.not_eq_true', Bool.not_eq_false', Bool.and_eq_false_iff, Bool.or_eq_false_iff, decide_eq_true_eq, decide_eq_false_iff_not] at g1_27
    refine o_move rfl (.met rfl rfl) rfl ?_
    refine o_cmp rfl rfl rfl (.met rfl rfl) rfl ?_
    refine o_pick_false rfl rfl .free rfl ?_
    exact o_fin 2 rfl rfl hk
  · intro _ hk
    refine o_skips 2 rfl ?_
    refine o_pick_true rfl rfl .free rfl ?_
    exact o_fin 2 rfl rfl hk
  refine o_assign rfl .free rfl ?_
  refine o_done ?_
  refine s_ret (.tmp rfl .nil) ?_
  refine done_only rfl (by intro _ h; first | exact h | exact dr1 h | exact dr2 h | exact dr3 h | exact dr4 h | exact dr5 h | exact dr6 h) ?_
  refine congrArg Value.bool ?_; rw [Bool.eq_iff_iff]; simp [abyte]; omega

theorem f_form_isAtom {I : Heap} {t : Tree} {cs : List Value} (h : Rep I t cs) (L : Own) : Fun Try.prog 30 [.agg cs.toArray] I L (Only (.bool t.parts.isEmpty) I L) := by
  obtain ⟨oa, c, vs, rfl, hl, hs, hn, hc, ha, hp⟩ := h.open
  refine fun_intro (by simp) ?_
  refine s_seq ?_
  refine o_enter rfl ?_
  refine o_box rfl rfl .free rfl ?_
  intro b1
  refine o_assign rfl .free rfl ?_
  refine o_done ?_
  refine s_seq ?_
  refine o_enter rfl ?_
  first | refine o_fieldAddr rfl .free rfl ?_ | refine o_fieldAddr' rfl .free rfl ?_
  refine o_load rfl (by first | exact loads_still1 (by assumption) rfl | exact loads_ownS (by first | exact m0 | exact m1 | exact m2 | exact m3 | exact m4 | exact m5 | exact m6) (by rfl) | exact loads_own1 (by first | exact m0 | exact m1 | exact m2 | exact m3 | exact m4 | exact m5 | exact m6) (by rfl) rfl | exact loads_stillS (by assumption) (by rfl) | exact loads_stillF (by assumption) (by rfl) rfl) .free rfl ?_
  refine o_len_slice rfl .free rfl ?_
  refine o_cmp rfl rfl rfl .free rfl ?_
  refine o_assign rfl .free rfl ?_
  refine o_done ?_
  refine s_ret (.tmp rfl .nil) ?_
  refine done_only rfl (by intro _ h; first | exact h | exact dr1 h | exact dr2 h | exact dr3 h | exact dr4 h | exact dr5 h | exact dr6 h) ?_
  cases t.parts <;> simp [retOne]; omega

theorem f_form_head {I : Heap} {t : Tree} {cs : List Value} (h : Rep I t cs) (L : Own) : Fun Try.prog 47 [.agg cs.toArray] I L (Only (.string (str t.head)) I L) := by
  obtain ⟨oa, c, vs, rfl, hl, hs, hn, hc, ha, hp⟩ := h.open
  refine fun_intro (by simp) ?_
  refine s_seq ?_
  refine o_enter rfl ?_
  refine o_box rfl rfl .free rfl ?_
  intro b1
  refine o_assign rfl .free rfl ?_
  refine o_done ?_
  refine s_seq ?_
  refine s_seq ?_
  refine o_enter rfl ?_
  refine o_load rfl (by first | exact loads_still1 (by assumption) rfl | exact loads_ownS (by first | exact m0 | exact m1 | exact m2 | exact m3 | exact m4 | exact m5 | exact m6) (by rfl) | exact loads_own1 (by first | exact m0 | exact m1 | exact m2 | exact m3 | exact m4 | exact m5 | exact m6) (by rfl) rfl | exact loads_stillS (by assumption) (by rfl) | exact loads_stillF (by assumption) (by rfl) rfl) .free rfl ?_
  refine o_call rfl .free rfl (f_form_isAtom h _) ?_
  rintro _ _ _ _ ⟨rfl, rfl, rfl⟩
  refine o_done ?_
  first | refine s_if rfl ?_ ?_ | refine s_ifn rfl ?_ ?_ | refine s_cond rfl ?_ ?_
  · intro c0
    refine s_seq ?_
    refine o_enter rfl ?_
    refine o_assign rfl .free rfl ?_
    refine o_done ?_
    refine s_ret (.tmp rfl .nil) ?_
    refine done_only rfl (by intro _ h; first | exact h | exact dr1 h | exact dr2 h | exact dr3 h | exact dr4 h | exact dr5 h | exact dr6 h) ?_
    simp [retOne, Tree.head]
    cases hh : t.parts with
    | nil => rfl
    | cons u us => simp [hh] at c0
  · intro c0
    obtain ⟨u, us, hu⟩ : ∃ u us, t.parts = u :: us := by
      cases hh : t.parts with
      | nil => simp [hh] at c0
      | cons u us => exact ⟨u, us, rfl⟩
    obtain ⟨x, rfl⟩ : ∃ x, oa = some x := by
      cases oa with
      | none => simp [hn rfl] at hu
      | some x => exact ⟨x, rfl⟩
    obtain ⟨oa', c', hr, hst⟩ := Rep.part hl (hs x rfl) 0 (by simp [hu])
    have hpos : 0 < t.parts.length := by simp [hu]
    refine s_skip ?_
    refine s_seq ?_
    refine o_enter rfl ?_
    first | refine o_fieldAddr rfl .free rfl ?_ | refine o_fieldAddr' rfl .free rfl ?_
    refine o_load rfl (by first | exact loads_still1 (by assumption) rfl | exact loads_ownS (by first | exact m0 | exact m1 | exact m2 | exact m3 | exact m4 | exact m5 | exact m6) (by rfl) | exact loads_own1 (by first | exact m0 | exact m1 | exact m2 | exact m3 | exact m4 | exact m5 | exact m6) (by rfl) rfl | exact loads_stillS (by assumption) (by rfl) | exact loads_stillF (by assumption) (by rfl) rfl) .free rfl ?_
    refine o_indexAddr' rfl rfl 0 rfl (by first | omega | exact lt_of (by assumption) (by decide) | (simp; done) | (simp; omega) | decide | (simp at *; omega)) (by first | rfl | assumption) .free rfl ?_
    first | refine o_fieldAddr rfl .free rfl ?_ | refine o_fieldAddr' rfl .free rfl ?_
    refine o_load rfl (by first | exact loads_still1 (by assumption) rfl | exact loads_ownS (by first | exact m0 | exact m1 | exact m2 | exact m3 | exact m4 | exact m5 | exact m6) (by rfl) | exact loads_own1 (by first | exact m0 | exact m1 | exact m2 | exact m3 | exact m4 | exact m5 | exact m6) (by rfl) rfl | exact loads_stillS (by assumption) (by rfl) | exact loads_stillF (by assumption) (by rfl) rfl) .free rfl ?_
    refine o_assign rfl .free rfl ?_
    refine o_done ?_
    refine s_ret (.tmp rfl .nil) ?_
    refine done_only rfl (by intro _ h; first | exact h | exact dr1 h | exact dr2 h | exact dr3 h | exact dr4 h | exact dr5 h | exact dr6 h) ?_
    simp [retOne, Tree.head, hu]
theorem f_form_is {I : Heap} {t : Tree} {cs : List Value} (h : Rep I t cs) (hd : Txt) (k : Nat) (L : Own) : Fun Try.prog 66 [.agg cs.toArray, .string (str hd), .int .i64 (k : Nat)] I L (Only (.bool (t.is hd k)) I L) := by
  obtain ⟨oa, c, vs, rfl, hl, hs, hn, hc, ha, hp⟩ := h.open
  refine fun_intro (by simp) ?_
  refine s_seq ?_
  refine o_enter rfl ?_
  refine o_box rfl rfl .free rfl ?_
  intro b3
  refine o_assign rfl .free rfl ?_
  refine o_done ?_
  refine s_seq ?_
  refine o_enter rfl ?_
  first | refine o_fieldAddr rfl .free rfl ?_ | refine o_fieldAddr' rfl .free rfl ?_
  refine o_load rfl (by first | exact loads_still1 (by assumption) rfl | exact loads_ownS (by first | exact m0 | exact m1 | exact m2 | exact m3 | exact m4 | exact m5 | exact m6) (by rfl) | exact loads_own1 (by first | exact m0 | exact m1 | exact m2 | exact m3 | exact m4 | exact m5 | exact m6) (by rfl) rfl | exact loads_stillS (by assumption) (by rfl) | exact loads_stillF (by assumption) (by rfl) rfl) .free rfl ?_
  refine o_len_slice rfl .free rfl ?_
  refine o_move rfl .free rfl ?_
  refine o_cmp rfl rfl rfl .free rfl ?_
  refine o_move rfl .free rfl ?_
  first | refine g_if rfl rfl ?_ ?_ | refine g_ifn rfl rfl ?_ ?_ | refine g_b rfl rfl ?_ ?_
  · intro g1_6
    refine o_load rfl (by first | exact loads_still1 (by assumption) rfl | exact loads_ownS (by first | exact m0 | exact m1 | exact m2 | exact m3 | exact m4 | exact m5 | exact m6) (by rfl) | exact loads_own1 (by first | exact m0 | exact m1 | exact m2 | exact m3 | exact m4 | exact m5 | exact m6) (by rfl) rfl | exact loads_stillS (by assumption) (by rfl) | exact loads_stillF (by assumption) (by rfl) rfl) (.met rfl rfl) rfl ?_
    refine o_call rfl (.met rfl rfl) rfl (f_form_head h _) ?_
    rintro _ _ _ _ ⟨rfl, rfl, rfl⟩
    refine o_move rfl (.met rfl rfl) rfl ?_
    refine o_cmps rfl rfl rfl (.met rfl rfl) rfl ?_
    refine o_pick_true rfl rfl .free rfl ?_
    refine o_assign rfl .free rfl ?_
    refine o_done ?_
    refine s_ret (.tmp rfl .nil) ?_
    refine done_only rfl (by intro _ h; first | exact h | exact dr1 h | exact dr2 h | exact dr3 h | exact dr4 h | exact dr5 h | exact dr6 h) ?_
    refine congrArg Value.bool ?_; rw [Bool.eq_iff_iff]; simp [Tree.is, *]; try omega
  · intro g1_6
    iterate 4 refine o_skip rfl rfl rfl ?_
    refine o_pick_false rfl rfl .free rfl ?_
    refine o_assign rfl .free rfl ?_
    refine o_done ?_
    refine s_ret (.tmp rfl .nil) ?_
    refine done_only rfl (by intro _ h; first | exact h | exact dr1 h | exact dr2 h | exact dr3 h | exact dr4 h | exact dr5 h | exact dr6 h) ?_
    refine congrArg Value.bool ?_; rw [Bool.eq_iff_iff]; simp [Tree.is, *]; try omega

def digit (b : UInt8) : Bool := decide (48 ≤ b.toNat) && decide (b.toNat ≤ 57)
theorem take_all {p : UInt8 → Bool} {s : Txt} {i : Nat} (h : (s.take i).all p = true) (hi : i < s.length) (hp : p (s.getD i 0) = true) : (s.take (i + 1)).all p = true := by
  rw [List.take_succ_eq_append_getElem hi]
  simp [List.getD_eq_getElem?_getD, hi] at hp
  rw [List.all_append, h]; simp [hp]
theorem all_false {p : UInt8 → Bool} {s : Txt} {i : Nat} (hi : i < s.length) (hp : p (s.getD i 0) = false) : s.all p = false := by
  simp [List.getD_eq_getElem?_getD, hi] at hp
  rw [List.all_eq_false]
  exact ⟨s[i], List.getElem_mem hi, by simp [hp]⟩

theorem f_areDigits (s : Txt) (hs : s.length ≤ maxN) (I : Heap) (L : Own) : Fun Try.prog 29 [.string (str s)] I L (Only (.bool (s.all digit)) I L) := by
  unfold maxN at hs
  refine fun_intro (by simp) ?_
  refine s_seq ?_
  refine o_enter rfl ?_
  refine o_assign rfl .free rfl ?_
  refine o_done ?_
  refine s_seq ?_
  refine s_seq ?_
  refine o_enter rfl ?_
  refine o_move rfl .free rfl ?_
  refine o_len_str rfl .free rfl ?_
  refine o_move rfl .free rfl ?_
  refine o_done ?_
  refine s_block ?_
  refine s_while (X := Nat) (fun i => s.length - i) (fun i => [(0, .string (str s)), (5, .int .i64 (s.length : Nat)), (6, .int .i64 (i : Nat))]) (fun _ => I) (fun _ => L) (fun i => i ≤ s.length ∧ (s.take i).all digit = true) 0 ⟨by simp, by simp⟩ ⟨rfl, rfl, rfl, trivial⟩ (by intro _ h; first | exact h | exact dr1 h | exact dr2 h | exact dr3 h | exact dr4 h | exact dr5 h | exact dr6 h) ?_
  rintro i ⟨hi, hall⟩ ih
  refine s_seq ?_
  refine o_enter rfl ?_
  refine o_cmp rfl rfl rfl .free rfl ?_
  refine o_done ?_
  refine s_seq ?_
  first | refine s_if rfl ?_ ?_ | refine s_ifn rfl ?_ ?_ | refine s_cond rfl ?_ ?_
  · intro c0
    refine s_skip ?_
    refine s_seq ?_
    refine s_block ?_
    refine s_seq ?_
    refine o_enter rfl ?_
    refine o_move rfl .free rfl ?_
    refine o_assign rfl .free rfl ?_
    refine o_done ?_
    refine s_seq ?_
    refine o_enter rfl ?_
    refine o_move rfl .free rfl ?_
    refine o_move rfl .free rfl ?_
    refine o_index rfl rfl rfl (by first | omega | exact lt_of (by assumption) (by decide) | (simp; done) | (simp; omega) | decide | (simp at *; omega)) .free rfl ?_
    refine o_cmp rfl rfl rfl .free rfl ?_
    refine o_move rfl .free rfl ?_
    first | refine g_if rfl rfl ?_ ?_ | refine g_ifn rfl rfl ?_ ?_ | refine g_b rfl rfl ?_ ?_
    · intro g4_5
      iterate 4 refine o_skip rfl rfl rfl ?_
      refine o_pick_true rfl rfl .free rfl ?_
      refine o_done ?_
      refine s_true rfl ?_
      refine s_seq ?_
      refine o_enter rfl ?_
      refine o_assign rfl .free rfl ?_
      refine o_done ?_
      refine s_ret (.tmp rfl .nil) ?_
      refine done_only rfl (by intro _ h; first | exact h | exact dr1 h | exact dr2 h | exact dr3 h | exact dr4 h | exact dr5 h | exact dr6 h) ?_
      refine congrArg Value.bool (all_false (i := i) (by omega) (by simp only [digit, Bool.and_eq_false_iff, decide_eq_false_iff_not]; omega)).symm
    · intro g4_5
      refine o_move rfl (.met rfl rfl) rfl ?_
      refine o_move rfl (.met rfl rfl) rfl ?_
      refine o_index rfl rfl rfl (by first | omega | exact lt_of (by assumption) (by decide) | (simp; done) | (simp; omega) | decide | (simp at *; omega)) (.met rfl rfl) rfl ?_
      refine o_cmp rfl rfl rfl (.met rfl rfl) rfl ?_
      refine o_pick_false rfl rfl .free rfl ?_
      refine o_done ?_
      first | refine s_if rfl ?_ ?_ | refine s_ifn rfl ?_ ?_ | refine s_cond rfl ?_ ?_
      · intro c1
        refine s_seq ?_
        refine o_enter rfl ?_
        refine o_assign rfl .free rfl ?_
        refine o_done ?_
        refine s_ret (.tmp rfl .nil) ?_
        refine done_only rfl (by intro _ h; first | exact h | exact dr1 h | exact dr2 h | exact dr3 h | exact dr4 h | exact dr5 h | exact dr6 h) ?_
        refine congrArg Value.bool (all_false (i := i) (by omega) (by simp only [digit, Bool.and_eq_false_iff, decide_eq_false_iff_not]; omega)).symm
      · intro c1
        refine s_skip ?_
        refine s_inBlock ?_
        refine o_enter rfl ?_
        refine o_arith rfl rfl rfl (by omega) .free rfl ?_
        refine o_move rfl .free rfl ?_
        refine o_done ?_
        refine s_env (E' := [(0, .string (str s)), (5, .int .i64 (s.length : Nat)), (6, .int .i64 ((i + 1 : Nat)))]) ⟨rfl, rfl, rfl, trivial⟩ (ih (i + 1) ⟨by omega, take_all hall (by omega) (by simp only [digit, Bool.and_eq_true, decide_eq_true_eq]; omega)⟩ (by omega))
  · intro c0
    refine s_exit rfl ?_
    refine s_seq ?_
    refine o_enter rfl ?_
    refine o_assign rfl .free rfl ?_
    refine o_done ?_
    refine s_ret (.tmp rfl .nil) ?_
    refine done_only rfl (by intro _ h; first | exact h | exact dr1 h | exact dr2 h | exact dr3 h | exact dr4 h | exact dr5 h | exact dr6 h) ?_
    have : i = s.length := by omega
    subst this
    simpa [retOne] using hall
end Go.Proofs.Ytekfjhopngcneaa
