
/- What the functions of names, sizes and types return. No conditions. -/
import Derived.Test.YtekfjhopngcneaaW1
namespace Go.Proofs.Ytekfjhopngcneaa
set_option maxRecDepth 100000
set_option linter.unusedVariables false
set_option linter.unusedSimpArgs false

def lower (b : UInt8) : Bool := decide (97 ≤ b.toNat) && decide (b.toNat ≤ 122)
def isName : Txt → Bool
  | [] => false
  | c :: r => decide (r.length ≤ 3) && lower c && r.all digit

theorem isName_iff (s : Txt) : isName s = (decide (1 ≤ s.length ∧ s.length ≤ 4) && lower (s.getD 0 0) && (s.drop 1).all digit) := by
  cases s with
  | nil => rfl
  | cons c r => rw [Bool.eq_iff_iff]; simp [isName]

theorem f_isName (s : Txt) (hs : s.length ≤ maxN) (I : Heap) (L : Own) : Fun Try.prog 14 [.string (str s)] I L (Only (.bool (isName s)) I L) := by
  rw [isName_iff]
  unfold maxN at hs
  refine fun_intro (by simp) ?_
  refine s_seq ?_
  refine o_enter rfl ?_
  refine o_assign rfl .free rfl ?_
  refine o_done ?_
  refine s_seq ?_
  refine o_enter rfl ?_
  refine o_move rfl .free rfl ?_
  refine o_len_str rfl .free rfl ?_
  refine o_call rfl .free rfl (f_within ..) ?_
  rintro _ _ _ _ ⟨rfl, rfl, rfl⟩
  refine o_move rfl .free rfl ?_
  apply o_and 6 10 rfl
  · intro g1_4 hk
    try simp only [Bool.and_eq_true, Bool.or_eq_true, Bool.not_eq_true', Bool.not_eq_false', Bool.and_eq_false_iff, Bool.or_eq_false_iff, decide_eq_true_eq, decide_eq_false_iff_not] at g1_4
    refine o_move rfl (.met rfl rfl) rfl ?_
    refine o_index (i := 0) rfl rfl rfl (by first | omega | exact lt_of (by assumption) (by decide) | (simp; done) | (simp; omega) | decide | (simp at *; omega)) (.met rfl rfl) rfl ?_
    refine o_cmp rfl rfl rfl (.met rfl rfl) rfl ?_
    refine o_pick_true rfl rfl .free rfl ?_
    exact o_fin 3 rfl rfl hk
  · intro _ hk
    refine o_skips 3 rfl ?_
    refine o_pick_false rfl rfl .free rfl ?_
    exact o_fin 3 rfl rfl hk
  refine o_move rfl .free rfl ?_
  apply o_and 11 15 rfl
  · intro g1_9 hk
    try simp only [Bool.and_eq_true, Bool.or_eq_true, Bool.not_eq_true', Bool.not_eq_false', Bool.and_eq_false_iff, Bool.or_eq_false_iff, decide_eq_true_eq, decide_eq_false_iff_not] at g1_9
    refine o_move rfl (.met rfl rfl) rfl ?_
    refine o_index (i := 0) rfl rfl rfl (by first | omega | exact lt_of (by assumption) (by decide) | (simp; done) | (simp; omega) | decide | (simp at *; omega)) (.met rfl rfl) rfl ?_
    refine o_cmp rfl rfl rfl (.met rfl rfl) rfl ?_
    refine o_pick_true rfl rfl .free rfl ?_
    exact o_fin 3 rfl rfl hk
  · intro _ hk
    refine o_skips 3 rfl ?_
    refine o_pick_false rfl rfl .free rfl ?_
    exact o_fin 3 rfl rfl hk
  refine o_move rfl .free rfl ?_
  apply o_and 16 20 rfl
  · intro g1_14 hk
    try simp only [Bool.and_eq_true, Bool.or_eq_true, Bool.not_eq_true', Bool.not_eq_false', Bool.and_eq_false_iff, Bool.or_eq_false_iff, decide_eq_true_eq, decide_eq_false_iff_not] at g1_14
    refine o_move rfl (.met rfl rfl) rfl ?_
    refine o_slice_from rfl rfl 1 rfl (by first | omega | exact lt_of (by assumption) (by decide) | (simp; done) | (simp; omega) | decide | (simp at *; omega)) (.met rfl rfl) rfl ?_
    refine o_call rfl (.met rfl rfl) rfl (f_areDigits (s.drop 1) (by simp [maxN]; omega) _ _) ?_
    rintro _ _ _ _ ⟨rfl, rfl, rfl⟩
    refine o_pick_true rfl rfl .free rfl ?_
    exact o_fin 3 rfl rfl hk
  · intro _ hk
    refine o_skips 3 rfl ?_
    refine o_pick_false rfl rfl .free rfl ?_
    exact o_fin 3 rfl rfl hk
  refine o_assign rfl .free rfl ?_
  refine o_done ?_
  refine s_ret (.tmp rfl .nil) ?_
  refine done_only rfl (by intro _ h; first | exact h | exact dr1 h | exact dr2 h | exact dr3 h | exact dr4 h | exact dr5 h | exact dr6 h) ?_
  refine congrArg Value.bool ?_; simp only [lower]; grind

theorem digit_iff (b : UInt8) : digit b = decide (48 ≤ (b.toNat : Int) ∧ (b.toNat : Int) ≤ 57) := by
  rw [Bool.eq_iff_iff]; simp [digit]; omega
theorem drop_all {s : Txt} (i : Nat) (hi : i < s.length) : (s.drop i).all digit = (digit (s.getD i 0) && (s.drop (i + 1)).all digit) := by
  have : s.getD i 0 = s[i] := by simp [hi]
  rw [this, List.drop_eq_getElem_cons hi, List.all_cons]

theorem g_l2Name (s : Txt) (hs : s.length ≤ maxN) (I : Heap) (L : Own) : Fun Try.prog 7 [.string (str s)] I L (Only (.bool (isName s)) I L) := by
  rw [isName_iff]
  unfold maxN at hs
  refine fun_intro (by simp) ?_
  refine s_seq ?_
  refine o_enter rfl ?_
  refine o_assign rfl .free rfl ?_
  refine o_done ?_
  refine s_seq ?_
  refine s_seq ?_
  refine o_enter rfl ?_
  refine o_move rfl .free rfl ?_
  refine o_len_str rfl .free rfl ?_
  refine o_call rfl .free rfl (g_l6In ..) ?_
  rintro _ _ _ _ ⟨rfl, rfl, rfl⟩
  refine o_not rfl .free rfl ?_
  refine o_move rfl .free rfl ?_
  apply o_or 8 12 rfl
  · intro g1_5 hk
    try simp only [Bool.and_eq_true, Bool.or_eq_true, Bool.not_eq_true', Bool.not_eq_false', Bool.and_eq_false_iff, Bool.or_eq_false_iff, decide_eq_true_eq, decide_eq_false_iff_not] at g1_5
    refine o_move rfl (.met rfl rfl) rfl ?_
    refine o_index (i := 0) rfl rfl rfl (by first | omega | exact lt_of (by assumption) (by decide) | (simp; done) | (simp; omega) | decide | (simp at *; omega)) (.met rfl rfl) rfl ?_
    refine o_cmp rfl rfl rfl (.met rfl rfl) rfl ?_
    refine o_pick_false rfl rfl .free rfl ?_
    exact o_fin 3 rfl rfl hk
  · intro _ hk
    refine o_skips 3 rfl ?_
    refine o_pick_true rfl rfl .free rfl ?_
    exact o_fin 3 rfl rfl hk
  refine o_move rfl .free rfl ?_
  apply o_or 13 17 rfl
  · intro g1_10 hk
    try simp only [Bool.and_eq_true, Bool.or_eq_true, Bool.not_eq_true', Bool.not_eq_false', Bool.and_eq_false_iff, Bool.or_eq_false_iff, decide_eq_true_eq, decide_eq_false_iff_not] at g1_10
    refine o_move rfl (.met rfl rfl) rfl ?_
    refine o_index (i := 0) rfl rfl rfl (by first | omega | exact lt_of (by assumption) (by decide) | (simp; done) | (simp; omega) | decide | (simp at *; omega)) (.met rfl rfl) rfl ?_
    refine o_cmp rfl rfl rfl (.met rfl rfl) rfl ?_
    refine o_pick_false rfl rfl .free rfl ?_
    exact o_fin 3 rfl rfl hk
  · intro _ hk
    refine o_skips 3 rfl ?_
    refine o_pick_true rfl rfl .free rfl ?_
    exact o_fin 3 rfl rfl hk
  refine o_done ?_
  refine s_cond rfl ?_ ?_
  · intro c0
    try simp only [Bool.and_eq_true, Bool.or_eq_true, Bool.not_eq_true', Bool.not_eq_false', Bool.and_eq_false_iff, Bool.or_eq_false_iff, decide_eq_true_eq, decide_eq_false_iff_not] at c0
    refine s_seq ?_
    refine o_enter rfl ?_
    refine o_assign rfl .free rfl ?_
    refine o_done ?_
    refine s_ret (.tmp rfl .nil) ?_
    refine done_only rfl (by intro _ h; first | exact h | exact dr1 h | exact dr2 h | exact dr3 h | exact dr4 h | exact dr5 h | exact dr6 h) ?_
    refine congrArg Value.bool ?_; simp only [lower]; grind
  · intro c0
    try simp only [Bool.and_eq_true, Bool.or_eq_true, Bool.not_eq_true', Bool.not_eq_false', Bool.and_eq_false_iff, Bool.or_eq_false_iff, decide_eq_true_eq, decide_eq_false_iff_not] at c0
    refine s_skip ?_
    refine s_seq ?_
    refine s_seq ?_
    refine o_enter rfl ?_
    refine o_assign rfl .free rfl ?_
    refine o_done ?_
    refine s_block ?_
    refine s_while (X := Nat) (fun i => s.length - i) (fun i => [(0, .string (str s)), (3, .int .i64 (i : Nat))]) (fun _ => I) (fun _ => L) (fun i => 1 ≤ i ∧ i ≤ s.length ∧ (s.drop i).all digit = (s.drop 1).all digit) 1 ⟨by omega, by omega, rfl⟩ ⟨rfl, rfl, trivial⟩ (by intro _ h; first | exact h | exact dr1 h | exact dr2 h | exact dr3 h | exact dr4 h | exact dr5 h | exact dr6 h) ?_
    rintro i ⟨hi0, hi, hall⟩ ih
    refine s_seq ?_
    refine s_seq ?_
    refine o_enter rfl ?_
    refine o_move rfl .free rfl ?_
    refine o_move rfl .free rfl ?_
    refine o_len_str rfl .free rfl ?_
    refine o_cmp rfl rfl rfl .free rfl ?_
    refine o_done ?_
    refine s_cond rfl ?_ ?_
    · intro c1
      try simp only [Bool.and_eq_true, Bool.or_eq_true, Bool.not_eq_true', Bool.not_eq_false', Bool.and_eq_false_iff, Bool.or_eq_false_iff, decide_eq_true_eq, decide_eq_false_iff_not] at c1
      refine s_skip ?_
      refine s_seq ?_
      refine s_block ?_
      refine s_seq ?_
      refine o_enter rfl ?_
      refine o_move rfl .free rfl ?_
      refine o_move rfl .free rfl ?_
      refine o_index rfl rfl rfl (by first | omega | exact lt_of (by assumption) (by decide) | (simp; done) | (simp; omega) | decide | (simp at *; omega)) .free rfl ?_
      refine o_cmp rfl rfl rfl .free rfl ?_
      refine o_move rfl .free rfl ?_
      apply o_or 28 33 rfl
      · intro g6_5 hk
        try simp only [Bool.and_eq_true, Bool.or_eq_true, Bool.not_eq_true', Bool.not_eq_false', Bool.and_eq_false_iff, Bool.or_eq_false_iff, decide_eq_true_eq, decide_eq_false_iff_not] at g6_5
        refine o_move rfl (.met rfl rfl) rfl ?_
        refine o_move rfl (.met rfl rfl) rfl ?_
        refine o_index rfl rfl rfl (by first | omega | exact lt_of (by assumption) (by decide) | (simp; done) | (simp; omega) | decide | (simp at *; omega)) (.met rfl rfl) rfl ?_
        refine o_cmp rfl rfl rfl (.met rfl rfl) rfl ?_
        refine o_pick_false rfl rfl .free rfl ?_
        exact o_fin 4 rfl rfl hk
      · intro _ hk
        refine o_skips 4 rfl ?_
        refine o_pick_true rfl rfl .free rfl ?_
        exact o_fin 4 rfl rfl hk
      refine o_done ?_
      refine s_cond rfl ?_ ?_
      · intro c2
        try simp only [Bool.and_eq_true, Bool.or_eq_true, Bool.not_eq_true', Bool.not_eq_false', Bool.and_eq_false_iff, Bool.or_eq_false_iff, decide_eq_true_eq, decide_eq_false_iff_not] at c2
        refine s_seq ?_
        refine o_enter rfl ?_
        refine o_assign rfl .free rfl ?_
        refine o_done ?_
        refine s_ret (.tmp rfl .nil) ?_
        refine done_only rfl (by intro _ h; first | exact h | exact dr1 h | exact dr2 h | exact dr3 h | exact dr4 h | exact dr5 h | exact dr6 h) ?_
        refine congrArg Value.bool ?_; rw [← hall, drop_all i (by omega), digit_iff]; grind
      · intro c2
        try simp only [Bool.and_eq_true, Bool.or_eq_true, Bool.not_eq_true', Bool.not_eq_false', Bool.and_eq_false_iff, Bool.or_eq_false_iff, decide_eq_true_eq, decide_eq_false_iff_not] at c2
        refine s_skip ?_
        refine s_inBlock ?_
        refine o_enter rfl ?_
        refine o_move rfl .free rfl ?_
        refine o_arith rfl rfl rfl (by omega) .free rfl ?_
        refine o_assign rfl .free rfl ?_
        refine o_done ?_
        refine s_env (E' := [(0, .string (str s)), (3, .int .i64 ((i + 1 : Nat)))]) ⟨rfl, rfl, trivial⟩ (ih (i + 1) ⟨by omega, by omega, ?_⟩ (by omega))
        rw [← hall, drop_all i (by omega), digit_iff, decide_eq_true (by omega)]; rfl
    · intro c1
      try simp only [Bool.and_eq_true, Bool.or_eq_true, Bool.not_eq_true', Bool.not_eq_false', Bool.and_eq_false_iff, Bool.or_eq_false_iff, decide_eq_true_eq, decide_eq_false_iff_not] at c1
      refine s_exit rfl ?_
      refine s_seq ?_
      refine o_enter rfl ?_
      refine o_assign rfl .free rfl ?_
      refine o_done ?_
      refine s_ret (.tmp rfl .nil) ?_
      refine done_only rfl (by intro _ h; first | exact h | exact dr1 h | exact dr2 h | exact dr3 h | exact dr4 h | exact dr5 h | exact dr6 h) ?_
      have hl : i = s.length := by omega
      subst hl
      simp only [List.drop_length, List.all_nil] at hall
      refine congrArg Value.bool ?_; simp only [lower]; grind

theorem prefix_iff (s p : Txt) (h : p.length ≤ s.length) : decide (s.take p.length = p) = p.isPrefixOf s := by
  rw [Bool.eq_iff_iff]; simp only [decide_eq_true_eq, List.isPrefixOf_iff_prefix, List.prefix_iff_eq_take]; exact eq_comm
theorem f_stringslite_HasPrefix (s p : Txt) (hs : s.length ≤ maxN) (hp : p.length ≤ maxN) (I : Heap) (L : Own) : Fun Try.prog 63 [.string (str s), .string (str p)] I L (Only (.bool (p.isPrefixOf s)) I L) := by
  unfold maxN at hs hp
  refine fun_intro (by simp) ?_
  refine s_seq ?_
  refine o_enter rfl ?_
  refine o_assign rfl .free rfl ?_
  refine o_done ?_
  refine s_seq ?_
  refine o_enter rfl ?_
  refine o_move rfl .free rfl ?_
  refine o_len_str rfl .free rfl ?_
  refine o_move rfl .free rfl ?_
  refine o_len_str rfl .free rfl ?_
  refine o_cmp rfl rfl rfl .free rfl ?_
  refine o_move rfl .free rfl ?_
  apply o_and 10 17 rfl
  · intro g1_6 hk
    try simp only [Bool.and_eq_true, Bool.or_eq_true, Bool.not_eq_true', Bool.not_eq_false', Bool.and_eq_false_iff, Bool.or_eq_false_iff, decide_eq_true_eq, decide_eq_false_iff_not] at g1_6
    refine o_move rfl (.met rfl rfl) rfl ?_
    refine o_move rfl (.met rfl rfl) rfl ?_
    refine o_len_str rfl (.met rfl rfl) rfl ?_
    refine o_slice_to rfl rfl _ rfl (by first | omega | exact lt_of (by assumption) (by decide) | (simp; done) | (simp; omega) | decide | (simp at *; omega)) (.met rfl rfl) rfl ?_
    refine o_move rfl (.met rfl rfl) rfl ?_
    refine o_cmps rfl rfl rfl (.met rfl rfl) rfl ?_
    refine o_pick_true rfl rfl .free rfl ?_
    exact o_fin 6 rfl rfl hk
  · intro _ hk
    refine o_skips 6 rfl ?_
    refine o_pick_false rfl rfl .free rfl ?_
    exact o_fin 6 rfl rfl hk
  refine o_assign rfl .free rfl ?_
  refine o_done ?_
  refine s_ret (.tmp rfl .nil) ?_
  refine done_only rfl (by intro _ h; first | exact h | exact dr1 h | exact dr2 h | exact dr3 h | exact dr4 h | exact dr5 h | exact dr6 h) ?_
  refine congrArg Value.bool ?_; rw [Bool.eq_iff_iff]; simp
  constructor
  · rintro ⟨_, h⟩; rw [← h]; exact List.take_prefix ..
  · intro h; exact ⟨h.length_le, (List.prefix_iff_eq_take.1 h).symm⟩
theorem f_strings_HasPrefix (s p : Txt) (hs : s.length ≤ maxN) (hp : p.length ≤ maxN) (I : Heap) (L : Own) : Fun Try.prog 57 [.string (str s), .string (str p)] I L (Only (.bool (p.isPrefixOf s)) I L) := by
  refine fun_intro (by simp) ?_
  refine s_seq ?_
  refine o_enter rfl ?_
  refine o_assign rfl .free rfl ?_
  refine o_done ?_
  refine s_seq ?_
  refine o_enter rfl ?_
  refine o_move rfl .free rfl ?_
  refine o_move rfl .free rfl ?_
  refine o_call rfl .free rfl (f_stringslite_HasPrefix s p hs hp _ _) ?_
  rintro _ _ _ _ ⟨rfl, rfl, rfl⟩
  refine o_assign rfl .free rfl ?_
  refine o_done ?_
  refine s_ret (.tmp rfl .nil) ?_
  refine done_only rfl (by intro _ h; first | exact h | exact dr1 h | exact dr2 h | exact dr3 h | exact dr4 h | exact dr5 h | exact dr6 h) ?_
  simp [retOne, *]

theorem f_form_size : ∀ (n : Nat) {I : Heap} {t : Tree} {cs : List Value} (_ : SizeOf.sizeOf t < n) (_ : Rep I t cs) (_ : t.size ≤ maxN) (L : Own),
    Fun Try.prog 35 [.agg cs.toArray] I L (Only (.int .i64 (t.size : Nat)) I L) := by
  intro n
  induction n with
  | zero => intro I t cs h; omega
  | succ n ihn =>
    intro I t cs hlt h hz L
    unfold maxN at hz
    obtain ⟨oa, c, vs, rfl, hl, hs, hn, hc, ha, hp⟩ := h.open
    unfold maxN at hp
    refine fun_intro (by simp) ?_
    refine s_seq ?_
    refine o_enter rfl ?_
    refine o_box rfl rfl .free rfl ?_
    intro b1
    refine o_assign rfl .free rfl ?_
    refine o_done ?_
    refine s_seq ?_
    refine s_seq ?_
    refine o_enter rfl ?_
    refine o_load rfl (by first | exact loads_still1 (by assumption) rfl | exact loads_ownS (by first | exact m0 | exact m1 | exact m2 | exact m3 | exact m4 | exact m5 | exact m6) (by rfl) | exact loads_own1 (by first | exact m0 | exact m1 | exact m2 | exact m3 | exact m4 | exact m5 | exact m6) (by rfl) rfl | exact loads_stillS (by assumption) (by rfl) | exact loads_stillF (by assumption) (by rfl) rfl) .free rfl ?_
    refine o_call rfl .free rfl (f_form_isAtom h _) ?_
    rintro _ _ _ _ ⟨rfl, rfl, rfl⟩
    refine o_done ?_
    first | refine s_if rfl ?_ ?_ | refine s_ifn rfl ?_ ?_ | refine s_cond rfl ?_ ?_
    · intro c0
      refine s_seq ?_
      refine o_enter rfl ?_
      refine o_assign rfl .free rfl ?_
      refine o_done ?_
      refine s_ret (.tmp rfl .nil) ?_
      refine done_only rfl (by intro _ h; first | exact h | exact dr1 h | exact dr2 h | exact dr3 h | exact dr4 h | exact dr5 h | exact dr6 h) ?_
      rw [t.size_atom (by simpa using c0)]; rfl
    · intro c0
      have hne : t.parts ≠ [] := by simpa using c0
      have hsz := t.size_eq hne
      refine s_skip ?_
      refine s_seq ?_
      refine o_enter rfl ?_
      refine o_assign rfl .free rfl ?_
      refine o_done ?_
      refine s_seq ?_
      refine s_seq ?_
      refine o_enter rfl ?_
      first | refine o_fieldAddr rfl .free rfl ?_ | refine o_fieldAddr' rfl .free rfl ?_
      refine o_load rfl (by first | exact loads_still1 (by assumption) rfl | exact loads_ownS (by first | exact m0 | exact m1 | exact m2 | exact m3 | exact m4 | exact m5 | exact m6) (by rfl) | exact loads_own1 (by first | exact m0 | exact m1 | exact m2 | exact m3 | exact m4 | exact m5 | exact m6) (by rfl) rfl | exact loads_stillS (by assumption) (by rfl) | exact loads_stillF (by assumption) (by rfl) rfl) .free rfl ?_
      refine o_len_slice rfl .free rfl ?_
      refine o_move rfl .free rfl ?_
      refine o_done ?_
      refine s_block ?_
      refine s_while (X := Nat) (fun i => t.parts.length - i) (fun i => [(3, .int .i64 ((sizeL (t.parts.take i) : Nat))), (9, .slice oa t.parts.length c), (10, .int .i64 (t.parts.length : Nat)), (11, .int .i64 (i : Nat))]) (fun _ => I) (fun _ => L) (fun i => i ≤ t.parts.length) 0 (by omega) ⟨rfl, rfl, rfl, rfl, trivial⟩ (by intro _ h; first | exact h | exact dr1 h | exact dr2 h | exact dr3 h | exact dr4 h | exact dr5 h | exact dr6 h) ?_
      rintro i hi ih
      refine s_seq ?_
      refine o_enter rfl ?_
      refine o_cmp rfl rfl rfl .free rfl ?_
      refine o_done ?_
      refine s_seq ?_
      first | refine s_if rfl ?_ ?_ | refine s_ifn rfl ?_ ?_ | refine s_cond rfl ?_ ?_
      · intro c1
        obtain ⟨x, hx, oa', c', hr, hst⟩ := Rep.at hl hs hn i (by omega)
        have hle := sizeL_le t.parts (i + 1)
        rw [sizeL_take _ _ (by omega)] at hle
        refine s_skip ?_
        refine s_seq ?_
        refine s_block ?_
        refine s_seq ?_
        refine o_enter rfl ?_
        refine o_indexAddr' rfl rfl _ rfl (by first | omega | exact lt_of (by assumption) (by decide) | (simp; done) | (simp; omega) | decide | (simp at *; omega)) (by first | rfl | assumption) .free rfl ?_
        refine o_load rfl (by first | exact loads_still1 (by assumption) rfl | exact loads_ownS (by first | exact m0 | exact m1 | exact m2 | exact m3 | exact m4 | exact m5 | exact m6) (by rfl) | exact loads_own1 (by first | exact m0 | exact m1 | exact m2 | exact m3 | exact m4 | exact m5 | exact m6) (by rfl) rfl | exact loads_stillS (by assumption) (by rfl) | exact loads_stillF (by assumption) (by rfl) rfl) .free rfl ?_
        refine o_alloc .free rfl ?_
        intro b5
        refine o_store rfl rfl rfl rfl (by first | rfl | (simp only [List.toList_toArray, List.all_cons, List.all_nil, plainCell_buf, Bool.and_true, Bool.true_and] <;> rfl)) (by first | exact u0 | exact u1 | exact u2 | exact u3 | exact u4 | exact u5 | exact u6) (by rfl) .free ?_
        refine o_done ?_
        refine o_enter rfl ?_
        refine o_move rfl .free rfl ?_
        refine o_load rfl (by first | exact loads_still1 (by assumption) rfl | exact loads_ownS (by first | exact m0 | exact m1 | exact m2 | exact m3 | exact m4 | exact m5 | exact m6) (by rfl) | exact loads_own1 (by first | exact m0 | exact m1 | exact m2 | exact m3 | exact m4 | exact m5 | exact m6) (by rfl) rfl | exact loads_stillS (by assumption) (by rfl) | exact loads_stillF (by assumption) (by rfl) rfl) .free rfl ?_
        refine o_call rfl .free rfl (ihn (t := t.parts[i]) (by have := t.part_lt i (by omega); omega) hr (by unfold maxN; omega) _) ?_
        rintro _ _ _ _ ⟨rfl, rfl, rfl⟩
        refine o_arith rfl rfl rfl (by omega) .free rfl ?_
        refine o_assign rfl .free rfl ?_
        refine o_done ?_
        refine s_inBlock ?_
        refine o_enter rfl ?_
        refine o_arith rfl rfl rfl (by omega) .free rfl ?_
        refine o_move rfl .free rfl ?_
        refine o_done ?_
        refine s_mem (by intro _ h; first | exact h | exact dr1 h | exact dr2 h | exact dr3 h | exact dr4 h | exact dr5 h | exact dr6 h) (s_env (E' := [(3, .int .i64 ((sizeL (t.parts.take (i + 1)) : Nat))), (9, .slice oa t.parts.length c), (10, .int .i64 (t.parts.length : Nat)), (11, .int .i64 ((i + 1 : Nat)))]) ⟨?_, rfl, rfl, rfl, trivial⟩ (ih (i + 1) (by omega) (by omega)))
        rw [sizeL_take _ _ (by omega)]; rfl
      · intro c1
        refine s_exit rfl ?_
        refine s_seq ?_
        refine o_enter rfl ?_
        refine o_move rfl .free rfl ?_
        refine o_assign rfl .free rfl ?_
        refine o_done ?_
        refine s_ret (.tmp rfl .nil) ?_
        refine done_only rfl (by intro _ h; first | exact h | exact dr1 h | exact dr2 h | exact dr3 h | exact dr4 h | exact dr5 h | exact dr6 h) ?_
        have : i = t.parts.length := by omega
        subst this
        rw [hsz, List.take_length]; rfl

theorem Tree.good_cases {t : Tree} (h : t.good = true) : (t.parts = [] ∧ t.atom ≠ []) ∨ (t.parts ≠ [] ∧ t.atom = []) := by
  cases t with
  | node a ps => cases ps <;> cases a <;> simp_all [Tree.good, Tree.parts, Tree.atom]
theorem Tree.good_part {t : Tree} (h : t.good = true) (i : Nat) (hi : i < t.parts.length) : t.parts[i].good = true := by
  cases t with
  | node a ps => simp [Tree.good] at h; exact goodL_get h.2 i hi

theorem g_l1Size : ∀ (n : Nat) {I : Heap} {t : Tree} {cs : List Value} (_ : SizeOf.sizeOf t < n) (_ : Rep I t cs) (_ : t.good = true) (_ : t.size ≤ maxN) (L : Own),
    Fun Try.prog 20 [.agg cs.toArray] I L (Only (.int .i64 (t.size : Nat)) I L) := by
  intro n
  induction n with
  | zero => intro I t cs h; omega
  | succ n ihn =>
    intro I t cs hlt h hgood hz L
    unfold maxN at hz
    obtain ⟨oa, c, vs, rfl, hl, hs, hn, hc, ha, hp⟩ := h.open
    unfold maxN at hp
    refine fun_intro (by simp) ?_
    refine s_seq ?_
    refine o_enter rfl ?_
    refine o_box rfl rfl .free rfl ?_
    intro b1
    refine o_assign rfl .free rfl ?_
    refine o_done ?_
    refine s_seq ?_
    refine s_seq ?_
    refine o_enter rfl ?_
    first | refine o_fieldAddr rfl .free rfl ?_ | refine o_fieldAddr' rfl .free rfl ?_
    refine o_load rfl (by first | exact loads_still1 (by assumption) rfl | exact loads_ownS (by first | exact m0 | exact m1 | exact m2 | exact m3 | exact m4 | exact m5 | exact m6) (by rfl) | exact loads_own1 (by first | exact m0 | exact m1 | exact m2 | exact m3 | exact m4 | exact m5 | exact m6) (by rfl) rfl | exact loads_stillS (by assumption) (by rfl) | exact loads_stillF (by assumption) (by rfl) rfl) .free rfl ?_
    refine o_cmps rfl rfl rfl .free rfl ?_
    refine o_done ?_
    first | refine s_if rfl ?_ ?_ | refine s_ifn rfl ?_ ?_ | refine s_cond rfl ?_ ?_
    · intro c0
      refine s_seq ?_
      refine o_enter rfl ?_
      refine o_assign rfl .free rfl ?_
      refine o_done ?_
      refine s_ret (.tmp rfl .nil) ?_
      refine done_only rfl (by intro _ h; first | exact h | exact dr1 h | exact dr2 h | exact dr3 h | exact dr4 h | exact dr5 h | exact dr6 h) ?_
      have : t.parts = [] := by rcases t.good_cases hgood with hh | hh <;> simp_all
      rw [t.size_atom this]; rfl
    · intro c0
      have hne : t.parts ≠ [] := by rcases t.good_cases hgood with hh | hh <;> simp_all
      have hsz := t.size_eq hne
      refine s_skip ?_
      refine s_seq ?_
      refine o_enter rfl ?_
      refine o_assign rfl .free rfl ?_
      refine o_done ?_
      refine s_seq ?_
      refine s_seq ?_
      refine o_enter rfl ?_
      refine o_assign rfl .free rfl ?_
      refine o_done ?_
      refine s_block ?_
      refine s_while (X := Nat) (fun i => t.parts.length - i) (fun i => [(1, .pointer (some ⟨b1, 0, none⟩)), (3, .int .i64 ((sizeL (t.parts.take i) : Nat))), (4, .int .i64 (i : Nat))]) (fun _ => I) (fun _ => (b1, .cells [.string (str t.atom), .slice oa t.parts.length c].toArray _ (0, 0)) :: L) (fun i => i ≤ t.parts.length) 0 (by omega) ⟨rfl, rfl, rfl, trivial⟩ (by intro _ h; first | exact h | exact dr1 h | exact dr2 h | exact dr3 h | exact dr4 h | exact dr5 h | exact dr6 h) ?_
      rintro i hi ih
      refine s_seq ?_
      refine s_seq ?_
      refine o_enter rfl ?_
      refine o_move rfl .free rfl ?_
      first | refine o_fieldAddr rfl .free rfl ?_ | refine o_fieldAddr' rfl .free rfl ?_
      refine o_load rfl (by first | exact loads_still1 (by assumption) rfl | exact loads_ownS (by first | exact m0 | exact m1 | exact m2 | exact m3 | exact m4 | exact m5 | exact m6) (by rfl) | exact loads_own1 (by first | exact m0 | exact m1 | exact m2 | exact m3 | exact m4 | exact m5 | exact m6) (by rfl) rfl | exact loads_stillS (by assumption) (by rfl) | exact loads_stillF (by assumption) (by rfl) rfl) .free rfl ?_
      refine o_len_slice rfl .free rfl ?_
      refine o_cmp rfl rfl rfl .free rfl ?_
      refine o_done ?_
      first | refine s_if rfl ?_ ?_ | refine s_ifn rfl ?_ ?_ | refine s_cond rfl ?_ ?_
      · intro c1
        obtain ⟨x, hx, oa', c', hr, hst⟩ := Rep.at hl hs hn i (by omega)
        have hle := sizeL_le t.parts (i + 1)
        rw [sizeL_take _ _ (by omega)] at hle
        refine s_skip ?_
        refine s_seq ?_
        refine s_block ?_
        refine o_enter rfl ?_
        refine o_move rfl .free rfl ?_
        first | refine o_fieldAddr rfl .free rfl ?_ | refine o_fieldAddr' rfl .free rfl ?_
        refine o_load rfl (by first | exact loads_still1 (by assumption) rfl | exact loads_ownS (by first | exact m0 | exact m1 | exact m2 | exact m3 | exact m4 | exact m5 | exact m6) (by rfl) | exact loads_own1 (by first | exact m0 | exact m1 | exact m2 | exact m3 | exact m4 | exact m5 | exact m6) (by rfl) rfl | exact loads_stillS (by assumption) (by rfl) | exact loads_stillF (by assumption) (by rfl) rfl) .free rfl ?_
        refine o_move rfl .free rfl ?_
        refine o_indexAddr' rfl rfl _ rfl (by first | omega | exact lt_of (by assumption) (by decide) | (simp; done) | (simp; omega) | decide | (simp at *; omega)) (by first | rfl | assumption) .free rfl ?_
        refine o_load rfl (by first | exact loads_still1 (by assumption) rfl | exact loads_ownS (by first | exact m0 | exact m1 | exact m2 | exact m3 | exact m4 | exact m5 | exact m6) (by rfl) | exact loads_own1 (by first | exact m0 | exact m1 | exact m2 | exact m3 | exact m4 | exact m5 | exact m6) (by rfl) rfl | exact loads_stillS (by assumption) (by rfl) | exact loads_stillF (by assumption) (by rfl) rfl) .free rfl ?_
        refine o_call rfl .free rfl (ihn (t := t.parts[i]) (by have := t.part_lt i (by omega); omega) hr (t.good_part hgood i (by omega)) (by unfold maxN; omega) _) ?_
        rintro _ _ _ _ ⟨rfl, rfl, rfl⟩
        refine o_arith rfl rfl rfl (by omega) .free rfl ?_
        refine o_assign rfl .free rfl ?_
        refine o_done ?_
        refine s_inBlock ?_
        refine o_enter rfl ?_
        refine o_move rfl .free rfl ?_
        refine o_arith rfl rfl rfl (by omega) .free rfl ?_
        refine o_assign rfl .free rfl ?_
        refine o_done ?_
        refine s_env (E' := [(1, .pointer (some ⟨b1, 0, none⟩)), (3, .int .i64 ((sizeL (t.parts.take (i + 1)) : Nat))), (4, .int .i64 ((i + 1 : Nat)))]) ⟨rfl, ?_, rfl, trivial⟩ (ih (i + 1) (by omega) (by omega))
        rw [sizeL_take _ _ (by omega)]; rfl
      · intro c1
        refine s_exit rfl ?_
        refine s_seq ?_
        refine o_enter rfl ?_
        refine o_move rfl .free rfl ?_
        refine o_assign rfl .free rfl ?_
        refine o_done ?_
        refine s_ret (.tmp rfl .nil) ?_
        refine done_only rfl (by intro _ h; first | exact h | exact dr1 h | exact dr2 h | exact dr3 h | exact dr4 h | exact dr5 h | exact dr6 h) ?_
        have : i = t.parts.length := by omega
        subst this
        rw [hsz, List.take_length]; rfl

theorem isType_atom {t : Tree} (h : t.parts = []) : t.isType = decide (t.atom = [105]) := by
  cases t with
  | node a ps => simp [Tree.parts] at h; subst h; change _ = decide (a = [105]); simp [Tree.isType]
theorem isType_three {t : Tree} (h : t.parts.length = 3) : t.isType = ((t.is [62] 3 || t.is [42] 3) && t.parts[1].isType && t.parts[2].isType) := by
  cases t with
  | node a ps =>
    match ps, h with
    | [p, q, r], _ =>
      change _ = (((decide (3 = 3) && decide (p.atom = [62])) || (decide (3 = 3) && decide (p.atom = [42]))) && q.isType && r.isType)
      simp [Tree.isType]
theorem isType_other {t : Tree} (h0 : t.parts ≠ []) (h : t.parts.length ≠ 3) : t.isType = false := by
  cases t with
  | node a ps =>
    match ps, h0, h with
    | [p], _, _ => simp [Tree.isType]
    | [p, q], _, _ => simp [Tree.isType]
    | p :: q :: r :: s :: us, _, _ => simp [Tree.isType]
    | [p, q, r], _, h => simp [Tree.parts] at h
theorem is_three {t : Tree} {h : Txt} (h3 : t.parts.length = 3) : t.is h 3 = decide (t.parts[0].atom = h) := by
  cases t with
  | node a ps =>
    match ps, h3 with
    | [p, q, r], _ =>
      change (decide (3 = 3) && decide (p.atom = h)) = decide (p.atom = h)
      simp
theorem is_len {t : Tree} {h : Txt} {k : Nat} (hi : t.is h k = true) : t.parts.length = k := by simp [Tree.is] at hi; exact hi.1

theorem f_form_isType : ∀ (n : Nat) {I : Heap} {t : Tree} {cs : List Value} (_ : SizeOf.sizeOf t < n) (_ : Rep I t cs) (L : Own),
    Fun Try.prog 61 [.agg cs.toArray] I L (Only (.bool t.isType) I L) := by
  intro n
  induction n with
  | zero => intro I t cs h; omega
  | succ n ihn =>
    intro I t cs hlt h L
    obtain ⟨oa, c, vs, rfl, hl, hs, hn, hc, ha, hp⟩ := h.open
    refine fun_intro (by simp) ?_
    refine s_seq ?_
    refine o_enter rfl ?_
    refine o_box rfl rfl .free rfl ?_
    intro b1
    refine o_assign rfl .free rfl ?_
    refine o_done ?_
    refine s_seq ?_
    refine s_seq ?_
    refine o_enter rfl ?_
    refine o_load rfl (by first | exact loads_still1 (by assumption) rfl | exact loads_ownS (by first | exact m0 | exact m1 | exact m2 | exact m3 | exact m4 | exact m5 | exact m6) (by rfl) | exact loads_own1 (by first | exact m0 | exact m1 | exact m2 | exact m3 | exact m4 | exact m5 | exact m6) (by rfl) rfl | exact loads_stillS (by assumption) (by rfl) | exact loads_stillF (by assumption) (by rfl) rfl) .free rfl ?_
    refine o_call rfl .free rfl (f_form_isAtom h _) ?_
    rintro _ _ _ _ ⟨rfl, rfl, rfl⟩
    refine o_done ?_
    first | refine s_if rfl ?_ ?_ | refine s_ifn rfl ?_ ?_ | refine s_cond rfl ?_ ?_
    · intro c0
      refine s_seq ?_
      refine o_enter rfl ?_
      first | refine o_fieldAddr rfl .free rfl ?_ | refine o_fieldAddr' rfl .free rfl ?_
      refine o_load rfl (by first | exact loads_still1 (by assumption) rfl | exact loads_ownS (by first | exact m0 | exact m1 | exact m2 | exact m3 | exact m4 | exact m5 | exact m6) (by rfl) | exact loads_own1 (by first | exact m0 | exact m1 | exact m2 | exact m3 | exact m4 | exact m5 | exact m6) (by rfl) rfl | exact loads_stillS (by assumption) (by rfl) | exact loads_stillF (by assumption) (by rfl) rfl) .free rfl ?_
      refine o_cmps rfl rfl rfl .free rfl ?_
      refine o_assign rfl .free rfl ?_
      refine o_done ?_
      refine s_ret (.tmp rfl .nil) ?_
      refine done_only rfl (by intro _ h; first | exact h | exact dr1 h | exact dr2 h | exact dr3 h | exact dr4 h | exact dr5 h | exact dr6 h) ?_
      rw [isType_atom (by simpa using c0)]; rfl
    · intro c0
      have hne : t.parts ≠ [] := by simpa using c0
      refine s_skip ?_
      refine s_seq ?_
      refine o_enter rfl ?_
      refine o_load rfl (by first | exact loads_still1 (by assumption) rfl | exact loads_ownS (by first | exact m0 | exact m1 | exact m2 | exact m3 | exact m4 | exact m5 | exact m6) (by rfl) | exact loads_own1 (by first | exact m0 | exact m1 | exact m2 | exact m3 | exact m4 | exact m5 | exact m6) (by rfl) rfl | exact loads_stillS (by assumption) (by rfl) | exact loads_stillF (by assumption) (by rfl) rfl) .free rfl ?_
      refine o_call rfl .free rfl (f_form_is h _ 3 _) ?_
      rintro _ _ _ _ ⟨rfl, rfl, rfl⟩
      refine o_move rfl .free rfl ?_
      first | refine g_if rfl rfl ?_ ?_ | refine g_ifn rfl rfl ?_ ?_ | refine g_b rfl rfl ?_ ?_
      · intro g3_3
        have h3 := is_len g3_3
        obtain ⟨x, hx, oa1, c1, hr1, hst1⟩ := Rep.at hl hs hn 1 (by omega)
        obtain ⟨x', hx', oa2, c2, hr2, hst2⟩ := Rep.at hl hs hn 2 (by omega)
        obtain rfl : x = x' := by rw [hx] at hx'; exact Option.some.inj hx'
        refine o_skip rfl rfl rfl ?_
        refine o_skip rfl rfl rfl ?_
        refine o_pick_true rfl rfl .free rfl ?_
        refine o_move rfl .free rfl ?_
        first | refine o_fieldAddr rfl (.met rfl rfl) rfl ?_ | refine o_fieldAddr' rfl (.met rfl rfl) rfl ?_
        refine o_load rfl (by first | exact loads_still1 (by assumption) rfl | exact loads_ownS (by first | exact m0 | exact m1 | exact m2 | exact m3 | exact m4 | exact m5 | exact m6) (by rfl) | exact loads_own1 (by first | exact m0 | exact m1 | exact m2 | exact m3 | exact m4 | exact m5 | exact m6) (by rfl) rfl | exact loads_stillS (by assumption) (by rfl) | exact loads_stillF (by assumption) (by rfl) rfl) (.met rfl rfl) rfl ?_
        refine o_indexAddr' rfl rfl 1 rfl (by first | omega | exact lt_of (by assumption) (by decide) | (simp; done) | (simp; omega) | decide | (simp at *; omega)) (by first | rfl | assumption) (.met rfl rfl) rfl ?_
        refine o_load rfl (by first | exact loads_still1 (by assumption) rfl | exact loads_ownS (by first | exact m0 | exact m1 | exact m2 | exact m3 | exact m4 | exact m5 | exact m6) (by rfl) | exact loads_own1 (by first | exact m0 | exact m1 | exact m2 | exact m3 | exact m4 | exact m5 | exact m6) (by rfl) rfl | exact loads_stillS (by assumption) (by rfl) | exact loads_stillF (by assumption) (by rfl) rfl) (.met rfl rfl) rfl ?_
        refine o_call rfl (.met rfl rfl) rfl (ihn (t := t.parts[1]) (by have := t.part_lt 1 (by omega); omega) hr1 _) ?_
        rintro _ _ _ _ ⟨rfl, rfl, rfl⟩
        refine o_pick_true rfl rfl .free rfl ?_
        refine o_move rfl .free rfl ?_
        first | refine g_if rfl rfl ?_ ?_ | refine g_ifn rfl rfl ?_ ?_ | refine g_b rfl rfl ?_ ?_
        · intro g3_14
          first | refine o_fieldAddr rfl (.met rfl rfl) rfl ?_ | refine o_fieldAddr' rfl (.met rfl rfl) rfl ?_
          refine o_load rfl (by first | exact loads_still1 (by assumption) rfl | exact loads_ownS (by first | exact m0 | exact m1 | exact m2 | exact m3 | exact m4 | exact m5 | exact m6) (by rfl) | exact loads_own1 (by first | exact m0 | exact m1 | exact m2 | exact m3 | exact m4 | exact m5 | exact m6) (by rfl) rfl | exact loads_stillS (by assumption) (by rfl) | exact loads_stillF (by assumption) (by rfl) rfl) (.met rfl rfl) rfl ?_
          refine o_indexAddr' rfl rfl 2 rfl (by first | omega | exact lt_of (by assumption) (by decide) | (simp; done) | (simp; omega) | decide | (simp at *; omega)) (by first | rfl | assumption) (.met rfl rfl) rfl ?_
          refine o_load rfl (by first | exact loads_still1 (by assumption) rfl | exact loads_ownS (by first | exact m0 | exact m1 | exact m2 | exact m3 | exact m4 | exact m5 | exact m6) (by rfl) | exact loads_own1 (by first | exact m0 | exact m1 | exact m2 | exact m3 | exact m4 | exact m5 | exact m6) (by rfl) rfl | exact loads_stillS (by assumption) (by rfl) | exact loads_stillF (by assumption) (by rfl) rfl) (.met rfl rfl) rfl ?_
          refine o_call rfl (.met rfl rfl) rfl (ihn (t := t.parts[2]) (by have := t.part_lt 2 (by omega); omega) hr2 _) ?_
          rintro _ _ _ _ ⟨rfl, rfl, rfl⟩
          refine o_pick_true rfl rfl .free rfl ?_
          refine o_assign rfl .free rfl ?_
          refine o_done ?_
          refine s_ret (.tmp rfl .nil) ?_
          refine done_only rfl (by intro _ h; first | exact h | exact dr1 h | exact dr2 h | exact dr3 h | exact dr4 h | exact dr5 h | exact dr6 h) ?_
          refine congrArg Value.bool ?_
          by_cases h3 : t.parts.length = 3
          · rw [isType_three h3]; simp [*]
          · first | (rw [isType_other hne h3]; done) | (exfalso; omega)
        · intro g3_14
          iterate 5 refine o_skip rfl rfl rfl ?_
          refine o_pick_false rfl rfl .free rfl ?_
          refine o_assign rfl .free rfl ?_
          refine o_done ?_
          refine s_ret (.tmp rfl .nil) ?_
          refine done_only rfl (by intro _ h; first | exact h | exact dr1 h | exact dr2 h | exact dr3 h | exact dr4 h | exact dr5 h | exact dr6 h) ?_
          refine congrArg Value.bool ?_
          by_cases h3 : t.parts.length = 3
          · rw [isType_three h3]; simp [*]
          · first | (rw [isType_other hne h3]; done) | (exfalso; omega)
      · intro g3_3
        refine o_load rfl (by first | exact loads_still1 (by assumption) rfl | exact loads_ownS (by first | exact m0 | exact m1 | exact m2 | exact m3 | exact m4 | exact m5 | exact m6) (by rfl) | exact loads_own1 (by first | exact m0 | exact m1 | exact m2 | exact m3 | exact m4 | exact m5 | exact m6) (by rfl) rfl | exact loads_stillS (by assumption) (by rfl) | exact loads_stillF (by assumption) (by rfl) rfl) (.met rfl rfl) rfl ?_
        refine o_call rfl (.met rfl rfl) rfl (f_form_is h _ 3 _) ?_
        rintro _ _ _ _ ⟨rfl, rfl, rfl⟩
        refine o_pick_false rfl rfl .free rfl ?_
        refine o_move rfl .free rfl ?_
        first | refine g_if rfl rfl ?_ ?_ | refine g_ifn rfl rfl ?_ ?_ | refine g_b rfl rfl ?_ ?_
        · intro g3_7
          have h3 := is_len g3_7
          obtain ⟨x, hx, oa1, c1, hr1, hst1⟩ := Rep.at hl hs hn 1 (by omega)
          obtain ⟨x', hx', oa2, c2, hr2, hst2⟩ := Rep.at hl hs hn 2 (by omega)
          obtain rfl : x = x' := by rw [hx] at hx'; exact Option.some.inj hx'
          first | refine o_fieldAddr rfl (.met rfl rfl) rfl ?_ | refine o_fieldAddr' rfl (.met rfl rfl) rfl ?_
          refine o_load rfl (by first | exact loads_still1 (by assumption) rfl | exact loads_ownS (by first | exact m0 | exact m1 | exact m2 | exact m3 | exact m4 | exact m5 | exact m6) (by rfl) | exact loads_own1 (by first | exact m0 | exact m1 | exact m2 | exact m3 | exact m4 | exact m5 | exact m6) (by rfl) rfl | exact loads_stillS (by assumption) (by rfl) | exact loads_stillF (by assumption) (by rfl) rfl) (.met rfl rfl) rfl ?_
          refine o_indexAddr' rfl rfl 1 rfl (by first | omega | exact lt_of (by assumption) (by decide) | (simp; done) | (simp; omega) | decide | (simp at *; omega)) (by first | rfl | assumption) (.met rfl rfl) rfl ?_
          refine o_load rfl (by first | exact loads_still1 (by assumption) rfl | exact loads_ownS (by first | exact m0 | exact m1 | exact m2 | exact m3 | exact m4 | exact m5 | exact m6) (by rfl) | exact loads_own1 (by first | exact m0 | exact m1 | exact m2 | exact m3 | exact m4 | exact m5 | exact m6) (by rfl) rfl | exact loads_stillS (by assumption) (by rfl) | exact loads_stillF (by assumption) (by rfl) rfl) (.met rfl rfl) rfl ?_
          refine o_call rfl (.met rfl rfl) rfl (ihn (t := t.parts[1]) (by have := t.part_lt 1 (by omega); omega) hr1 _) ?_
          rintro _ _ _ _ ⟨rfl, rfl, rfl⟩
          refine o_pick_true rfl rfl .free rfl ?_
          refine o_move rfl .free rfl ?_
          first | refine g_if rfl rfl ?_ ?_ | refine g_ifn rfl rfl ?_ ?_ | refine g_b rfl rfl ?_ ?_
          · intro g3_14
            first | refine o_fieldAddr rfl (.met rfl rfl) rfl ?_ | refine o_fieldAddr' rfl (.met rfl rfl) rfl ?_
            refine o_load rfl (by first | exact loads_still1 (by assumption) rfl | exact loads_ownS (by first | exact m0 | exact m1 | exact m2 | exact m3 | exact m4 | exact m5 | exact m6) (by rfl) | exact loads_own1 (by first | exact m0 | exact m1 | exact m2 | exact m3 | exact m4 | exact m5 | exact m6) (by rfl) rfl | exact loads_stillS (by assumption) (by rfl) | exact loads_stillF (by assumption) (by rfl) rfl) (.met rfl rfl) rfl ?_
            refine o_indexAddr' rfl rfl 2 rfl (by first | omega | exact lt_of (by assumption) (by decide) | (simp; done) | (simp; omega) | decide | (simp at *; omega)) (by first | rfl | assumption) (.met rfl rfl) rfl ?_
            refine o_load rfl (by first | exact loads_still1 (by assumption) rfl | exact loads_ownS (by first | exact m0 | exact m1 | exact m2 | exact m3 | exact m4 | exact m5 | exact m6) (by rfl) | exact loads_own1 (by first | exact m0 | exact m1 | exact m2 | exact m3 | exact m4 | exact m5 | exact m6) (by rfl) rfl | exact loads_stillS (by assumption) (by rfl) | exact loads_stillF (by assumption) (by rfl) rfl) (.met rfl rfl) rfl ?_
            refine o_call rfl (.met rfl rfl) rfl (ihn (t := t.parts[2]) (by have := t.part_lt 2 (by omega); omega) hr2 _) ?_
            rintro _ _ _ _ ⟨rfl, rfl, rfl⟩
            refine o_pick_true rfl rfl .free rfl ?_
            refine o_assign rfl .free rfl ?_
            refine o_done ?_
            refine s_ret (.tmp rfl .nil) ?_
            refine done_only rfl (by intro _ h; first | exact h | exact dr1 h | exact dr2 h | exact dr3 h | exact dr4 h | exact dr5 h | exact dr6 h) ?_
            refine congrArg Value.bool ?_
            by_cases h3 : t.parts.length = 3
            · rw [isType_three h3]; simp [*]
            · first | (rw [isType_other hne h3]; done) | (exfalso; omega)
          · intro g3_14
            iterate 5 refine o_skip rfl rfl rfl ?_
            refine o_pick_false rfl rfl .free rfl ?_
            refine o_assign rfl .free rfl ?_
            refine o_done ?_
            refine s_ret (.tmp rfl .nil) ?_
            refine done_only rfl (by intro _ h; first | exact h | exact dr1 h | exact dr2 h | exact dr3 h | exact dr4 h | exact dr5 h | exact dr6 h) ?_
            refine congrArg Value.bool ?_
            by_cases h3 : t.parts.length = 3
            · rw [isType_three h3]; simp [*]
            · first | (rw [isType_other hne h3]; done) | (exfalso; omega)
        · intro g3_7
          iterate 5 refine o_skip rfl rfl rfl ?_
          refine o_pick_false rfl rfl .free rfl ?_
          refine o_move rfl .free rfl ?_
          iterate 5 refine o_skip rfl rfl rfl ?_
          refine o_pick_false rfl rfl .free rfl ?_
          refine o_assign rfl .free rfl ?_
          refine o_done ?_
          refine s_ret (.tmp rfl .nil) ?_
          refine done_only rfl (by intro _ h; first | exact h | exact dr1 h | exact dr2 h | exact dr3 h | exact dr4 h | exact dr5 h | exact dr6 h) ?_
          refine congrArg Value.bool ?_
          by_cases h3 : t.parts.length = 3
          · rw [isType_three h3]; simp [*]
          · first | (rw [isType_other hne h3]; done) | (exfalso; omega)

theorem g_l1Type : ∀ (n : Nat) {I : Heap} {t : Tree} {cs : List Value} (_ : SizeOf.sizeOf t < n) (_ : Rep I t cs) (_ : t.good = true) (L : Own),
    Fun Try.prog 56 [.agg cs.toArray] I L (Only (.bool t.isType) I L) := by
  intro n
  induction n with
  | zero => intro I t cs h; omega
  | succ n ihn =>
    intro I t cs hlt h hgood L
    obtain ⟨oa, c, vs, rfl, hl, hs, hn, hc, ha, hp⟩ := h.open
    refine fun_intro (by simp) ?_
    refine s_seq ?_
    refine o_enter rfl ?_
    refine o_box rfl rfl .free rfl ?_
    intro b1
    refine o_assign rfl .free rfl ?_
    refine o_done ?_
    refine s_seq ?_
    refine s_seq ?_
    refine o_enter rfl ?_
    first | refine o_fieldAddr rfl .free rfl ?_ | refine o_fieldAddr' rfl .free rfl ?_
    refine o_load rfl (by first | exact loads_still1 (by assumption) rfl | exact loads_ownS (by first | exact m0 | exact m1 | exact m2 | exact m3 | exact m4 | exact m5 | exact m6) (by rfl) | exact loads_own1 (by first | exact m0 | exact m1 | exact m2 | exact m3 | exact m4 | exact m5 | exact m6) (by rfl) rfl | exact loads_stillS (by assumption) (by rfl) | exact loads_stillF (by assumption) (by rfl) rfl) .free rfl ?_
    refine o_cmps rfl rfl rfl .free rfl ?_
    refine o_done ?_
    first | refine s_if rfl ?_ ?_ | refine s_ifn rfl ?_ ?_ | refine s_cond rfl ?_ ?_
    · intro c0
      refine s_seq ?_
      refine o_enter rfl ?_
      first | refine o_fieldAddr rfl .free rfl ?_ | refine o_fieldAddr' rfl .free rfl ?_
      refine o_load rfl (by first | exact loads_still1 (by assumption) rfl | exact loads_ownS (by first | exact m0 | exact m1 | exact m2 | exact m3 | exact m4 | exact m5 | exact m6) (by rfl) | exact loads_own1 (by first | exact m0 | exact m1 | exact m2 | exact m3 | exact m4 | exact m5 | exact m6) (by rfl) rfl | exact loads_stillS (by assumption) (by rfl) | exact loads_stillF (by assumption) (by rfl) rfl) .free rfl ?_
      refine o_cmps rfl rfl rfl .free rfl ?_
      refine o_assign rfl .free rfl ?_
      refine o_done ?_
      refine s_ret (.tmp rfl .nil) ?_
      refine done_only rfl (by intro _ h; first | exact h | exact dr1 h | exact dr2 h | exact dr3 h | exact dr4 h | exact dr5 h | exact dr6 h) ?_
      rw [isType_atom (by rcases t.good_cases hgood with hh | hh <;> simp_all)]; rfl
    · intro c0
      have hne : t.parts ≠ [] := by rcases t.good_cases hgood with hh | hh <;> simp_all
      refine s_skip ?_
      refine s_seq ?_
      refine s_seq ?_
      refine o_enter rfl ?_
      first | refine o_fieldAddr rfl .free rfl ?_ | refine o_fieldAddr' rfl .free rfl ?_
      refine o_load rfl (by first | exact loads_still1 (by assumption) rfl | exact loads_ownS (by first | exact m0 | exact m1 | exact m2 | exact m3 | exact m4 | exact m5 | exact m6) (by rfl) | exact loads_own1 (by first | exact m0 | exact m1 | exact m2 | exact m3 | exact m4 | exact m5 | exact m6) (by rfl) rfl | exact loads_stillS (by assumption) (by rfl) | exact loads_stillF (by assumption) (by rfl) rfl) .free rfl ?_
      refine o_len_slice rfl .free rfl ?_
      refine o_cmp rfl rfl rfl .free rfl ?_
      refine o_move rfl .free rfl ?_
      first | refine g_if rfl rfl ?_ ?_ | refine g_ifn rfl rfl ?_ ?_ | refine g_b rfl rfl ?_ ?_
      · intro g3_5
        iterate 7 refine o_skip rfl rfl rfl ?_
        iterate 6 refine o_skipu rfl rfl rfl ?_
        refine o_skip rfl rfl rfl ?_
        refine o_pick_true rfl rfl .free rfl ?_
        refine o_done ?_
        refine s_true rfl ?_
        refine s_seq ?_
        refine o_enter rfl ?_
        refine o_assign rfl .free rfl ?_
        refine o_done ?_
        refine s_ret (.tmp rfl .nil) ?_
        refine done_only rfl (by intro _ h; first | exact h | exact dr1 h | exact dr2 h | exact dr3 h | exact dr4 h | exact dr5 h | exact dr6 h) ?_
        refine congrArg Value.bool ?_
        by_cases h3 : t.parts.length = 3
        · rw [isType_three h3, is_three h3, is_three h3]; grind
        · first | (rw [isType_other hne h3]; done) | (exfalso; omega)
      · intro g3_5
        have h3 : t.parts.length = 3 := by omega
        obtain ⟨x, hx, oa0, c0', hr0, hst0⟩ := Rep.at hl hs hn 0 (by omega)
        obtain ⟨x', hx', oa1, c1', hr1, hst1⟩ := Rep.at hl hs hn 1 (by omega)
        obtain rfl : x = x' := by rw [hx] at hx'; exact Option.some.inj hx'
        obtain ⟨x', hx', oa2, c2', hr2, hst2⟩ := Rep.at hl hs hn 2 (by omega)
        obtain rfl : x = x' := by rw [hx] at hx'; exact Option.some.inj hx'
        first | refine o_fieldAddr rfl (.met rfl rfl) rfl ?_ | refine o_fieldAddr' rfl (.met rfl rfl) rfl ?_
        refine o_load rfl (by first | exact loads_still1 (by assumption) rfl | exact loads_ownS (by first | exact m0 | exact m1 | exact m2 | exact m3 | exact m4 | exact m5 | exact m6) (by rfl) | exact loads_own1 (by first | exact m0 | exact m1 | exact m2 | exact m3 | exact m4 | exact m5 | exact m6) (by rfl) rfl | exact loads_stillS (by assumption) (by rfl) | exact loads_stillF (by assumption) (by rfl) rfl) (.met rfl rfl) rfl ?_
        refine o_indexAddr' rfl rfl 0 rfl (by first | omega | exact lt_of (by assumption) (by decide) | (simp; done) | (simp; omega) | decide | (simp at *; omega)) (by first | rfl | assumption) (.met rfl rfl) rfl ?_
        first | refine o_fieldAddr rfl (.met rfl rfl) rfl ?_ | refine o_fieldAddr' rfl (.met rfl rfl) rfl ?_
        refine o_load rfl (by first | exact loads_still1 (by assumption) rfl | exact loads_ownS (by first | exact m0 | exact m1 | exact m2 | exact m3 | exact m4 | exact m5 | exact m6) (by rfl) | exact loads_own1 (by first | exact m0 | exact m1 | exact m2 | exact m3 | exact m4 | exact m5 | exact m6) (by rfl) rfl | exact loads_stillS (by assumption) (by rfl) | exact loads_stillF (by assumption) (by rfl) rfl) (.met rfl rfl) rfl ?_
        refine o_cmps rfl rfl rfl (.met rfl rfl) rfl ?_
        refine o_move rfl (.met rfl rfl) rfl ?_
        first | refine g_if rfl rfl ?_ ?_ | refine g_ifn rfl rfl ?_ ?_ | refine g_b rfl rfl ?_ ?_
        · intro g3_12
          first | refine o_fieldAddr rfl (.met rfl rfl) rfl ?_ | refine o_fieldAddr' rfl (.met rfl rfl) rfl ?_
          refine o_load rfl (by first | exact loads_still1 (by assumption) rfl | exact loads_ownS (by first | exact m0 | exact m1 | exact m2 | exact m3 | exact m4 | exact m5 | exact m6) (by rfl) | exact loads_own1 (by first | exact m0 | exact m1 | exact m2 | exact m3 | exact m4 | exact m5 | exact m6) (by rfl) rfl | exact loads_stillS (by assumption) (by rfl) | exact loads_stillF (by assumption) (by rfl) rfl) (.met rfl rfl) rfl ?_
          refine o_indexAddr' rfl rfl 0 rfl (by first | omega | exact lt_of (by assumption) (by decide) | (simp; done) | (simp; omega) | decide | (simp at *; omega)) (by first | rfl | assumption) (.met rfl rfl) rfl ?_
          first | refine o_fieldAddr rfl (.met rfl rfl) rfl ?_ | refine o_fieldAddr' rfl (.met rfl rfl) rfl ?_
          refine o_load rfl (by first | exact loads_still1 (by assumption) rfl | exact loads_ownS (by first | exact m0 | exact m1 | exact m2 | exact m3 | exact m4 | exact m5 | exact m6) (by rfl) | exact loads_own1 (by first | exact m0 | exact m1 | exact m2 | exact m3 | exact m4 | exact m5 | exact m6) (by rfl) rfl | exact loads_stillS (by assumption) (by rfl) | exact loads_stillF (by assumption) (by rfl) rfl) (.met rfl rfl) rfl ?_
          refine o_cmps rfl rfl rfl (.met rfl rfl) rfl ?_
          refine o_pick_true rfl rfl (.met rfl rfl) rfl ?_
          refine o_pick_false rfl rfl .free rfl ?_
          refine o_done ?_
          first | refine s_if rfl ?_ ?_ | refine s_ifn rfl ?_ ?_ | refine s_cond rfl ?_ ?_
          · intro c1
            refine s_seq ?_
            refine o_enter rfl ?_
            refine o_assign rfl .free rfl ?_
            refine o_done ?_
            refine s_ret (.tmp rfl .nil) ?_
            refine done_only rfl (by intro _ h; first | exact h | exact dr1 h | exact dr2 h | exact dr3 h | exact dr4 h | exact dr5 h | exact dr6 h) ?_
            refine congrArg Value.bool ?_
            by_cases h3 : t.parts.length = 3
            · rw [isType_three h3, is_three h3, is_three h3]; grind
            · first | (rw [isType_other hne h3]; done) | (exfalso; omega)
          · intro c1
            refine s_skip ?_
            refine s_seq ?_
            refine o_enter rfl ?_
            first | refine o_fieldAddr rfl .free rfl ?_ | refine o_fieldAddr' rfl .free rfl ?_
            refine o_load rfl (by first | exact loads_still1 (by assumption) rfl | exact loads_ownS (by first | exact m0 | exact m1 | exact m2 | exact m3 | exact m4 | exact m5 | exact m6) (by rfl) | exact loads_own1 (by first | exact m0 | exact m1 | exact m2 | exact m3 | exact m4 | exact m5 | exact m6) (by rfl) rfl | exact loads_stillS (by assumption) (by rfl) | exact loads_stillF (by assumption) (by rfl) rfl) .free rfl ?_
            refine o_indexAddr' rfl rfl 1 rfl (by first | omega | exact lt_of (by assumption) (by decide) | (simp; done) | (simp; omega) | decide | (simp at *; omega)) (by first | rfl | assumption) .free rfl ?_
            refine o_load rfl (by first | exact loads_still1 (by assumption) rfl | exact loads_ownS (by first | exact m0 | exact m1 | exact m2 | exact m3 | exact m4 | exact m5 | exact m6) (by rfl) | exact loads_own1 (by first | exact m0 | exact m1 | exact m2 | exact m3 | exact m4 | exact m5 | exact m6) (by rfl) rfl | exact loads_stillS (by assumption) (by rfl) | exact loads_stillF (by assumption) (by rfl) rfl) .free rfl ?_
            refine o_call rfl .free rfl (ihn (t := t.parts[1]) (by have := t.part_lt 1 (by omega); omega) hr1 (t.good_part hgood 1 (by omega)) _) ?_
            rintro _ _ _ _ ⟨rfl, rfl, rfl⟩
            refine o_move rfl .free rfl ?_
            first | refine g_if rfl rfl ?_ ?_ | refine g_ifn rfl rfl ?_ ?_ | refine g_b rfl rfl ?_ ?_
            · intro g5_6
              first | refine o_fieldAddr rfl (.met rfl rfl) rfl ?_ | refine o_fieldAddr' rfl (.met rfl rfl) rfl ?_
              refine o_load rfl (by first | exact loads_still1 (by assumption) rfl | exact loads_ownS (by first | exact m0 | exact m1 | exact m2 | exact m3 | exact m4 | exact m5 | exact m6) (by rfl) | exact loads_own1 (by first | exact m0 | exact m1 | exact m2 | exact m3 | exact m4 | exact m5 | exact m6) (by rfl) rfl | exact loads_stillS (by assumption) (by rfl) | exact loads_stillF (by assumption) (by rfl) rfl) (.met rfl rfl) rfl ?_
              refine o_indexAddr' rfl rfl 2 rfl (by first | omega | exact lt_of (by assumption) (by decide) | (simp; done) | (simp; omega) | decide | (simp at *; omega)) (by first | rfl | assumption) (.met rfl rfl) rfl ?_
              refine o_load rfl (by first | exact loads_still1 (by assumption) rfl | exact loads_ownS (by first | exact m0 | exact m1 | exact m2 | exact m3 | exact m4 | exact m5 | exact m6) (by rfl) | exact loads_own1 (by first | exact m0 | exact m1 | exact m2 | exact m3 | exact m4 | exact m5 | exact m6) (by rfl) rfl | exact loads_stillS (by assumption) (by rfl) | exact loads_stillF (by assumption) (by rfl) rfl) (.met rfl rfl) rfl ?_
              refine o_call rfl (.met rfl rfl) rfl (ihn (t := t.parts[2]) (by have := t.part_lt 2 (by omega); omega) hr2 (t.good_part hgood 2 (by omega)) _) ?_
              rintro _ _ _ _ ⟨rfl, rfl, rfl⟩
              refine o_pick_true rfl rfl .free rfl ?_
              refine o_assign rfl .free rfl ?_
              refine o_done ?_
              refine s_ret (.tmp rfl .nil) ?_
              refine done_only rfl (by intro _ h; first | exact h | exact dr1 h | exact dr2 h | exact dr3 h | exact dr4 h | exact dr5 h | exact dr6 h) ?_
              refine congrArg Value.bool ?_
              by_cases h3 : t.parts.length = 3
              · rw [isType_three h3, is_three h3, is_three h3]; grind
              · first | (rw [isType_other hne h3]; done) | (exfalso; omega)
            · intro g5_6
              iterate 5 refine o_skip rfl rfl rfl ?_
              refine o_pick_false rfl rfl .free rfl ?_
              refine o_assign rfl .free rfl ?_
              refine o_done ?_
              refine s_ret (.tmp rfl .nil) ?_
              refine done_only rfl (by intro _ h; first | exact h | exact dr1 h | exact dr2 h | exact dr3 h | exact dr4 h | exact dr5 h | exact dr6 h) ?_
              refine congrArg Value.bool ?_
              by_cases h3 : t.parts.length = 3
              · rw [isType_three h3, is_three h3, is_three h3]; grind
              · first | (rw [isType_other hne h3]; done) | (exfalso; omega)
        · intro g3_12
          iterate 6 refine o_skip rfl rfl rfl ?_
          refine o_pick_false rfl rfl (.met rfl rfl) rfl ?_
          refine o_pick_false rfl rfl .free rfl ?_
          refine o_done ?_
          refine s_false rfl ?_
          refine s_skip ?_
          refine s_seq ?_
          refine o_enter rfl ?_
          first | refine o_fieldAddr rfl .free rfl ?_ | refine o_fieldAddr' rfl .free rfl ?_
          refine o_load rfl (by first | exact loads_still1 (by assumption) rfl | exact loads_ownS (by first | exact m0 | exact m1 | exact m2 | exact m3 | exact m4 | exact m5 | exact m6) (by rfl) | exact loads_own1 (by first | exact m0 | exact m1 | exact m2 | exact m3 | exact m4 | exact m5 | exact m6) (by rfl) rfl | exact loads_stillS (by assumption) (by rfl) | exact loads_stillF (by assumption) (by rfl) rfl) .free rfl ?_
          refine o_indexAddr' rfl rfl 1 rfl (by first | omega | exact lt_of (by assumption) (by decide) | (simp; done) | (simp; omega) | decide | (simp at *; omega)) (by first | rfl | assumption) .free rfl ?_
          refine o_load rfl (by first | exact loads_still1 (by assumption) rfl | exact loads_ownS (by first | exact m0 | exact m1 | exact m2 | exact m3 | exact m4 | exact m5 | exact m6) (by rfl) | exact loads_own1 (by first | exact m0 | exact m1 | exact m2 | exact m3 | exact m4 | exact m5 | exact m6) (by rfl) rfl | exact loads_stillS (by assumption) (by rfl) | exact loads_stillF (by assumption) (by rfl) rfl) .free rfl ?_
          refine o_call rfl .free rfl (ihn (t := t.parts[1]) (by have := t.part_lt 1 (by omega); omega) hr1 (t.good_part hgood 1 (by omega)) _) ?_
          rintro _ _ _ _ ⟨rfl, rfl, rfl⟩
          refine o_move rfl .free rfl ?_
          first | refine g_if rfl rfl ?_ ?_ | refine g_ifn rfl rfl ?_ ?_ | refine g_b rfl rfl ?_ ?_
          · intro g5_6
            first | refine o_fieldAddr rfl (.met rfl rfl) rfl ?_ | refine o_fieldAddr' rfl (.met rfl rfl) rfl ?_
            refine o_load rfl (by first | exact loads_still1 (by assumption) rfl | exact loads_ownS (by first | exact m0 | exact m1 | exact m2 | exact m3 | exact m4 | exact m5 | exact m6) (by rfl) | exact loads_own1 (by first | exact m0 | exact m1 | exact m2 | exact m3 | exact m4 | exact m5 | exact m6) (by rfl) rfl | exact loads_stillS (by assumption) (by rfl) | exact loads_stillF (by assumption) (by rfl) rfl) (.met rfl rfl) rfl ?_
            refine o_indexAddr' rfl rfl 2 rfl (by first | omega | exact lt_of (by assumption) (by decide) | (simp; done) | (simp; omega) | decide | (simp at *; omega)) (by first | rfl | assumption) (.met rfl rfl) rfl ?_
            refine o_load rfl (by first | exact loads_still1 (by assumption) rfl | exact loads_ownS (by first | exact m0 | exact m1 | exact m2 | exact m3 | exact m4 | exact m5 | exact m6) (by rfl) | exact loads_own1 (by first | exact m0 | exact m1 | exact m2 | exact m3 | exact m4 | exact m5 | exact m6) (by rfl) rfl | exact loads_stillS (by assumption) (by rfl) | exact loads_stillF (by assumption) (by rfl) rfl) (.met rfl rfl) rfl ?_
            refine o_call rfl (.met rfl rfl) rfl (ihn (t := t.parts[2]) (by have := t.part_lt 2 (by omega); omega) hr2 (t.good_part hgood 2 (by omega)) _) ?_
            rintro _ _ _ _ ⟨rfl, rfl, rfl⟩
            refine o_pick_true rfl rfl .free rfl ?_
            refine o_assign rfl .free rfl ?_
            refine o_done ?_
            refine s_ret (.tmp rfl .nil) ?_
            refine done_only rfl (by intro _ h; first | exact h | exact dr1 h | exact dr2 h | exact dr3 h | exact dr4 h | exact dr5 h | exact dr6 h) ?_
            refine congrArg Value.bool ?_
            by_cases h3 : t.parts.length = 3
            · rw [isType_three h3, is_three h3, is_three h3]; grind
            · first | (rw [isType_other hne h3]; done) | (exfalso; omega)
          · intro g5_6
            iterate 5 refine o_skip rfl rfl rfl ?_
            refine o_pick_false rfl rfl .free rfl ?_
            refine o_assign rfl .free rfl ?_
            refine o_done ?_
            refine s_ret (.tmp rfl .nil) ?_
            refine done_only rfl (by intro _ h; first | exact h | exact dr1 h | exact dr2 h | exact dr3 h | exact dr4 h | exact dr5 h | exact dr6 h) ?_
            refine congrArg Value.bool ?_
            by_cases h3 : t.parts.length = 3
            · rw [isType_three h3, is_three h3, is_three h3]; grind
            · first | (rw [isType_other hne h3]; done) | (exfalso; omega)
end Go.Proofs.Ytekfjhopngcneaa
