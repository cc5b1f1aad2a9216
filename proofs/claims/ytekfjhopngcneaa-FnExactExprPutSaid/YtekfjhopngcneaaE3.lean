
/- Depth, length and fit of forms; which forms are expressions. No conditions. -/
import Derived.Test.YtekfjhopngcneaaA1
import Derived.Test.YtekfjhopngcneaaM3
namespace Go.Proofs.Ytekfjhopngcneaa
set_option maxRecDepth 100000
set_option linter.unusedVariables false
set_option linter.unusedSimpArgs false

/-- The post of a function that only computes: what it wrote is forgotten. -/
theorem done_fgt {I I' : Heap} {L L₀ : Own} {v u : Value} (hle : HLe I I') (hm : ∀ w, Mem I' L w → Mem I' L₀ w) (h : v = u) : ∃ I₁ L', HLe I I₁ ∧ (∀ w, Mem I' L w → Mem I₁ L' w) ∧ Only u I L₀ v I₁ L' :=
  ⟨I, L₀, .refl _, fun w hw => (hm w hw).le hle, h.symm, rfl, rfl⟩
theorem depthL_append : ∀ (a b : List Tree), depthL (a ++ b) = max (depthL a) (depthL b)
  | [], b => by simp [depthL]
  | t :: a, b => by simp only [List.cons_append, depthL, depthL_append a b]; omega
theorem depthL_take (ps : List Tree) (i : Nat) (hi : i < ps.length) : depthL (ps.take (i + 1)) = max (depthL (ps.take i)) ps[i].depth := by
  rw [List.take_succ_eq_append_getElem hi, depthL_append]; simp [depthL]
theorem lenL_append : ∀ (a b : List Tree), lenL (a ++ b) = lenL a + lenL b
  | [], b => by simp [lenL]
  | t :: a, b => by simp [lenL, lenL_append a b]; omega
theorem lenL_take (ps : List Tree) (i : Nat) (hi : i < ps.length) : lenL (ps.take (i + 1)) = lenL (ps.take i) + ps[i].len + 1 := by
  rw [List.take_succ_eq_append_getElem hi, lenL_append]; simp [lenL]; omega
theorem lenL_le (ps : List Tree) (i : Nat) : lenL (ps.take i) ≤ lenL ps := by
  have h := lenL_append (ps.take i) (ps.drop i)
  rw [List.take_append_drop] at h
  omega
theorem Tree.len_eq (t : Tree) (h : t.parts ≠ []) : t.len = 1 + lenL t.parts := by
  cases t with
  | node a ps => cases ps with
    | nil => exact absurd rfl h
    | cons p ps => rfl
theorem Tree.len_atom (t : Tree) (h : t.parts = []) : t.len = t.atom.length := by
  cases t with
  | node a ps => simp [Tree.parts] at h; subst h; rfl
theorem Tree.depth_eq (t : Tree) (h : t.parts ≠ []) : t.depth = depthL t.parts + 1 := by
  cases t with
  | node a ps => cases ps with
    | nil => exact absurd rfl h
    | cons p ps => rfl
theorem Tree.depth_atom (t : Tree) (h : t.parts = []) : t.depth = 0 := by
  cases t with
  | node a ps => simp [Tree.parts] at h; subst h; rfl
theorem Tree.pt_len (t : Tree) (i : Nat) (hi : i < t.parts.length) : (t.pt i).len + 2 ≤ t.len := by
  rw [Tree.pt_at hi]
  have h1 := lenL_le t.parts (i + 1)
  rw [lenL_take _ _ hi] at h1
  have h2 := t.len_eq (by intro e; rw [e] at hi; simp at hi)
  omega
theorem Tree.part_len (t : Tree) (i : Nat) (hi : i < t.parts.length) : t.parts[i].len + 2 ≤ t.len := by
  have h1 := lenL_le t.parts (i + 1)
  rw [lenL_take _ _ hi] at h1
  have h2 := t.len_eq (by intro e; rw [e] at hi; simp at hi)
  omega
mutual
theorem Tree.depth_len : ∀ t : Tree, t.depth ≤ t.len
  | .node a [] => Nat.zero_le _
  | .node a (p :: ps) => by have := depthL_len (p :: ps); simp only [Tree.depth, Tree.len, List.isEmpty_cons, cond_false]; omega
theorem depthL_len : ∀ ts : List Tree, depthL ts ≤ lenL ts
  | [] => Nat.le_refl _
  | t :: ts => by have := t.depth_len; have := depthL_len ts; simp only [depthL, lenL]; omega
end
mutual
theorem Tree.size_len : ∀ t : Tree, t.size ≤ t.len + 1
  | .node a [] => by simp [Tree.size]
  | .node a (p :: ps) => by have := sizeL_len (p :: ps); simp only [Tree.size, Tree.len, List.isEmpty_cons, cond_false]; omega
theorem sizeL_len : ∀ ts : List Tree, sizeL ts ≤ lenL ts
  | [] => Nat.le_refl _
  | t :: ts => by have := t.size_len; have := sizeL_len ts; simp only [sizeL, lenL]; omega
end

theorem f_form_depth : ∀ (n : Nat) {I : Heap} {t : Tree} {cs : List Value} (_ : SizeOf.sizeOf t < n) (_ : Rep I t cs) (_ : t.len ≤ maxN) (L : Own),
    Fun Try.prog 49 [.agg cs.toArray] I L (Only (.int .i64 (t.depth : Nat)) I L) := by
  intro n
  induction n with
  | zero => intro I t cs h; omega
  | succ n ihn =>
    intro I t cs hlt h hz L
    unfold maxN at hz
    have hdl := t.depth_len
    obtain ⟨oa, c, oaf, cf, rfl, hf⟩ := h.at'
    have hp := hf.len
    unfold maxN at hp
    refine fun_intro (by simp) ?_
    refine s_seq ?_
    refine o_enter rfl ?_
    refine o_box rfl rfl .free rfl ?_
    intro b1
    refine o_assign rfl .free rfl ?_
    refine o_done ?_
    refine s_seq ?_
    refine s_seq ?_
    refine o_enter rfl ?_
    refine o_load rfl (loads_ownS (by first | exact m0 | exact m1 | exact m2 | exact m3 | exact m4 | exact m5 | exact m6) (by rfl)) .free rfl ?_
    refine o_call rfl .free rfl (f_form_isAtom h _) ?_
    rintro _ _ _ _ ⟨rfl, rfl, rfl⟩
    refine o_done ?_
    refine s_cond rfl ?_ ?_
    · intro c0
      try simp only [Bool.and_eq_true, Bool.or_eq_true, Bool.not_eq_true', Bool.not_eq_false', Bool.and_eq_false_iff, Bool.or_eq_false_iff, decide_eq_true_eq, decide_eq_false_iff_not] at c0
      refine s_seq ?_
      refine o_enter rfl ?_
      refine o_assign rfl .free rfl ?_
      refine o_done ?_
      refine s_ret (.tmp rfl .nil) ?_
      refine done_only rfl (by intro _ h; first | exact h | exact dr1 h | exact dr2 h | exact dr3 h | exact dr4 h | exact dr5 h | exact dr6 h) ?_
      rw [t.depth_atom (by simpa using c0)]; rfl
    · intro c0
      try simp only [Bool.and_eq_true, Bool.or_eq_true, Bool.not_eq_true', Bool.not_eq_false', Bool.and_eq_false_iff, Bool.or_eq_false_iff, decide_eq_true_eq, decide_eq_false_iff_not] at c0
      have hne : t.parts ≠ [] := by simpa using c0
      have hsz := t.depth_eq hne
      refine s_skip ?_
      refine s_seq ?_
      refine o_enter rfl ?_
      refine o_assign rfl .free rfl ?_
      refine o_done ?_
      refine s_seq ?_
      refine s_seq ?_
      refine o_enter rfl ?_
      refine o_fieldAddr rfl .free rfl ?_
      refine o_load rfl (loads_own1 (by first | exact m0 | exact m1 | exact m2 | exact m3 | exact m4 | exact m5 | exact m6) (by rfl) rfl) .free rfl ?_
      refine o_len_slice rfl .free rfl ?_
      refine o_move rfl .free rfl ?_
      refine o_done ?_
      refine s_block ?_
      refine s_while (X := Nat) (fun i => t.parts.length - i) (fun i => [(3, .int .i64 ((depthL (t.parts.take i) : Nat))), (9, .slice oa t.parts.length c), (10, .int .i64 (t.parts.length : Nat)), (11, .int .i64 (i : Nat))]) (fun _ => I) (fun _ => L) (fun i => i ≤ t.parts.length) 0 (by omega) ⟨rfl, rfl, rfl, rfl, trivial⟩ (by intro _ h; first | exact h | exact dr1 h | exact dr2 h | exact dr3 h | exact dr4 h | exact dr5 h | exact dr6 h) ?_
      rintro i hi ih
      refine s_seq ?_
      refine o_enter rfl ?_
      refine o_cmp rfl rfl rfl .free rfl ?_
      refine o_done ?_
      refine s_seq ?_
      refine s_cond rfl ?_ ?_
      · intro c1
        try simp only [Bool.and_eq_true, Bool.or_eq_true, Bool.not_eq_true', Bool.not_eq_false', Bool.and_eq_false_iff, Bool.or_eq_false_iff, decide_eq_true_eq, decide_eq_false_iff_not] at c1
        refine s_skip ?_
        refine s_seq ?_
        refine s_block ?_
        refine s_seq ?_
        refine o_enter rfl ?_
        first | refine o_indexAddrD rfl rfl _ rfl (by first | omega | exact lt_of (by assumption) (by decide) | (simp; done) | (simp; omega) | decide | (simp at *; omega)) (by first | assumption | exact FormAt.nil (by assumption) | exact Strs.nil' (by assumption) | exact Nums.nil' (by assumption) | exact Raw.nil' (by assumption)) .free rfl ?_ | refine o_indexAddr' rfl rfl _ rfl (by first | omega | exact lt_of (by assumption) (by decide) | (simp; done) | (simp; omega) | decide | (simp at *; omega)) (by first | rfl | assumption) .free rfl ?_
        refine o_load rfl (by first | exact loads_stillS (FormAt.st (by assumption) _ (by first | omega | decide | (simp; done) | exact lt_of (by assumption) (by decide))) (by rfl) | exact loads_stillS (by assumption) (by rfl) | exact loads_rd (reads_sub (by assumption) (by intro _ h; first | exact h | exact dr1 h | exact dr2 h | exact dr3 h | exact dr4 h | exact dr5 h | exact dr6 h)) (by rfl)) .free rfl ?_
        refine o_alloc .free rfl ?_
        intro b5
        refine o_store rfl rfl rfl rfl (by first | rfl | (simp only [List.toList_toArray, List.all_cons, List.all_nil, plainCell_buf, Bool.and_true, Bool.true_and] <;> rfl)) (by first | exact u0 | exact u1 | exact u2 | exact u3 | exact u4 | exact u5 | exact u6) (by rfl) .free ?_
        refine o_done ?_
        refine o_enter rfl ?_
        refine o_move rfl .free rfl ?_
        refine o_load rfl (loads_ownS (by first | exact m0 | exact m1 | exact m2 | exact m3 | exact m4 | exact m5 | exact m6) (by rfl)) .free rfl ?_
        refine o_call rfl .free rfl (ihn (t := t.pt i) (by have := t.pt_lt i (by omega); omega) (hf.rp i (by omega)) (by have := t.pt_len i (by omega); unfold maxN; omega) _) ?_
        rintro _ _ _ _ ⟨rfl, rfl, rfl⟩
        refine o_max rfl rfl .free rfl ?_
        refine o_assign rfl .free rfl ?_
        refine o_done ?_
        refine s_inBlock ?_
        refine o_enter rfl ?_
        refine o_arith rfl rfl rfl (by omega) .free rfl ?_
        refine o_move rfl .free rfl ?_
        refine o_done ?_
        refine s_mem (by intro _ h; first | exact h | exact dr1 h | exact dr2 h | exact dr3 h | exact dr4 h | exact dr5 h | exact dr6 h) (s_env (E' := [(3, .int .i64 ((depthL (t.parts.take (i + 1)) : Nat))), (9, .slice oa t.parts.length c), (10, .int .i64 (t.parts.length : Nat)), (11, .int .i64 ((i + 1 : Nat)))]) ⟨?_, rfl, rfl, rfl, trivial⟩ (ih (i + 1) (by omega) (by omega)))
        rw [depthL_take _ _ (by omega), ← Tree.pt_at (by omega)]; refine congrArg (fun z => some (Value.int .i64 z)) ?_; omega
      · intro c1
        try simp only [Bool.and_eq_true, Bool.or_eq_true, Bool.not_eq_true', Bool.not_eq_false', Bool.and_eq_false_iff, Bool.or_eq_false_iff, decide_eq_true_eq, decide_eq_false_iff_not] at c1
        obtain rfl : i = t.parts.length := by omega
        simp only [List.take_length]
        refine s_exit rfl ?_
        refine s_seq ?_
        refine o_enter rfl ?_
        refine o_move rfl .free rfl ?_
        refine o_arith rfl rfl rfl (by omega) .free rfl ?_
        refine o_assign rfl .free rfl ?_
        refine o_done ?_
        refine s_ret (.tmp rfl .nil) ?_
        refine done_only rfl (by intro _ h; first | exact h | exact dr1 h | exact dr2 h | exact dr3 h | exact dr4 h | exact dr5 h | exact dr6 h) ?_
        rw [hsz]; rfl
theorem f_form_length : ∀ (n : Nat) {I : Heap} {t : Tree} {cs : List Value} (_ : SizeOf.sizeOf t < n) (_ : Rep I t cs) (_ : t.len ≤ maxN) (L : Own),
    Fun Try.prog 50 [.agg cs.toArray] I L (Only (.int .i64 (t.len : Nat)) I L) := by
  intro n
  induction n with
  | zero => intro I t cs h; omega
  | succ n ihn =>
    intro I t cs hlt h hz L
    unfold maxN at hz
    obtain ⟨oa, c, oaf, cf, rfl, hf⟩ := h.at'
    have hp := hf.len
    unfold maxN at hp
    refine fun_intro (by simp) ?_
    refine s_seq ?_
    refine o_enter rfl ?_
    refine o_box rfl rfl .free rfl ?_
    intro b1
    refine o_assign rfl .free rfl ?_
    refine o_done ?_
    refine s_seq ?_
    refine s_seq ?_
    refine o_enter rfl ?_
    refine o_load rfl (loads_ownS (by first | exact m0 | exact m1 | exact m2 | exact m3 | exact m4 | exact m5 | exact m6) (by rfl)) .free rfl ?_
    refine o_call rfl .free rfl (f_form_isAtom h _) ?_
    rintro _ _ _ _ ⟨rfl, rfl, rfl⟩
    refine o_done ?_
    refine s_cond rfl ?_ ?_
    · intro c0
      try simp only [Bool.and_eq_true, Bool.or_eq_true, Bool.not_eq_true', Bool.not_eq_false', Bool.and_eq_false_iff, Bool.or_eq_false_iff, decide_eq_true_eq, decide_eq_false_iff_not] at c0
      refine s_seq ?_
      refine o_enter rfl ?_
      refine o_fieldAddr rfl .free rfl ?_
      refine o_load rfl (loads_own1 (by first | exact m0 | exact m1 | exact m2 | exact m3 | exact m4 | exact m5 | exact m6) (by rfl) rfl) .free rfl ?_
      refine o_len_str rfl .free rfl ?_
      refine o_assign rfl .free rfl ?_
      refine o_done ?_
      refine s_ret (.tmp rfl .nil) ?_
      refine done_only rfl (by intro _ h; first | exact h | exact dr1 h | exact dr2 h | exact dr3 h | exact dr4 h | exact dr5 h | exact dr6 h) ?_
      rw [t.len_atom (by simpa using c0)]; rfl
    · intro c0
      try simp only [Bool.and_eq_true, Bool.or_eq_true, Bool.not_eq_true', Bool.not_eq_false', Bool.and_eq_false_iff, Bool.or_eq_false_iff, decide_eq_true_eq, decide_eq_false_iff_not] at c0
      have hne : t.parts ≠ [] := by simpa using c0
      have hsz := t.len_eq hne
      refine s_skip ?_
      refine s_seq ?_
      refine o_enter rfl ?_
      refine o_assign rfl .free rfl ?_
      refine o_done ?_
      refine s_seq ?_
      refine s_seq ?_
      refine o_enter rfl ?_
      refine o_fieldAddr rfl .free rfl ?_
      refine o_load rfl (loads_own1 (by first | exact m0 | exact m1 | exact m2 | exact m3 | exact m4 | exact m5 | exact m6) (by rfl) rfl) .free rfl ?_
      refine o_len_slice rfl .free rfl ?_
      refine o_move rfl .free rfl ?_
      refine o_done ?_
      refine s_block ?_
      refine s_while (X := Nat) (fun i => t.parts.length - i) (fun i => [(3, .int .i64 ((1 + lenL (t.parts.take i) : Nat))), (12, .slice oa t.parts.length c), (13, .int .i64 (t.parts.length : Nat)), (14, .int .i64 (i : Nat))]) (fun _ => I) (fun _ => L) (fun i => i ≤ t.parts.length) 0 (by omega) ⟨rfl, rfl, rfl, rfl, trivial⟩ (by intro _ h; first | exact h | exact dr1 h | exact dr2 h | exact dr3 h | exact dr4 h | exact dr5 h | exact dr6 h) ?_
      rintro i hi ih
      refine s_seq ?_
      refine o_enter rfl ?_
      refine o_cmp rfl rfl rfl .free rfl ?_
      refine o_done ?_
      refine s_seq ?_
      refine s_cond rfl ?_ ?_
      · intro c1
        try simp only [Bool.and_eq_true, Bool.or_eq_true, Bool.not_eq_true', Bool.not_eq_false', Bool.and_eq_false_iff, Bool.or_eq_false_iff, decide_eq_true_eq, decide_eq_false_iff_not] at c1
        have hll := lenL_le t.parts (i + 1)
        rw [lenL_take _ _ (by omega), ← Tree.pt_at (by omega)] at hll
        refine s_skip ?_
        refine s_seq ?_
        refine s_block ?_
        refine s_seq ?_
        refine o_enter rfl ?_
        first | refine o_indexAddrD rfl rfl _ rfl (by first | omega | exact lt_of (by assumption) (by decide) | (simp; done) | (simp; omega) | decide | (simp at *; omega)) (by first | assumption | exact FormAt.nil (by assumption) | exact Strs.nil' (by assumption) | exact Nums.nil' (by assumption) | exact Raw.nil' (by assumption)) .free rfl ?_ | refine o_indexAddr' rfl rfl _ rfl (by first | omega | exact lt_of (by assumption) (by decide) | (simp; done) | (simp; omega) | decide | (simp at *; omega)) (by first | rfl | assumption) .free rfl ?_
        refine o_load rfl (by first | exact loads_stillS (FormAt.st (by assumption) _ (by first | omega | decide | (simp; done) | exact lt_of (by assumption) (by decide))) (by rfl) | exact loads_stillS (by assumption) (by rfl) | exact loads_rd (reads_sub (by assumption) (by intro _ h; first | exact h | exact dr1 h | exact dr2 h | exact dr3 h | exact dr4 h | exact dr5 h | exact dr6 h)) (by rfl)) .free rfl ?_
        refine o_alloc .free rfl ?_
        intro b5
        refine o_store rfl rfl rfl rfl (by first | rfl | (simp only [List.toList_toArray, List.all_cons, List.all_nil, plainCell_buf, Bool.and_true, Bool.true_and] <;> rfl)) (by first | exact u0 | exact u1 | exact u2 | exact u3 | exact u4 | exact u5 | exact u6) (by rfl) .free ?_
        refine o_done ?_
        refine o_enter rfl ?_
        refine o_move rfl .free rfl ?_
        refine o_load rfl (loads_ownS (by first | exact m0 | exact m1 | exact m2 | exact m3 | exact m4 | exact m5 | exact m6) (by rfl)) .free rfl ?_
        refine o_call rfl .free rfl (ihn (t := t.pt i) (by have := t.pt_lt i (by omega); omega) (hf.rp i (by omega)) (by have := t.pt_len i (by omega); unfold maxN; omega) _) ?_
        rintro _ _ _ _ ⟨rfl, rfl, rfl⟩
        refine o_arith rfl rfl rfl (by omega) .free rfl ?_
        refine o_arith rfl rfl rfl (by omega) .free rfl ?_
        refine o_assign rfl .free rfl ?_
        refine o_done ?_
        refine s_inBlock ?_
        refine o_enter rfl ?_
        refine o_arith rfl rfl rfl (by omega) .free rfl ?_
        refine o_move rfl .free rfl ?_
        refine o_done ?_
        refine s_mem (by intro _ h; first | exact h | exact dr1 h | exact dr2 h | exact dr3 h | exact dr4 h | exact dr5 h | exact dr6 h) (s_env (E' := [(3, .int .i64 ((1 + lenL (t.parts.take (i + 1)) : Nat))), (12, .slice oa t.parts.length c), (13, .int .i64 (t.parts.length : Nat)), (14, .int .i64 ((i + 1 : Nat)))]) ⟨?_, rfl, rfl, rfl, trivial⟩ (ih (i + 1) (by omega) (by omega)))
        rw [lenL_take _ _ (by omega), ← Tree.pt_at (by omega)]; refine congrArg (fun z => some (Value.int .i64 z)) ?_; omega
      · intro c1
        try simp only [Bool.and_eq_true, Bool.or_eq_true, Bool.not_eq_true', Bool.not_eq_false', Bool.and_eq_false_iff, Bool.or_eq_false_iff, decide_eq_true_eq, decide_eq_false_iff_not] at c1
        obtain rfl : i = t.parts.length := by omega
        simp only [List.take_length]
        refine s_exit rfl ?_
        refine s_seq ?_
        refine o_enter rfl ?_
        refine o_move rfl .free rfl ?_
        refine o_assign rfl .free rfl ?_
        refine o_done ?_
        refine s_ret (.tmp rfl .nil) ?_
        refine done_only rfl (by intro _ h; first | exact h | exact dr1 h | exact dr2 h | exact dr3 h | exact dr4 h | exact dr5 h | exact dr6 h) ?_
        rw [hsz]; rfl
theorem f_form_fits {I : Heap} {t : Tree} {cs : List Value} (h : Rep I t cs) (hz : t.len ≤ maxN) (L : Own) : Fun Try.prog 36 [.agg cs.toArray] I L (Only (.bool t.fits) I L) := by
  obtain ⟨oa, c, oaf, cf, rfl, hf⟩ := h.at'
  refine fun_intro (by simp) ?_
  refine s_seq ?_
  refine o_enter rfl ?_
  refine o_box rfl rfl .free rfl ?_
  intro b1
  refine o_assign rfl .free rfl ?_
  refine o_done ?_
  refine s_seq ?_
  refine o_enter rfl ?_
  refine o_load rfl (loads_ownS (by first | exact m0 | exact m1 | exact m2 | exact m3 | exact m4 | exact m5 | exact m6) (by rfl)) .free rfl ?_
  refine o_call rfl .free rfl (f_form_depth _ (Nat.lt_succ_self _) h hz _) ?_
  rintro _ _ _ _ ⟨rfl, rfl, rfl⟩
  refine o_cmp rfl rfl rfl .free rfl ?_
  refine o_move rfl .free rfl ?_
  apply o_and 6 10 rfl
  · intro g1_4 hk
    try simp only [Bool.and_eq_true, Bool.or_eq_true, Bool.not_eq_true', Bool.not_eq_false', Bool.and_eq_false_iff, Bool.or_eq_false_iff, decide_eq_true_eq, decide_eq_false_iff_not] at g1_4
    refine o_load rfl (loads_ownS (by first | exact m0 | exact m1 | exact m2 | exact m3 | exact m4 | exact m5 | exact m6) (by rfl)) (.met rfl rfl) rfl ?_
    refine o_call rfl (.met rfl rfl) rfl (f_form_length _ (Nat.lt_succ_self _) h hz _) ?_
    rintro _ _ _ _ ⟨rfl, rfl, rfl⟩
    refine o_cmp rfl rfl rfl (.met rfl rfl) rfl ?_
    refine o_pick_true rfl rfl .free rfl ?_
    exact o_fin 3 rfl rfl hk
  · intro _ hk
    refine o_skips 3 rfl ?_
    refine o_pick_false rfl rfl .free rfl ?_
    exact o_fin 3 rfl rfl hk
  refine o_assign rfl .free rfl ?_
  refine o_done ?_
  refine s_ret (.tmp rfl .nil) ?_
  refine done_only rfl (by intro _ h; first | exact h | exact dr1 h | exact dr2 h | exact dr3 h | exact dr4 h | exact dr5 h | exact dr6 h) ?_
  refine congrArg Value.bool ?_; rw [Bool.eq_iff_iff]; simp [Tree.fits]; omega
theorem f_form_isBare {I : Heap} {t : Tree} {cs : List Value} (h : Rep I t cs) (L : Own) : Fun Try.prog 51 [.agg cs.toArray] I L (Only (.bool (t.parts.isEmpty && (isName t.atom || isNum t.atom))) I L) := by
  obtain ⟨oa, c, oaf, cf, rfl, hf⟩ := h.at'
  have ha := hf.alen
  refine fun_intro (by simp) ?_
  refine s_seq ?_
  refine o_enter rfl ?_
  refine o_box rfl rfl .free rfl ?_
  intro b1
  refine o_assign rfl .free rfl ?_
  refine o_done ?_
  refine s_seq ?_
  refine o_enter rfl ?_
  refine o_load rfl (loads_ownS (by first | exact m0 | exact m1 | exact m2 | exact m3 | exact m4 | exact m5 | exact m6) (by rfl)) .free rfl ?_
  refine o_call rfl .free rfl (f_form_isAtom h _) ?_
  rintro _ _ _ _ ⟨rfl, rfl, rfl⟩
  refine o_move rfl .free rfl ?_
  apply o_and 5 14 rfl
  · intro g1_3 hk
    try simp only [Bool.and_eq_true, Bool.or_eq_true, Bool.not_eq_true', Bool.not_eq_false', Bool.and_eq_false_iff, Bool.or_eq_false_iff, decide_eq_true_eq, decide_eq_false_iff_not] at g1_3
    refine o_fieldAddr rfl (.met rfl rfl) rfl ?_
    refine o_load rfl (loads_own1 (by first | exact m0 | exact m1 | exact m2 | exact m3 | exact m4 | exact m5 | exact m6) (by rfl) rfl) (.met rfl rfl) rfl ?_
    refine o_call rfl (.met rfl rfl) rfl (f_isName t.atom ha _ _) ?_
    rintro _ _ _ _ ⟨rfl, rfl, rfl⟩
    refine o_move rfl (.met rfl rfl) rfl ?_
    apply o_or 9 13 rfl
    · intro g1_7 hk
      try simp only [Bool.and_eq_true, Bool.or_eq_true, Bool.not_eq_true', Bool.not_eq_false', Bool.and_eq_false_iff, Bool.or_eq_false_iff, decide_eq_true_eq, decide_eq_false_iff_not] at g1_7
      refine o_fieldAddr rfl (.met rfl rfl) rfl ?_
      refine o_load rfl (loads_own1 (by first | exact m0 | exact m1 | exact m2 | exact m3 | exact m4 | exact m5 | exact m6) (by rfl) rfl) (.met rfl rfl) rfl ?_
      refine o_call rfl (.met rfl rfl) rfl (f_isNumeral t.atom ha _ _) ?_
      rintro _ _ _ _ ⟨rfl, rfl, rfl⟩
      refine o_pick_false rfl rfl (.met rfl rfl) rfl ?_
      exact o_fin 3 rfl rfl hk
    · intro _ hk
      refine o_skips 3 rfl ?_
      refine o_pick_true rfl rfl (.met rfl rfl) rfl ?_
      exact o_fin 3 rfl rfl hk
    refine o_pick_true rfl rfl .free rfl ?_
    exact o_fin 5 rfl rfl hk
  · intro _ hk
    refine o_skips 8 rfl ?_
    refine o_pick_false rfl rfl .free rfl ?_
    exact o_fin 8 rfl rfl hk
  refine o_assign rfl .free rfl ?_
  refine o_done ?_
  refine s_ret (.tmp rfl .nil) ?_
  refine done_only rfl (by intro _ h; first | exact h | exact dr1 h | exact dr2 h | exact dr3 h | exact dr4 h | exact dr5 h | exact dr6 h) ?_
  simp [retOne, *]
end Go.Proofs.Ytekfjhopngcneaa
