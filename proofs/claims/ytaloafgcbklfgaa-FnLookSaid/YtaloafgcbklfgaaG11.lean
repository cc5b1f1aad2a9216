/- 'TypeValid', by the program. No conditions. -/
import Derived.Test.YtaloafgcbklfgaaG10
namespace Go.Proofs.Ytaloafgcbklfgaa
set_option maxRecDepth 100000
set_option linter.unusedVariables false
set_option linter.unusedSimpArgs false

theorem f_TypeValid (s : Txt) (hs : s.length ≤ maxN) (I : Heap) (L : Own) : Fun Try.prog 8 [.string (str s)] I L (fun v I' L' => v = .bool (typeOf s).isSome ∧ L = L') := by
  refine fun_intro (by simp) ?_
  refine s_seq ?_
  refine o_enter rfl ?_
  refine o_assign rfl .free rfl ?_
  refine o_done ?_
  refine s_seq ?_
  refine o_enter rfl ?_
  refine o_move rfl .free rfl ?_
  refine o_call rfl .free rfl (f_readType s hs _ _) ?_
  rintro _ J _ e ⟨t, cs, ok, rfl, hrep, rfl, hpf⟩
  obtain ⟨o1, k1, _, rfl, -⟩ := hrep.open
  refine o_move rfl .free rfl ?_
  refine o_extract rfl rfl .free rfl ?_
  refine o_extract rfl rfl .free rfl ?_
  refine o_alloc .free rfl ?_
  intro b3
  refine o_st rfl rfl rfl rfl .free ?_
  refine o_assign rfl .free rfl ?_
  refine o_done ?_
  refine s_seq ?_
  refine o_enter rfl ?_
  refine o_move rfl .free rfl ?_
  refine o_assign rfl .free rfl ?_
  refine o_done ?_
  refine s_ret (.tmp rfl .nil) ?_
  refine ⟨J, L, e, (by intro _ h; first | exact h | exact dr1 h | exact dr2 h | exact dr3 h | exact dr4 h | exact dr5 h | exact dr6 h | exact dr6 h.drop | exact dr6 h.drop.drop | exact dr6 h.drop.drop.drop), ?_, rfl⟩
  rw [typeOf_true hpf]; cases ok <;> rfl
end Go.Proofs.Ytaloafgcbklfgaa


/- The walk of the statement 'FnLook'. No conditions. -/
namespace Go.Proofs.Ytaloafgcbklfgaa
set_option maxRecDepth 100000
set_option linter.unusedVariables false
set_option linter.unusedSimpArgs false

theorem lastAt_cons {l : List Txt} {z s : Txt} : ∀ {n i : Nat}, lastAt l s n = some i → lastAt (z :: l) s (n + 1) = some (i + 1) := by
  intro n
  induction n with
  | zero => intro i h; cases h
  | succ n ih =>
    intro i h
    simp only [lastAt] at h
    have e : (z :: l).getD (n + 1) [] = l.getD n [] := rfl
    rw [lastAt, e]
    split at h
    · cases h; rename_i h1; rw [if_pos h1]
    · rename_i h1; rw [if_neg h1]; exact ih h
theorem envLook_some {l m : List Txt} {s o : Txt} (h : envLook l m s = some o) : isEnv l m = true ∧ ∃ i, lastIdx l s = some i ∧ i < l.length ∧ i < m.length ∧ o = m.getD i [] ∧ s ∈ l := by
  unfold envLook at h
  cases he : isEnv l m with
  | false => rw [he] at h; cases h
  | true =>
    rw [he] at h
    simp only [cond_true] at h
    cases hi : lastIdx l s with
    | none => rw [hi] at h; cases h
    | some i =>
      rw [hi] at h
      simp only [Option.map_some, Option.some.injEq] at h
      have h1 := (lastAt_lt (show lastAt l s l.length = some i from hi)).1
      exact ⟨rfl, i, rfl, h1, by rw [← (isEnv_len he).2.1]; exact h1, h.symm, lastAt_mem hi⟩
theorem exOf_name {s : Txt} (h : isName s = true) : exOf s = some (.name s) := by
  have h1 := exOf_text (e := .name s) h
  have hl := isName_len h
  have hf : (Ex.name s).fine = true := by
    simp only [Ex.fine, Ex.ok, h, Bool.true_and, Bool.and_eq_true, decide_eq_true_eq, Tree.fits]
    refine ⟨by show 1 ≤ 120; decide, ?_⟩
    simp [Ex.tree, Tree.depth, Tree.len]; omega
  rw [if_pos hf] at h1
  exact h1
theorem look_type {l m : List Txt} {s o : Txt} (h : envLook l m s = some o) : exTy l m s = some o ∧ (typeOf o).isSome = true ∧ (l.length + 1 ≤ 8 → envLook ([122, 57] :: l) ([40, 62, 32, 105, 32, 105, 41] :: m) s = some o) := by
  obtain ⟨he, i, hi, h1, h2, rfl, hs⟩ := envLook_some h
  obtain ⟨g1, g2, g3, g4⟩ := isEnv_len he
  have hn : isName s = true := List.all_eq_true.1 g3 s hs
  obtain ⟨k1, k2, k3, k4, k5, k6⟩ := isEnv_tys he
  have hto : (typeOf (m.getD i [])).isSome = true := g4 _ (by simp [h2])
  refine ⟨?_, hto, ?_⟩
  · rw [exTy_of he (exOf_name hn), Ex.ty_name]
    unfold tyLook
    rw [hi]
    have h3 : i < (tysOf m).length := by omega
    simp only [Option.bind, List.getElem?_eq_getElem h3, Option.map_some]
    conv => rhs; rw [k1]
    simp [h3]
  · intro h8
    have e2 : isEnv ([122, 57] :: l) ([40, 62, 32, 105, 32, 105, 41] :: m) = true := by
      unfold isEnv
      simp only [Bool.and_eq_true, decide_eq_true_eq, List.length_cons, List.all_cons]
      refine ⟨⟨⟨by omega, by omega⟩, by decide, g3⟩, by decide +kernel, ?_⟩
      exact List.all_eq_true.2 g4
    unfold envLook
    rw [e2]
    have := lastAt_cons (z := [122, 57]) (show lastAt l s l.length = some i from hi)
    simp only [cond_true, lastIdx, List.length_cons, this, Option.map_some, List.getD_cons_succ]
theorem law_FnLook {I : Heap} {oa : Option Addr} {code : List UInt8} {c : Nat} (h : Bytes I oa code c) (L : Own) : Fun Try.prog 3 [.slice oa code.length c] I L (YES L) := by
  have hlen := h.len
  refine fun_intro (by simp) ?_
  refine s_seq ?_
  refine o_enter rfl ?_
  refine o_assign rfl .free rfl ?_
  refine o_done ?_
  refine s_seq ?_
  refine s_seq ?_
  refine o_enter rfl ?_
  refine o_move rfl .free rfl ?_
  refine o_len_slice rfl .free rfl ?_
  refine o_cmp rfl rfl rfl .free rfl ?_
  refine o_done ?_
  refine s_cond rfl ?_ ?_
  · intro c0
    try simp only [nb] at c0
    refine s_seq ?_
    refine o_enter rfl ?_
    refine o_assign rfl .free rfl ?_
    refine o_done ?_
    refine s_ret (.tmp rfl .nil) ?_
    exact ⟨I, L, .refl _, fun _ h => h, rfl, rfl⟩
  intro c0
  try simp only [nb] at c0
  refine s_skip ?_
  refine s_seq ?_
  refine o_enter rfl ?_
  refine o_move rfl .free rfl ?_
  refine o_call rfl .free rfl (g_DrawEnvLook h _) ?_
  rintro _ J1 _ e1 ⟨o1, l, ca, o2, m, cb, s, rfl, k1, k2, m1, m2, m3, m4, m5, rfl⟩
  have hsl : s.length ≤ maxN := by unfold maxN; omega
  refine o_move rfl .free rfl ?_
  iterate 3 refine o_extract rfl rfl .free rfl ?_
  iterate 3 refine o_assign rfl .free rfl ?_
  refine o_done ?_
  refine s_seq ?_
  refine o_enter rfl ?_
  iterate 3 refine o_move rfl .free rfl ?_
  refine o_call rfl .free rfl (f_EnvLook k1 k2 s _) ?_
  rintro _ J2 _ e2 ⟨rfl, rfl⟩
  refine o_move rfl .free rfl ?_
  refine o_extract rfl rfl .free rfl ?_
  refine o_extract rfl rfl .free rfl ?_
  refine o_assign rfl .free rfl ?_
  refine o_assign rfl .free rfl ?_
  refine o_done ?_
  refine s_seq ?_
  refine o_enter rfl ?_
  iterate 3 refine o_move rfl .free rfl ?_
  refine o_call rfl .free rfl (g_EnvLook (k1.mono e2) (k2.mono e2) s _) ?_
  rintro _ J3 _ e3 ⟨rfl, rfl⟩
  have hle := (e1.trans e2).trans e3
  have k1 := k1.mono (e2.trans e3)
  have k2 := k2.mono (e2.trans e3)
  refine o_move rfl .free rfl ?_
  refine o_extract rfl rfl .free rfl ?_
  refine o_extract rfl rfl .free rfl ?_
  refine o_assign rfl .free rfl ?_
  refine o_assign rfl .free rfl ?_
  refine o_done ?_
  refine s_seq ?_
  refine s_seq ?_
  refine o_enter rfl ?_
  refine o_move rfl .free rfl ?_
  refine o_move rfl .free rfl ?_
  refine o_cmpb rfl rfl rfl .free rfl ?_
  refine o_move rfl .free rfl ?_
  apply o_or 42 46 rfl
  · intro g6_4 hk
    try simp only [nb] at g6_4
    refine o_move rfl (.met rfl rfl) rfl ?_
    refine o_move rfl (.met rfl rfl) rfl ?_
    refine o_cmps rfl rfl rfl (.met rfl rfl) rfl ?_
    refine o_pick_false rfl rfl .free rfl ?_
    exact o_fin 3 rfl rfl hk
  · intro _ hk
    refine o_skips 3 rfl ?_
    refine o_pick_true rfl rfl .free rfl ?_
    exact o_fin 3 rfl rfl hk
  refine o_move rfl .free rfl ?_
  apply o_or 47 50 rfl
  · intro g6_9 hk
    try simp only [nb] at g6_9
    refine o_move rfl (.met rfl rfl) rfl ?_
    refine o_not rfl (.met rfl rfl) rfl ?_
    refine o_pick_false rfl rfl .free rfl ?_
    exact o_fin 2 rfl rfl hk
  · intro _ hk
    refine o_skips 2 rfl ?_
    refine o_pick_true rfl rfl .free rfl ?_
    exact o_fin 2 rfl rfl hk
  refine o_done ?_
  refine s_cond rfl ?_ ?_
  · intro c1
    try simp only [nb] at c1
    refine s_seq ?_
    refine o_enter rfl ?_
    refine o_move rfl .free rfl ?_
    refine o_move rfl .free rfl ?_
    refine o_cmpb rfl rfl rfl .free rfl ?_
    refine o_move rfl .free rfl ?_
    apply o_and 54 58 rfl
    · intro g7_4 hk
      try simp only [nb] at g7_4
      refine o_move rfl (.met rfl rfl) rfl ?_
      refine o_move rfl (.met rfl rfl) rfl ?_
      refine o_cmps rfl rfl rfl (.met rfl rfl) rfl ?_
      refine o_pick_true rfl rfl .free rfl ?_
      exact o_fin 3 rfl rfl hk
    · intro _ hk
      refine o_skips 3 rfl ?_
      refine o_pick_false rfl rfl .free rfl ?_
      exact o_fin 3 rfl rfl hk
    refine o_assign rfl .free rfl ?_
    refine o_done ?_
    refine s_ret (.tmp rfl .nil) ?_
    refine ⟨J3, L, hle, (by intro _ h; first | exact h | exact dr1 h | exact dr2 h | exact dr3 h | exact dr4 h | exact dr5 h | exact dr6 h | exact dr6 h.drop | exact dr6 h.drop.drop | exact dr6 h.drop.drop.drop), ?_, rfl⟩
    simp [retOne]
  intro c1
  try simp only [nb] at c1
  obtain ⟨o, ho⟩ : ∃ o, envLook l m s = some o := Option.isSome_iff_exists.1 (by simpa using c1)
  have hall := look_type ho
  rw [ho]
  have hol : o.length ≤ 16 := by
    obtain ⟨-, i, -, -, h2, rfl, -⟩ := envLook_some ho
    exact m4 _ (by simp [h2])
  refine s_skip ?_
  refine s_seq ?_
  refine o_enter rfl ?_
  iterate 3 refine o_move rfl .free rfl ?_
  refine o_call rfl .free rfl (f_ExprType k1 k2 s hsl _) ?_
  rintro _ J4 _ e4 ⟨rfl, rfl⟩
  rw [hall.1]
  have hle := hle.trans e4
  have k1 := k1.mono e4
  have k2 := k2.mono e4
  refine o_move rfl .free rfl ?_
  refine o_extract rfl rfl .free rfl ?_
  refine o_extract rfl rfl .free rfl ?_
  refine o_assign rfl .free rfl ?_
  refine o_assign rfl .free rfl ?_
  refine o_done ?_
  refine s_seq ?_
  refine o_enter rfl ?_
  refine o_lits rfl rfl (by rfl) (by rfl) (by rfl) (by decide) (by decide) (by rfl) .free rfl ?_
  intro b66
  refine o_move rfl .free rfl ?_
  refine o_appendB (B := some (b66, [])) (xs := [sv [122, 57]]) (ys := l.map sv) (m := 1) (c := 1) (L₀ := L) (by intro kk; simp) (by rfl) rfl rfl ⟨rfl, Nat.le_refl _, rfl⟩ (fun _ h => h) (by simp) k1.reads k1.none (sv_plain l) (by decide) (by omega) (by decide) .free rfl ?_
  intro B1 c1 hB1
  refine o_assign rfl .free rfl ?_
  refine o_done ?_
  refine s_seq ?_
  refine s_freezeStrs (l := [122, 57] :: l) hB1 (by simp; omega) (by simp; unfold maxN; omega) (by intro x hx; rcases List.mem_cons.1 hx with rfl | hx; decide; exact k1.each x hx) ?_
  intro J5 o5 c5 e5 hbv5 hs5
  refine s_put (t := 12) rfl hbv5 ?_
  have k2 := k2.mono e5
  refine o_enter rfl ?_
  refine o_lits rfl rfl (by rfl) (by rfl) (by rfl) (by decide) (by decide) (by rfl) .free rfl ?_
  intro b69
  refine o_move rfl .free rfl ?_
  refine o_appendB (B := some (b69, [])) (xs := [sv [40, 62, 32, 105, 32, 105, 41]]) (ys := m.map sv) (m := 1) (c := 1) (L₀ := L) (by intro kk; simp) (by rfl) rfl rfl ⟨rfl, Nat.le_refl _, rfl⟩ (fun _ h => h) (by simp) k2.reads k2.none (sv_plain m) (by decide) (by omega) (by decide) .free rfl ?_
  intro B2 c2 hB2
  refine o_assign rfl .free rfl ?_
  refine o_done ?_
  refine s_seq ?_
  refine s_freezeStrs (l := [40, 62, 32, 105, 32, 105, 41] :: m) hB2 (by simp; omega) (by simp; unfold maxN; omega) (by intro x hx; rcases List.mem_cons.1 hx with rfl | hx; decide; exact k2.each x hx) ?_
  intro J6 o6 c6 e6 hbv6 hs6
  refine s_put (t := 13) rfl hbv6 ?_
  refine o_enter rfl ?_
  iterate 3 refine o_move rfl .free rfl ?_
  refine o_call rfl .free rfl (f_EnvLook (hs5.mono e6) hs6 s _) ?_
  rintro _ J7 _ e7 ⟨rfl, rfl⟩
  have hle := ((hle.trans e5).trans e6).trans e7
  refine o_move rfl .free rfl ?_
  refine o_extract rfl rfl .free rfl ?_
  refine o_extract rfl rfl .free rfl ?_
  refine o_assign rfl .free rfl ?_
  refine o_assign rfl .free rfl ?_
  refine o_done ?_
  refine s_seq ?_
  refine o_enter rfl ?_
  refine o_move rfl .free rfl ?_
  refine o_move rfl .free rfl ?_
  apply o_and 80 84 rfl
  · intro g12_2 hk
    try simp only [nb] at g12_2
    refine o_move rfl (.met rfl rfl) rfl ?_
    refine o_move rfl (.met rfl rfl) rfl ?_
    refine o_cmps rfl rfl rfl (.met rfl rfl) rfl ?_
    refine o_pick_true rfl rfl .free rfl ?_
    exact o_fin 3 rfl rfl hk
  · intro _ hk
    refine o_skips 3 rfl ?_
    refine o_pick_false rfl rfl .free rfl ?_
    exact o_fin 3 rfl rfl hk
  refine o_move rfl .free rfl ?_
  apply o_and 85 88 rfl
  · intro g12_7 hk
    try simp only [nb] at g12_7
    refine o_move rfl (.met rfl rfl) rfl ?_
    refine o_call rfl (.met rfl rfl) rfl (f_TypeValid o (by unfold maxN; omega) _ _) ?_
    rintro _ J8 _ e8 ⟨rfl, rfl⟩
    refine o_mem (fun w h => Mem.le e8 h) ?_
    refine o_pick_true rfl rfl .free rfl ?_
    exact o_fin 2 rfl rfl hk
  · intro _ hk
    refine o_skips 2 rfl ?_
    refine o_pick_false rfl rfl .free rfl ?_
    exact o_fin 2 rfl rfl hk
  refine o_move rfl .free rfl ?_
  apply o_and 89 101 rfl
  · intro g12_11 hk
    try simp only [nb] at g12_11
    refine o_move rfl (.met rfl rfl) rfl ?_
    refine o_len_slice rfl (.met rfl rfl) rfl ?_
    refine o_cmp rfl rfl rfl (.met rfl rfl) rfl ?_
    refine o_move rfl (.met rfl rfl) rfl ?_
    apply o_or 93 100 rfl
    · intro g12_15 hk
      try simp only [nb] at g12_15
      refine o_move rfl (.met rfl rfl) rfl ?_
      refine o_move rfl (.met rfl rfl) rfl ?_
      apply o_and 95 99 rfl
      · intro g12_17 hk
        try simp only [nb] at g12_17
        refine o_move rfl (.met rfl rfl) rfl ?_
        refine o_move rfl (.met rfl rfl) rfl ?_
        refine o_cmps rfl rfl rfl (.met rfl rfl) rfl ?_
        refine o_pick_true rfl rfl (.met rfl rfl) rfl ?_
        exact o_fin 3 rfl rfl hk
      · intro _ hk
        refine o_skips 3 rfl ?_
        refine o_pick_false rfl rfl (.met rfl rfl) rfl ?_
        exact o_fin 3 rfl rfl hk
      refine o_pick_false rfl rfl (.met rfl rfl) rfl ?_
      exact o_fin 3 rfl rfl hk
    · intro _ hk
      refine o_skips 6 rfl ?_
      refine o_pick_true rfl rfl (.met rfl rfl) rfl ?_
      exact o_fin 6 rfl rfl hk
    refine o_pick_true rfl rfl .free rfl ?_
    exact o_fin 5 rfl rfl hk
  · intro _ hk
    refine o_skips 11 rfl ?_
    refine o_pick_false rfl rfl .free rfl ?_
    exact o_fin 11 rfl rfl hk
  refine o_assign rfl .free rfl ?_
  refine o_done ?_
  refine s_ret (.tmp rfl .nil) ?_
  refine ⟨J7, L, hle, (by intro _ h; first | exact h | exact dr1 h | exact dr2 h | exact dr3 h | exact dr4 h | exact dr5 h | exact dr6 h | exact dr6 h.drop | exact dr6 h.drop.drop | exact dr6 h.drop.drop.drop), ?_, rfl⟩
  have h8 := hall.2.2
  have h2 := hall.2.1
  by_cases hl8 : l.length + 1 ≤ 8
  · rw [h8 hl8]; simp [retOne, h2]
  · have : (8 : Int) < ((([122, 57] : Txt) :: l).length : Nat) := by simp only [List.length_cons]; omega
    simp [retOne, h2]
    simp at this
    omega
end Go.Proofs.Ytaloafgcbklfgaa
