/- 'ExprType' and 'ExprTyped', by the program and by the reference. No conditions. -/
import Derived.Test.YtjdjlndhonkmaaaG8
namespace Go.Proofs.Ytjdjlndhonkmaaa
set_option maxRecDepth 100000
set_option linter.unusedVariables false
set_option linter.unusedSimpArgs false

theorem rep_forms {I : Heap} {ts : List Tree} {oa : Option Addr} {c : Nat} (h : Rep I (.node [] ts) [.string (str []), .slice oa ts.length c]) : Forms I oa ts c := by
  obtain ⟨oa', c', vs, he, hl, hs, hn, hc, ha, hp⟩ := h.open
  simp only [List.cons.injEq, Value.slice.injEq, and_true, true_and] at he
  obtain ⟨-, rfl, -, rfl⟩ := he
  exact ⟨⟨vs, hl, hs⟩, hn, hc, hp⟩
theorem f_ExprType {I : Heap} {oa ob : Option Addr} {l m : List Txt} {c c' : Nat} (h : Strs I oa l c) (h' : Strs I ob m c') (s : Txt) (hs : s.length ≤ maxN) (L : Own) :
    Fun Try.prog 7 [.slice oa l.length c, .slice ob m.length c', .string (str s)] I L (EL (exTy l m s) L) := by
  refine fun_intro (by simp) ?_
  refine s_seq ?_
  refine o_enter rfl ?_
  refine o_assign rfl .free rfl ?_
  refine o_assign rfl .free rfl ?_
  refine o_done ?_
  refine s_seq ?_
  refine o_enter rfl ?_
  refine o_move rfl .free rfl ?_
  refine o_move rfl .free rfl ?_
  refine o_call rfl .free rfl (f_readEnv h h' _) ?_
  rintro _ J1 _ e1 ⟨oa', n, c2, ob', ts, c3, rfl, rfl, hrt, henv⟩
  refine o_move rfl .free rfl ?_
  refine o_extract rfl rfl .free rfl ?_
  refine o_extract rfl rfl .free rfl ?_
  refine o_alloc .free rfl ?_
  intro b8
  refine o_st rfl rfl rfl rfl .free ?_
  refine o_assign rfl .free rfl ?_
  refine o_done ?_
  refine s_seq ?_
  refine o_enter rfl ?_
  refine o_move rfl .free rfl ?_
  refine o_call rfl .free rfl (f_readExpr s hs _ _) ?_
  rintro _ J2 _ e2 ⟨t, cs, ok, rfl, hrep, rfl, hpf⟩
  obtain ⟨o1, k1, _, rfl, -⟩ := hrep.open
  have g1 := RX_get hpf
  have hle := e1.trans e2
  refine o_move rfl .free rfl ?_
  refine o_extract rfl rfl .free rfl ?_
  refine o_extract rfl rfl .free rfl ?_
  refine o_alloc .free rfl ?_
  intro b10
  refine o_st rfl rfl rfl rfl .free ?_
  refine o_assign rfl .free rfl ?_
  refine o_done ?_
  refine s_seq ?_
  refine s_seq ?_
  refine o_enter rfl ?_
  refine o_move rfl .free rfl ?_
  refine o_not rfl .free rfl ?_
  refine o_move rfl .free rfl ?_
  apply o_or 28 31 rfl
  · intro g3_3 hk
    try simp only [nb] at g3_3
    refine o_move rfl (.met rfl rfl) rfl ?_
    refine o_not rfl (.met rfl rfl) rfl ?_
    refine o_pick_false rfl rfl .free rfl ?_
    exact o_fin 2 rfl rfl hk
  · intro _ hk
    refine o_skips 2 rfl ?_
    refine o_pick_true rfl rfl .free rfl ?_
    exact o_fin 2 rfl rfl hk
  refine o_done ?_
  refine s_cond rfl ?_ ?_
  · intro c0
    try simp only [nb] at c0
    refine s_seq ?_
    refine o_enter rfl ?_
    refine o_assign rfl .free rfl ?_
    refine o_assign rfl .free rfl ?_
    refine o_done ?_
    refine s_ret (.tmp rfl (.tmp rfl .nil)) ?_
    refine ⟨J2, L, hle, (by intro _ h; first | exact h | exact dr1 h | exact dr2 h | exact dr3 h | exact dr4 h | exact dr5 h | exact dr6 h | exact dr6 h.drop | exact dr6 h.drop.drop | exact dr6 h.drop.drop.drop), ?_, rfl⟩
    rw [exTy_no (by rcases c0 with h | h; exact .inl h; exact .inr (g1.1 h))]; rfl
  intro c0
  try simp only [nb] at c0
  obtain ⟨he, hok⟩ := c0
  obtain ⟨rfl, rfl, rfl, hts⟩ := henv he
  obtain ⟨e, hx, rfl⟩ := g1.2 hok
  obtain ⟨hek, hez, hel, -⟩ := exOf_facts hx
  obtain ⟨h1, h2, h3, h4, h5, h6⟩ := isEnv_tys he
  have hts2 : ts = (tysOf m).map Ty.tree := by
    have := h3.symm.trans hts
    exact (List.map_inj_right (fun a b h => Option.some.inj h)).1 this.symm
  subst hts2
  have hty := exTy_of he hx
  refine s_skip ?_
  refine s_seq ?_
  refine o_enter rfl ?_
  refine o_lOS rfl .free rfl ?_
  refine o_lOS rfl .free rfl ?_
  refine o_call rfl .free rfl (f_env_typeOf _ (Nat.lt_succ_self _) ⟨h.mono hle, (rep_forms hrt).mono e2, h4, h2⟩ hrep hek (by unfold maxN; omega) _) ?_
  rintro _ J3 _ e3 ⟨u, cs, w', ds, ok', rfl, hru, hrw, rfl, hm⟩
  obtain ⟨o4, k4, _, rfl, -⟩ := hru.open
  obtain ⟨o5, k5, _, rfl, -⟩ := hrw.open
  have hle := hle.trans e3
  refine o_move rfl .free rfl ?_
  iterate 3 refine o_extract rfl rfl .free rfl ?_
  refine o_alloc .free rfl ?_
  intro b12
  refine o_alloc .free rfl ?_
  intro b13
  refine o_st rfl rfl rfl rfl .free ?_
  refine o_st rfl rfl rfl rfl .free ?_
  refine o_assign rfl .free rfl ?_
  refine o_done ?_
  refine s_seq ?_
  refine s_seq ?_
  refine o_enter rfl ?_
  refine o_move rfl .free rfl ?_
  refine o_not rfl .free rfl ?_
  refine o_done ?_
  refine s_cond rfl ?_ ?_
  · intro c1
    try simp only [nb] at c1
    refine s_seq ?_
    refine o_enter rfl ?_
    refine o_assign rfl .free rfl ?_
    refine o_assign rfl .free rfl ?_
    refine o_done ?_
    refine s_ret (.tmp rfl (.tmp rfl .nil)) ?_
    refine ⟨J3, L, hle, (by intro _ h; first | exact h | exact dr1 h | exact dr2 h | exact dr3 h | exact dr4 h | exact dr5 h | exact dr6 h | exact dr6 h.drop | exact dr6 h.drop.drop | exact dr6 h.drop.drop.drop), ?_, rfl⟩
    obtain ⟨y, hy, -⟩ := to_no hm (by simpa using c1)
    rw [hty, show e.ty l (tysOf m) = none by unfold Ex.ty; rw [hy]]; rfl
  intro c1
  try simp only [nb] at c1
  obtain ⟨ty, hy, rfl⟩ := to_ok hm (by simpa using c1)
  have hsm := Ex.chk_small hek h2 hy
  have htl := Ty.text_len hsm
  refine s_skip ?_
  refine s_seq ?_
  refine o_enter rfl ?_
  refine o_lOS rfl .free rfl ?_
  refine o_call rfl .free rfl (f_form_text hru (by unfold maxN; omega) _) ?_
  rintro _ _ _ _ ⟨rfl, rfl, rfl⟩
  refine o_assign rfl .free rfl ?_
  refine o_assign rfl .free rfl ?_
  refine o_done ?_
  refine s_ret (.tmp rfl (.tmp rfl .nil)) ?_
  refine ⟨J3, L, hle, (by intro _ h; first | exact h | exact dr1 h | exact dr2 h | exact dr3 h | exact dr4 h | exact dr5 h | exact dr6 h | exact dr6 h.drop | exact dr6 h.drop.drop | exact dr6 h.drop.drop.drop), ?_, rfl⟩
  rw [hty, show e.ty l (tysOf m) = some ty by unfold Ex.ty; rw [hy]]; rfl
theorem f_ExprTyped (s : Txt) (hs : s.length ≤ maxN) (I : Heap) (L : Own) : Fun Try.prog 5 [.string (str s)] I L (fun v I' L' => v = .bool (tyC s).isSome ∧ L = L') := by
  refine fun_intro (by simp) ?_
  refine s_seq ?_
  refine o_enter rfl ?_
  refine o_assign rfl .free rfl ?_
  refine o_done ?_
  refine s_seq ?_
  refine o_enter rfl ?_
  refine o_move rfl .free rfl ?_
  refine o_call rfl .free rfl (f_ExprType (l := []) (m := []) (strs_nil I) (strs_nil I) s hs _) ?_
  rintro _ J _ e1 ⟨rfl, rfl⟩
  refine o_move rfl .free rfl ?_
  refine o_extract rfl rfl .free rfl ?_
  refine o_extract rfl rfl .free rfl ?_
  refine o_assign rfl .free rfl ?_
  refine o_assign rfl .free rfl ?_
  refine o_done ?_
  refine s_seq ?_
  refine o_enter rfl ?_
  refine o_move rfl .free rfl ?_
  refine o_assign rfl .free rfl ?_
  refine o_done ?_
  refine s_ret (.tmp rfl .nil) ?_
  exact ⟨J, L, e1, (by intro _ h; first | exact h | exact dr1 h | exact dr2 h | exact dr3 h | exact dr4 h | exact dr5 h | exact dr6 h | exact dr6 h.drop | exact dr6 h.drop.drop | exact dr6 h.drop.drop.drop), by rw [exTy_nil]; cases tyC s <;> rfl, rfl⟩
theorem g_l3Closed (s : Txt) (hs : s.length ≤ maxL) (I : Heap) (L : Own) : Fun Try.prog 6 [.string (str s)] I L (ST (tyT (tyC s)) L) := by
  refine fun_intro (by simp) ?_
  refine s_seq ?_
  refine o_enter rfl ?_
  refine o_assign rfl .free rfl ?_
  refine o_done ?_
  refine s_seq ?_
  refine o_enter rfl ?_
  refine o_move rfl .free rfl ?_
  refine o_call rfl .free rfl (g_l2Parse' s hs _ _) ?_
  rintro _ J1 _ e1 ⟨t, cs, ok, rfl, hrep, rfl, hpf⟩
  obtain ⟨o1, k1, _, rfl, -⟩ := hrep.open
  have g1 := RX_get hpf
  refine o_move rfl .free rfl ?_
  refine o_extract rfl rfl .free rfl ?_
  refine o_extract rfl rfl .free rfl ?_
  refine o_alloc .free rfl ?_
  intro b3
  refine o_st rfl rfl rfl rfl .free ?_
  refine o_assign rfl .free rfl ?_
  refine o_done ?_
  refine s_seq ?_
  refine s_seq ?_
  refine o_enter rfl ?_
  refine o_move rfl .free rfl ?_
  refine o_not rfl .free rfl ?_
  refine o_move rfl .free rfl ?_
  apply o_or 12 16 rfl
  · intro g2_3 hk
    try simp only [nb] at g2_3
    refine o_move rfl (.met rfl rfl) rfl ?_
    refine o_call rfl (.met rfl rfl) rfl (g_ExprClosed s hs _ _) ?_
    rintro _ _ _ _ ⟨rfl, rfl, rfl⟩
    refine o_not rfl (.met rfl rfl) rfl ?_
    refine o_pick_false rfl rfl .free rfl ?_
    exact o_fin 3 rfl rfl hk
  · intro _ hk
    refine o_skips 3 rfl ?_
    refine o_pick_true rfl rfl .free rfl ?_
    exact o_fin 3 rfl rfl hk
  refine o_done ?_
  refine s_cond rfl ?_ ?_
  · intro c0
    try simp only [nb] at c0
    refine s_seq ?_
    refine o_enter rfl ?_
    refine o_assign rfl .free rfl ?_
    refine o_done ?_
    refine s_ret (.tmp rfl .nil) ?_
    refine ⟨J1, L, e1, (by intro _ h; first | exact h | exact dr1 h | exact dr2 h | exact dr3 h | exact dr4 h | exact dr5 h | exact dr6 h | exact dr6 h.drop | exact dr6 h.drop.drop | exact dr6 h.drop.drop.drop), ?_, rfl⟩
    have : tyC s = none := by
      unfold tyC
      cases hx : exOf s with
      | none => rfl
      | some e =>
        rcases c0 with h | h
        · rw [g1.1 h] at hx; cases hx
        · cases ht : e.ty [] [] with
          | none => simp [ht]
          | some ty =>
            have hc := Ex.ty_closed ht
            unfold closedOf at h
            rw [hx] at h; simp [hc] at h
    rw [this]; rfl
  intro c0
  try simp only [nb] at c0
  obtain ⟨hok, hcl⟩ := c0
  obtain ⟨e, hx, rfl⟩ := g1.2 hok
  obtain ⟨hek, hez, hel, -⟩ := exOf_facts hx
  have hty : tyC s = e.ty [] [] := by unfold tyC; rw [hx]; rfl
  refine s_skip ?_
  refine s_seq ?_
  refine o_enter rfl ?_
  refine o_lOS rfl .free rfl ?_
  refine o_lits0 .free rfl ?_
  intro b18
  refine o_lits0 .free rfl ?_
  intro b19
  refine o_call rfl .free rfl (g_l3Type (l := []) (m := []) _ (Nat.lt_succ_self _) ⟨strs_empty _ _, strs_empty _ _, rfl, fun _ h => by cases h⟩ hrep hek (by simp; unfold maxN; omega) _) ?_
  rintro _ J3 _ e3 ⟨rfl, rfl⟩
  have hle := e1.trans e3
  refine o_assign rfl .free rfl ?_
  refine o_done ?_
  refine s_ret (.tmp rfl .nil) ?_
  exact ⟨J3, L, hle, (by intro _ h; first | exact h | exact dr1 h | exact dr2 h | exact dr3 h | exact dr4 h | exact dr5 h | exact dr6 h | exact dr6 h.drop | exact dr6 h.drop.drop | exact dr6 h.drop.drop.drop), by rw [hty]; rfl, rfl⟩
theorem g_ExprTyped (s : Txt) (hs : s.length ≤ maxL) (I : Heap) (L : Own) : Fun Try.prog 4 [.string (str s)] I L (fun v I' L' => v = .bool (tyC s).isSome ∧ L = L') := by
  refine fun_intro (by simp) ?_
  refine s_seq ?_
  refine o_enter rfl ?_
  refine o_assign rfl .free rfl ?_
  refine o_done ?_
  refine s_seq ?_
  refine o_enter rfl ?_
  refine o_move rfl .free rfl ?_
  refine o_call rfl .free rfl (g_l3Closed s hs _ _) ?_
  rintro _ J _ e1 ⟨rfl, rfl⟩
  refine o_cmps rfl rfl rfl .free rfl ?_
  refine o_assign rfl .free rfl ?_
  refine o_done ?_
  refine s_ret (.tmp rfl .nil) ?_
  refine ⟨J, L, e1, (by intro _ h; first | exact h | exact dr1 h | exact dr2 h | exact dr3 h | exact dr4 h | exact dr5 h | exact dr6 h | exact dr6 h.drop | exact dr6 h.drop.drop | exact dr6 h.drop.drop.drop), ?_, rfl⟩
  cases tyC s with
  | none => rfl
  | some ty => simp [retOne, tyT, ty.text_ne]
end Go.Proofs.Ytjdjlndhonkmaaa


/- The walk of the statement 'FnExactExprTyped'. No conditions. -/
namespace Go.Proofs.Ytjdjlndhonkmaaa
set_option maxRecDepth 100000
set_option linter.unusedVariables false
set_option linter.unusedSimpArgs false

theorem law_FnExactExprTyped {I : Heap} (s : Txt) (hs : s.length ≤ 9223372036854775807) (L : Own) : Fun Try.prog 3 [.string (str s)] I L (YES L) := by
  refine fun_intro (by simp) ?_
  refine s_seq ?_
  refine o_enter rfl ?_
  refine o_assign rfl .free rfl ?_
  refine o_done ?_
  refine s_seq ?_
  refine s_seq ?_
  refine o_enter rfl ?_
  refine o_move rfl .free rfl ?_
  refine o_len_str rfl .free rfl ?_
  refine o_cmp rfl rfl rfl .free rfl ?_
  refine o_done ?_
  first | refine s_if rfl ?_ ?_ | refine s_ifn rfl ?_ ?_ | refine s_cond rfl ?_ ?_
  · intro c0
    refine s_seq ?_
    refine o_enter rfl ?_
    refine o_assign rfl .free rfl ?_
    refine o_done ?_
    refine s_ret (.tmp rfl .nil) ?_
    exact ⟨I, L, .refl _, fun _ h => h, rfl, rfl⟩
  intro c0
  have hs := (show s.length ≤ maxN by unfold maxN; omega)
  refine s_skip ?_
  refine s_seq ?_
  refine o_enter rfl ?_
  refine o_move rfl .free rfl ?_
  refine o_call rfl .free rfl (g_ExprTyped s (maxN_maxL hs) _ _) ?_
  rintro _ I1 _ e1 ⟨rfl, rfl⟩
  refine o_assign rfl .free rfl ?_
  refine o_done ?_
  refine s_seq ?_
  refine o_enter rfl ?_
  refine o_move rfl .free rfl ?_
  refine o_call rfl .free rfl (f_ExprTyped s hs _ _) ?_
  rintro _ I2 _ e2 ⟨rfl, rfl⟩
  refine o_assign rfl .free rfl ?_
  refine o_done ?_
  refine s_seq ?_
  refine s_seq ?_
  refine o_enter rfl ?_
  refine o_move rfl .free rfl ?_
  refine o_move rfl .free rfl ?_
  refine o_cmpb rfl rfl rfl .free rfl ?_
  refine o_done ?_
  first | refine s_fp rfl (by simp) ?_ | refine s_fn rfl (by simp) ?_ | refine s_false (by simp [look, opd, *]) ?_
  refine s_skip ?_
  refine s_seq ?_
  refine o_enter rfl ?_
  refine o_assign rfl .free rfl ?_
  refine o_done ?_
  refine s_ret (.tmp rfl .nil) ?_
  exact ⟨I2, L, e1.trans e2, fun _ h => h, rfl, rfl⟩
end Go.Proofs.Ytjdjlndhonkmaaa
