
/- 'ExprPut', by the program and by the reference. No conditions. -/
import Derived.Test.YtekfjhopngcneaaE12
namespace Go.Proofs.Ytekfjhopngcneaa
set_option maxRecDepth 100000
set_option linter.unusedVariables false
set_option linter.unusedSimpArgs false

theorem bin_len (o : B5) (a b : Ex) : (Ex.bin o a b).tree.len = 4 + o.txt.length + a.tree.len + b.tree.len := by simp [Ex.tree, Tree.len, lenL]; omega
theorem ite_len (a b c : Ex) : (Ex.ite a b c).tree.len = 7 + a.tree.len + b.tree.len + c.tree.len := by simp [Ex.tree, Tree.len, lenL, tIf]; omega
theorem un_len (o : U2) (a : Ex) : (Ex.un o a).tree.len = 3 + o.txt.length + a.tree.len := by simp [Ex.tree, Tree.len, lenL]; omega
theorem fn_len (f x : Txt) (s t : Ty) (b : Ex) : (Ex.fn f x s t b).tree.len = 10 + f.length + x.length + s.tree.len + t.tree.len + b.tree.len := by simp [Ex.tree, Tree.len, lenL, tFun]; omega
theorem Ex.put_len : ∀ (e : Ex) (n : Txt) (v : Ex), (e.put n v).tree.len ≤ e.tree.len + e.size * v.tree.len
  | .num s, n, v => by simp [Ex.put]
  | .name s, n, v => by simp only [Ex.put, Ex.size, Nat.one_mul]; split <;> omega
  | .bin o a b, n, v => by have := a.put_len n v; have := b.put_len n v; simp only [Ex.put, bin_len, Ex.size, Nat.add_mul]; omega
  | .ite a b c, n, v => by have := a.put_len n v; have := b.put_len n v; have := c.put_len n v; simp only [Ex.put, ite_len, Ex.size, Nat.add_mul]; omega
  | .lt x a b, n, v => by have := a.put_len n v; have := b.put_len n v; simp only [Ex.put, lt_len, Ex.size, Nat.add_mul]; split <;> omega
  | .fn f x s t b, n, v => by have := b.put_len n v; simp only [Ex.put, fn_len, Ex.size, Nat.add_mul]; split <;> omega
  | .un o a, n, v => by have := a.put_len n v; simp only [Ex.put, un_len, Ex.size, Nat.add_mul]; omega
theorem put_room {e v : Ex} {n : Txt} (he : e.size ≤ 120) (hl : e.tree.len ≤ 12000) (hv : v.tree.len ≤ 12000) : (e.put n v).tree.len ≤ 12000000 := by
  have h1 := e.put_len n v
  have h2 : e.size * v.tree.len ≤ 120 * 12000 := Nat.mul_le_mul he hv
  omega
/-- What 'ExprPut' returns. -/
def putOf (s nm by' : Txt) : Option Txt := match exOf s, closedOf by' with
  | some e, some v => if isName nm = true ∧ (e.put nm v).fine = true then some (e.put nm v).tree.text else none
  | _, _ => none
theorem closedOf_facts {s : Txt} {e : Ex} (h : closedOf s = some e) : exOf s = some e ∧ e.ok = true ∧ e.size ≤ 120 ∧ e.tree.len ≤ 12000 ∧ e.closed = true := by
  obtain ⟨h1, h2⟩ := closedOf_some h
  have h3 := (exOf_some h1).2.1
  simp only [Ex.fine, Bool.and_eq_true, Tree.fits, decide_eq_true_eq] at h3
  exact ⟨h1, h3.1.1, h3.1.2, h3.2.2, h2⟩
theorem exOf_facts {s : Txt} {e : Ex} (h1 : exOf s = some e) : e.ok = true ∧ e.size ≤ 120 ∧ e.tree.len ≤ 12000 ∧ s = e.tree.text := by
  have h3 := (exOf_some h1).2.1
  simp only [Ex.fine, Bool.and_eq_true, Tree.fits, decide_eq_true_eq] at h3
  exact ⟨h3.1.1, h3.1.2, h3.2.2, (exOf_some h1).2.2⟩
theorem fine_eq {e : Ex} (h : e.ok = true) : (decide (e.tree.size ≤ 120) && e.tree.fits && e.tree.ex.isSome) = e.fine := by
  simp [Ex.tree_size, Ex.tree_ex h, Ex.fine, h]
theorem f_fine {I : Heap} {e : Ex} {cs : List Value} (h : Rep I e.tree cs) (hok : e.ok = true) (hz : e.tree.len ≤ 12000000) (L : Own) : Fun Try.prog 16 [.agg cs.toArray] I L (Only (.bool e.fine) I L) := by
  rw [← fine_eq hok]; exact f_form_isExpression h (Ex.tree_good hok).1 hz L
theorem RX_get {p : Option Ex} {t : Tree} {ok : Bool} (hpf : match p with | some e => ok = true ∧ t = e.tree | none => ok = false) : (ok = false → p = none) ∧ (ok = true → ∃ e, p = some e ∧ t = e.tree) := by
  cases p with
  | none => exact ⟨fun _ => rfl, fun h => (by rw [hpf] at h; cases h)⟩
  | some e => exact ⟨fun h => (by rw [hpf.1] at h; cases h), fun _ => ⟨e, rfl, hpf.2⟩⟩
theorem putOf_none {s nm by' : Txt} (h : exOf s = none ∨ closedOf by' = none ∨ isName nm = false) : putOf s nm by' = none := by
  unfold putOf
  rcases h with h | h | h
  · rw [h]
  · rw [h]; cases exOf s <;> rfl
  · cases exOf s <;> cases closedOf by' <;> simp [h]
theorem putOf_some {s nm by' : Txt} {e v : Ex} (h : exOf s = some e) (h' : closedOf by' = some v) (hn : isName nm = true) : putOf s nm by' = if (e.put nm v).fine = true then some (e.put nm v).tree.text else none := by
  unfold putOf; rw [h, h']; simp [hn]

theorem f_ExprPut (s nm by' : Txt) (hs : s.length ≤ maxN) (hnl : nm.length ≤ maxN) (hb : by'.length ≤ maxN) (I : Heap) (L : Own) : Fun Try.prog 5 [.string (str s), .string (str nm), .string (str by')] I L (EL (putOf s nm by') L) := by
  refine fun_intro (by simp) ?_
  refine s_seq ?_
  refine o_enter rfl ?_
  refine o_assign rfl .free rfl ?_
  refine o_assign rfl .free rfl ?_
  refine o_done ?_
  refine s_seq ?_
  refine o_enter rfl ?_
  refine o_move rfl .free rfl ?_
  refine o_call rfl .free rfl (f_readExpr s hs _ _) ?_
  rintro _ J1 _ e1 ⟨t, cs, ok, rfl, hrep, rfl, hpf⟩
  obtain ⟨oa, cc, vs, rfl, -⟩ := hrep.open
  refine o_move rfl .free rfl ?_
  refine o_extract rfl rfl .free rfl ?_
  refine o_extract rfl rfl .free rfl ?_
  refine o_alloc .free rfl ?_
  intro b8
  refine o_store rfl rfl rfl rfl (by first | rfl | (simp only [List.toList_toArray, List.all_cons, List.all_nil, plainCell_buf, Bool.and_true, Bool.true_and] <;> rfl)) (by first | exact u0 | exact u1 | exact u2 | exact u3 | exact u4 | exact u5 | exact u6) (by rfl) .free ?_
  refine o_assign rfl .free rfl ?_
  refine o_done ?_
  refine s_seq ?_
  refine o_enter rfl ?_
  refine o_move rfl .free rfl ?_
  refine o_call rfl .free rfl (f_readClosed by' hb _ _) ?_
  rintro _ J2 _ e2 ⟨t2, cs2, ok2, rfl, hrep2, rfl, hpf2⟩
  obtain ⟨oa2, cc2, vs2, rfl, -⟩ := hrep2.open
  have g1 := RX_get hpf
  have g2 := RX_get hpf2
  refine o_move rfl .free rfl ?_
  refine o_extract rfl rfl .free rfl ?_
  refine o_extract rfl rfl .free rfl ?_
  refine o_alloc .free rfl ?_
  intro b10
  refine o_store rfl rfl rfl rfl (by first | rfl | (simp only [List.toList_toArray, List.all_cons, List.all_nil, plainCell_buf, Bool.and_true, Bool.true_and] <;> rfl)) (by first | exact u0 | exact u1 | exact u2 | exact u3 | exact u4 | exact u5 | exact u6) (by rfl) .free ?_
  refine o_assign rfl .free rfl ?_
  refine o_done ?_
  refine s_seq ?_
  refine s_seq ?_
  refine o_enter rfl ?_
  refine o_move rfl .free rfl ?_
  refine o_not rfl .free rfl ?_
  refine o_move rfl .free rfl ?_
  apply o_or 25 28 rfl
  · intro g3_3 hk
    try simp only [Bool.and_eq_true, Bool.or_eq_true, Bool.not_eq_true', Bool.not_eq_false', Bool.and_eq_false_iff, Bool.or_eq_false_iff, decide_eq_true_eq, decide_eq_false_iff_not] at g3_3
    refine o_move rfl (.met rfl rfl) rfl ?_
    refine o_not rfl (.met rfl rfl) rfl ?_
    refine o_pick_false rfl rfl .free rfl ?_
    exact o_fin 2 rfl rfl hk
  · intro _ hk
    refine o_skips 2 rfl ?_
    refine o_pick_true rfl rfl .free rfl ?_
    exact o_fin 2 rfl rfl hk
  refine o_move rfl .free rfl ?_
  apply o_or 29 33 rfl
  · intro g3_7 hk
    try simp only [Bool.and_eq_true, Bool.or_eq_true, Bool.not_eq_true', Bool.not_eq_false', Bool.and_eq_false_iff, Bool.or_eq_false_iff, decide_eq_true_eq, decide_eq_false_iff_not] at g3_7
    refine o_move rfl (.met rfl rfl) rfl ?_
    refine o_call rfl (.met rfl rfl) rfl (f_isName nm hnl _ _) ?_
    rintro _ _ _ _ ⟨rfl, rfl, rfl⟩
    refine o_not rfl (.met rfl rfl) rfl ?_
    refine o_pick_false rfl rfl .free rfl ?_
    exact o_fin 3 rfl rfl hk
  · intro _ hk
    refine o_skips 3 rfl ?_
    refine o_pick_true rfl rfl .free rfl ?_
    exact o_fin 3 rfl rfl hk
  refine o_done ?_
  refine s_cond rfl ?_ ?_
  · intro c0
    try simp only [Bool.and_eq_true, Bool.or_eq_true, Bool.not_eq_true', Bool.not_eq_false', Bool.and_eq_false_iff, Bool.or_eq_false_iff, decide_eq_true_eq, decide_eq_false_iff_not] at c0
    refine s_seq ?_
    refine o_enter rfl ?_
    refine o_assign rfl .free rfl ?_
    refine o_assign rfl .free rfl ?_
    refine o_done ?_
    refine s_ret (.tmp rfl (.tmp rfl .nil)) ?_
    refine ⟨J2, L, e1.trans e2, (by intro _ h; first | exact h | exact dr1 h | exact dr2 h | exact dr3 h | exact dr4 h | exact dr5 h | exact dr6 h), ?_, rfl⟩
    rw [putOf_none (by rcases c0 with (h | h) | h; exact .inl (g1.1 h); exact .inr (.inl (g2.1 h)); exact .inr (.inr h))]; rfl
  · intro c0
    try simp only [Bool.and_eq_true, Bool.or_eq_true, Bool.not_eq_true', Bool.not_eq_false', Bool.and_eq_false_iff, Bool.or_eq_false_iff, decide_eq_true_eq, decide_eq_false_iff_not] at c0
    obtain ⟨⟨h1, h2⟩, hn⟩ := c0
    obtain ⟨e, he, rfl⟩ := g1.2 h1
    obtain ⟨v, hv, rfl⟩ := g2.2 h2
    obtain ⟨hok, hez, hel, -⟩ := exOf_facts he
    obtain ⟨-, hvok, hvz, hvl, -⟩ := closedOf_facts hv
    have hroom := put_room (n := nm) hez hel hvl
    have hpok := Ex.put_ok (n := nm) hok hvok
    have hput := putOf_some he hv hn
    refine s_skip ?_
    refine s_seq ?_
    refine o_enter rfl ?_
    refine o_load rfl (loads_ownS (by first | exact m0 | exact m1 | exact m2 | exact m3 | exact m4 | exact m5 | exact m6) (by rfl)) .free rfl ?_
    refine o_move rfl .free rfl ?_
    refine o_load rfl (loads_ownS (by first | exact m0 | exact m1 | exact m2 | exact m3 | exact m4 | exact m5 | exact m6) (by rfl)) .free rfl ?_
    refine o_call rfl .free rfl (f_form_put _ (Nat.lt_succ_self _) (hrep.mono e2) hok nm hn hrep2 _) ?_
    rintro _ J3 _ e3 ⟨cs3, rfl, h3, rfl⟩
    obtain ⟨o3, k3, _, rfl, -⟩ := h3.open
    refine o_alloc .free rfl ?_
    intro b12
    refine o_store rfl rfl rfl rfl (by first | rfl | (simp only [List.toList_toArray, List.all_cons, List.all_nil, plainCell_buf, Bool.and_true, Bool.true_and] <;> rfl)) (by first | exact u0 | exact u1 | exact u2 | exact u3 | exact u4 | exact u5 | exact u6) (by rfl) .free ?_
    refine o_done ?_
    refine s_seq ?_
    refine s_seq ?_
    refine o_enter rfl ?_
    refine o_load rfl (loads_ownS (by first | exact m0 | exact m1 | exact m2 | exact m3 | exact m4 | exact m5 | exact m6) (by rfl)) .free rfl ?_
    refine o_call rfl .free rfl (f_fine h3 hpok hroom _) ?_
    rintro _ _ _ _ ⟨rfl, rfl, rfl⟩
    refine o_not rfl .free rfl ?_
    refine o_done ?_
    refine s_cond rfl ?_ ?_
    · intro c1
      try simp only [Bool.and_eq_true, Bool.or_eq_true, Bool.not_eq_true', Bool.not_eq_false', Bool.and_eq_false_iff, Bool.or_eq_false_iff, decide_eq_true_eq, decide_eq_false_iff_not] at c1
      refine s_seq ?_
      refine o_enter rfl ?_
      refine o_assign rfl .free rfl ?_
      refine o_assign rfl .free rfl ?_
      refine o_done ?_
      refine s_ret (.tmp rfl (.tmp rfl .nil)) ?_
      refine ⟨J3, L, (e1.trans e2).trans e3, (by intro _ h; first | exact h | exact dr1 h | exact dr2 h | exact dr3 h | exact dr4 h | exact dr5 h | exact dr6 h), ?_, rfl⟩
      rw [hput, if_neg (by rw [c1]; simp)]; rfl
    · intro c1
      try simp only [Bool.and_eq_true, Bool.or_eq_true, Bool.not_eq_true', Bool.not_eq_false', Bool.and_eq_false_iff, Bool.or_eq_false_iff, decide_eq_true_eq, decide_eq_false_iff_not] at c1
      refine s_skip ?_
      refine s_seq ?_
      refine o_enter rfl ?_
      refine o_load rfl (loads_ownS (by first | exact m0 | exact m1 | exact m2 | exact m3 | exact m4 | exact m5 | exact m6) (by rfl)) .free rfl ?_
      refine o_call rfl .free rfl (f_form_text h3 (by rw [Tree.text_len]; unfold maxN; omega) _) ?_
      rintro _ _ _ _ ⟨rfl, rfl, rfl⟩
      refine o_assign rfl .free rfl ?_
      refine o_assign rfl .free rfl ?_
      refine o_done ?_
      refine s_ret (.tmp rfl (.tmp rfl .nil)) ?_
      refine ⟨J3, L, (e1.trans e2).trans e3, (by intro _ h; first | exact h | exact dr1 h | exact dr2 h | exact dr3 h | exact dr4 h | exact dr5 h | exact dr6 h), ?_, rfl⟩
      rw [hput, if_pos c1]; rfl
theorem g_ExprPut (s nm by' : Txt) (hs : s.length ≤ maxL) (hnl : nm.length ≤ maxN) (hb : by'.length ≤ maxL) (I : Heap) (L : Own) : Fun Try.prog 4 [.string (str s), .string (str nm), .string (str by')] I L (EL (putOf s nm by') L) := by
  refine fun_intro (by simp) ?_
  refine s_seq ?_
  refine o_enter rfl ?_
  refine o_assign rfl .free rfl ?_
  refine o_assign rfl .free rfl ?_
  refine o_done ?_
  refine s_seq ?_
  refine o_enter rfl ?_
  refine o_move rfl .free rfl ?_
  refine o_call rfl .free rfl (g_l2Parse' s hs _ _) ?_
  rintro _ J1 _ e1 ⟨t, cs, ok, rfl, hrep, rfl, hpf⟩
  obtain ⟨oa, cc, vs, rfl, -⟩ := hrep.open
  refine o_move rfl .free rfl ?_
  refine o_extract rfl rfl .free rfl ?_
  refine o_extract rfl rfl .free rfl ?_
  refine o_alloc .free rfl ?_
  intro b8
  refine o_store rfl rfl rfl rfl (by first | rfl | (simp only [List.toList_toArray, List.all_cons, List.all_nil, plainCell_buf, Bool.and_true, Bool.true_and] <;> rfl)) (by first | exact u0 | exact u1 | exact u2 | exact u3 | exact u4 | exact u5 | exact u6) (by rfl) .free ?_
  refine o_assign rfl .free rfl ?_
  refine o_done ?_
  refine s_seq ?_
  refine o_enter rfl ?_
  refine o_move rfl .free rfl ?_
  refine o_call rfl .free rfl (g_l2Parse' by' hb _ _) ?_
  rintro _ J2 _ e2 ⟨t2, cs2, ok2, rfl, hrep2, rfl, hpf2⟩
  obtain ⟨oa2, cc2, vs2, rfl, -⟩ := hrep2.open
  have g1 := RX_get hpf
  have g2 := RX_get hpf2
  refine o_move rfl .free rfl ?_
  refine o_extract rfl rfl .free rfl ?_
  refine o_extract rfl rfl .free rfl ?_
  refine o_alloc .free rfl ?_
  intro b10
  refine o_store rfl rfl rfl rfl (by first | rfl | (simp only [List.toList_toArray, List.all_cons, List.all_nil, plainCell_buf, Bool.and_true, Bool.true_and] <;> rfl)) (by first | exact u0 | exact u1 | exact u2 | exact u3 | exact u4 | exact u5 | exact u6) (by rfl) .free ?_
  refine o_assign rfl .free rfl ?_
  refine o_done ?_
  refine s_seq ?_
  refine s_seq ?_
  refine o_enter rfl ?_
  refine o_move rfl .free rfl ?_
  refine o_not rfl .free rfl ?_
  refine o_move rfl .free rfl ?_
  apply o_or 25 28 rfl
  · intro g3_3 hk
    try simp only [Bool.and_eq_true, Bool.or_eq_true, Bool.not_eq_true', Bool.not_eq_false', Bool.and_eq_false_iff, Bool.or_eq_false_iff, decide_eq_true_eq, decide_eq_false_iff_not] at g3_3
    refine o_move rfl (.met rfl rfl) rfl ?_
    refine o_not rfl (.met rfl rfl) rfl ?_
    refine o_pick_false rfl rfl .free rfl ?_
    exact o_fin 2 rfl rfl hk
  · intro _ hk
    refine o_skips 2 rfl ?_
    refine o_pick_true rfl rfl .free rfl ?_
    exact o_fin 2 rfl rfl hk
  refine o_move rfl .free rfl ?_
  apply o_or 29 33 rfl
  · intro g3_7 hk
    try simp only [Bool.and_eq_true, Bool.or_eq_true, Bool.not_eq_true', Bool.not_eq_false', Bool.and_eq_false_iff, Bool.or_eq_false_iff, decide_eq_true_eq, decide_eq_false_iff_not] at g3_7
    refine o_move rfl (.met rfl rfl) rfl ?_
    refine o_call rfl (.met rfl rfl) rfl (g_l2Name nm hnl _ _) ?_
    rintro _ _ _ _ ⟨rfl, rfl, rfl⟩
    refine o_not rfl (.met rfl rfl) rfl ?_
    refine o_pick_false rfl rfl .free rfl ?_
    exact o_fin 3 rfl rfl hk
  · intro _ hk
    refine o_skips 3 rfl ?_
    refine o_pick_true rfl rfl .free rfl ?_
    exact o_fin 3 rfl rfl hk
  refine o_move rfl .free rfl ?_
  apply o_or 34 38 rfl
  · intro g3_12 hk
    try simp only [Bool.and_eq_true, Bool.or_eq_true, Bool.not_eq_true', Bool.not_eq_false', Bool.and_eq_false_iff, Bool.or_eq_false_iff, decide_eq_true_eq, decide_eq_false_iff_not] at g3_12
    refine o_move rfl (.met rfl rfl) rfl ?_
    refine o_call rfl (.met rfl rfl) rfl (g_ExprClosed by' hb _ _) ?_
    rintro _ _ _ _ ⟨rfl, rfl, rfl⟩
    refine o_not rfl (.met rfl rfl) rfl ?_
    refine o_pick_false rfl rfl .free rfl ?_
    exact o_fin 3 rfl rfl hk
  · intro _ hk
    refine o_skips 3 rfl ?_
    refine o_pick_true rfl rfl .free rfl ?_
    exact o_fin 3 rfl rfl hk
  refine o_done ?_
  refine s_cond rfl ?_ ?_
  · intro c0
    try simp only [Bool.and_eq_true, Bool.or_eq_true, Bool.not_eq_true', Bool.not_eq_false', Bool.and_eq_false_iff, Bool.or_eq_false_iff, decide_eq_true_eq, decide_eq_false_iff_not] at c0
    refine s_seq ?_
    refine o_enter rfl ?_
    refine o_assign rfl .free rfl ?_
    refine o_assign rfl .free rfl ?_
    refine o_done ?_
    refine s_ret (.tmp rfl (.tmp rfl .nil)) ?_
    refine ⟨J2, L, e1.trans e2, (by intro _ h; first | exact h | exact dr1 h | exact dr2 h | exact dr3 h | exact dr4 h | exact dr5 h | exact dr6 h), ?_, rfl⟩
    rw [putOf_none (by
      rcases c0 with ((h | h) | h) | h
      · exact .inl (g1.1 h)
      · exact .inr (.inl (by unfold closedOf; rw [g2.1 h]))
      · exact .inr (.inr h)
      · exact .inr (.inl (by cases hc : closedOf by' with
          | none => rfl
          | some v => rw [hc] at h; cases h)))]; rfl
  · intro c0
    try simp only [Bool.and_eq_true, Bool.or_eq_true, Bool.not_eq_true', Bool.not_eq_false', Bool.and_eq_false_iff, Bool.or_eq_false_iff, decide_eq_true_eq, decide_eq_false_iff_not] at c0
    obtain ⟨⟨⟨h1, h2⟩, hn⟩, hcl⟩ := c0
    obtain ⟨e, he, rfl⟩ := g1.2 h1
    obtain ⟨v, hv', rfl⟩ := g2.2 h2
    obtain ⟨v2, hv⟩ := Option.isSome_iff_exists.1 hcl
    obtain ⟨hv3, hvok, hvz, hvl, -⟩ := closedOf_facts hv
    rw [hv'] at hv3; cases hv3
    obtain ⟨hok, hez, hel, -⟩ := exOf_facts he
    have hroom := put_room (n := nm) hez hel hvl
    have hpok := Ex.put_ok (n := nm) hok hvok
    have hput := putOf_some he hv hn
    have hx := exOf_text hpok
    have hfi : (exOf (e.put nm v).tree.text).isSome = (e.put nm v).fine := by rw [hx]; cases (e.put nm v).fine <;> rfl
    refine s_skip ?_
    refine s_seq ?_
    refine o_enter rfl ?_
    refine o_load rfl (loads_ownS (by first | exact m0 | exact m1 | exact m2 | exact m3 | exact m4 | exact m5 | exact m6) (by rfl)) .free rfl ?_
    refine o_move rfl .free rfl ?_
    refine o_load rfl (loads_ownS (by first | exact m0 | exact m1 | exact m2 | exact m3 | exact m4 | exact m5 | exact m6) (by rfl)) .free rfl ?_
    refine o_call rfl .free rfl (g_l2Put _ (Nat.lt_succ_self _) (hrep.mono e2) hok nm hn hrep2 _) ?_
    rintro _ J3 _ e3 ⟨cs3, rfl, h3, rfl⟩
    refine o_call rfl .free rfl (g_l1Text _ (Nat.lt_succ_self _) h3 (Ex.tree_good hpok).1 hroom _) ?_
    rintro _ _ _ _ ⟨rfl, rfl, rfl⟩
    refine o_assign rfl .free rfl ?_
    refine o_done ?_
    refine s_seq ?_
    refine s_seq ?_
    refine o_enter rfl ?_
    refine o_move rfl .free rfl ?_
    refine o_call rfl .free rfl (g_ExprValid' _ (by rw [Tree.text_len]; unfold maxL; omega) _ _) ?_
    rintro _ _ _ _ ⟨rfl, rfl, rfl⟩
    refine o_not rfl .free rfl ?_
    refine o_done ?_
    refine s_cond rfl ?_ ?_
    · intro c1
      try simp only [Bool.and_eq_true, Bool.or_eq_true, Bool.not_eq_true', Bool.not_eq_false', Bool.and_eq_false_iff, Bool.or_eq_false_iff, decide_eq_true_eq, decide_eq_false_iff_not] at c1
      refine s_seq ?_
      refine o_enter rfl ?_
      refine o_assign rfl .free rfl ?_
      refine o_assign rfl .free rfl ?_
      refine o_done ?_
      refine s_ret (.tmp rfl (.tmp rfl .nil)) ?_
      refine ⟨J3, L, (e1.trans e2).trans e3, (by intro _ h; first | exact h | exact dr1 h | exact dr2 h | exact dr3 h | exact dr4 h | exact dr5 h | exact dr6 h), ?_, rfl⟩
      rw [hfi] at c1
      rw [hput, if_neg (by rw [c1]; simp)]; rfl
    · intro c1
      try simp only [Bool.and_eq_true, Bool.or_eq_true, Bool.not_eq_true', Bool.not_eq_false', Bool.and_eq_false_iff, Bool.or_eq_false_iff, decide_eq_true_eq, decide_eq_false_iff_not] at c1
      refine s_skip ?_
      refine s_seq ?_
      refine o_enter rfl ?_
      refine o_move rfl .free rfl ?_
      refine o_assign rfl .free rfl ?_
      refine o_assign rfl .free rfl ?_
      refine o_done ?_
      refine s_ret (.tmp rfl (.tmp rfl .nil)) ?_
      refine ⟨J3, L, (e1.trans e2).trans e3, (by intro _ h; first | exact h | exact dr1 h | exact dr2 h | exact dr3 h | exact dr4 h | exact dr5 h | exact dr6 h), ?_, rfl⟩
      rw [hfi] at c1
      rw [hput, if_pos c1]; rfl
end Go.Proofs.Ytekfjhopngcneaa
