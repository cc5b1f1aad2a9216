/- Drawn expressions, well and odd ones. No conditions. -/
import Derived.Test.YtbppjohpghpcnaaG11
namespace Go.Proofs.Ytbppjohpghpcnaa
set_option maxRecDepth 100000
set_option linter.unusedVariables false
set_option linter.unusedSimpArgs false

theorem replOf_some {s a b : Txt} {t x y : Tree} (h1 : parse s = some t) (h2 : parse a = some x) (h3 : parse b = some y) : replOf s a b = if x.atom ≠ [] ∧ (parse (t.repl a y).text).isSome = true then some (t.repl a y).text else none := by
  unfold replOf; rw [h1, h2, h3]
theorem replOf_none {s a b : Txt} (h : parse s = none ∨ parse a = none ∨ parse b = none) : replOf s a b = none := by
  unfold replOf
  rcases h with h | h | h
  · rw [h]
  · rw [h]; cases parse s <;> rfl
  · rw [h]; cases parse s <;> cases parse a <;> rfl
theorem RD_get {p : Option Tree} {t : Tree} {ok : Bool} (hpf : match p with | some t0 => ok = true ∧ t = t0 | none => ok = false) : (ok = false → p = none) ∧ (ok = true → p = some t) := by
  cases p with
  | none => exact ⟨fun _ => rfl, fun h => (by rw [hpf] at h; cases h)⟩
  | some t0 => exact ⟨fun h => (by rw [hpf.1] at h; cases h), fun _ => (by rw [hpf.2])⟩
theorem parse_len {s : Txt} {t : Tree} (h : parse s = some t) : s.length ≤ 12000 ∧ t.len ≤ 12000 := by
  have h1 := (parse_fits h).1
  simp only [Tree.fits, Bool.and_eq_true, decide_eq_true_eq] at h1
  exact ⟨by rw [← parse_text h, Tree.text_len]; exact h1.2, h1.2⟩
theorem repl_out {s a b o : Txt} (h : replOf s a b = some o) : o.length ≤ 12000 := by
  unfold replOf at h
  cases h1 : parse s with
  | none => rw [h1] at h; cases h
  | some t =>
    cases h2 : parse a with
    | none => rw [h1, h2] at h; cases h
    | some x =>
      cases h3 : parse b with
      | none => rw [h1, h2, h3] at h; cases h
      | some y =>
        rw [h1, h2, h3] at h
        simp only at h
        split at h
        · rename_i hh
          cases h
          obtain ⟨z, hz⟩ := Option.isSome_iff_exists.1 hh.2
          exact (parse_len hz).1
        · cases h
theorem g_FormReplace (s a b : Txt) (hs : s.length ≤ maxL) (ha : a.length ≤ maxL) (hb : b.length ≤ 900) (I : Heap) (L : Own) : Fun Try.prog 32 [.string (str s), .string (str a), .string (str b)] I L (EL (replOf s a b) L) := by
  refine fun_intro (by simp) ?_
  refine s_seq ?_
  refine o_enter rfl ?_
  refine o_assign rfl .free rfl ?_
  refine o_assign rfl .free rfl ?_
  refine o_done ?_
  refine s_seq ?_
  refine o_enter rfl ?_
  refine o_move rfl .free rfl ?_
  refine o_call rfl .free rfl (g_l1Parse' s hs _ _) ?_
  rintro _ J1 _ e1 ⟨t, cs1, ok1, rfl, hr1, rfl, hp1⟩
  obtain ⟨o1, k1, _, rfl, -⟩ := hr1.open
  refine o_move rfl .free rfl ?_
  refine o_extract rfl rfl .free rfl ?_
  refine o_extract rfl rfl .free rfl ?_
  refine o_alloc .free rfl ?_
  intro b8
  refine o_st rfl rfl rfl rfl .free ?_
  refine o_assign rfl .free rfl ?_
  refine o_done ?_
  refine s_seq ?_
  refine o_enter rfl ?_
  refine o_move rfl .free rfl ?_
  refine o_call rfl .free rfl (g_l1Parse' a ha _ _) ?_
  rintro _ J2 _ e2 ⟨x, cs2, ok2, rfl, hr2, rfl, hp2⟩
  obtain ⟨o2, k2, _, rfl, -⟩ := hr2.open
  refine o_move rfl .free rfl ?_
  refine o_extract rfl rfl .free rfl ?_
  refine o_extract rfl rfl .free rfl ?_
  refine o_alloc .free rfl ?_
  intro b10
  refine o_st rfl rfl rfl rfl .free ?_
  refine o_assign rfl .free rfl ?_
  refine o_done ?_
  refine s_seq ?_
  refine o_enter rfl ?_
  refine o_move rfl .free rfl ?_
  refine o_call rfl .free rfl (g_l1Parse' b (by unfold maxL; omega) _ _) ?_
  rintro _ J3 _ e3 ⟨y, cs3, ok3, rfl, hr3, rfl, hp3⟩
  obtain ⟨o3, k3, _, rfl, -⟩ := hr3.open
  have q1 := RD_get hp1
  have q2 := RD_get hp2
  have q3 := RD_get hp3
  have hle := (e1.trans e2).trans e3
  refine o_move rfl .free rfl ?_
  refine o_extract rfl rfl .free rfl ?_
  refine o_extract rfl rfl .free rfl ?_
  refine o_alloc .free rfl ?_
  intro b12
  refine o_st rfl rfl rfl rfl .free ?_
  refine o_assign rfl .free rfl ?_
  refine o_done ?_
  refine s_seq ?_
  refine s_seq ?_
  refine o_enter rfl ?_
  refine o_move rfl .free rfl ?_
  refine o_not rfl .free rfl ?_
  refine o_move rfl .free rfl ?_
  apply o_or 32 35 rfl
  · intro g4_3 hk
    try simp only [nb] at g4_3
    refine o_move rfl (.met rfl rfl) rfl ?_
    refine o_not rfl (.met rfl rfl) rfl ?_
    refine o_pick_false rfl rfl .free rfl ?_
    exact o_fin 2 rfl rfl hk
  · intro _ hk
    refine o_skips 2 rfl ?_
    refine o_pick_true rfl rfl .free rfl ?_
    exact o_fin 2 rfl rfl hk
  refine o_move rfl .free rfl ?_
  apply o_or 36 39 rfl
  · intro g4_7 hk
    try simp only [nb] at g4_7
    refine o_move rfl (.met rfl rfl) rfl ?_
    refine o_not rfl (.met rfl rfl) rfl ?_
    refine o_pick_false rfl rfl .free rfl ?_
    exact o_fin 2 rfl rfl hk
  · intro _ hk
    refine o_skips 2 rfl ?_
    refine o_pick_true rfl rfl .free rfl ?_
    exact o_fin 2 rfl rfl hk
  refine o_move rfl .free rfl ?_
  apply o_or 40 44 rfl
  · intro g4_11 hk
    try simp only [nb] at g4_11
    refine o_fieldAddr rfl (.met rfl rfl) rfl ?_
    refine o_lO1 rfl (.met rfl rfl) rfl ?_
    refine o_cmps rfl rfl rfl (.met rfl rfl) rfl ?_
    refine o_pick_false rfl rfl .free rfl ?_
    exact o_fin 3 rfl rfl hk
  · intro _ hk
    refine o_skips 3 rfl ?_
    refine o_pick_true rfl rfl .free rfl ?_
    exact o_fin 3 rfl rfl hk
  refine o_done ?_
  refine s_cond rfl ?_ ?_
  · intro c0
    try simp only [nb] at c0
    refine s_seq ?_
    refine o_enter rfl ?_
    refine o_assign rfl .free rfl ?_
    refine o_assign rfl .free rfl ?_
    refine o_done ?_
    refine s_ret (.tmp rfl (.tmp rfl .nil)) ?_
    refine ⟨J3, L, hle, (by intro _ h; first | exact h | exact dr1 h | exact dr2 h | exact dr3 h | exact dr4 h | exact dr5 h | exact dr6 h | exact dr6 h.drop | exact dr6 h.drop.drop | exact dr6 h.drop.drop.drop), ?_, rfl⟩
    have hz : replOf s a b = none := by
      rcases c0 with ((h | h) | h) | h
      · exact replOf_none (.inl (q1.1 h))
      · exact replOf_none (.inr (.inl (q2.1 h)))
      · exact replOf_none (.inr (.inr (q3.1 h)))
      · cases hh1 : parse s with
        | none => exact replOf_none (.inl hh1)
        | some t1 =>
          cases hh2 : parse a with
          | none => exact replOf_none (.inr (.inl hh2))
          | some x1 =>
            cases hh3 : parse b with
            | none => exact replOf_none (.inr (.inr hh3))
            | some y1 =>
              rw [hh2] at hp2
              rw [replOf_some hh1 hh2 hh3, if_neg (by rw [← hp2.2]; exact fun e => e.1 h)]
    rw [hz]; rfl
  intro c0
  try simp only [nb] at c0
  obtain ⟨⟨⟨h1, h2⟩, h3⟩, h4⟩ := c0
  have p1 := q1.2 h1
  have p2 := q2.2 h2
  have p3 := q3.2 h3
  have f1 := parse_fits p1
  have f2 := parse_fits p2
  have f3 := parse_fits p3
  have l1 := (parse_len p1).2
  have l3 : y.len ≤ 900 := by rw [← Tree.text_len, parse_text p3]; exact hb
  have z1 := parse_size p1
  have hrl := t.repl_len a y
  have hmul : t.size * y.len ≤ 12000 * 900 := Nat.mul_le_mul z1 l3
  have hrg := Tree.repl_good (a := a) f1.2.1 f3.2.1
  have ha0 : a ≠ [] := by
    intro e
    have h5 := parse_text p2
    have h6 := good_nil f2.2.1 h4
    cases x with
    | node n ps =>
      simp only [Tree.parts] at h6
      subst h6
      simp only [Tree.text, List.isEmpty_nil, cond_true] at h5
      exact h4 (h5.trans e)
  have hro := replOf_some p1 p2 p3
  refine s_skip ?_
  refine s_seq ?_
  refine o_enter rfl ?_
  refine o_lOS rfl .free rfl ?_
  refine o_move rfl .free rfl ?_
  refine o_lOS rfl .free rfl ?_
  refine o_call rfl .free rfl (g_l1Replace _ (Nat.lt_succ_self _) ((hr1.mono e2).mono e3) f1.2.1 a ha0 hr3 _) ?_
  rintro _ J4 _ e4 ⟨cs4, rfl, hr4, rfl⟩
  refine o_call rfl .free rfl (g_l1Text _ (Nat.lt_succ_self _) hr4 hrg (by omega) _) ?_
  rintro _ _ _ _ ⟨rfl, rfl, rfl⟩
  refine o_assign rfl .free rfl ?_
  refine o_done ?_
  refine s_seq ?_
  refine s_seq ?_
  refine o_enter rfl ?_
  refine o_move rfl .free rfl ?_
  refine o_call rfl .free rfl (g_FormValid _ (by rw [Tree.text_len]; unfold maxL; omega) _ _) ?_
  rintro _ J5 _ e5 ⟨rfl, rfl⟩
  have hle := (hle.trans e4).trans e5
  refine o_not rfl .free rfl ?_
  refine o_done ?_
  refine s_cond rfl ?_ ?_
  · intro c1
    try simp only [nb] at c1
    refine s_seq ?_
    refine o_enter rfl ?_
    refine o_assign rfl .free rfl ?_
    refine o_assign rfl .free rfl ?_
    refine o_done ?_
    refine s_ret (.tmp rfl (.tmp rfl .nil)) ?_
    refine ⟨J5, L, hle, (by intro _ h; first | exact h | exact dr1 h | exact dr2 h | exact dr3 h | exact dr4 h | exact dr5 h | exact dr6 h | exact dr6 h.drop | exact dr6 h.drop.drop | exact dr6 h.drop.drop.drop), ?_, rfl⟩
    rw [hro, if_neg (by rintro ⟨-, h⟩; rw [c1] at h; cases h)]; rfl
  intro c1
  try simp only [nb] at c1
  refine s_skip ?_
  refine s_seq ?_
  refine o_enter rfl ?_
  refine o_move rfl .free rfl ?_
  refine o_assign rfl .free rfl ?_
  refine o_assign rfl .free rfl ?_
  refine o_done ?_
  refine s_ret (.tmp rfl (.tmp rfl .nil)) ?_
  refine ⟨J5, L, hle, (by intro _ h; first | exact h | exact dr1 h | exact dr2 h | exact dr3 h | exact dr4 h | exact dr5 h | exact dr6 h | exact dr6 h.drop | exact dr6 h.drop.drop | exact dr6 h.drop.drop.drop), ?_, rfl⟩
  rw [hro, if_pos ⟨h4, c1⟩]; rfl
theorem sc_nil (I : Heap) (oa ob : Option Addr) : ScAt I [] [] oa 0 ob 0 := ⟨strs_empty _ _, strs_empty _ _, rfl, (fun _ h => by cases h), (fun _ h => by cases h)⟩
theorem g_l91Good {I : Heap} {oa : Option Addr} {l : List UInt8} {c : Nat} (h : Bytes I oa l c) (hl : l.length ≤ 2000) (b p : Nat) (hp : p + 7000 ≤ 1099511627776) (L : Own) :
    Fun Try.prog 29 [.pointer (some ⟨b, 0, none⟩)] I (rd b oa l c p :: L) (DT b oa l c p 7000 400000 L) := by
  have hle : HLe I I := .refl _
  have hk2 : kT 2 = 6 := rfl
  have hb2 : bT 2 = 19 := rfl
  refine fun_intro (by simp) ?_
  refine s_seq ?_
  refine o_enter rfl ?_
  refine o_assign rfl .free rfl ?_
  refine o_done ?_
  refine s_seq ?_
  refine o_enter rfl ?_
  refine o_assign rfl .free rfl ?_
  refine o_done ?_
  refine s_seq ?_
  refine s_seq ?_
  refine o_enter rfl ?_
  refine o_move rfl .free rfl ?_
  refine o_call rfl .free rfl (g_l6Rd_pick h hl b _ 3 (by omega) (by decide) _) ?_
  rintro _ _ _ _ ⟨r, rfl, rfl, rfl, hr⟩
  refine o_cmp rfl rfl rfl .free rfl ?_
  refine o_done ?_
  refine s_cond rfl ?_ ?_
  · intro c0
    try simp only [nb] at c0
    refine o_enter rfl ?_
    refine o_move rfl .free rfl ?_
    refine o_call rfl .free rfl (g_l91Type 2 h hl b _ (by omega) (by decide) (by decide) _) ?_
    rintro _ J _ e ⟨w, pw, rfl, hw, hp1, hp2, rfl⟩
    have h := h.mono e
    have hle := hle.trans e
    refine o_assign rfl .free rfl ?_
    refine o_done ?_
    refine s_seq ?_
    try have hw := hw
    refine o_enter rfl ?_
    refine o_move rfl .free rfl ?_
    refine o_lits0 .free rfl ?_
    intro b11
    refine o_lits0 .free rfl ?_
    intro b12
    refine o_struct rfl rfl rfl .free rfl ?_
    refine o_move rfl .free rfl ?_
    refine o_move rfl .free rfl ?_
    refine o_mem (fun w h => Mem.sub (L' := rd b oa l c _ :: L) (by repeat (first | exact List.Sublist.refl _ | apply List.Sublist.cons_cons | apply List.Sublist.cons)) h) ?_
    refine o_call rfl .free rfl (g_l6Rd_pick h hl b _ 3 (by omega) (by decide) _) ?_
    rintro _ _ _ _ ⟨r2, rfl, rfl, rfl, hr2⟩
    have hr3 : r2 < 3 := by omega
    have hdd : ∃ d : Nat, (2 : Int) + (r2 : Nat) = (d : Nat) ∧ d ≤ 4 := ⟨2 + r2, by omega, by omega⟩
    obtain ⟨d, hd1, hd2⟩ := hdd
    refine o_arith rfl rfl rfl (by omega) .free rfl ?_
    refine o_put (t := 17) (v' := .int .i64 (d : Nat)) rfl (by rw [← hd1]) ?_
    refine o_call rfl .free rfl (g_l91Expr hd2 h hl b _ (by omega) (sc_nil _ _ _) (by simp) _ (by first | omega | (simp; done) | decide) _) ?_
    rintro _ J1 _ e1 ⟨s1, p1, rfl, hs1, hp3, hp4, rfl⟩
    have h := h.mono e1
    have hle := hle.trans e1
    refine o_assign rfl .free rfl ?_
    refine o_done ?_
    refine s_seq ?_
    refine s_seq ?_
    refine o_enter rfl ?_
    refine o_move rfl .free rfl ?_
    refine o_call rfl .free rfl (g_ExprValid s1 (by unfold maxN; omega) _ _) ?_
    rintro _ _ _ _ ⟨rfl, rfl, rfl⟩
    refine o_done ?_
    refine s_cond rfl ?_ ?_
    · intro c1
      try simp only [nb] at c1
      refine s_seq ?_
      refine o_enter rfl ?_
      refine o_move rfl .free rfl ?_
      refine o_assign rfl .free rfl ?_
      refine o_done ?_
      refine s_ret (.tmp rfl .nil) ?_
      exact ⟨_, _, hle, fun w h => Mem.sub (L' := rd b oa l c _ :: L) (by repeat (first | exact List.Sublist.refl _ | apply List.Sublist.cons_cons | apply List.Sublist.cons)) h, _, _, rfl, by omega, by omega, by omega, rfl⟩
    intro c1
    try simp only [nb] at c1
    refine s_skip ?_
    refine s_seq ?_
    refine o_enter rfl ?_
    refine o_move rfl .free rfl ?_
    refine o_lits0 .free rfl ?_
    intro b23
    refine o_lits0 .free rfl ?_
    intro b24
    refine o_struct rfl rfl rfl .free rfl ?_
    refine o_move rfl .free rfl ?_
    refine o_mem (fun w h => Mem.sub (L' := rd b oa l c _ :: L) (by repeat (first | exact List.Sublist.refl _ | apply List.Sublist.cons_cons | apply List.Sublist.cons)) h) ?_
    refine o_call rfl .free rfl (g_l91Expr (d := 2) (by decide) h hl b _ (by omega) (sc_nil _ _ _) (by simp) _ (by first | omega | (simp; done) | decide) _) ?_
    rintro _ J2 _ e2 ⟨s2, p2, rfl, hs2, hp5, hp6, rfl⟩
    have hle := hle.trans e2
    refine o_assign rfl .free rfl ?_
    refine o_done ?_
    refine s_ret (.tmp rfl .nil) ?_
    exact ⟨_, _, hle, fun w h => Mem.sub (L' := rd b oa l c _ :: L) (by repeat (first | exact List.Sublist.refl _ | apply List.Sublist.cons_cons | apply List.Sublist.cons)) h, _, _, rfl, by omega, by omega, by omega, rfl⟩
  intro c0
  try simp only [nb] at c0
  refine s_skip ?_
  refine s_seq ?_
  try have hw := hw
  refine o_enter rfl ?_
  refine o_move rfl .free rfl ?_
  refine o_lits0 .free rfl ?_
  intro b11
  refine o_lits0 .free rfl ?_
  intro b12
  refine o_struct rfl rfl rfl .free rfl ?_
  refine o_move rfl .free rfl ?_
  refine o_move rfl .free rfl ?_
  refine o_mem (fun w h => Mem.sub (L' := rd b oa l c _ :: L) (by repeat (first | exact List.Sublist.refl _ | apply List.Sublist.cons_cons | apply List.Sublist.cons)) h) ?_
  refine o_call rfl .free rfl (g_l6Rd_pick h hl b _ 3 (by omega) (by decide) _) ?_
  rintro _ _ _ _ ⟨r2, rfl, rfl, rfl, hr2⟩
  have hr3 : r2 < 3 := by omega
  have hdd : ∃ d : Nat, (2 : Int) + (r2 : Nat) = (d : Nat) ∧ d ≤ 4 := ⟨2 + r2, by omega, by omega⟩
  obtain ⟨d, hd1, hd2⟩ := hdd
  refine o_arith rfl rfl rfl (by omega) .free rfl ?_
  refine o_put (t := 17) (v' := .int .i64 (d : Nat)) rfl (by rw [← hd1]) ?_
  refine o_call rfl .free rfl (g_l91Expr hd2 h hl b _ (by omega) (sc_nil _ _ _) (by simp) _ (by first | omega | (simp; done) | decide) _) ?_
  rintro _ J1 _ e1 ⟨s1, p1, rfl, hs1, hp3, hp4, rfl⟩
  have h := h.mono e1
  have hle := hle.trans e1
  refine o_assign rfl .free rfl ?_
  refine o_done ?_
  refine s_seq ?_
  refine s_seq ?_
  refine o_enter rfl ?_
  refine o_move rfl .free rfl ?_
  refine o_call rfl .free rfl (g_ExprValid s1 (by unfold maxN; omega) _ _) ?_
  rintro _ _ _ _ ⟨rfl, rfl, rfl⟩
  refine o_done ?_
  refine s_cond rfl ?_ ?_
  · intro c1
    try simp only [nb] at c1
    refine s_seq ?_
    refine o_enter rfl ?_
    refine o_move rfl .free rfl ?_
    refine o_assign rfl .free rfl ?_
    refine o_done ?_
    refine s_ret (.tmp rfl .nil) ?_
    exact ⟨_, _, hle, fun w h => Mem.sub (L' := rd b oa l c _ :: L) (by repeat (first | exact List.Sublist.refl _ | apply List.Sublist.cons_cons | apply List.Sublist.cons)) h, _, _, rfl, by omega, by omega, by omega, rfl⟩
  intro c1
  try simp only [nb] at c1
  refine s_skip ?_
  refine s_seq ?_
  refine o_enter rfl ?_
  refine o_move rfl .free rfl ?_
  refine o_lits0 .free rfl ?_
  intro b23
  refine o_lits0 .free rfl ?_
  intro b24
  refine o_struct rfl rfl rfl .free rfl ?_
  refine o_move rfl .free rfl ?_
  refine o_mem (fun w h => Mem.sub (L' := rd b oa l c _ :: L) (by repeat (first | exact List.Sublist.refl _ | apply List.Sublist.cons_cons | apply List.Sublist.cons)) h) ?_
  refine o_call rfl .free rfl (g_l91Expr (d := 2) (by decide) h hl b _ (by omega) (sc_nil _ _ _) (by simp) _ (by first | omega | (simp; done) | decide) _) ?_
  rintro _ J2 _ e2 ⟨s2, p2, rfl, hs2, hp5, hp6, rfl⟩
  have hle := hle.trans e2
  refine o_assign rfl .free rfl ?_
  refine o_done ?_
  refine s_ret (.tmp rfl .nil) ?_
  exact ⟨_, _, hle, fun w h => Mem.sub (L' := rd b oa l c _ :: L) (by repeat (first | exact List.Sublist.refl _ | apply List.Sublist.cons_cons | apply List.Sublist.cons)) h, _, _, rfl, by omega, by omega, by omega, rfl⟩
theorem atoms_some {s : Txt} {l : List Txt} (h : atomsOf s = some l) : l ≠ [] ∧ (∀ x ∈ l, x.length ≤ 12000) ∧ l.length ≤ 12000 := by
  unfold atomsOf at h
  cases hp : parse s with
  | none => rw [hp] at h; cases h
  | some t =>
    rw [hp] at h
    simp only [Option.map_some, Option.some.injEq] at h
    subst h
    have h1 := (parse_len hp).2
    have h2 := parse_size hp
    refine ⟨addAll_ne (atomL_ne t), fun x hx => ?_, ?_⟩
    · rcases addAll_mem.1 hx with h3 | h3
      · cases h3
      · have := t.atom_len x h3; omega
    · have := addAll_len [] t.atomL
      rw [t.atomL_len] at this
      simp only [List.length_nil, Nat.zero_add] at this
      exact Nat.le_trans this h2
theorem g_l91Odd {I : Heap} {oa : Option Addr} {l : List UInt8} {c : Nat} (h : Bytes I oa l c) (hl : l.length ≤ 2000) (b p : Nat) (hp : p + 8000 ≤ 1099511627776) (L : Own) :
    Fun Try.prog 13 [.pointer (some ⟨b, 0, none⟩)] I (rd b oa l c p :: L) (DT b oa l c p 8000 400001 L) := by
  refine fun_intro (by simp) ?_
  refine s_seq ?_
  refine o_enter rfl ?_
  refine o_assign rfl .free rfl ?_
  refine o_done ?_
  refine s_seq ?_
  refine o_enter rfl ?_
  refine o_move rfl .free rfl ?_
  refine o_call rfl .free rfl (g_l91Good h hl b _ (by omega) _) ?_
  rintro _ J1 _ e1 ⟨s, p1, rfl, hs, hp1, hp2, rfl⟩
  have h := h.mono e1
  refine o_assign rfl .free rfl ?_
  refine o_done ?_
  refine s_seq ?_
  refine s_seq ?_
  refine o_enter rfl ?_
  refine o_move rfl .free rfl ?_
  refine o_call rfl .free rfl (g_l6Rd_pick h hl b _ 4 (by omega) (by decide) _) ?_
  rintro _ _ _ _ ⟨r, rfl, rfl, rfl, hr⟩
  refine o_cmp rfl rfl rfl .free rfl ?_
  refine o_done ?_
  refine s_cond rfl ?_ ?_
  · intro c0
    try simp only [nb] at c0
    refine s_seq ?_
    refine o_enter rfl ?_
    refine o_move rfl .free rfl ?_
    refine o_assign rfl .free rfl ?_
    refine o_done ?_
    refine s_ret (.tmp rfl .nil) ?_
    exact ⟨J1, _, e1, fun _ h => h, s, _, rfl, by omega, by omega, by omega, rfl⟩
  intro c0
  try simp only [nb] at c0
  refine s_skip ?_
  refine s_seq ?_
  refine o_enter rfl ?_
  refine o_move rfl .free rfl ?_
  refine o_call rfl .free rfl (g_FormAtoms s (by unfold maxL; omega) _ _) ?_
  rintro _ J2 _ e2 ⟨o1, k1, rfl, hat, rfl⟩
  have h := h.mono e2
  have hle := e1.trans e2
  refine o_move rfl .free rfl ?_
  refine o_extract rfl rfl .free rfl ?_
  refine o_extract rfl rfl .free rfl ?_
  refine o_assign rfl .free rfl ?_
  refine o_assign rfl .free rfl ?_
  refine o_done ?_
  refine s_seq ?_
  refine s_seq ?_
  refine o_enter rfl ?_
  refine o_move rfl .free rfl ?_
  refine o_not rfl .free rfl ?_
  refine o_done ?_
  refine s_cond rfl ?_ ?_
  · intro c1
    try simp only [nb] at c1
    refine s_seq ?_
    refine o_enter rfl ?_
    refine o_move rfl .free rfl ?_
    refine o_assign rfl .free rfl ?_
    refine o_done ?_
    refine s_ret (.tmp rfl .nil) ?_
    exact ⟨J2, _, hle, fun _ h => h, s, _, rfl, by omega, by omega, by omega, rfl⟩
  intro c1
  try simp only [nb] at c1
  obtain ⟨al, hal⟩ : ∃ al, atomsOf s = some al := Option.isSome_iff_exists.1 c1
  rw [hal] at hat ⊢
  simp only [Option.getD_some] at hat ⊢
  obtain ⟨ha1, ha2, ha3⟩ := atoms_some hal
  have hapos := List.length_pos_iff.2 ha1
  have hanil := hat.nil'
  refine s_skip ?_
  refine s_seq ?_
  refine s_here fun hlr => ?_
  refine d_tl 17 rfl rfl ?_
  refine d_takeA 0 rfl (by kernel_rfl) rfl (.inr heldx) (y_move rfl) .free rfl ?_
  refine d_takeA 1 rfl (by kernel_rfl) rfl (.inr heldx) (y_move rfl) .free rfl ?_
  refine d_takeA 2 rfl (by kernel_rfl) rfl (.inr heldx) (y_move rfl) .free rfl ?_
  refine d_takeA 3 rfl (by kernel_rfl) rfl (.inr heldx) (y_move rfl) .free rfl ?_
  refine d_takeA 4 rfl (by kernel_rfl) rfl (.inr heldx) (y_len_slice rfl) .free rfl ?_
  refine d_takeA 8 rfl (by kernel_rfl) rfl (.inr heldx) (y_move rfl) .free rfl ?_
  refine d_two 5 9 (by kernel_rfl) ?_ ?_
  · skip
    refine i_call 5 rfl rfl rfl .free rfl (g_l6Rd_pick h hl b _ al.length (by omega) (by omega) _) ?_
    rintro _ _ _ _ ⟨r2, rfl, rfl, rfl, hr2⟩
    have hr3 : r2 < al.length := by omega
    have hst := hat.st r2 hr3
    have hel : (al.getD r2 []).length ≤ 12000 := ha2 _ (by rw [show al.getD r2 [] = al[r2] by simp [hr3]]; exact List.getElem_mem _)
    refine ⟨(.inr heldx), ?_⟩
    first | refine d_takeA 6 rfl (by kernel_rfl) rfl (.inr heldx) (y_ixD rfl rfl _ rfl) .free rfl ?_ | refine d_takeA 6 rfl (by kernel_rfl) rfl (.inr heldx) (y_ixP rfl rfl _ rfl) .free rfl ?_
    refine d_take 7 [17] rfl (by kernel_rfl) rfl heldx (y_lI1 rfl) .free rfl ?_
    refine d_lits 9 rfl (by kernel_rfl) rfl rfl rfl (by rfl) (by rfl) (by rfl) (by decide) (by decide) (by rfl) .free rfl (.inr heldx) ?_
    intro b32
    refine d_freeze ?_
    intro hz
    have hk := strs_lit (I := J2) (b := b32) (e := 9) (l := [[97], [120], [49], [112, 97, 105, 114], [99, 97, 108, 108], [102, 115, 116], [105], [43], [40, 102, 115, 116, 32, 49, 41], [98, 55]]) (by decide) (by decide)
    have hlr := hlr.trans hz
    have h := h.mono hz
    have hat := hat.mono hz
    try have hst := hst.mono hz
    refine d_call 10 rfl (by kernel_rfl) rfl rfl .free rfl (g_l6Rd_of h hl b _ (by omega) hk (by simp) _) ?_
    rintro _ _ _ _ ⟨y, rfl, hy, rfl, rfl⟩
    have hyl : y.length ≤ 10 := by revert y; decide
    refine ⟨(.inr heldx), ?_⟩
    refine d_call 11 rfl (by kernel_rfl) rfl rfl .free rfl (g_FormReplace s (al.getD r2 []) y (by unfold maxL; omega) (by unfold maxL; omega) (by omega) _ _) ?_
    rintro _ J3 _ e3 ⟨rfl, rfl⟩
    have h := h.mono e3
    have hlr := hlr.trans e3
    have hol : ((replOf s (al.getD r2 []) y).getD []).length ≤ 12000 := by
      cases ho : replOf s (al.getD r2 []) y with
      | none => decide
      | some o => exact repl_out ho
    refine ⟨(.inr heldx), ?_⟩
    refine d_takeA 12 rfl (by kernel_rfl) rfl (.inr heldx) (y_move rfl) .free rfl ?_
    refine d_takeA 13 rfl (by kernel_rfl) rfl (.inr heldx) (y_extract rfl rfl) .free rfl ?_
    refine d_takeA 14 rfl (by kernel_rfl) rfl (.inr heldx) (y_extract rfl rfl) .free rfl ?_
    refine d_takeA 15 rfl (by kernel_rfl) rfl (.inr heldx) (y_assign rfl) .free rfl ?_
    refine d_takeA 16 rfl (by kernel_rfl) rfl (.inr heldx) (y_assign rfl) .free rfl ?_
    refine d_done (by kernel_rfl) ?_
    refine s_seq ?_
    refine s_seq ?_
    refine o_enter rfl ?_
    refine o_move rfl .free rfl ?_
    refine o_move rfl .free rfl ?_
    first | refine g_if rfl rfl ?_ ?_ | refine g_ifn rfl rfl ?_ ?_ | refine g_b rfl rfl ?_ ?_
    · intro g8_2
      refine o_move rfl (.met rfl rfl) rfl ?_
      refine o_call rfl (.met rfl rfl) rfl (g_l6Rd_pick h hl b _ 8 (by omega) (by decide) _) ?_
      rintro _ _ _ _ ⟨r4, rfl, rfl, rfl, hr4⟩
      refine o_cmp rfl rfl rfl (.met rfl rfl) rfl ?_
      refine o_pick_true rfl rfl .free rfl ?_
      refine o_done ?_
      refine s_cond rfl ?_ ?_
      · intro c2
        try simp only [nb] at c2
        refine s_seq ?_
        refine o_enter rfl ?_
        refine o_move rfl .free rfl ?_
        refine o_assign rfl .free rfl ?_
        refine o_done ?_
        refine s_ret (.tmp rfl .nil) ?_
        exact ⟨J3, _, hle.trans hlr, fun _ h => h, _, _, rfl, by omega, by omega, by omega, rfl⟩
      intro c2
      try simp only [nb] at c2
      refine s_skip ?_
      refine s_seq ?_
      refine o_enter rfl ?_
      refine o_move rfl .free rfl ?_
      refine o_move rfl .free rfl ?_
      refine o_lits rfl rfl (by rfl) (by rfl) (by rfl) (by decide) (by decide) (by rfl) .free rfl ?_
      intro b46
      refine o_freezeLit [[], [32], [41]] (by decide) (by decide) ?_
      intro J5 e5 k5
      refine o_call rfl .free rfl (g_l6Rd_of (h.mono e5) hl b _ (by omega) k5 (by simp) _) ?_
      rintro _ _ _ _ ⟨z, rfl, hz, rfl, rfl⟩
      have hzl : z.length ≤ 1 := by revert z; decide
      refine o_concat rfl rfl (by first | omega | (simp only [List.length_append, List.length_cons, List.length_nil]; omega) | (simp; omega)) .free rfl ?_
      refine o_assign rfl .free rfl ?_
      refine o_done ?_
      refine s_ret (.tmp rfl .nil) ?_
      exact ⟨J5, _, (hle.trans hlr).trans e5, fun _ h => h, _, _, rfl, (by first | omega | (simp only [List.length_append, List.length_cons, List.length_nil]; omega) | (simp; omega)), by omega, by omega, rfl⟩
    intro g8_2
    iterate 3 refine o_skip rfl rfl rfl ?_
    refine o_pick_false rfl rfl .free rfl ?_
    refine o_done ?_
    refine s_false rfl ?_
    refine s_skip ?_
    refine s_seq ?_
    refine o_enter rfl ?_
    refine o_move rfl .free rfl ?_
    refine o_move rfl .free rfl ?_
    refine o_lits rfl rfl (by rfl) (by rfl) (by rfl) (by decide) (by decide) (by rfl) .free rfl ?_
    intro b46
    refine o_freezeLit [[], [32], [41]] (by decide) (by decide) ?_
    intro J5 e5 k5
    refine o_call rfl .free rfl (g_l6Rd_of (h.mono e5) hl b _ (by omega) k5 (by simp) _) ?_
    rintro _ _ _ _ ⟨z, rfl, hz, rfl, rfl⟩
    have hzl : z.length ≤ 1 := by revert z; decide
    refine o_concat rfl rfl (by first | omega | (simp only [List.length_append, List.length_cons, List.length_nil]; omega) | (simp; omega)) .free rfl ?_
    refine o_assign rfl .free rfl ?_
    refine o_done ?_
    refine s_ret (.tmp rfl .nil) ?_
    exact ⟨J5, _, (hle.trans hlr).trans e5, fun _ h => h, _, _, rfl, (by first | omega | (simp only [List.length_append, List.length_cons, List.length_nil]; omega) | (simp; omega)), by omega, by omega, rfl⟩
  · skip
    refine i_lits 9 rfl rfl rfl rfl (by rfl) (by rfl) (by rfl) (by decide) (by decide) (by rfl) .free rfl (.inr heldx) ?_
    intro b32
    refine d_freeze ?_
    intro hz
    have hk := strs_lit (I := J2) (b := b32) (e := 9) (l := [[97], [120], [49], [112, 97, 105, 114], [99, 97, 108, 108], [102, 115, 116], [105], [43], [40, 102, 115, 116, 32, 49, 41], [98, 55]]) (by decide) (by decide)
    have hlr := hlr.trans hz
    have h := h.mono hz
    have hat := hat.mono hz
    try have hst := hst.mono hz
    refine d_call 5 rfl (by kernel_rfl) rfl rfl .free rfl (g_l6Rd_pick h hl b _ al.length (by omega) (by omega) _) ?_
    rintro _ _ _ _ ⟨r2, rfl, rfl, rfl, hr2⟩
    have hr3 : r2 < al.length := by omega
    have hst := hat.st r2 hr3
    have hel : (al.getD r2 []).length ≤ 12000 := ha2 _ (by rw [show al.getD r2 [] = al[r2] by simp [hr3]]; exact List.getElem_mem _)
    refine ⟨(.inr heldx), ?_⟩
    first | refine d_takeA 6 rfl (by kernel_rfl) rfl (.inr heldx) (y_ixD rfl rfl _ rfl) .free rfl ?_ | refine d_takeA 6 rfl (by kernel_rfl) rfl (.inr heldx) (y_ixP rfl rfl _ rfl) .free rfl ?_
    refine d_take 7 [17] rfl (by kernel_rfl) rfl heldx (y_lI1 rfl) .free rfl ?_
    refine d_call 10 rfl (by kernel_rfl) rfl rfl .free rfl (g_l6Rd_of h hl b _ (by omega) hk (by simp) _) ?_
    rintro _ _ _ _ ⟨y, rfl, hy, rfl, rfl⟩
    have hyl : y.length ≤ 10 := by revert y; decide
    refine ⟨(.inr heldx), ?_⟩
    refine d_call 11 rfl (by kernel_rfl) rfl rfl .free rfl (g_FormReplace s (al.getD r2 []) y (by unfold maxL; omega) (by unfold maxL; omega) (by omega) _ _) ?_
    rintro _ J3 _ e3 ⟨rfl, rfl⟩
    have h := h.mono e3
    have hlr := hlr.trans e3
    have hol : ((replOf s (al.getD r2 []) y).getD []).length ≤ 12000 := by
      cases ho : replOf s (al.getD r2 []) y with
      | none => decide
      | some o => exact repl_out ho
    refine ⟨(.inr heldx), ?_⟩
    refine d_takeA 12 rfl (by kernel_rfl) rfl (.inr heldx) (y_move rfl) .free rfl ?_
    refine d_takeA 13 rfl (by kernel_rfl) rfl (.inr heldx) (y_extract rfl rfl) .free rfl ?_
    refine d_takeA 14 rfl (by kernel_rfl) rfl (.inr heldx) (y_extract rfl rfl) .free rfl ?_
    refine d_takeA 15 rfl (by kernel_rfl) rfl (.inr heldx) (y_assign rfl) .free rfl ?_
    refine d_takeA 16 rfl (by kernel_rfl) rfl (.inr heldx) (y_assign rfl) .free rfl ?_
    refine d_done (by kernel_rfl) ?_
    refine s_seq ?_
    refine s_seq ?_
    refine o_enter rfl ?_
    refine o_move rfl .free rfl ?_
    refine o_move rfl .free rfl ?_
    first | refine g_if rfl rfl ?_ ?_ | refine g_ifn rfl rfl ?_ ?_ | refine g_b rfl rfl ?_ ?_
    · intro g8_2
      refine o_move rfl (.met rfl rfl) rfl ?_
      refine o_call rfl (.met rfl rfl) rfl (g_l6Rd_pick h hl b _ 8 (by omega) (by decide) _) ?_
      rintro _ _ _ _ ⟨r4, rfl, rfl, rfl, hr4⟩
      refine o_cmp rfl rfl rfl (.met rfl rfl) rfl ?_
      refine o_pick_true rfl rfl .free rfl ?_
      refine o_done ?_
      refine s_cond rfl ?_ ?_
      · intro c2
        try simp only [nb] at c2
        refine s_seq ?_
        refine o_enter rfl ?_
        refine o_move rfl .free rfl ?_
        refine o_assign rfl .free rfl ?_
        refine o_done ?_
        refine s_ret (.tmp rfl .nil) ?_
        exact ⟨J3, _, hle.trans hlr, fun _ h => h, _, _, rfl, by omega, by omega, by omega, rfl⟩
      intro c2
      try simp only [nb] at c2
      refine s_skip ?_
      refine s_seq ?_
      refine o_enter rfl ?_
      refine o_move rfl .free rfl ?_
      refine o_move rfl .free rfl ?_
      refine o_lits rfl rfl (by rfl) (by rfl) (by rfl) (by decide) (by decide) (by rfl) .free rfl ?_
      intro b46
      refine o_freezeLit [[], [32], [41]] (by decide) (by decide) ?_
      intro J5 e5 k5
      refine o_call rfl .free rfl (g_l6Rd_of (h.mono e5) hl b _ (by omega) k5 (by simp) _) ?_
      rintro _ _ _ _ ⟨z, rfl, hz, rfl, rfl⟩
      have hzl : z.length ≤ 1 := by revert z; decide
      refine o_concat rfl rfl (by first | omega | (simp only [List.length_append, List.length_cons, List.length_nil]; omega) | (simp; omega)) .free rfl ?_
      refine o_assign rfl .free rfl ?_
      refine o_done ?_
      refine s_ret (.tmp rfl .nil) ?_
      exact ⟨J5, _, (hle.trans hlr).trans e5, fun _ h => h, _, _, rfl, (by first | omega | (simp only [List.length_append, List.length_cons, List.length_nil]; omega) | (simp; omega)), by omega, by omega, rfl⟩
    intro g8_2
    iterate 3 refine o_skip rfl rfl rfl ?_
    refine o_pick_false rfl rfl .free rfl ?_
    refine o_done ?_
    refine s_false rfl ?_
    refine s_skip ?_
    refine s_seq ?_
    refine o_enter rfl ?_
    refine o_move rfl .free rfl ?_
    refine o_move rfl .free rfl ?_
    refine o_lits rfl rfl (by rfl) (by rfl) (by rfl) (by decide) (by decide) (by rfl) .free rfl ?_
    intro b46
    refine o_freezeLit [[], [32], [41]] (by decide) (by decide) ?_
    intro J5 e5 k5
    refine o_call rfl .free rfl (g_l6Rd_of (h.mono e5) hl b _ (by omega) k5 (by simp) _) ?_
    rintro _ _ _ _ ⟨z, rfl, hz, rfl, rfl⟩
    have hzl : z.length ≤ 1 := by revert z; decide
    refine o_concat rfl rfl (by first | omega | (simp only [List.length_append, List.length_cons, List.length_nil]; omega) | (simp; omega)) .free rfl ?_
    refine o_assign rfl .free rfl ?_
    refine o_done ?_
    refine s_ret (.tmp rfl .nil) ?_
    exact ⟨J5, _, (hle.trans hlr).trans e5, fun _ h => h, _, _, rfl, (by first | omega | (simp only [List.length_append, List.length_cons, List.length_nil]; omega) | (simp; omega)), by omega, by omega, rfl⟩
end Go.Proofs.Ytbppjohpghpcnaa


/- Drawn expressions of the statements. No conditions. -/
namespace Go.Proofs.Ytbppjohpghpcnaa
set_option maxRecDepth 100000
set_option linter.unusedVariables false
set_option linter.unusedSimpArgs false

def DX (L : Own) : Post := fun v I' L' => ∃ s, v = .string (str s) ∧ List.length s ≤ 400001 ∧ L = L'
theorem g_DrawExprFree {I : Heap} {oa : Option Addr} {l : List UInt8} {c : Nat} (h : Bytes I oa l c) (L : Own) : Fun Try.prog 4 [.slice oa l.length c] I L (DX L) := by
  refine fun_intro (by simp) ?_
  refine s_seq ?_
  refine o_enter rfl ?_
  refine o_assign rfl .free rfl ?_
  refine o_done ?_
  refine s_seq ?_
  refine o_enter rfl ?_
  refine o_move rfl .free rfl ?_
  refine o_call rfl .free rfl (g_l6Open h _) ?_
  rintro _ J1 _ e1 ⟨b, oa1, l1, c1, rfl, h1, hl1, rfl⟩
  refine o_call rfl .free rfl (g_l91Odd h1 hl1 b 0 (by decide) L) ?_
  rintro _ J2 _ e2 ⟨s, p', rfl, hs, hp1, hp2, rfl⟩
  refine o_assign rfl .free rfl ?_
  refine o_done ?_
  refine s_ret (.tmp rfl .nil) ?_
  exact ⟨J2, L, e1.trans e2, fun _ h => h.drop, s, rfl, hs, rfl⟩
end Go.Proofs.Ytbppjohpghpcnaa


/- Parts of expressions are expressions; what is counted and put. No conditions. -/
namespace Go.Proofs.Ytbppjohpghpcnaa
set_option maxRecDepth 100000
set_option linter.unusedVariables false
set_option linter.unusedSimpArgs false

theorem depthL_mem : ∀ {ps : List Tree} {p : Tree}, p ∈ ps → p.depth ≤ depthL ps
  | q :: ps, p, h => by
    simp only [depthL]
    rcases List.mem_cons.1 h with rfl | h
    · omega
    · have := depthL_mem h; omega
theorem pt_depth {t : Tree} {i : Nat} (hi : i < t.parts.length) : (t.pt i).depth + 1 ≤ t.depth := by
  rw [Tree.pt_at hi, t.depth_eq (by intro e; rw [e] at hi; simp at hi)]
  have := depthL_mem (List.getElem_mem hi); omega
theorem sub_index {e a : Ex} (h : a ∈ e.sub) : ∃ i, i < e.tree.parts.length ∧ e.tree.pt i = a.tree := by
  obtain ⟨j, hj, rfl⟩ := List.mem_iff_getElem.1 h
  have hkl := sub_len e
  have hkm : (kids e.tree).getD j 0 ∈ kids e.tree := by
    rw [show (kids e.tree).getD j 0 = (kids e.tree)[j]'(by omega) by simp [show j < (kids e.tree).length by omega]]; exact List.getElem_mem _
  exact ⟨_, (kids_lt hkm).1, sub_pt e j hj⟩
theorem sub_fine {e a : Ex} (h : a ∈ e.sub) (hf : e.fine = true) : a.fine = true ∧ a.size + 1 ≤ e.size := by
  obtain ⟨i, hi, hp⟩ := sub_index h
  obtain ⟨h1, h2, h3⟩ := sub_facts h
  have h4 := pt_depth hi
  have h5 := e.tree.pt_len i hi
  rw [hp] at h4 h5
  simp only [Ex.fine, Bool.and_eq_true, decide_eq_true_eq, Tree.fits] at hf ⊢
  exact ⟨⟨⟨h3 hf.1.1, by omega⟩, by omega, by omega⟩, h2⟩
theorem exOf_fine {e : Ex} (h : e.fine = true) : exOf e.tree.text = some e := by
  have hok : e.ok = true := by simp only [Ex.fine, Bool.and_eq_true] at h; exact h.1.1
  rw [exOf_text hok, if_pos h]
theorem exOf_is {s : Txt} {e : Ex} (h : exOf s = some e) : e.fine = true ∧ e.ok = true ∧ e.size ≤ 120 ∧ e.tree.len ≤ 12000 ∧ s = e.tree.text := by
  obtain ⟨_, h2, h3⟩ := exOf_some h
  have h4 := h2
  simp only [Ex.fine, Bool.and_eq_true, Tree.fits, decide_eq_true_eq] at h4
  exact ⟨h2, h4.1.1, h4.1.2, h4.2.2, h3⟩
/-- How many expressions an expression and its parts are. -/
def Ex.many : Ex → Nat
  | .num _ => 1
  | .name _ => 1
  | .bin _ a b => 1 + a.many + b.many
  | .ite a b c => 1 + a.many + b.many + c.many
  | .lt _ a b => 1 + a.many + b.many
  | .fn _ _ _ _ b => 1 + b.many
  | .un _ a => 1 + a.many
theorem Ex.many_pos (e : Ex) : 1 ≤ e.many := by cases e <;> simp [Ex.many] <;> omega
theorem Ex.many_size : ∀ e : Ex, e.many ≤ e.size
  | .num _ => Nat.le_refl _
  | .name _ => Nat.le_refl _
  | .bin _ a b => by have := a.many_size; have := b.many_size; simp only [Ex.many, Ex.size]; omega
  | .ite a b c => by have := a.many_size; have := b.many_size; have := c.many_size; simp only [Ex.many, Ex.size]; omega
  | .lt _ a b => by have := a.many_size; have := b.many_size; simp only [Ex.many, Ex.size]; omega
  | .fn _ _ s t b => by have := b.many_size; simp only [Ex.many, Ex.size]; omega
  | .un _ a => by have := a.many_size; simp only [Ex.many, Ex.size]; omega
theorem Ex.many_sub (e : Ex) : e.many = 1 + (e.sub.map Ex.many).sum := by cases e <;> simp [Ex.many, Ex.sub] <;> omega
theorem Ex.many_subs (e : Ex) : 1 + e.sub.length ≤ e.many := by
  cases e with
  | num s => exact Nat.le_refl _
  | name s => exact Nat.le_refl _
  | bin o a b => have := a.many_pos; have := b.many_pos; simp only [Ex.many, Ex.sub, List.length_cons, List.length_nil]; omega
  | ite a b c => have := a.many_pos; have := b.many_pos; have := c.many_pos; simp only [Ex.many, Ex.sub, List.length_cons, List.length_nil]; omega
  | lt x a b => have := a.many_pos; have := b.many_pos; simp only [Ex.many, Ex.sub, List.length_cons, List.length_nil]; omega
  | fn f x s t b => have := b.many_pos; simp only [Ex.many, Ex.sub, List.length_cons, List.length_nil]; omega
  | un o a => have := a.many_pos; simp only [Ex.many, Ex.sub, List.length_cons, List.length_nil]; omega
/-- What does not stand free cannot be put. -/
theorem Ex.put_id : ∀ {e : Ex} {n : Txt} {v : Ex}, n ∉ e.occ [] → e.put n v = e
  | .num _, n, v, h => rfl
  | .name s, n, v, h => by
    simp only [Ex.occ, List.not_mem_nil, if_false, List.mem_singleton] at h
    simp only [Ex.put]; rw [if_neg (fun e => h e.symm)]
  | .bin o a b, n, v, h => by
    simp only [Ex.occ, List.mem_append, not_or] at h
    simp only [Ex.put, Ex.put_id h.1, Ex.put_id h.2]
  | .ite a b c, n, v, h => by
    simp only [Ex.occ, List.mem_append, not_or] at h
    simp only [Ex.put, Ex.put_id h.1.1, Ex.put_id h.1.2, Ex.put_id h.2]
  | .lt x a b, n, v, h => by
    simp only [Ex.occ, List.mem_append, not_or, List.nil_append] at h
    simp only [Ex.put, Ex.put_id h.1]
    by_cases hx : x = n
    · rw [if_pos hx]
    · rw [if_neg hx, Ex.put_id]
      intro hb; exact h.2 (Ex.occ_mem.2 ⟨hb, by simp only [List.mem_singleton]; exact fun e => hx e.symm⟩)
  | .fn f x s t b, n, v, h => by
    simp only [Ex.occ, List.nil_append] at h
    simp only [Ex.put]
    by_cases hx : f = n ∨ x = n
    · rw [if_pos hx]
    · rw [if_neg hx, Ex.put_id]
      intro hb; refine h (Ex.occ_mem.2 ⟨hb, ?_⟩)
      simp only [List.mem_cons, List.not_mem_nil, or_false]
      rintro (e | e)
      · exact hx (.inl e.symm)
      · exact hx (.inr e.symm)
  | .un o a, n, v, h => by
    simp only [Ex.occ] at h
    simp only [Ex.put, Ex.put_id h]
/-- What stands free stands free in a part. -/
theorem Ex.occ_sub {e : Ex} {x : Txt} (h : x ∈ e.occ []) : (∃ s, e = .name s) ∨ ∃ a ∈ e.sub, x ∈ a.occ [] := by
  cases e with
  | num s => cases h
  | name s => exact .inl ⟨s, rfl⟩
  | bin o a b =>
    simp only [Ex.occ, List.mem_append] at h
    rcases h with h | h
    · exact .inr ⟨a, .head _, h⟩
    · exact .inr ⟨b, .tail _ (.head _), h⟩
  | ite a b c =>
    simp only [Ex.occ, List.mem_append] at h
    rcases h with (h | h) | h
    · exact .inr ⟨a, .head _, h⟩
    · exact .inr ⟨b, .tail _ (.head _), h⟩
    · exact .inr ⟨c, .tail _ (.tail _ (.head _)), h⟩
  | lt y a b =>
    simp only [Ex.occ, List.mem_append, List.nil_append] at h
    rcases h with h | h
    · exact .inr ⟨a, .head _, h⟩
    · exact .inr ⟨b, .tail _ (.head _), (Ex.occ_mem.1 h).1⟩
  | fn f y s t b =>
    simp only [Ex.occ, List.nil_append] at h
    exact .inr ⟨b, .head _, (Ex.occ_mem.1 h).1⟩
  | un o a => exact .inr ⟨a, .head _, h⟩
/-- What an expression begins with. -/
def Ex.hd : Ex → Txt
  | .num _ => [110, 117, 109, 98, 101, 114]
  | .name _ => [110, 97, 109, 101]
  | e => e.tree.head
theorem Ex.hd_ne (e : Ex) : e.hd ≠ [] := by
  cases e with
  | num s => simp [Ex.hd]
  | name s => simp [Ex.hd]
  | bin o a b => exact o.txt_ne.2.2.2.2
  | un o a => exact o.txt_ne.2.2.2
  | ite a b c => exact (by decide : tIf ≠ [])
  | lt x a b => exact (by decide : tLet ≠ [])
  | fn f x s t b => exact (by decide : tFun ≠ [])
def headOf (s : Txt) : Txt := match exOf s with
  | some e => e.hd
  | none => []
def kidsOf (s : Txt) : Option (List Txt) := (exOf s).map fun e => e.sub.map fun a => a.tree.text
def manyOf (s : Txt) : Int := match exOf s with
  | some e => (e.many : Nat)
  | none => -1
def sizeOfT (s : Txt) : Int := match parse s with
  | some t => (t.size : Nat)
  | none => -1
theorem parse_ex {s : Txt} {e : Ex} (h : exOf s = some e) : parse s = some e.tree := (exOf_some h).1
theorem sizeOfT_ex {s : Txt} {e : Ex} (h : exOf s = some e) : sizeOfT s = (e.size : Nat) := by unfold sizeOfT; rw [parse_ex h]; simp [Ex.tree_size]
end Go.Proofs.Ytbppjohpghpcnaa


/- An expression put for a name. No conditions. -/
namespace Go.Proofs.Ytbppjohpghpcnaa
set_option maxRecDepth 100000
set_option linter.unusedVariables false
set_option linter.unusedSimpArgs false

theorem f_form_put : ∀ (n : Nat) {I : Heap} {e : Ex} {cs : List Value} (_ : SizeOf.sizeOf e < n) (_ : Rep I e.tree cs) (_ : e.ok = true) (nm : Txt) (_ : isName nm = true) {v : Ex} {ds : List Value} (_ : Rep I v.tree ds) (L : Own),
    Fun Try.prog 24 [.agg cs.toArray, .string (str nm), .agg ds.toArray] I L (RP (e.put nm v).tree L) := by
  intro n
  induction n with
  | zero => intro I e cs h; omega
  | succ n ihn =>
    intro I e cs hlt h hok nm hnm v ds hv L
    obtain ⟨oa, c, oaf, cf, rfl, hf, hcl, hcs⟩ := h.cells
    obtain ⟨ov, cv, _, rfl, -⟩ := hv.open
    have hle : HLe I I := .refl _
    refine fun_intro (by simp) ?_
    refine s_seq ?_
    refine o_enter rfl ?_
    refine o_box rfl rfl .free rfl ?_
    intro b3
    refine o_box rfl rfl .free rfl ?_
    intro b5
    refine o_alloc .free rfl ?_
    intro b6
    refine o_done ?_
    refine s_seq ?_
    refine s_seq ?_
    refine o_enter rfl ?_
    refine o_lOS rfl .free rfl ?_
    refine o_call rfl .free rfl (f_form_isAtom hf.rep _) ?_
    rintro _ _ _ _ ⟨rfl, rfl, rfl⟩
    refine o_done ?_
    refine s_cond rfl ?_ ?_
    · intro c0
      try simp only [nb] at c0
      have hb : e.bare = true := by rw [Ex.bare_parts]; exact c0
      refine s_seq ?_
      refine s_seq ?_
      refine o_enter rfl ?_
      refine o_fieldAddr rfl .free rfl ?_
      refine o_lO1 rfl .free rfl ?_
      refine o_move rfl .free rfl ?_
      refine o_cmps rfl rfl rfl .free rfl ?_
      refine o_done ?_
      refine s_cond rfl ?_ ?_
      · intro c1
        try simp only [nb] at c1
        refine s_seq ?_
        refine o_enter rfl ?_
        refine o_lOS rfl .free rfl ?_
        refine o_st rfl rfl rfl rfl .free ?_
        refine o_done ?_
        refine s_ret (.cell rfl (by first | exact loads_still1 (by assumption) rfl | exact loads_ownS (by first | exact m0 | exact m1 | exact m2 | exact m3 | exact m4 | exact m5 | exact m6 | exact List.mem_append_right _ m0 | exact List.mem_append_right _ m1 | exact List.mem_append_right _ m2 | exact List.mem_append_right _ m3 | exact .tail _ (List.mem_append_right _ m0) | exact .tail _ (List.mem_append_right _ m1) | exact .tail _ (List.mem_append_right _ m2) | exact .tail _ (List.mem_append_right _ m3)) (by rfl) | exact loads_own1 (by first | exact m0 | exact m1 | exact m2 | exact m3 | exact m4 | exact m5 | exact m6 | exact List.mem_append_right _ m0 | exact List.mem_append_right _ m1 | exact List.mem_append_right _ m2 | exact List.mem_append_right _ m3 | exact .tail _ (List.mem_append_right _ m0) | exact .tail _ (List.mem_append_right _ m1) | exact .tail _ (List.mem_append_right _ m2) | exact .tail _ (List.mem_append_right _ m3)) (by rfl) rfl | exact loads_stillS (by assumption) (by rfl) | exact loads_stillF (by assumption) (by rfl) rfl) .nil) ?_
        refine ⟨I, L, .refl _, (by intro _ h; first | exact h | exact dr1 h | exact dr2 h | exact dr3 h | exact dr4 h | exact dr5 h | exact dr6 h | exact dr6 h.drop | exact dr6 h.drop.drop | exact dr6 h.drop.drop.drop), _, rfl, ?_, rfl⟩
        have : e.put nm v = v := by
          cases e with
          | num s =>
            have c1 : s = nm := c1
            subst c1
            have h2 := name_not_num hnm
            rw [show isNum s = true from hok] at h2; cases h2
          | name s => exact if_pos c1
          | _ => cases hb
        rw [this]; exact hv
      intro c1
      try simp only [nb] at c1
      refine s_skip ?_
      refine s_seq ?_
      refine o_enter rfl ?_
      refine o_lOS rfl .free rfl ?_
      refine o_st rfl rfl rfl rfl .free ?_
      refine o_done ?_
      refine s_ret (.cell rfl (by first | exact loads_still1 (by assumption) rfl | exact loads_ownS (by first | exact m0 | exact m1 | exact m2 | exact m3 | exact m4 | exact m5 | exact m6 | exact List.mem_append_right _ m0 | exact List.mem_append_right _ m1 | exact List.mem_append_right _ m2 | exact List.mem_append_right _ m3 | exact .tail _ (List.mem_append_right _ m0) | exact .tail _ (List.mem_append_right _ m1) | exact .tail _ (List.mem_append_right _ m2) | exact .tail _ (List.mem_append_right _ m3)) (by rfl) | exact loads_own1 (by first | exact m0 | exact m1 | exact m2 | exact m3 | exact m4 | exact m5 | exact m6 | exact List.mem_append_right _ m0 | exact List.mem_append_right _ m1 | exact List.mem_append_right _ m2 | exact List.mem_append_right _ m3 | exact .tail _ (List.mem_append_right _ m0) | exact .tail _ (List.mem_append_right _ m1) | exact .tail _ (List.mem_append_right _ m2) | exact .tail _ (List.mem_append_right _ m3)) (by rfl) rfl | exact loads_stillS (by assumption) (by rfl) | exact loads_stillF (by assumption) (by rfl) rfl) .nil) ?_
      refine ⟨I, L, .refl _, (by intro _ h; first | exact h | exact dr1 h | exact dr2 h | exact dr3 h | exact dr4 h | exact dr5 h | exact dr6 h | exact dr6 h.drop | exact dr6 h.drop.drop | exact dr6 h.drop.drop.drop), _, rfl, ?_, rfl⟩
      have : e.put nm v = e := by
        cases e with
        | num s => rfl
        | name s => exact if_neg c1
        | _ => cases hb
      rw [this]; exact hf.rep
    intro c0
    try simp only [nb] at c0
    have hb : e.bare = false := by rw [Ex.bare_parts]; exact c0
    have hsh := e.shapes hb
    have hok0 := hok
    have hpos : 0 < e.tree.parts.length := by
      rw [Ex.bare_parts] at hb
      have : e.tree.parts ≠ [] := by intro hh; rw [hh] at hb; cases hb
      exact List.length_pos_iff.2 this
    obtain ⟨xa, rfl⟩ : ∃ xa, oa = some xa := ⟨_, some_oad hf.nil hpos⟩
    have hp := hf.len
    refine s_skip ?_
    refine s_seq ?_
    refine o_enter rfl ?_
    refine o_fieldAddr rfl .free rfl ?_
    refine o_lO1 rfl .free rfl ?_
    refine o_call rfl .free rfl (f_slices_Clone (hcs _ rfl) (by have := hcl.length; omega) hcl.plain hpos hp _) ?_
    rintro _ _ _ _ ⟨bc, sp, cc, rfl, hcc, rfl, rfl⟩
    refine o_struct rfl rfl rfl .free rfl ?_
    refine o_alloc .free rfl ?_
    intro b7
    refine o_st rfl rfl rfl rfl .free ?_
    refine o_done ?_
    refine s_seq ?_
    refine s_seq ?_
    rcases hsh with ⟨o, a, b, rfl⟩ | ⟨a, b, d, rfl⟩ | ⟨z, a, b, rfl⟩ | ⟨g, z, s, t, b, rfl⟩ | ⟨o, a, rfl⟩
    · skip
      have hlen : (Ex.bin o a b).tree.parts.length = 3 := rfl
      have hki := kids_bin o a b
      simp only [Ex.bin.sizeOf_spec] at hlt
      simp only [Ex.ok, Bool.and_eq_true] at hok
      obtain ⟨_, hrl⟩ : ∃ _ : True, RepL I (Ex.bin o a b).tree.parts _ := ⟨trivial, hcl⟩
      simp only [show (Ex.bin o a b).tree.parts = [.node o.txt [], a.tree, b.tree] from rfl, cellsF, List.cons_append, List.nil_append] at hrl ⊢
      refine o_enter rfl ?_
      refine o_lOS rfl .free rfl ?_
      refine o_call rfl .free rfl (f_form_kids hf.rep _) ?_
      rintro _ J _ e0 ⟨ok, ck, rfl, hk, rfl⟩
      have hf := hf.mono e0
      have hv := hv.mono e0
      have hle := e0
      rw [hki] at hk
      rw [hki]
      refine o_len_slice rfl .free rfl ?_
      refine o_move rfl .free rfl ?_
      refine o_done ?_
      refine s_block ?_
      refine s_loop ?_
      refine s_seq ?_
      refine o_enter rfl ?_
      refine o_cmp rfl rfl rfl .free rfl ?_
      refine o_done ?_
      refine s_seq ?_
      refine s_condT rfl (by first | rfl | decide | (simp; done) | omega) ?_
      refine s_skip ?_
      refine s_seq ?_
      refine s_block ?_
      refine s_seq ?_
      refine o_enter rfl ?_
      first | refine o_ixD rfl rfl _ rfl .free rfl ?_ | refine o_ixP rfl rfl _ rfl .free rfl ?_
      refine o_lI1 rfl .free rfl ?_
      refine o_assign rfl .free rfl ?_
      refine o_done ?_
      refine s_seq ?_
      refine o_enter rfl ?_
      refine o_lOS rfl .free rfl ?_
      refine o_move rfl .free rfl ?_
      refine o_call rfl .free rfl (f_form_bound hf.rep hok0 _ _) ?_
      rintro _ J1 _ e1 ⟨o1, k1, rfl, hs1, rfl⟩
      refine o_move rfl .free rfl ?_
      refine o_call rfl .free rfl (f_slices_Contains (hs1.rd _) k1 nm) ?_
      rintro _ _ _ _ ⟨rfl, rfl, rfl⟩
      refine o_not rfl .free rfl ?_
      refine o_mem (fun w h => Mem.le e1 h) ?_
      refine o_done ?_
      first | refine s_tp rfl (by simp [Ex.binds]) ?_ | refine s_tn rfl (by simp [Ex.binds]) ?_ | refine s_true (by simp [look, opd, *]) ?_
      refine d_all 13 rfl rfl ?_
      refine d_takeA 0 rfl (by kernel_rfl) rfl (.inr heldx) (y_fieldAddr rfl) .free rfl ?_
      refine d_take 1 [12] rfl (by kernel_rfl) rfl heldx (y_lO1 rfl) .free rfl ?_
      refine d_takeA 2 rfl (by kernel_rfl) rfl (.inr heldx) (y_move rfl) .free rfl ?_
      refine d_takeA 3 rfl (by kernel_rfl) rfl (.inr heldx) (y_fieldAddr rfl) .free rfl ?_
      refine d_take 4 [12] rfl (by kernel_rfl) rfl heldx (y_lO1 rfl) .free rfl ?_
      refine d_takeA 5 rfl (by kernel_rfl) rfl (.inr heldx) (y_move rfl) .free rfl ?_
      first | refine d_takeA 6 rfl (by kernel_rfl) rfl (.inr heldx) (y_ixD rfl rfl _ rfl) .free rfl ?_ | refine d_takeA 6 rfl (by kernel_rfl) rfl (.inr heldx) (y_ixP rfl rfl _ rfl) .free rfl ?_
      refine d_take 7 [12] rfl (by kernel_rfl) rfl heldx (y_lIS rfl) .free rfl ?_
      refine d_takeA 8 rfl (by kernel_rfl) rfl (.inr heldx) (y_move rfl) .free rfl ?_
      refine d_take 9 [12] rfl (by kernel_rfl) rfl heldx (y_lOS rfl) .free rfl ?_
      refine d_call 10 rfl (by kernel_rfl) rfl rfl .free rfl (ihn (by omega) (hf.as 1 a.tree (by omega) rfl) hok.1 nm hnm hv _) ?_
      rintro _ J2 _ e2 ⟨cs2, rfl, hr_0, rfl⟩
      obtain ⟨o2, k2, _, rfl, -⟩ := hr_0.open
      have hf := hf.mono e2
      have hv := hv.mono e2
      have hle := hle.trans e2
      have hk := hk.mono e2
      refine ⟨(.inr heldx), ?_⟩
      first | refine d_takeA 11 rfl (by kernel_rfl) rfl (.inr heldx) (y_ixD rfl rfl _ rfl) .free rfl ?_ | refine d_takeA 11 rfl (by kernel_rfl) rfl (.inr heldx) (y_ixP rfl rfl _ rfl) .free rfl ?_
      refine d_st 12 rfl (by kernel_rfl) rfl rfl rfl rfl rfl .free (.inl (by kernel_rfl)) ?_
      refine d_done (by kernel_rfl) ?_
      refine s_inBlock ?_
      refine o_enter rfl ?_
      refine o_arith rfl rfl rfl (by omega) .free rfl ?_
      refine o_move rfl .free rfl ?_
      refine o_done ?_
      refine s_round ?_
      refine s_seq ?_
      refine o_enter rfl ?_
      refine o_cmp rfl rfl rfl .free rfl ?_
      refine o_done ?_
      refine s_seq ?_
      refine s_condT rfl (by first | rfl | decide | (simp; done) | omega) ?_
      refine s_skip ?_
      refine s_seq ?_
      refine s_block ?_
      refine s_seq ?_
      refine o_enter rfl ?_
      first | refine o_ixD rfl rfl _ rfl .free rfl ?_ | refine o_ixP rfl rfl _ rfl .free rfl ?_
      refine o_lI1 rfl .free rfl ?_
      refine o_assign rfl .free rfl ?_
      refine o_done ?_
      refine s_seq ?_
      refine o_enter rfl ?_
      refine o_lOS rfl .free rfl ?_
      refine o_move rfl .free rfl ?_
      refine o_call rfl .free rfl (f_form_bound hf.rep hok0 _ _) ?_
      rintro _ J1 _ e1 ⟨o1, k1, rfl, hs1, rfl⟩
      refine o_move rfl .free rfl ?_
      refine o_call rfl .free rfl (f_slices_Contains (hs1.rd _) k1 nm) ?_
      rintro _ _ _ _ ⟨rfl, rfl, rfl⟩
      refine o_not rfl .free rfl ?_
      refine o_mem (fun w h => Mem.le e1 h) ?_
      refine o_done ?_
      first | refine s_tp rfl (by simp [Ex.binds]) ?_ | refine s_tn rfl (by simp [Ex.binds]) ?_ | refine s_true (by simp [look, opd, *]) ?_
      refine d_all 13 rfl rfl ?_
      refine d_takeA 0 rfl (by kernel_rfl) rfl (.inr heldx) (y_fieldAddr rfl) .free rfl ?_
      refine d_take 1 [12] rfl (by kernel_rfl) rfl heldx (y_lO1 rfl) .free rfl ?_
      refine d_takeA 2 rfl (by kernel_rfl) rfl (.inr heldx) (y_move rfl) .free rfl ?_
      refine d_takeA 3 rfl (by kernel_rfl) rfl (.inr heldx) (y_fieldAddr rfl) .free rfl ?_
      refine d_take 4 [12] rfl (by kernel_rfl) rfl heldx (y_lO1 rfl) .free rfl ?_
      refine d_takeA 5 rfl (by kernel_rfl) rfl (.inr heldx) (y_move rfl) .free rfl ?_
      first | refine d_takeA 6 rfl (by kernel_rfl) rfl (.inr heldx) (y_ixD rfl rfl _ rfl) .free rfl ?_ | refine d_takeA 6 rfl (by kernel_rfl) rfl (.inr heldx) (y_ixP rfl rfl _ rfl) .free rfl ?_
      refine d_take 7 [12] rfl (by kernel_rfl) rfl heldx (y_lIS rfl) .free rfl ?_
      refine d_takeA 8 rfl (by kernel_rfl) rfl (.inr heldx) (y_move rfl) .free rfl ?_
      refine d_take 9 [12] rfl (by kernel_rfl) rfl heldx (y_lOS rfl) .free rfl ?_
      refine d_call 10 rfl (by kernel_rfl) rfl rfl .free rfl (ihn (by omega) (hf.as 2 b.tree (by omega) rfl) hok.2 nm hnm hv _) ?_
      rintro _ J2 _ e2 ⟨cs2, rfl, hr_1, rfl⟩
      obtain ⟨o2, k2, _, rfl, -⟩ := hr_1.open
      have hf := hf.mono e2
      have hv := hv.mono e2
      have hle := hle.trans e2
      have hk := hk.mono e2
      have hr_0 := hr_0.mono e2
      refine ⟨(.inr heldx), ?_⟩
      first | refine d_takeA 11 rfl (by kernel_rfl) rfl (.inr heldx) (y_ixD rfl rfl _ rfl) .free rfl ?_ | refine d_takeA 11 rfl (by kernel_rfl) rfl (.inr heldx) (y_ixP rfl rfl _ rfl) .free rfl ?_
      refine d_st 12 rfl (by kernel_rfl) rfl rfl rfl rfl rfl .free (.inl (by kernel_rfl)) ?_
      refine d_done (by kernel_rfl) ?_
      refine s_inBlock ?_
      refine o_enter rfl ?_
      refine o_arith rfl rfl rfl (by omega) .free rfl ?_
      refine o_move rfl .free rfl ?_
      refine o_done ?_
      refine s_round ?_
      refine s_seq ?_
      refine o_enter rfl ?_
      refine o_cmp rfl rfl rfl .free rfl ?_
      refine o_done ?_
      refine s_seq ?_
      refine s_condF rfl (by first | rfl | decide | (simp; done) | omega) ?_
      refine s_exit rfl ?_
      refine s_seq ?_
      refine o_enter rfl ?_
      refine o_lOS rfl .free rfl ?_
      refine o_st rfl rfl rfl rfl .free ?_
      refine o_done ?_
      refine s_mem (fun w h => h.f1) (s_freeze ?_)
      intro hz
      have hf := hf.mono hz
      refine s_ret (.cell rfl (by first | exact loads_still1 (by assumption) rfl | exact loads_ownS (by first | exact m0 | exact m1 | exact m2 | exact m3 | exact m4 | exact m5 | exact m6 | exact List.mem_append_right _ m0 | exact List.mem_append_right _ m1 | exact List.mem_append_right _ m2 | exact List.mem_append_right _ m3 | exact .tail _ (List.mem_append_right _ m0) | exact .tail _ (List.mem_append_right _ m1) | exact .tail _ (List.mem_append_right _ m2) | exact .tail _ (List.mem_append_right _ m3)) (by rfl) | exact loads_own1 (by first | exact m0 | exact m1 | exact m2 | exact m3 | exact m4 | exact m5 | exact m6 | exact List.mem_append_right _ m0 | exact List.mem_append_right _ m1 | exact List.mem_append_right _ m2 | exact List.mem_append_right _ m3 | exact .tail _ (List.mem_append_right _ m0) | exact .tail _ (List.mem_append_right _ m1) | exact .tail _ (List.mem_append_right _ m2) | exact .tail _ (List.mem_append_right _ m3)) (by rfl) rfl | exact loads_stillS (by assumption) (by rfl) | exact loads_stillF (by assumption) (by rfl) rfl) .nil) ?_
      exact ⟨_, L, hle.trans hz, (by intro _ h; first | exact h | exact dr1 h | exact dr2 h | exact dr3 h | exact dr4 h | exact dr5 h | exact dr6 h | exact dr6 h.drop | exact dr6 h.drop.drop | exact dr6 h.drop.drop.drop), _, rfl, .mk' rfl (.cons (hf.as 0 (.node o.txt []) (by omega) rfl) (.cons (hr_0.mono hz) (.cons (hr_1.mono hz) .nil))) (fun y hy => by cases hy; exact still_set (xs := [_, _, _, _, _, _])) (by simp) hcc (by simp [maxN]) (by simp [maxN]), rfl⟩
    · skip
      have hlen : (Ex.ite a b d).tree.parts.length = 4 := rfl
      have hki := kids_ite a b d
      simp only [Ex.ite.sizeOf_spec] at hlt
      simp only [Ex.ok, Bool.and_eq_true] at hok
      obtain ⟨_, hrl⟩ : ∃ _ : True, RepL I (Ex.ite a b d).tree.parts _ := ⟨trivial, hcl⟩
      simp only [show (Ex.ite a b d).tree.parts = [.node tIf [], a.tree, b.tree, d.tree] from rfl, cellsF, List.cons_append, List.nil_append] at hrl ⊢
      refine o_enter rfl ?_
      refine o_lOS rfl .free rfl ?_
      refine o_call rfl .free rfl (f_form_kids hf.rep _) ?_
      rintro _ J _ e0 ⟨ok, ck, rfl, hk, rfl⟩
      have hf := hf.mono e0
      have hv := hv.mono e0
      have hle := e0
      rw [hki] at hk
      rw [hki]
      refine o_len_slice rfl .free rfl ?_
      refine o_move rfl .free rfl ?_
      refine o_done ?_
      refine s_block ?_
      refine s_loop ?_
      refine s_seq ?_
      refine o_enter rfl ?_
      refine o_cmp rfl rfl rfl .free rfl ?_
      refine o_done ?_
      refine s_seq ?_
      refine s_condT rfl (by first | rfl | decide | (simp; done) | omega) ?_
      refine s_skip ?_
      refine s_seq ?_
      refine s_block ?_
      refine s_seq ?_
      refine o_enter rfl ?_
      first | refine o_ixD rfl rfl _ rfl .free rfl ?_ | refine o_ixP rfl rfl _ rfl .free rfl ?_
      refine o_lI1 rfl .free rfl ?_
      refine o_assign rfl .free rfl ?_
      refine o_done ?_
      refine s_seq ?_
      refine o_enter rfl ?_
      refine o_lOS rfl .free rfl ?_
      refine o_move rfl .free rfl ?_
      refine o_call rfl .free rfl (f_form_bound hf.rep hok0 _ _) ?_
      rintro _ J1 _ e1 ⟨o1, k1, rfl, hs1, rfl⟩
      refine o_move rfl .free rfl ?_
      refine o_call rfl .free rfl (f_slices_Contains (hs1.rd _) k1 nm) ?_
      rintro _ _ _ _ ⟨rfl, rfl, rfl⟩
      refine o_not rfl .free rfl ?_
      refine o_mem (fun w h => Mem.le e1 h) ?_
      refine o_done ?_
      first | refine s_tp rfl (by simp [Ex.binds]) ?_ | refine s_tn rfl (by simp [Ex.binds]) ?_ | refine s_true (by simp [look, opd, *]) ?_
      refine d_all 13 rfl rfl ?_
      refine d_takeA 0 rfl (by kernel_rfl) rfl (.inr heldx) (y_fieldAddr rfl) .free rfl ?_
      refine d_take 1 [12] rfl (by kernel_rfl) rfl heldx (y_lO1 rfl) .free rfl ?_
      refine d_takeA 2 rfl (by kernel_rfl) rfl (.inr heldx) (y_move rfl) .free rfl ?_
      refine d_takeA 3 rfl (by kernel_rfl) rfl (.inr heldx) (y_fieldAddr rfl) .free rfl ?_
      refine d_take 4 [12] rfl (by kernel_rfl) rfl heldx (y_lO1 rfl) .free rfl ?_
      refine d_takeA 5 rfl (by kernel_rfl) rfl (.inr heldx) (y_move rfl) .free rfl ?_
      first | refine d_takeA 6 rfl (by kernel_rfl) rfl (.inr heldx) (y_ixD rfl rfl _ rfl) .free rfl ?_ | refine d_takeA 6 rfl (by kernel_rfl) rfl (.inr heldx) (y_ixP rfl rfl _ rfl) .free rfl ?_
      refine d_take 7 [12] rfl (by kernel_rfl) rfl heldx (y_lIS rfl) .free rfl ?_
      refine d_takeA 8 rfl (by kernel_rfl) rfl (.inr heldx) (y_move rfl) .free rfl ?_
      refine d_take 9 [12] rfl (by kernel_rfl) rfl heldx (y_lOS rfl) .free rfl ?_
      refine d_call 10 rfl (by kernel_rfl) rfl rfl .free rfl (ihn (by omega) (hf.as 1 a.tree (by omega) rfl) hok.1.1 nm hnm hv _) ?_
      rintro _ J2 _ e2 ⟨cs2, rfl, hr_0, rfl⟩
      obtain ⟨o2, k2, _, rfl, -⟩ := hr_0.open
      have hf := hf.mono e2
      have hv := hv.mono e2
      have hle := hle.trans e2
      have hk := hk.mono e2
      refine ⟨(.inr heldx), ?_⟩
      first | refine d_takeA 11 rfl (by kernel_rfl) rfl (.inr heldx) (y_ixD rfl rfl _ rfl) .free rfl ?_ | refine d_takeA 11 rfl (by kernel_rfl) rfl (.inr heldx) (y_ixP rfl rfl _ rfl) .free rfl ?_
      refine d_st 12 rfl (by kernel_rfl) rfl rfl rfl rfl rfl .free (.inl (by kernel_rfl)) ?_
      refine d_done (by kernel_rfl) ?_
      refine s_inBlock ?_
      refine o_enter rfl ?_
      refine o_arith rfl rfl rfl (by omega) .free rfl ?_
      refine o_move rfl .free rfl ?_
      refine o_done ?_
      refine s_round ?_
      refine s_seq ?_
      refine o_enter rfl ?_
      refine o_cmp rfl rfl rfl .free rfl ?_
      refine o_done ?_
      refine s_seq ?_
      refine s_condT rfl (by first | rfl | decide | (simp; done) | omega) ?_
      refine s_skip ?_
      refine s_seq ?_
      refine s_block ?_
      refine s_seq ?_
      refine o_enter rfl ?_
      first | refine o_ixD rfl rfl _ rfl .free rfl ?_ | refine o_ixP rfl rfl _ rfl .free rfl ?_
      refine o_lI1 rfl .free rfl ?_
      refine o_assign rfl .free rfl ?_
      refine o_done ?_
      refine s_seq ?_
      refine o_enter rfl ?_
      refine o_lOS rfl .free rfl ?_
      refine o_move rfl .free rfl ?_
      refine o_call rfl .free rfl (f_form_bound hf.rep hok0 _ _) ?_
      rintro _ J1 _ e1 ⟨o1, k1, rfl, hs1, rfl⟩
      refine o_move rfl .free rfl ?_
      refine o_call rfl .free rfl (f_slices_Contains (hs1.rd _) k1 nm) ?_
      rintro _ _ _ _ ⟨rfl, rfl, rfl⟩
      refine o_not rfl .free rfl ?_
      refine o_mem (fun w h => Mem.le e1 h) ?_
      refine o_done ?_
      first | refine s_tp rfl (by simp [Ex.binds]) ?_ | refine s_tn rfl (by simp [Ex.binds]) ?_ | refine s_true (by simp [look, opd, *]) ?_
      refine d_all 13 rfl rfl ?_
      refine d_takeA 0 rfl (by kernel_rfl) rfl (.inr heldx) (y_fieldAddr rfl) .free rfl ?_
      refine d_take 1 [12] rfl (by kernel_rfl) rfl heldx (y_lO1 rfl) .free rfl ?_
      refine d_takeA 2 rfl (by kernel_rfl) rfl (.inr heldx) (y_move rfl) .free rfl ?_
      refine d_takeA 3 rfl (by kernel_rfl) rfl (.inr heldx) (y_fieldAddr rfl) .free rfl ?_
      refine d_take 4 [12] rfl (by kernel_rfl) rfl heldx (y_lO1 rfl) .free rfl ?_
      refine d_takeA 5 rfl (by kernel_rfl) rfl (.inr heldx) (y_move rfl) .free rfl ?_
      first | refine d_takeA 6 rfl (by kernel_rfl) rfl (.inr heldx) (y_ixD rfl rfl _ rfl) .free rfl ?_ | refine d_takeA 6 rfl (by kernel_rfl) rfl (.inr heldx) (y_ixP rfl rfl _ rfl) .free rfl ?_
      refine d_take 7 [12] rfl (by kernel_rfl) rfl heldx (y_lIS rfl) .free rfl ?_
      refine d_takeA 8 rfl (by kernel_rfl) rfl (.inr heldx) (y_move rfl) .free rfl ?_
      refine d_take 9 [12] rfl (by kernel_rfl) rfl heldx (y_lOS rfl) .free rfl ?_
      refine d_call 10 rfl (by kernel_rfl) rfl rfl .free rfl (ihn (by omega) (hf.as 2 b.tree (by omega) rfl) hok.1.2 nm hnm hv _) ?_
      rintro _ J2 _ e2 ⟨cs2, rfl, hr_1, rfl⟩
      obtain ⟨o2, k2, _, rfl, -⟩ := hr_1.open
      have hf := hf.mono e2
      have hv := hv.mono e2
      have hle := hle.trans e2
      have hk := hk.mono e2
      have hr_0 := hr_0.mono e2
      refine ⟨(.inr heldx), ?_⟩
      first | refine d_takeA 11 rfl (by kernel_rfl) rfl (.inr heldx) (y_ixD rfl rfl _ rfl) .free rfl ?_ | refine d_takeA 11 rfl (by kernel_rfl) rfl (.inr heldx) (y_ixP rfl rfl _ rfl) .free rfl ?_
      refine d_st 12 rfl (by kernel_rfl) rfl rfl rfl rfl rfl .free (.inl (by kernel_rfl)) ?_
      refine d_done (by kernel_rfl) ?_
      refine s_inBlock ?_
      refine o_enter rfl ?_
      refine o_arith rfl rfl rfl (by omega) .free rfl ?_
      refine o_move rfl .free rfl ?_
      refine o_done ?_
      refine s_round ?_
      refine s_seq ?_
      refine o_enter rfl ?_
      refine o_cmp rfl rfl rfl .free rfl ?_
      refine o_done ?_
      refine s_seq ?_
      refine s_condT rfl (by first | rfl | decide | (simp; done) | omega) ?_
      refine s_skip ?_
      refine s_seq ?_
      refine s_block ?_
      refine s_seq ?_
      refine o_enter rfl ?_
      first | refine o_ixD rfl rfl _ rfl .free rfl ?_ | refine o_ixP rfl rfl _ rfl .free rfl ?_
      refine o_lI1 rfl .free rfl ?_
      refine o_assign rfl .free rfl ?_
      refine o_done ?_
      refine s_seq ?_
      refine o_enter rfl ?_
      refine o_lOS rfl .free rfl ?_
      refine o_move rfl .free rfl ?_
      refine o_call rfl .free rfl (f_form_bound hf.rep hok0 _ _) ?_
      rintro _ J1 _ e1 ⟨o1, k1, rfl, hs1, rfl⟩
      refine o_move rfl .free rfl ?_
      refine o_call rfl .free rfl (f_slices_Contains (hs1.rd _) k1 nm) ?_
      rintro _ _ _ _ ⟨rfl, rfl, rfl⟩
      refine o_not rfl .free rfl ?_
      refine o_mem (fun w h => Mem.le e1 h) ?_
      refine o_done ?_
      first | refine s_tp rfl (by simp [Ex.binds]) ?_ | refine s_tn rfl (by simp [Ex.binds]) ?_ | refine s_true (by simp [look, opd, *]) ?_
      refine d_all 13 rfl rfl ?_
      refine d_takeA 0 rfl (by kernel_rfl) rfl (.inr heldx) (y_fieldAddr rfl) .free rfl ?_
      refine d_take 1 [12] rfl (by kernel_rfl) rfl heldx (y_lO1 rfl) .free rfl ?_
      refine d_takeA 2 rfl (by kernel_rfl) rfl (.inr heldx) (y_move rfl) .free rfl ?_
      refine d_takeA 3 rfl (by kernel_rfl) rfl (.inr heldx) (y_fieldAddr rfl) .free rfl ?_
      refine d_take 4 [12] rfl (by kernel_rfl) rfl heldx (y_lO1 rfl) .free rfl ?_
      refine d_takeA 5 rfl (by kernel_rfl) rfl (.inr heldx) (y_move rfl) .free rfl ?_
      first | refine d_takeA 6 rfl (by kernel_rfl) rfl (.inr heldx) (y_ixD rfl rfl _ rfl) .free rfl ?_ | refine d_takeA 6 rfl (by kernel_rfl) rfl (.inr heldx) (y_ixP rfl rfl _ rfl) .free rfl ?_
      refine d_take 7 [12] rfl (by kernel_rfl) rfl heldx (y_lIS rfl) .free rfl ?_
      refine d_takeA 8 rfl (by kernel_rfl) rfl (.inr heldx) (y_move rfl) .free rfl ?_
      refine d_take 9 [12] rfl (by kernel_rfl) rfl heldx (y_lOS rfl) .free rfl ?_
      refine d_call 10 rfl (by kernel_rfl) rfl rfl .free rfl (ihn (by omega) (hf.as 3 d.tree (by omega) rfl) hok.2 nm hnm hv _) ?_
      rintro _ J2 _ e2 ⟨cs2, rfl, hr_2, rfl⟩
      obtain ⟨o2, k2, _, rfl, -⟩ := hr_2.open
      have hf := hf.mono e2
      have hv := hv.mono e2
      have hle := hle.trans e2
      have hk := hk.mono e2
      have hr_0 := hr_0.mono e2
      have hr_1 := hr_1.mono e2
      refine ⟨(.inr heldx), ?_⟩
      first | refine d_takeA 11 rfl (by kernel_rfl) rfl (.inr heldx) (y_ixD rfl rfl _ rfl) .free rfl ?_ | refine d_takeA 11 rfl (by kernel_rfl) rfl (.inr heldx) (y_ixP rfl rfl _ rfl) .free rfl ?_
      refine d_st 12 rfl (by kernel_rfl) rfl rfl rfl rfl rfl .free (.inl (by kernel_rfl)) ?_
      refine d_done (by kernel_rfl) ?_
      refine s_inBlock ?_
      refine o_enter rfl ?_
      refine o_arith rfl rfl rfl (by omega) .free rfl ?_
      refine o_move rfl .free rfl ?_
      refine o_done ?_
      refine s_round ?_
      refine s_seq ?_
      refine o_enter rfl ?_
      refine o_cmp rfl rfl rfl .free rfl ?_
      refine o_done ?_
      refine s_seq ?_
      refine s_condF rfl (by first | rfl | decide | (simp; done) | omega) ?_
      refine s_exit rfl ?_
      refine s_seq ?_
      refine o_enter rfl ?_
      refine o_lOS rfl .free rfl ?_
      refine o_st rfl rfl rfl rfl .free ?_
      refine o_done ?_
      refine s_mem (fun w h => h.f1) (s_freeze ?_)
      intro hz
      have hf := hf.mono hz
      refine s_ret (.cell rfl (by first | exact loads_still1 (by assumption) rfl | exact loads_ownS (by first | exact m0 | exact m1 | exact m2 | exact m3 | exact m4 | exact m5 | exact m6 | exact List.mem_append_right _ m0 | exact List.mem_append_right _ m1 | exact List.mem_append_right _ m2 | exact List.mem_append_right _ m3 | exact .tail _ (List.mem_append_right _ m0) | exact .tail _ (List.mem_append_right _ m1) | exact .tail _ (List.mem_append_right _ m2) | exact .tail _ (List.mem_append_right _ m3)) (by rfl) | exact loads_own1 (by first | exact m0 | exact m1 | exact m2 | exact m3 | exact m4 | exact m5 | exact m6 | exact List.mem_append_right _ m0 | exact List.mem_append_right _ m1 | exact List.mem_append_right _ m2 | exact List.mem_append_right _ m3 | exact .tail _ (List.mem_append_right _ m0) | exact .tail _ (List.mem_append_right _ m1) | exact .tail _ (List.mem_append_right _ m2) | exact .tail _ (List.mem_append_right _ m3)) (by rfl) rfl | exact loads_stillS (by assumption) (by rfl) | exact loads_stillF (by assumption) (by rfl) rfl) .nil) ?_
      exact ⟨_, L, hle.trans hz, (by intro _ h; first | exact h | exact dr1 h | exact dr2 h | exact dr3 h | exact dr4 h | exact dr5 h | exact dr6 h | exact dr6 h.drop | exact dr6 h.drop.drop | exact dr6 h.drop.drop.drop), _, rfl, .mk' rfl (.cons (hf.as 0 (.node tIf []) (by omega) rfl) (.cons (hr_0.mono hz) (.cons (hr_1.mono hz) (.cons (hr_2.mono hz) .nil)))) (fun y hy => by cases hy; exact still_set (xs := [_, _, _, _, _, _, _, _])) (by simp) hcc (by simp [maxN]) (by simp [maxN]), rfl⟩
    · skip
      have hlen : (Ex.lt z a b).tree.parts.length = 4 := rfl
      have hki := kids_lt' z a b
      simp only [Ex.lt.sizeOf_spec] at hlt
      simp only [Ex.ok, Bool.and_eq_true] at hok
      obtain ⟨_, hrl⟩ : ∃ _ : True, RepL I (Ex.lt z a b).tree.parts _ := ⟨trivial, hcl⟩
      simp only [show (Ex.lt z a b).tree.parts = [.node tLet [], .node z [], a.tree, b.tree] from rfl, cellsF, List.cons_append, List.nil_append] at hrl ⊢
      refine o_enter rfl ?_
      refine o_lOS rfl .free rfl ?_
      refine o_call rfl .free rfl (f_form_kids hf.rep _) ?_
      rintro _ J _ e0 ⟨ok, ck, rfl, hk, rfl⟩
      have hf := hf.mono e0
      have hv := hv.mono e0
      have hle := e0
      rw [hki] at hk
      rw [hki]
      refine o_len_slice rfl .free rfl ?_
      refine o_move rfl .free rfl ?_
      refine o_done ?_
      refine s_block ?_
      refine s_loop ?_
      refine s_seq ?_
      refine o_enter rfl ?_
      refine o_cmp rfl rfl rfl .free rfl ?_
      refine o_done ?_
      refine s_seq ?_
      refine s_condT rfl (by first | rfl | decide | (simp; done) | omega) ?_
      refine s_skip ?_
      refine s_seq ?_
      refine s_block ?_
      refine s_seq ?_
      refine o_enter rfl ?_
      first | refine o_ixD rfl rfl _ rfl .free rfl ?_ | refine o_ixP rfl rfl _ rfl .free rfl ?_
      refine o_lI1 rfl .free rfl ?_
      refine o_assign rfl .free rfl ?_
      refine o_done ?_
      refine s_seq ?_
      refine o_enter rfl ?_
      refine o_lOS rfl .free rfl ?_
      refine o_move rfl .free rfl ?_
      refine o_call rfl .free rfl (f_form_bound hf.rep hok0 _ _) ?_
      rintro _ J1 _ e1 ⟨o1, k1, rfl, hs1, rfl⟩
      refine o_move rfl .free rfl ?_
      refine o_call rfl .free rfl (f_slices_Contains (hs1.rd _) k1 nm) ?_
      rintro _ _ _ _ ⟨rfl, rfl, rfl⟩
      refine o_not rfl .free rfl ?_
      refine o_mem (fun w h => Mem.le e1 h) ?_
      refine o_done ?_
      first | refine s_tp rfl (by simp [Ex.binds]) ?_ | refine s_tn rfl (by simp [Ex.binds]) ?_ | refine s_true (by simp [look, opd, *]) ?_
      refine d_all 13 rfl rfl ?_
      refine d_takeA 0 rfl (by kernel_rfl) rfl (.inr heldx) (y_fieldAddr rfl) .free rfl ?_
      refine d_take 1 [12] rfl (by kernel_rfl) rfl heldx (y_lO1 rfl) .free rfl ?_
      refine d_takeA 2 rfl (by kernel_rfl) rfl (.inr heldx) (y_move rfl) .free rfl ?_
      refine d_takeA 3 rfl (by kernel_rfl) rfl (.inr heldx) (y_fieldAddr rfl) .free rfl ?_
      refine d_take 4 [12] rfl (by kernel_rfl) rfl heldx (y_lO1 rfl) .free rfl ?_
      refine d_takeA 5 rfl (by kernel_rfl) rfl (.inr heldx) (y_move rfl) .free rfl ?_
      first | refine d_takeA 6 rfl (by kernel_rfl) rfl (.inr heldx) (y_ixD rfl rfl _ rfl) .free rfl ?_ | refine d_takeA 6 rfl (by kernel_rfl) rfl (.inr heldx) (y_ixP rfl rfl _ rfl) .free rfl ?_
      refine d_take 7 [12] rfl (by kernel_rfl) rfl heldx (y_lIS rfl) .free rfl ?_
      refine d_takeA 8 rfl (by kernel_rfl) rfl (.inr heldx) (y_move rfl) .free rfl ?_
      refine d_take 9 [12] rfl (by kernel_rfl) rfl heldx (y_lOS rfl) .free rfl ?_
      refine d_call 10 rfl (by kernel_rfl) rfl rfl .free rfl (ihn (by omega) (hf.as 2 a.tree (by omega) rfl) hok.1.2 nm hnm hv _) ?_
      rintro _ J2 _ e2 ⟨cs2, rfl, hr_0, rfl⟩
      obtain ⟨o2, k2, _, rfl, -⟩ := hr_0.open
      have hf := hf.mono e2
      have hv := hv.mono e2
      have hle := hle.trans e2
      have hk := hk.mono e2
      refine ⟨(.inr heldx), ?_⟩
      first | refine d_takeA 11 rfl (by kernel_rfl) rfl (.inr heldx) (y_ixD rfl rfl _ rfl) .free rfl ?_ | refine d_takeA 11 rfl (by kernel_rfl) rfl (.inr heldx) (y_ixP rfl rfl _ rfl) .free rfl ?_
      refine d_st 12 rfl (by kernel_rfl) rfl rfl rfl rfl rfl .free (.inl (by kernel_rfl)) ?_
      refine d_done (by kernel_rfl) ?_
      refine s_inBlock ?_
      refine o_enter rfl ?_
      refine o_arith rfl rfl rfl (by omega) .free rfl ?_
      refine o_move rfl .free rfl ?_
      refine o_done ?_
      refine s_round ?_
      refine s_seq ?_
      refine o_enter rfl ?_
      refine o_cmp rfl rfl rfl .free rfl ?_
      refine o_done ?_
      refine s_seq ?_
      refine s_condT rfl (by first | rfl | decide | (simp; done) | omega) ?_
      refine s_skip ?_
      refine s_seq ?_
      refine s_block ?_
      refine s_seq ?_
      refine o_enter rfl ?_
      first | refine o_ixD rfl rfl _ rfl .free rfl ?_ | refine o_ixP rfl rfl _ rfl .free rfl ?_
      refine o_lI1 rfl .free rfl ?_
      refine o_assign rfl .free rfl ?_
      refine o_done ?_
      refine s_seq ?_
      refine o_enter rfl ?_
      refine o_lOS rfl .free rfl ?_
      refine o_move rfl .free rfl ?_
      refine o_call rfl .free rfl (f_form_bound hf.rep hok0 _ _) ?_
      rintro _ J1 _ e1 ⟨o1, k1, rfl, hs1, rfl⟩
      refine o_move rfl .free rfl ?_
      refine o_call rfl .free rfl (f_slices_Contains (hs1.rd _) k1 nm) ?_
      rintro _ _ _ _ ⟨rfl, rfl, rfl⟩
      refine o_not rfl .free rfl ?_
      refine o_mem (fun w h => Mem.le e1 h) ?_
      refine o_done ?_
      refine s_cond rfl ?_ ?_
      · intro c3
        try simp only [nb] at c3
        have c3 : ¬ nm ∈ [z] := c3
        refine d_all 13 rfl rfl ?_
        refine d_takeA 0 rfl (by kernel_rfl) rfl (.inr heldx) (y_fieldAddr rfl) .free rfl ?_
        refine d_take 1 [12] rfl (by kernel_rfl) rfl heldx (y_lO1 rfl) .free rfl ?_
        refine d_takeA 2 rfl (by kernel_rfl) rfl (.inr heldx) (y_move rfl) .free rfl ?_
        refine d_takeA 3 rfl (by kernel_rfl) rfl (.inr heldx) (y_fieldAddr rfl) .free rfl ?_
        refine d_take 4 [12] rfl (by kernel_rfl) rfl heldx (y_lO1 rfl) .free rfl ?_
        refine d_takeA 5 rfl (by kernel_rfl) rfl (.inr heldx) (y_move rfl) .free rfl ?_
        first | refine d_takeA 6 rfl (by kernel_rfl) rfl (.inr heldx) (y_ixD rfl rfl _ rfl) .free rfl ?_ | refine d_takeA 6 rfl (by kernel_rfl) rfl (.inr heldx) (y_ixP rfl rfl _ rfl) .free rfl ?_
        refine d_take 7 [12] rfl (by kernel_rfl) rfl heldx (y_lIS rfl) .free rfl ?_
        refine d_takeA 8 rfl (by kernel_rfl) rfl (.inr heldx) (y_move rfl) .free rfl ?_
        refine d_take 9 [12] rfl (by kernel_rfl) rfl heldx (y_lOS rfl) .free rfl ?_
        refine d_call 10 rfl (by kernel_rfl) rfl rfl .free rfl (ihn (by omega) (hf.as 3 b.tree (by omega) rfl) hok.2 nm hnm hv _) ?_
        rintro _ J2 _ e2 ⟨cs2, rfl, hr_1, rfl⟩
        obtain ⟨o2, k2, _, rfl, -⟩ := hr_1.open
        have hf := hf.mono e2
        have hv := hv.mono e2
        have hle := hle.trans e2
        have hk := hk.mono e2
        have hr_0 := hr_0.mono e2
        refine ⟨(.inr heldx), ?_⟩
        first | refine d_takeA 11 rfl (by kernel_rfl) rfl (.inr heldx) (y_ixD rfl rfl _ rfl) .free rfl ?_ | refine d_takeA 11 rfl (by kernel_rfl) rfl (.inr heldx) (y_ixP rfl rfl _ rfl) .free rfl ?_
        refine d_st 12 rfl (by kernel_rfl) rfl rfl rfl rfl rfl .free (.inl (by kernel_rfl)) ?_
        refine d_done (by kernel_rfl) ?_
        refine s_inBlock ?_
        refine o_enter rfl ?_
        refine o_arith rfl rfl rfl (by omega) .free rfl ?_
        refine o_move rfl .free rfl ?_
        refine o_done ?_
        refine s_round ?_
        refine s_seq ?_
        refine o_enter rfl ?_
        refine o_cmp rfl rfl rfl .free rfl ?_
        refine o_done ?_
        refine s_seq ?_
        refine s_condF rfl (by first | rfl | decide | (simp; done) | omega) ?_
        refine s_exit rfl ?_
        refine s_seq ?_
        refine o_enter rfl ?_
        refine o_lOS rfl .free rfl ?_
        refine o_st rfl rfl rfl rfl .free ?_
        refine o_done ?_
        refine s_mem (fun w h => h.f1) (s_freeze ?_)
        intro hz
        have hf := hf.mono hz
        refine s_ret (.cell rfl (by first | exact loads_still1 (by assumption) rfl | exact loads_ownS (by first | exact m0 | exact m1 | exact m2 | exact m3 | exact m4 | exact m5 | exact m6 | exact List.mem_append_right _ m0 | exact List.mem_append_right _ m1 | exact List.mem_append_right _ m2 | exact List.mem_append_right _ m3 | exact .tail _ (List.mem_append_right _ m0) | exact .tail _ (List.mem_append_right _ m1) | exact .tail _ (List.mem_append_right _ m2) | exact .tail _ (List.mem_append_right _ m3)) (by rfl) | exact loads_own1 (by first | exact m0 | exact m1 | exact m2 | exact m3 | exact m4 | exact m5 | exact m6 | exact List.mem_append_right _ m0 | exact List.mem_append_right _ m1 | exact List.mem_append_right _ m2 | exact List.mem_append_right _ m3 | exact .tail _ (List.mem_append_right _ m0) | exact .tail _ (List.mem_append_right _ m1) | exact .tail _ (List.mem_append_right _ m2) | exact .tail _ (List.mem_append_right _ m3)) (by rfl) rfl | exact loads_stillS (by assumption) (by rfl) | exact loads_stillF (by assumption) (by rfl) rfl) .nil) ?_
        first
          | (have hput : (Ex.lt z a b).put nm v = .lt z (a.put nm v) (b.put nm v) := by
               have : ¬ z = nm := fun h => c3 (by simp [h])
               simp [Ex.put, this]
             rw [hput]
             exact ⟨_, L, hle.trans hz, (by intro _ h; first | exact h | exact dr1 h | exact dr2 h | exact dr3 h | exact dr4 h | exact dr5 h | exact dr6 h | exact dr6 h.drop | exact dr6 h.drop.drop | exact dr6 h.drop.drop.drop), _, rfl, .mk' rfl (.cons (hf.as 0 (.node tLet []) (by omega) rfl) (.cons (hf.as 1 (.node z []) (by omega) rfl) (.cons (hr_0.mono hz) (.cons (hr_1.mono hz) .nil)))) (fun y hy => by cases hy; exact still_set (xs := [_, _, _, _, _, _, _, _])) (by simp) hcc (by simp [maxN]) (by simp [maxN]), rfl⟩)
          | (have hput : (Ex.lt z a b).put nm v = .lt z (a.put nm v) b := by
               have : nm = z := by simpa using c3
               simp [Ex.put, this]
             rw [hput]
             exact ⟨_, L, hle.trans hz, (by intro _ h; first | exact h | exact dr1 h | exact dr2 h | exact dr3 h | exact dr4 h | exact dr5 h | exact dr6 h | exact dr6 h.drop | exact dr6 h.drop.drop | exact dr6 h.drop.drop.drop), _, rfl, .mk' rfl (.cons (hf.as 0 (.node tLet []) (by omega) rfl) (.cons (hf.as 1 (.node z []) (by omega) rfl) (.cons (hr_0.mono hz) (.cons (hf.as 3 b.tree (by omega) rfl) .nil)))) (fun y hy => by cases hy; exact still_set (xs := [_, _, _, _, _, _, _, _])) (by simp) hcc (by simp [maxN]) (by simp [maxN]), rfl⟩)
      intro c3
      try simp only [nb] at c3
      have c3 : nm ∈ [z] := c3
      refine s_skip ?_
      refine s_inBlock ?_
      refine o_enter rfl ?_
      refine o_arith rfl rfl rfl (by omega) .free rfl ?_
      refine o_move rfl .free rfl ?_
      refine o_done ?_
      refine s_round ?_
      refine s_seq ?_
      refine o_enter rfl ?_
      refine o_cmp rfl rfl rfl .free rfl ?_
      refine o_done ?_
      refine s_seq ?_
      refine s_condF rfl (by first | rfl | decide | (simp; done) | omega) ?_
      refine s_exit rfl ?_
      refine s_seq ?_
      refine o_enter rfl ?_
      refine o_lOS rfl .free rfl ?_
      refine o_st rfl rfl rfl rfl .free ?_
      refine o_done ?_
      refine s_mem (fun w h => h.f1) (s_freeze ?_)
      intro hz
      have hf := hf.mono hz
      refine s_ret (.cell rfl (by first | exact loads_still1 (by assumption) rfl | exact loads_ownS (by first | exact m0 | exact m1 | exact m2 | exact m3 | exact m4 | exact m5 | exact m6 | exact List.mem_append_right _ m0 | exact List.mem_append_right _ m1 | exact List.mem_append_right _ m2 | exact List.mem_append_right _ m3 | exact .tail _ (List.mem_append_right _ m0) | exact .tail _ (List.mem_append_right _ m1) | exact .tail _ (List.mem_append_right _ m2) | exact .tail _ (List.mem_append_right _ m3)) (by rfl) | exact loads_own1 (by first | exact m0 | exact m1 | exact m2 | exact m3 | exact m4 | exact m5 | exact m6 | exact List.mem_append_right _ m0 | exact List.mem_append_right _ m1 | exact List.mem_append_right _ m2 | exact List.mem_append_right _ m3 | exact .tail _ (List.mem_append_right _ m0) | exact .tail _ (List.mem_append_right _ m1) | exact .tail _ (List.mem_append_right _ m2) | exact .tail _ (List.mem_append_right _ m3)) (by rfl) rfl | exact loads_stillS (by assumption) (by rfl) | exact loads_stillF (by assumption) (by rfl) rfl) .nil) ?_
      first
        | (have hput : (Ex.lt z a b).put nm v = .lt z (a.put nm v) (b.put nm v) := by
             have : ¬ z = nm := fun h => c3 (by simp [h])
             simp [Ex.put, this]
           rw [hput]
           exact ⟨_, L, hle.trans hz, (by intro _ h; first | exact h | exact dr1 h | exact dr2 h | exact dr3 h | exact dr4 h | exact dr5 h | exact dr6 h | exact dr6 h.drop | exact dr6 h.drop.drop | exact dr6 h.drop.drop.drop), _, rfl, .mk' rfl (.cons (hf.as 0 (.node tLet []) (by omega) rfl) (.cons (hf.as 1 (.node z []) (by omega) rfl) (.cons (hr_0.mono hz) (.cons (hr_1.mono hz) .nil)))) (fun y hy => by cases hy; exact still_set (xs := [_, _, _, _, _, _, _, _])) (by simp) hcc (by simp [maxN]) (by simp [maxN]), rfl⟩)
        | (have hput : (Ex.lt z a b).put nm v = .lt z (a.put nm v) b := by
             have : nm = z := by simpa using c3
             simp [Ex.put, this]
           rw [hput]
           exact ⟨_, L, hle.trans hz, (by intro _ h; first | exact h | exact dr1 h | exact dr2 h | exact dr3 h | exact dr4 h | exact dr5 h | exact dr6 h | exact dr6 h.drop | exact dr6 h.drop.drop | exact dr6 h.drop.drop.drop), _, rfl, .mk' rfl (.cons (hf.as 0 (.node tLet []) (by omega) rfl) (.cons (hf.as 1 (.node z []) (by omega) rfl) (.cons (hr_0.mono hz) (.cons (hf.as 3 b.tree (by omega) rfl) .nil)))) (fun y hy => by cases hy; exact still_set (xs := [_, _, _, _, _, _, _, _])) (by simp) hcc (by simp [maxN]) (by simp [maxN]), rfl⟩)
    · skip
      have hlen : (Ex.fn g z s t b).tree.parts.length = 6 := rfl
      have hki := kids_fn g z s t b
      simp only [Ex.fn.sizeOf_spec] at hlt
      simp only [Ex.ok, Bool.and_eq_true] at hok
      obtain ⟨_, hrl⟩ : ∃ _ : True, RepL I (Ex.fn g z s t b).tree.parts _ := ⟨trivial, hcl⟩
      simp only [show (Ex.fn g z s t b).tree.parts = [.node tFun [], .node g [], .node z [], s.tree, t.tree, b.tree] from rfl, cellsF, List.cons_append, List.nil_append] at hrl ⊢
      refine o_enter rfl ?_
      refine o_lOS rfl .free rfl ?_
      refine o_call rfl .free rfl (f_form_kids hf.rep _) ?_
      rintro _ J _ e0 ⟨ok, ck, rfl, hk, rfl⟩
      have hf := hf.mono e0
      have hv := hv.mono e0
      have hle := e0
      rw [hki] at hk
      rw [hki]
      refine o_len_slice rfl .free rfl ?_
      refine o_move rfl .free rfl ?_
      refine o_done ?_
      refine s_block ?_
      refine s_loop ?_
      refine s_seq ?_
      refine o_enter rfl ?_
      refine o_cmp rfl rfl rfl .free rfl ?_
      refine o_done ?_
      refine s_seq ?_
      refine s_condT rfl (by first | rfl | decide | (simp; done) | omega) ?_
      refine s_skip ?_
      refine s_seq ?_
      refine s_block ?_
      refine s_seq ?_
      refine o_enter rfl ?_
      first | refine o_ixD rfl rfl _ rfl .free rfl ?_ | refine o_ixP rfl rfl _ rfl .free rfl ?_
      refine o_lI1 rfl .free rfl ?_
      refine o_assign rfl .free rfl ?_
      refine o_done ?_
      refine s_seq ?_
      refine o_enter rfl ?_
      refine o_lOS rfl .free rfl ?_
      refine o_move rfl .free rfl ?_
      refine o_call rfl .free rfl (f_form_bound hf.rep hok0 _ _) ?_
      rintro _ J1 _ e1 ⟨o1, k1, rfl, hs1, rfl⟩
      refine o_move rfl .free rfl ?_
      refine o_call rfl .free rfl (f_slices_Contains (hs1.rd _) k1 nm) ?_
      rintro _ _ _ _ ⟨rfl, rfl, rfl⟩
      refine o_not rfl .free rfl ?_
      refine o_mem (fun w h => Mem.le e1 h) ?_
      refine o_done ?_
      refine s_cond rfl ?_ ?_
      · intro c3
        try simp only [nb] at c3
        have c3 : ¬ nm ∈ [g, z] := c3
        refine d_all 13 rfl rfl ?_
        refine d_takeA 0 rfl (by kernel_rfl) rfl (.inr heldx) (y_fieldAddr rfl) .free rfl ?_
        refine d_take 1 [12] rfl (by kernel_rfl) rfl heldx (y_lO1 rfl) .free rfl ?_
        refine d_takeA 2 rfl (by kernel_rfl) rfl (.inr heldx) (y_move rfl) .free rfl ?_
        refine d_takeA 3 rfl (by kernel_rfl) rfl (.inr heldx) (y_fieldAddr rfl) .free rfl ?_
        refine d_take 4 [12] rfl (by kernel_rfl) rfl heldx (y_lO1 rfl) .free rfl ?_
        refine d_takeA 5 rfl (by kernel_rfl) rfl (.inr heldx) (y_move rfl) .free rfl ?_
        first | refine d_takeA 6 rfl (by kernel_rfl) rfl (.inr heldx) (y_ixD rfl rfl _ rfl) .free rfl ?_ | refine d_takeA 6 rfl (by kernel_rfl) rfl (.inr heldx) (y_ixP rfl rfl _ rfl) .free rfl ?_
        refine d_take 7 [12] rfl (by kernel_rfl) rfl heldx (y_lIS rfl) .free rfl ?_
        refine d_takeA 8 rfl (by kernel_rfl) rfl (.inr heldx) (y_move rfl) .free rfl ?_
        refine d_take 9 [12] rfl (by kernel_rfl) rfl heldx (y_lOS rfl) .free rfl ?_
        refine d_call 10 rfl (by kernel_rfl) rfl rfl .free rfl (ihn (by omega) (hf.as 5 b.tree (by omega) rfl) hok.2 nm hnm hv _) ?_
        rintro _ J2 _ e2 ⟨cs2, rfl, hr_0, rfl⟩
        obtain ⟨o2, k2, _, rfl, -⟩ := hr_0.open
        have hf := hf.mono e2
        have hv := hv.mono e2
        have hle := hle.trans e2
        have hk := hk.mono e2
        refine ⟨(.inr heldx), ?_⟩
        first | refine d_takeA 11 rfl (by kernel_rfl) rfl (.inr heldx) (y_ixD rfl rfl _ rfl) .free rfl ?_ | refine d_takeA 11 rfl (by kernel_rfl) rfl (.inr heldx) (y_ixP rfl rfl _ rfl) .free rfl ?_
        refine d_st 12 rfl (by kernel_rfl) rfl rfl rfl rfl rfl .free (.inl (by kernel_rfl)) ?_
        refine d_done (by kernel_rfl) ?_
        refine s_inBlock ?_
        refine o_enter rfl ?_
        refine o_arith rfl rfl rfl (by omega) .free rfl ?_
        refine o_move rfl .free rfl ?_
        refine o_done ?_
        refine s_round ?_
        refine s_seq ?_
        refine o_enter rfl ?_
        refine o_cmp rfl rfl rfl .free rfl ?_
        refine o_done ?_
        refine s_seq ?_
        refine s_condF rfl (by first | rfl | decide | (simp; done) | omega) ?_
        refine s_exit rfl ?_
        refine s_seq ?_
        refine o_enter rfl ?_
        refine o_lOS rfl .free rfl ?_
        refine o_st rfl rfl rfl rfl .free ?_
        refine o_done ?_
        refine s_mem (fun w h => h.f1) (s_freeze ?_)
        intro hz
        have hf := hf.mono hz
        refine s_ret (.cell rfl (by first | exact loads_still1 (by assumption) rfl | exact loads_ownS (by first | exact m0 | exact m1 | exact m2 | exact m3 | exact m4 | exact m5 | exact m6 | exact List.mem_append_right _ m0 | exact List.mem_append_right _ m1 | exact List.mem_append_right _ m2 | exact List.mem_append_right _ m3 | exact .tail _ (List.mem_append_right _ m0) | exact .tail _ (List.mem_append_right _ m1) | exact .tail _ (List.mem_append_right _ m2) | exact .tail _ (List.mem_append_right _ m3)) (by rfl) | exact loads_own1 (by first | exact m0 | exact m1 | exact m2 | exact m3 | exact m4 | exact m5 | exact m6 | exact List.mem_append_right _ m0 | exact List.mem_append_right _ m1 | exact List.mem_append_right _ m2 | exact List.mem_append_right _ m3 | exact .tail _ (List.mem_append_right _ m0) | exact .tail _ (List.mem_append_right _ m1) | exact .tail _ (List.mem_append_right _ m2) | exact .tail _ (List.mem_append_right _ m3)) (by rfl) rfl | exact loads_stillS (by assumption) (by rfl) | exact loads_stillF (by assumption) (by rfl) rfl) .nil) ?_
        first
          | (have hput : (Ex.fn g z s t b).put nm v = .fn g z s t (b.put nm v) := by
               have h1 : ¬ (g = nm ∨ z = nm) := by rintro (h | h) <;> exact c3 (by simp [h])
               simp only [Ex.put]; rw [if_neg h1]
             rw [hput]
             exact ⟨_, L, hle.trans hz, (by intro _ h; first | exact h | exact dr1 h | exact dr2 h | exact dr3 h | exact dr4 h | exact dr5 h | exact dr6 h | exact dr6 h.drop | exact dr6 h.drop.drop | exact dr6 h.drop.drop.drop), _, rfl, .mk' rfl (.cons (hf.as 0 (.node tFun []) (by omega) rfl) (.cons (hf.as 1 (.node g []) (by omega) rfl) (.cons (hf.as 2 (.node z []) (by omega) rfl) (.cons (hf.as 3 (s.tree) (by omega) rfl) (.cons (hf.as 4 (t.tree) (by omega) rfl) (.cons (hr_0.mono hz) .nil)))))) (fun y hy => by cases hy; exact still_set (xs := [_, _, _, _, _, _, _, _, _, _, _, _])) (by simp) hcc (by simp [maxN]) (by simp [maxN]), rfl⟩)
          | (have hput : (Ex.fn g z s t b).put nm v = .fn g z s t b := by
               have h1 : g = nm ∨ z = nm := by simp at c3; rcases c3 with h | h <;> simp [h]
               simp only [Ex.put]; rw [if_pos h1]
             rw [hput]
             exact ⟨_, L, hle.trans hz, (by intro _ h; first | exact h | exact dr1 h | exact dr2 h | exact dr3 h | exact dr4 h | exact dr5 h | exact dr6 h | exact dr6 h.drop | exact dr6 h.drop.drop | exact dr6 h.drop.drop.drop), _, rfl, .mk' rfl (.cons (hf.as 0 (.node tFun []) (by omega) rfl) (.cons (hf.as 1 (.node g []) (by omega) rfl) (.cons (hf.as 2 (.node z []) (by omega) rfl) (.cons (hf.as 3 (s.tree) (by omega) rfl) (.cons (hf.as 4 (t.tree) (by omega) rfl) (.cons (hf.as 5 b.tree (by omega) rfl) .nil)))))) (fun y hy => by cases hy; exact still_set (xs := [_, _, _, _, _, _, _, _, _, _, _, _])) (by simp) hcc (by simp [maxN]) (by simp [maxN]), rfl⟩)
      intro c3
      try simp only [nb] at c3
      have c3 : nm ∈ [g, z] := c3
      refine s_skip ?_
      refine s_inBlock ?_
      refine o_enter rfl ?_
      refine o_arith rfl rfl rfl (by omega) .free rfl ?_
      refine o_move rfl .free rfl ?_
      refine o_done ?_
      refine s_round ?_
      refine s_seq ?_
      refine o_enter rfl ?_
      refine o_cmp rfl rfl rfl .free rfl ?_
      refine o_done ?_
      refine s_seq ?_
      refine s_condF rfl (by first | rfl | decide | (simp; done) | omega) ?_
      refine s_exit rfl ?_
      refine s_seq ?_
      refine o_enter rfl ?_
      refine o_lOS rfl .free rfl ?_
      refine o_st rfl rfl rfl rfl .free ?_
      refine o_done ?_
      refine s_mem (fun w h => h.f1) (s_freeze ?_)
      intro hz
      have hf := hf.mono hz
      refine s_ret (.cell rfl (by first | exact loads_still1 (by assumption) rfl | exact loads_ownS (by first | exact m0 | exact m1 | exact m2 | exact m3 | exact m4 | exact m5 | exact m6 | exact List.mem_append_right _ m0 | exact List.mem_append_right _ m1 | exact List.mem_append_right _ m2 | exact List.mem_append_right _ m3 | exact .tail _ (List.mem_append_right _ m0) | exact .tail _ (List.mem_append_right _ m1) | exact .tail _ (List.mem_append_right _ m2) | exact .tail _ (List.mem_append_right _ m3)) (by rfl) | exact loads_own1 (by first | exact m0 | exact m1 | exact m2 | exact m3 | exact m4 | exact m5 | exact m6 | exact List.mem_append_right _ m0 | exact List.mem_append_right _ m1 | exact List.mem_append_right _ m2 | exact List.mem_append_right _ m3 | exact .tail _ (List.mem_append_right _ m0) | exact .tail _ (List.mem_append_right _ m1) | exact .tail _ (List.mem_append_right _ m2) | exact .tail _ (List.mem_append_right _ m3)) (by rfl) rfl | exact loads_stillS (by assumption) (by rfl) | exact loads_stillF (by assumption) (by rfl) rfl) .nil) ?_
      first
        | (have hput : (Ex.fn g z s t b).put nm v = .fn g z s t (b.put nm v) := by
             have h1 : ¬ (g = nm ∨ z = nm) := by rintro (h | h) <;> exact c3 (by simp [h])
             simp only [Ex.put]; rw [if_neg h1]
           rw [hput]
           exact ⟨_, L, hle.trans hz, (by intro _ h; first | exact h | exact dr1 h | exact dr2 h | exact dr3 h | exact dr4 h | exact dr5 h | exact dr6 h | exact dr6 h.drop | exact dr6 h.drop.drop | exact dr6 h.drop.drop.drop), _, rfl, .mk' rfl (.cons (hf.as 0 (.node tFun []) (by omega) rfl) (.cons (hf.as 1 (.node g []) (by omega) rfl) (.cons (hf.as 2 (.node z []) (by omega) rfl) (.cons (hf.as 3 (s.tree) (by omega) rfl) (.cons (hf.as 4 (t.tree) (by omega) rfl) (.cons (hr_0.mono hz) .nil)))))) (fun y hy => by cases hy; exact still_set (xs := [_, _, _, _, _, _, _, _, _, _, _, _])) (by simp) hcc (by simp [maxN]) (by simp [maxN]), rfl⟩)
        | (have hput : (Ex.fn g z s t b).put nm v = .fn g z s t b := by
             have h1 : g = nm ∨ z = nm := by simp at c3; rcases c3 with h | h <;> simp [h]
             simp only [Ex.put]; rw [if_pos h1]
           rw [hput]
           exact ⟨_, L, hle.trans hz, (by intro _ h; first | exact h | exact dr1 h | exact dr2 h | exact dr3 h | exact dr4 h | exact dr5 h | exact dr6 h | exact dr6 h.drop | exact dr6 h.drop.drop | exact dr6 h.drop.drop.drop), _, rfl, .mk' rfl (.cons (hf.as 0 (.node tFun []) (by omega) rfl) (.cons (hf.as 1 (.node g []) (by omega) rfl) (.cons (hf.as 2 (.node z []) (by omega) rfl) (.cons (hf.as 3 (s.tree) (by omega) rfl) (.cons (hf.as 4 (t.tree) (by omega) rfl) (.cons (hf.as 5 b.tree (by omega) rfl) .nil)))))) (fun y hy => by cases hy; exact still_set (xs := [_, _, _, _, _, _, _, _, _, _, _, _])) (by simp) hcc (by simp [maxN]) (by simp [maxN]), rfl⟩)
    · skip
      have hlen : (Ex.un o a).tree.parts.length = 2 := rfl
      have hki := kids_un o a
      simp only [Ex.un.sizeOf_spec] at hlt
      simp only [Ex.ok, Bool.and_eq_true] at hok
      obtain ⟨_, hrl⟩ : ∃ _ : True, RepL I (Ex.un o a).tree.parts _ := ⟨trivial, hcl⟩
      simp only [show (Ex.un o a).tree.parts = [.node o.txt [], a.tree] from rfl, cellsF, List.cons_append, List.nil_append] at hrl ⊢
      refine o_enter rfl ?_
      refine o_lOS rfl .free rfl ?_
      refine o_call rfl .free rfl (f_form_kids hf.rep _) ?_
      rintro _ J _ e0 ⟨ok, ck, rfl, hk, rfl⟩
      have hf := hf.mono e0
      have hv := hv.mono e0
      have hle := e0
      rw [hki] at hk
      rw [hki]
      refine o_len_slice rfl .free rfl ?_
      refine o_move rfl .free rfl ?_
      refine o_done ?_
      refine s_block ?_
      refine s_loop ?_
      refine s_seq ?_
      refine o_enter rfl ?_
      refine o_cmp rfl rfl rfl .free rfl ?_
      refine o_done ?_
      refine s_seq ?_
      refine s_condT rfl (by first | rfl | decide | (simp; done) | omega) ?_
      refine s_skip ?_
      refine s_seq ?_
      refine s_block ?_
      refine s_seq ?_
      refine o_enter rfl ?_
      first | refine o_ixD rfl rfl _ rfl .free rfl ?_ | refine o_ixP rfl rfl _ rfl .free rfl ?_
      refine o_lI1 rfl .free rfl ?_
      refine o_assign rfl .free rfl ?_
      refine o_done ?_
      refine s_seq ?_
      refine o_enter rfl ?_
      refine o_lOS rfl .free rfl ?_
      refine o_move rfl .free rfl ?_
      refine o_call rfl .free rfl (f_form_bound hf.rep hok0 _ _) ?_
      rintro _ J1 _ e1 ⟨o1, k1, rfl, hs1, rfl⟩
      refine o_move rfl .free rfl ?_
      refine o_call rfl .free rfl (f_slices_Contains (hs1.rd _) k1 nm) ?_
      rintro _ _ _ _ ⟨rfl, rfl, rfl⟩
      refine o_not rfl .free rfl ?_
      refine o_mem (fun w h => Mem.le e1 h) ?_
      refine o_done ?_
      first | refine s_tp rfl (by simp [Ex.binds]) ?_ | refine s_tn rfl (by simp [Ex.binds]) ?_ | refine s_true (by simp [look, opd, *]) ?_
      refine d_all 13 rfl rfl ?_
      refine d_takeA 0 rfl (by kernel_rfl) rfl (.inr heldx) (y_fieldAddr rfl) .free rfl ?_
      refine d_take 1 [12] rfl (by kernel_rfl) rfl heldx (y_lO1 rfl) .free rfl ?_
      refine d_takeA 2 rfl (by kernel_rfl) rfl (.inr heldx) (y_move rfl) .free rfl ?_
      refine d_takeA 3 rfl (by kernel_rfl) rfl (.inr heldx) (y_fieldAddr rfl) .free rfl ?_
      refine d_take 4 [12] rfl (by kernel_rfl) rfl heldx (y_lO1 rfl) .free rfl ?_
      refine d_takeA 5 rfl (by kernel_rfl) rfl (.inr heldx) (y_move rfl) .free rfl ?_
      first | refine d_takeA 6 rfl (by kernel_rfl) rfl (.inr heldx) (y_ixD rfl rfl _ rfl) .free rfl ?_ | refine d_takeA 6 rfl (by kernel_rfl) rfl (.inr heldx) (y_ixP rfl rfl _ rfl) .free rfl ?_
      refine d_take 7 [12] rfl (by kernel_rfl) rfl heldx (y_lIS rfl) .free rfl ?_
      refine d_takeA 8 rfl (by kernel_rfl) rfl (.inr heldx) (y_move rfl) .free rfl ?_
      refine d_take 9 [12] rfl (by kernel_rfl) rfl heldx (y_lOS rfl) .free rfl ?_
      refine d_call 10 rfl (by kernel_rfl) rfl rfl .free rfl (ihn (by omega) (hf.as 1 a.tree (by omega) rfl) hok nm hnm hv _) ?_
      rintro _ J2 _ e2 ⟨cs2, rfl, hr_0, rfl⟩
      obtain ⟨o2, k2, _, rfl, -⟩ := hr_0.open
      have hf := hf.mono e2
      have hv := hv.mono e2
      have hle := hle.trans e2
      have hk := hk.mono e2
      refine ⟨(.inr heldx), ?_⟩
      first | refine d_takeA 11 rfl (by kernel_rfl) rfl (.inr heldx) (y_ixD rfl rfl _ rfl) .free rfl ?_ | refine d_takeA 11 rfl (by kernel_rfl) rfl (.inr heldx) (y_ixP rfl rfl _ rfl) .free rfl ?_
      refine d_st 12 rfl (by kernel_rfl) rfl rfl rfl rfl rfl .free (.inl (by kernel_rfl)) ?_
      refine d_done (by kernel_rfl) ?_
      refine s_inBlock ?_
      refine o_enter rfl ?_
      refine o_arith rfl rfl rfl (by omega) .free rfl ?_
      refine o_move rfl .free rfl ?_
      refine o_done ?_
      refine s_round ?_
      refine s_seq ?_
      refine o_enter rfl ?_
      refine o_cmp rfl rfl rfl .free rfl ?_
      refine o_done ?_
      refine s_seq ?_
      refine s_condF rfl (by first | rfl | decide | (simp; done) | omega) ?_
      refine s_exit rfl ?_
      refine s_seq ?_
      refine o_enter rfl ?_
      refine o_lOS rfl .free rfl ?_
      refine o_st rfl rfl rfl rfl .free ?_
      refine o_done ?_
      refine s_mem (fun w h => h.f1) (s_freeze ?_)
      intro hz
      have hf := hf.mono hz
      refine s_ret (.cell rfl (by first | exact loads_still1 (by assumption) rfl | exact loads_ownS (by first | exact m0 | exact m1 | exact m2 | exact m3 | exact m4 | exact m5 | exact m6 | exact List.mem_append_right _ m0 | exact List.mem_append_right _ m1 | exact List.mem_append_right _ m2 | exact List.mem_append_right _ m3 | exact .tail _ (List.mem_append_right _ m0) | exact .tail _ (List.mem_append_right _ m1) | exact .tail _ (List.mem_append_right _ m2) | exact .tail _ (List.mem_append_right _ m3)) (by rfl) | exact loads_own1 (by first | exact m0 | exact m1 | exact m2 | exact m3 | exact m4 | exact m5 | exact m6 | exact List.mem_append_right _ m0 | exact List.mem_append_right _ m1 | exact List.mem_append_right _ m2 | exact List.mem_append_right _ m3 | exact .tail _ (List.mem_append_right _ m0) | exact .tail _ (List.mem_append_right _ m1) | exact .tail _ (List.mem_append_right _ m2) | exact .tail _ (List.mem_append_right _ m3)) (by rfl) rfl | exact loads_stillS (by assumption) (by rfl) | exact loads_stillF (by assumption) (by rfl) rfl) .nil) ?_
      exact ⟨_, L, hle.trans hz, (by intro _ h; first | exact h | exact dr1 h | exact dr2 h | exact dr3 h | exact dr4 h | exact dr5 h | exact dr6 h | exact dr6 h.drop | exact dr6 h.drop.drop | exact dr6 h.drop.drop.drop), _, rfl, .mk' rfl (.cons (hf.as 0 (.node o.txt []) (by omega) rfl) (.cons (hr_0.mono hz) .nil)) (fun y hy => by cases hy; exact still_set (xs := [_, _, _, _])) (by simp) hcc (by simp [maxN]) (by simp [maxN]), rfl⟩

end Go.Proofs.Ytbppjohpghpcnaa


/- 'ExprPut', by the program and by the reference. No conditions. -/
namespace Go.Proofs.Ytbppjohpghpcnaa
set_option maxRecDepth 100000
set_option linter.unusedVariables false
set_option linter.unusedSimpArgs false

theorem bin_len (o : B5) (a b : Ex) : (Ex.bin o a b).tree.len = 4 + o.txt.length + a.tree.len + b.tree.len := by simp [Ex.tree, Tree.len, lenL]; omega
theorem ite_len (a b c : Ex) : (Ex.ite a b c).tree.len = 7 + a.tree.len + b.tree.len + c.tree.len := by simp [Ex.tree, Tree.len, lenL, tIf]; omega
theorem un_len (o : U2) (a : Ex) : (Ex.un o a).tree.len = 3 + o.txt.length + a.tree.len := by simp [Ex.tree, Tree.len, lenL]; omega
theorem fn_len (f x : Txt) (s t : Ty) (b : Ex) : (Ex.fn f x s t b).tree.len = 10 + f.length + x.length + s.tree.len + t.tree.len + b.tree.len := by simp [Ex.tree, Tree.len, lenL, tFun]; omega
theorem Ex.put_len : ∀ (e : Ex) (n : Txt) (v : Ex), (e.put n v).tree.len ≤ e.tree.len + e.size * v.tree.len
  | .num s, n, v => by simp [Ex.put]
  | .name s, n, v => by simp only [Ex.put, Ex.size, Nat.one_mul]; split <;> omega
  | .bin o a b, n, v => by have := a.put_len n v; have := b.put_len n v; simp only [Ex.put, bin_len, Ex.size, Nat.add_mul]; omega
  | .ite a b c, n, v => by have := a.put_len n v; have := b.put_len n v; have := c.put_len n v; simp only [Ex.put, ite_len, Ex.size, Nat.add_mul]; omega
  | .lt x a b, n, v => by have := a.put_len n v; have := b.put_len n v; simp only [Ex.put, lt_len, Ex.size, Nat.add_mul]; split <;> omega
  | .fn f x s t b, n, v => by have := b.put_len n v; simp only [Ex.put, fn_len, Ex.size, Nat.add_mul]; split <;> omega
  | .un o a, n, v => by have := a.put_len n v; simp only [Ex.put, un_len, Ex.size, Nat.add_mul]; omega
theorem put_room {e v : Ex} {n : Txt} (he : e.size ≤ 120) (hl : e.tree.len ≤ 12000) (hv : v.tree.len ≤ 12000) : (e.put n v).tree.len ≤ 12000000 := by
  have h1 := e.put_len n v
  have h2 : e.size * v.tree.len ≤ 120 * 12000 := Nat.mul_le_mul he hv
  omega
/-- What 'ExprPut' returns. -/
def putOf (s nm by' : Txt) : Option Txt := match exOf s, closedOf by' with
  | some e, some v => if isName nm = true ∧ (e.put nm v).fine = true then some (e.put nm v).tree.text else none
  | _, _ => none
theorem putOf_none {s nm by' : Txt} (h : exOf s = none ∨ closedOf by' = none ∨ isName nm = false) : putOf s nm by' = none := by
  unfold putOf
  rcases h with h | h | h
  · rw [h]
  · rw [h]; cases exOf s <;> rfl
  · cases exOf s <;> cases closedOf by' <;> simp [h]
theorem putOf_some {s nm by' : Txt} {e v : Ex} (h : exOf s = some e) (h' : closedOf by' = some v) (hn : isName nm = true) : putOf s nm by' = if (e.put nm v).fine = true then some (e.put nm v).tree.text else none := by
  unfold putOf; rw [h, h']; simp [hn]

theorem f_ExprPut (s nm by' : Txt) (hs : s.length ≤ maxN) (hnl : nm.length ≤ maxN) (hb : by'.length ≤ maxN) (I : Heap) (L : Own) : Fun Try.prog 9 [.string (str s), .string (str nm), .string (str by')] I L (EL (putOf s nm by') L) := by
  refine fun_intro (by simp) ?_
  refine s_seq ?_
  refine o_enter rfl ?_
  refine o_assign rfl .free rfl ?_
  refine o_assign rfl .free rfl ?_
  refine o_done ?_
  refine s_seq ?_
  refine o_enter rfl ?_
  refine o_move rfl .free rfl ?_
  refine o_call rfl .free rfl (f_readExpr s hs _ _) ?_
  rintro _ J1 _ e1 ⟨t, cs, ok, rfl, hrep, rfl, hpf⟩
  obtain ⟨oa, cc, vs, rfl, -⟩ := hrep.open
  refine o_move rfl .free rfl ?_
  refine o_extract rfl rfl .free rfl ?_
  refine o_extract rfl rfl .free rfl ?_
  refine o_alloc .free rfl ?_
  intro b8
  refine o_st rfl rfl rfl rfl .free ?_
  refine o_assign rfl .free rfl ?_
  refine o_done ?_
  refine s_seq ?_
  refine o_enter rfl ?_
  refine o_move rfl .free rfl ?_
  refine o_call rfl .free rfl (f_readClosed by' hb _ _) ?_
  rintro _ J2 _ e2 ⟨t2, cs2, ok2, rfl, hrep2, rfl, hpf2⟩
  obtain ⟨oa2, cc2, vs2, rfl, -⟩ := hrep2.open
  have g1 := RX_get hpf
  have g2 := RX_get hpf2
  refine o_move rfl .free rfl ?_
  refine o_extract rfl rfl .free rfl ?_
  refine o_extract rfl rfl .free rfl ?_
  refine o_alloc .free rfl ?_
  intro b10
  refine o_st rfl rfl rfl rfl .free ?_
  refine o_assign rfl .free rfl ?_
  refine o_done ?_
  refine s_seq ?_
  refine s_seq ?_
  refine o_enter rfl ?_
  refine o_move rfl .free rfl ?_
  refine o_not rfl .free rfl ?_
  refine o_move rfl .free rfl ?_
  apply o_or 25 28 rfl
  · intro g3_3 hk
    try simp only [nb] at g3_3
    refine o_move rfl (.met rfl rfl) rfl ?_
    refine o_not rfl (.met rfl rfl) rfl ?_
    refine o_pick_false rfl rfl .free rfl ?_
    exact o_fin 2 rfl rfl hk
  · intro _ hk
    refine o_skips 2 rfl ?_
    refine o_pick_true rfl rfl .free rfl ?_
    exact o_fin 2 rfl rfl hk
  refine o_move rfl .free rfl ?_
  apply o_or 29 33 rfl
  · intro g3_7 hk
    try simp only [nb] at g3_7
    refine o_move rfl (.met rfl rfl) rfl ?_
    refine o_call rfl (.met rfl rfl) rfl (f_isName nm hnl _ _) ?_
    rintro _ _ _ _ ⟨rfl, rfl, rfl⟩
    refine o_not rfl (.met rfl rfl) rfl ?_
    refine o_pick_false rfl rfl .free rfl ?_
    exact o_fin 3 rfl rfl hk
  · intro _ hk
    refine o_skips 3 rfl ?_
    refine o_pick_true rfl rfl .free rfl ?_
    exact o_fin 3 rfl rfl hk
  refine o_done ?_
  refine s_cond rfl ?_ ?_
  · intro c0
    try simp only [nb] at c0
    refine s_seq ?_
    refine o_enter rfl ?_
    refine o_assign rfl .free rfl ?_
    refine o_assign rfl .free rfl ?_
    refine o_done ?_
    refine s_ret (.tmp rfl (.tmp rfl .nil)) ?_
    refine ⟨J2, L, e1.trans e2, (by intro _ h; first | exact h | exact dr1 h | exact dr2 h | exact dr3 h | exact dr4 h | exact dr5 h | exact dr6 h | exact dr6 h.drop | exact dr6 h.drop.drop | exact dr6 h.drop.drop.drop), ?_, rfl⟩
    rw [putOf_none (by rcases c0 with (h | h) | h; exact .inl (g1.1 h); exact .inr (.inl (g2.1 h)); exact .inr (.inr h))]; rfl
  intro c0
  try simp only [nb] at c0
  obtain ⟨⟨h1, h2⟩, hn⟩ := c0
  obtain ⟨e, he, rfl⟩ := g1.2 h1
  obtain ⟨v, hv, rfl⟩ := g2.2 h2
  obtain ⟨hok, hez, hel, -⟩ := exOf_facts he
  obtain ⟨-, hvok, hvz, hvl, -⟩ := closedOf_facts hv
  have hroom := put_room (n := nm) hez hel hvl
  have hpok := Ex.put_ok (n := nm) hok hvok
  have hput := putOf_some he hv hn
  refine s_skip ?_
  refine s_seq ?_
  refine o_enter rfl ?_
  refine o_lOS rfl .free rfl ?_
  refine o_move rfl .free rfl ?_
  refine o_lOS rfl .free rfl ?_
  refine o_call rfl .free rfl (f_form_put _ (Nat.lt_succ_self _) (hrep.mono e2) hok nm hn hrep2 _) ?_
  rintro _ J3 _ e3 ⟨cs3, rfl, h3, rfl⟩
  obtain ⟨o3, k3, _, rfl, -⟩ := h3.open
  refine o_alloc .free rfl ?_
  intro b12
  refine o_st rfl rfl rfl rfl .free ?_
  refine o_done ?_
  refine s_seq ?_
  refine s_seq ?_
  refine o_enter rfl ?_
  refine o_lOS rfl .free rfl ?_
  refine o_call rfl .free rfl (f_fine h3 hpok hroom _) ?_
  rintro _ _ _ _ ⟨rfl, rfl, rfl⟩
  refine o_not rfl .free rfl ?_
  refine o_done ?_
  refine s_cond rfl ?_ ?_
  · intro c1
    try simp only [nb] at c1
    refine s_seq ?_
    refine o_enter rfl ?_
    refine o_assign rfl .free rfl ?_
    refine o_assign rfl .free rfl ?_
    refine o_done ?_
    refine s_ret (.tmp rfl (.tmp rfl .nil)) ?_
    refine ⟨J3, L, (e1.trans e2).trans e3, (by intro _ h; first | exact h | exact dr1 h | exact dr2 h | exact dr3 h | exact dr4 h | exact dr5 h | exact dr6 h | exact dr6 h.drop | exact dr6 h.drop.drop | exact dr6 h.drop.drop.drop), ?_, rfl⟩
    rw [hput, if_neg (by rw [c1]; simp)]; rfl
  intro c1
  try simp only [nb] at c1
  refine s_skip ?_
  refine s_seq ?_
  refine o_enter rfl ?_
  refine o_lOS rfl .free rfl ?_
  refine o_call rfl .free rfl (f_form_text h3 (by rw [Tree.text_len]; unfold maxN; omega) _) ?_
  rintro _ _ _ _ ⟨rfl, rfl, rfl⟩
  refine o_assign rfl .free rfl ?_
  refine o_assign rfl .free rfl ?_
  refine o_done ?_
  refine s_ret (.tmp rfl (.tmp rfl .nil)) ?_
  refine ⟨J3, L, (e1.trans e2).trans e3, (by intro _ h; first | exact h | exact dr1 h | exact dr2 h | exact dr3 h | exact dr4 h | exact dr5 h | exact dr6 h | exact dr6 h.drop | exact dr6 h.drop.drop | exact dr6 h.drop.drop.drop), ?_, rfl⟩
  rw [hput, if_pos c1]; rfl
end Go.Proofs.Ytbppjohpghpcnaa


/- What the statements say of closed expressions, of parts and of prints. No conditions. -/
namespace Go.Proofs.Ytbppjohpghpcnaa
set_option maxRecDepth 100000
set_option linter.unusedVariables false
set_option linter.unusedSimpArgs false

theorem closed_nil {e : Ex} (h : e.closed = true) : e.occ [] = [] := by unfold Ex.closed at h; simpa using h
theorem closed_put {s n b : Txt} {e v : Ex} (h : closedOf s = some e) (hb : closedOf b = some v) (hn : isName n = true) : putOf s n b = some s := by
  obtain ⟨h1, h2, h3, h4, h5⟩ := closedOf_facts h
  have hf := exOf_is h1
  rw [putOf_some h1 hb hn, Ex.put_id (by rw [closed_nil h5]; simp), if_pos hf.1, ← hf.2.2.2.2]
theorem closed_free {s : Txt} {e : Ex} (h : closedOf s = some e) : freeOf s = some [] := by
  obtain ⟨h1, h2, h3, h4, h5⟩ := closedOf_facts h
  unfold freeOf
  rw [h1]
  have : e.free = [] := by unfold Ex.free; rw [closed_nil h5]; rfl
  simp [this]
theorem kids_fine {s : Txt} {ks : List Txt} (h : kidsOf s = some ks) {x : Txt} (hx : x ∈ ks) : ∃ e a, exOf s = some e ∧ a ∈ e.sub ∧ x = a.tree.text ∧ exOf x = some a ∧ a.size + 1 ≤ e.size ∧ a.fine = true := by
  unfold kidsOf at h
  cases he : exOf s with
  | none => rw [he] at h; cases h
  | some e =>
    rw [he] at h
    simp only [Option.map_some, Option.some.injEq] at h
    subst h
    obtain ⟨a, ha, rfl⟩ := List.mem_map.1 hx
    obtain ⟨h1, h2⟩ := sub_fine ha (exOf_is he).1
    exact ⟨e, a, rfl, ha, rfl, exOf_fine h1, h2, h1⟩
theorem kidsOf_some {s : Txt} {e : Ex} (h : exOf s = some e) : kidsOf s = some (e.sub.map fun a => a.tree.text) := by unfold kidsOf; rw [h]; rfl
theorem kidsOf_none {s : Txt} (h : exOf s = none) : kidsOf s = none := by unfold kidsOf; rw [h]; rfl
theorem freeOf_some {s : Txt} {e : Ex} (h : exOf s = some e) : freeOf s = some e.free := by unfold freeOf; rw [h]; rfl
theorem headOf_some {s : Txt} {e : Ex} (h : exOf s = some e) : headOf s = e.hd := by unfold headOf; rw [h]
theorem manyOf_some {s : Txt} {e : Ex} (h : exOf s = some e) : manyOf s = (e.many : Nat) := by unfold manyOf; rw [h]
/-- A name that stands free does so in a part, or the expression is that name. -/
theorem free_kid {e : Ex} {x : Txt} (h : x ∈ e.free) : e.hd = [110, 97, 109, 101] ∨ ∃ a ∈ e.sub, x ∈ a.free := by
  rcases Ex.occ_sub (Ex.free_mem.1 h) with ⟨s, rfl⟩ | ⟨a, h1, h2⟩
  · exact .inl rfl
  · exact .inr ⟨a, h1, Ex.free_mem.2 h2⟩
theorem valueOf_is {s : Txt} {e : Ex} (h : valueOf s = some e) : closedOf s = some e ∧ e.value = true := by
  unfold valueOf at h
  cases hc : closedOf s with
  | none => rw [hc] at h; cases h
  | some e' =>
    rw [hc] at h
    simp only at h
    split at h
    · cases h; exact ⟨rfl, by assumption⟩
    · cases h
theorem closed_sub {e a : Ex} (h : e.closed = true) (hb : ∀ x p q, e ≠ .lt x p q) (hf : ∀ f x s t b, e ≠ .fn f x s t b) (ha : a ∈ e.sub) : a.closed = true := by
  have h1 := closed_nil h
  have key : a.occ [] = [] := by
    cases e with
    | num s => cases ha
    | name s => cases ha
    | lt x p q => exact absurd rfl (hb x p q)
    | fn f x s t b => exact absurd rfl (hf f x s t b)
    | bin o p q =>
      simp only [Ex.occ, List.append_eq_nil_iff] at h1
      simp only [Ex.sub, List.mem_cons, List.not_mem_nil, or_false] at ha
      rcases ha with rfl | rfl
      · exact h1.1
      · exact h1.2
    | ite p q r =>
      simp only [Ex.occ, List.append_eq_nil_iff] at h1
      simp only [Ex.sub, List.mem_cons, List.not_mem_nil, or_false] at ha
      rcases ha with rfl | rfl | rfl
      · exact h1.1.1
      · exact h1.1.2
      · exact h1.2
    | un o p =>
      simp only [Ex.sub, List.mem_cons, List.not_mem_nil, or_false] at ha
      subst ha; exact h1
  unfold Ex.closed; rw [key]; rfl
/-- The print of a value, by its head. -/
theorem print_facts {s o : Txt} (h : printOf s = some o) : ∃ e, exOf s = some e ∧ s.length ≤ 12000 ∧
    ((e.hd = [110, 117, 109, 98, 101, 114] ∧ o = s) ∨ (e.hd = [102, 117, 110] ∧ o = [102, 117, 110]) ∨
     (∃ a b x y, e.hd = tPair ∧ e.sub = [a, b] ∧ printOf a.tree.text = some x ∧ printOf b.tree.text = some y ∧ o = [40, 112, 97, 105, 114, 32] ++ x ++ [32] ++ y ++ [41])) := by
  unfold printOf at h
  obtain ⟨e, hv, rfl⟩ := Option.map_eq_some_iff.1 h
  obtain ⟨hc, hval⟩ := valueOf_is hv
  obtain ⟨h1, h2, h3, h4, h5⟩ := closedOf_facts hc
  have hs := (exOf_is h1).2.2.2.2
  refine ⟨e, h1, by rw [hs, Tree.text_len]; exact h4, ?_⟩
  cases e with
  | num t => exact .inl ⟨rfl, hs.symm⟩
  | fn f x s t b => exact .inr (.inl ⟨rfl, rfl⟩)
  | bin o a b =>
    cases o with
    | pair =>
      simp only [Ex.value, Bool.and_eq_true] at hval
      have hfine := (exOf_is h1).1
      have sub : ∀ c, c ∈ (Ex.bin .pair a b).sub → c.value = true → printOf c.tree.text = some c.print.text := by
        intro c hm hcv
        have k1 := (sub_fine hm hfine).1
        have k2 := closed_sub h5 (by intros; intro h; cases h) (by intros; intro h; cases h) hm
        have k3 : closedOf c.tree.text = some c := by unfold closedOf; rw [exOf_fine k1]; simp [k2]
        unfold printOf valueOf
        rw [k3]; simp [hcv]
      exact .inr (.inr ⟨a, b, _, _, rfl, rfl, sub a (.head _) hval.1, sub b (.tail _ (.head _)) hval.2, pair_text a.print b.print⟩)
    | _ => cases hval
  | _ => cases hval
end Go.Proofs.Ytbppjohpghpcnaa


/- Parts, sizes and heads of expressions, by the program and by the reference. No conditions. -/
namespace Go.Proofs.Ytbppjohpghpcnaa
set_option maxRecDepth 100000
set_option linter.unusedVariables false
set_option linter.unusedSimpArgs false

theorem rep_is {I : Heap} {t u : Tree} {cs : List Value} (h : Rep I t cs) (e : t = u) : Rep I u cs := e ▸ h
/-- What a loop over the kids has gathered. -/
structure GK where
  i : Nat
  B : Buf
  c : Nat
def Ex.ks (e : Ex) : List Txt := e.sub.map fun a => a.tree.text
theorem Ex.ks_len (e : Ex) : e.ks.length = e.sub.length := by simp [Ex.ks]
theorem Ex.ks_sv {e : Ex} {i : Nat} (hi : i < e.sub.length) : (e.ks.take i).map sv ++ [sv e.sub[i].tree.text] = (e.ks.take (i + 1)).map sv := by
  rw [List.take_succ_eq_append_getElem (by rw [e.ks_len]; exact hi)]
  simp [Ex.ks]
theorem Ex.ks_each {e : Ex} (hl : e.tree.len ≤ 12000) : ∀ s ∈ e.ks, s.length ≤ maxN := by
  intro s hs
  obtain ⟨a, ha, rfl⟩ := List.mem_map.1 hs
  obtain ⟨i, hi, hp⟩ := sub_index ha
  have := e.tree.pt_len i hi
  rw [hp] at this
  rw [Tree.text_len]; unfold maxN; omega
theorem kid_mem {e : Ex} {j : Nat} (hj : j < e.sub.length) : (kids e.tree).getD j 0 ∈ kids e.tree := by
  have hkl := sub_len e
  rw [show (kids e.tree).getD j 0 = (kids e.tree)[j]'(by omega) by simp [show j < (kids e.tree).length by omega]]; exact List.getElem_mem _
theorem sum_take {l : List Ex} {i : Nat} (hi : i < l.length) : ((l.take (i + 1)).map Ex.many).sum = ((l.take i).map Ex.many).sum + l[i].many ∧ ((l.take (i + 1)).map Ex.many).sum ≤ (l.map Ex.many).sum := by
  constructor
  · rw [List.take_succ_eq_append_getElem hi, List.map_append, List.sum_append]; simp [-List.map_take]
  · have h := List.take_append_drop (i + 1) l
    have : (l.map Ex.many).sum = ((l.take (i + 1)).map Ex.many).sum + ((l.drop (i + 1)).map Ex.many).sum := by
      conv => lhs; rw [← h]
      rw [List.map_append, List.sum_append]
    omega
/-- How far a count has come. -/
structure GM where
  i : Nat
  J : Heap
theorem x_sameTexts {I : Heap} {oa ob : Option Addr} {l m : List Txt} {c c' : Nat} (h : Strs I oa l c) (h' : Strs I ob m c') (L : Own) :
    Fun Try.prog 7 [.slice oa l.length c, .slice ob m.length c'] I L (Only (.bool (decide (l = m))) I L) := by
  have hlen := h.len
  have hlen' := h'.len
  unfold maxN at hlen hlen'
  refine fun_intro (by simp) ?_
  refine s_seq ?_
  refine o_enter rfl ?_
  refine o_assign rfl .free rfl ?_
  refine o_done ?_
  refine s_seq ?_
  refine s_seq ?_
  refine o_enter rfl ?_
  refine o_move rfl .free rfl ?_
  refine o_len_slice rfl .free rfl ?_
  refine o_move rfl .free rfl ?_
  refine o_len_slice rfl .free rfl ?_
  refine o_cmp rfl rfl rfl .free rfl ?_
  refine o_done ?_
  refine s_cond rfl ?_ ?_
  · intro c0
    try simp only [nb] at c0
    refine s_seq ?_
    refine o_enter rfl ?_
    refine o_assign rfl .free rfl ?_
    refine o_done ?_
    refine s_ret (.tmp rfl .nil) ?_
    refine done_only rfl (by intro _ h; first | exact h | exact dr1 h | exact dr2 h | exact dr3 h | exact dr4 h | exact dr5 h | exact dr6 h | exact dr6 h.drop | exact dr6 h.drop.drop | exact dr6 h.drop.drop.drop) ?_
    have : l ≠ m := by rintro rfl; exact c0 rfl
    simp [retOne, this]
  intro c0
  try simp only [nb] at c0
  refine s_skip ?_
  refine s_seq ?_
  refine s_seq ?_
  refine o_enter rfl ?_
  refine o_assign rfl .free rfl ?_
  refine o_done ?_
  refine s_block ?_
  refine s_while (X := Nat) (fun i => l.length - i) (fun i => [(0, .slice oa l.length c), (1, .slice ob m.length c'), (5, .int .i64 (i : Nat))]) (fun _ => I) (fun _ => L) (fun i => i ≤ l.length ∧ l.take i = m.take i) 0 ⟨Nat.zero_le _, by simp⟩ ⟨rfl, rfl, rfl, trivial⟩ (fun _ h => h) ?_
  rintro i ⟨hi, hs⟩ ih
  have hlm : l.length = m.length := by omega
  refine s_seq ?_
  refine s_seq ?_
  refine o_enter rfl ?_
  refine o_move rfl .free rfl ?_
  refine o_move rfl .free rfl ?_
  refine o_len_slice rfl .free rfl ?_
  refine o_cmp rfl rfl rfl .free rfl ?_
  refine o_done ?_
  refine s_cond rfl ?_ ?_
  · intro c1
    try simp only [nb] at c1
    have hi1 : i < l.length := by omega
    have hi2 : i < m.length := by omega
    have hst1 := h.st i hi1
    have hst2 := h'.st i hi2
    refine s_skip ?_
    refine s_seq ?_
    refine s_block ?_
    refine s_seq ?_
    refine d_all 9 rfl rfl ?_
    refine d_takeA 0 rfl (by kernel_rfl) rfl (.inr heldx) (y_move rfl) .free rfl ?_
    refine d_takeA 1 rfl (by kernel_rfl) rfl (.inr heldx) (y_move rfl) .free rfl ?_
    first | refine d_takeA 2 rfl (by kernel_rfl) rfl (.inr heldx) (y_ixD rfl rfl _ rfl) .free rfl ?_ | refine d_takeA 2 rfl (by kernel_rfl) rfl (.inr heldx) (y_ixP rfl rfl _ rfl) .free rfl ?_
    refine d_take 3 [9] rfl (by kernel_rfl) rfl heldx (y_lI1 rfl) .free rfl ?_
    refine d_takeA 4 rfl (by kernel_rfl) rfl (.inr heldx) (y_move rfl) .free rfl ?_
    refine d_takeA 5 rfl (by kernel_rfl) rfl (.inr heldx) (y_move rfl) .free rfl ?_
    first | refine d_takeA 6 rfl (by kernel_rfl) rfl (.inr heldx) (y_ixD rfl rfl _ rfl) .free rfl ?_ | refine d_takeA 6 rfl (by kernel_rfl) rfl (.inr heldx) (y_ixP rfl rfl _ rfl) .free rfl ?_
    refine d_take 7 [9] rfl (by kernel_rfl) rfl heldx (y_lI1 rfl) .free rfl ?_
    refine d_takeA 8 rfl (by kernel_rfl) rfl (.inr heldx) (y_cmps rfl rfl rfl) .free rfl ?_
    refine d_done (by kernel_rfl) ?_
    refine s_cond rfl ?_ ?_
    · intro c2
      try simp only [nb] at c2
      refine s_seq ?_
      refine o_enter rfl ?_
      refine o_assign rfl .free rfl ?_
      refine o_done ?_
      refine s_ret (.tmp rfl .nil) ?_
      refine done_only rfl (by intro _ h; first | exact h | exact dr1 h | exact dr2 h | exact dr3 h | exact dr4 h | exact dr5 h | exact dr6 h | exact dr6 h.drop | exact dr6 h.drop.drop | exact dr6 h.drop.drop.drop) ?_
      have : l ≠ m := by rintro rfl; exact c2 rfl
      simp [retOne, this]
    intro c2
    try simp only [nb] at c2
    refine s_skip ?_
    refine s_inBlock ?_
    refine o_enter rfl ?_
    refine o_move rfl .free rfl ?_
    refine o_arith rfl rfl rfl (by omega) .free rfl ?_
    refine o_assign rfl .free rfl ?_
    refine o_done ?_
    refine s_env (E' := [(0, .slice oa l.length c), (1, .slice ob m.length c'), (5, .int .i64 ((i + 1 : Nat)))]) ⟨rfl, rfl, rfl, trivial⟩ (ih (i + 1) ⟨by omega, ?_⟩ (by omega))
    have hx : l[i] = m[i] := by simpa [hi1, hi2] using c2
    rw [List.take_succ_eq_append_getElem hi1, List.take_succ_eq_append_getElem hi2, hs, hx]
  intro c1
  try simp only [nb] at c1
  refine s_exit rfl ?_
  refine s_seq ?_
  refine o_enter rfl ?_
  refine o_assign rfl .free rfl ?_
  refine o_done ?_
  refine s_ret (.tmp rfl .nil) ?_
  refine done_only rfl (by intro _ h; first | exact h | exact dr1 h | exact dr2 h | exact dr3 h | exact dr4 h | exact dr5 h | exact dr6 h | exact dr6 h.drop | exact dr6 h.drop.drop | exact dr6 h.drop.drop.drop) ?_
  have : l = m := by
    have h1 : i = l.length := by omega
    rw [List.take_of_length_le (by omega), List.take_of_length_le (by omega)] at hs
    exact hs
  simp [retOne, this]
end Go.Proofs.Ytbppjohpghpcnaa


/- Maps whose keys are texts. -/
namespace Go.Proofs.Ytbppjohpghpcnaa
set_option maxRecDepth 100000
set_option linter.unusedVariables false
set_option linter.unusedSimpArgs false

/-- The entries of a map that has met these texts, in this order. -/
def ents : List Txt → Nat → List MapEntry
  | [], _ => []
  | s :: l, i => ⟨.string (str s), .bool true, i⟩ :: ents l (i + 1)
def metObj (l : List Txt) : Obj := .map (ents l 0).toArray l.length
theorem ents_push (s : Txt) : ∀ (l : List Txt) (i : Nat), ents (l ++ [s]) i = ents l i ++ [⟨.string (str s), .bool true, i + l.length⟩]
  | [], i => rfl
  | x :: l, i => by simp only [List.cons_append, ents, ents_push s l (i + 1), List.length_cons]; rw [show i + 1 + l.length = i + (l.length + 1) by omega]
theorem same_str (s x : Txt) : Instr.sameNow .string (.string (str s)) (.string (str x)) = some (decide (s = x)) := by
  simp only [Instr.sameNow, Option.some.injEq]
  show (s.toArray == x.toArray) = _
  rw [Bool.eq_iff_iff, beq_iff_eq, decide_eq_true_eq]
  constructor
  · intro h; simpa using congrArg Array.toList h
  · intro h; rw [h]
theorem find_in (s : Txt) : ∀ (l : List Txt) (i j : Nat), s ∈ l → ∃ k, Instr.findNow .string (.string (str s)) (ents l i) j = some (some (k, .bool true))
  | [], i, j, h => by cases h
  | x :: l, i, j, h => by
    simp only [ents, Instr.findNow, same_str]
    by_cases e : s = x
    · simp [e]
    · simp only [e, decide_false]
      rcases List.mem_cons.1 h with h | h
      · exact absurd h e
      · exact find_in s l (i + 1) (j + 1) h
theorem find_out (s : Txt) : ∀ (l : List Txt) (i j : Nat), s ∉ l → Instr.findNow .string (.string (str s)) (ents l i) j = some none
  | [], i, j, h => rfl
  | x :: l, i, j, h => by
    simp only [ents, Instr.findNow, same_str]
    have e : s ≠ x := fun e => h (e ▸ .head _)
    simp only [e, decide_false]
    exact find_out s l (i + 1) (j + 1) fun hh => h (.tail _ hh)
section
variable {P : Program} {f : FuncId} {n : Nat} {I₀ : Heap} {Q : Post} {k : List Item} {E : Env} {I : Heap} {L : Own} {ops : Array Oper} {d : Nat} {ty : TypeId} {pos : String} {af : Array Edge} {g : Option (Nat × Bool)} {l : List Oper}
theorem run_getObj {w : World} {r c : Nat} {es : Array MapEntry} (h : w.heap[r]? = some (.map es c)) : (getObj r).run P w = .ok (.map es c) w := by simp [getObj, Sem.run, h]
theorem run_setObj {w : World} {r c : Nat} {es : Array MapEntry} {o' : Obj} (h : w.heap[r]? = some (.map es c)) : (setObj r o').run P w = .ok () { w with heap := w.heap.setIfInBounds r o' } := by simp [setObj, Sem.run, h]
theorem run_checkKey {T : TypeId} {sz bb : Nat} {z : List Value} (ht : TyIs P T .string sz bb z) (e : Bool) (s : Txt) (w : World) : (Instr.checkKey e 10000 T (.string (str s))).run P w = .ok () w := by
  rw [show (10000 : Nat) = 9999 + 1 from rfl]
  unfold Instr.checkKey
  rw [run_bind_ok (run_underlying ht.und w)]
  rfl
theorem run_findKey {T : TypeId} {sz bb : Nat} {z : List Value} (ht : TyIs P T .string sz bb z) {v : Value} {es : List MapEntry} {r : Option (Nat × Value)} (h : Instr.findNow .string v es 0 = some r) (w : World) : (Instr.findKey T v es).run P w = .ok r w := by
  unfold Instr.findKey
  rw [run_bind_ok (run_underlying ht.und w), h]
  rfl
theorem o_makeMap {T K V : TypeId} {sz bb : Nat} {z : List Value} [ht : TyIs P T (.map K V) sz bb z] (hg : Wants ops E g) (hdn : Nat.blt d n = true)
    (h : ∀ b, RunO P f n I₀ Q ops l k ((d, .map (some b)) :: E) I ((b, metObj []) :: L)) : RunO P f n I₀ Q ops (⟨some d, .makeMap T none, ty, pos, af, g⟩ :: l) k E I L := by
  refine o_stepX rfl hdn (fun a he => hg.wanted a he) fun a w he hm => ?_
  refine ⟨_, _, I, (w.heap.size, metObj []) :: L, ?_, hm.alloc _, h _⟩
  rfl
theorem o_lookup {T K V : TypeId} {sz bb ks kb vs vb : Nat} {z kz vz : List Value} [ht : TyIs P T (.map K V) sz bb z] [hk : TyIs P K .string ks kb kz] [hv : TyIs P V .bool vs vb vz] {x y : Operand} {b : Nat} {m : List Txt} {s : Txt}
    (hx : opd E x = some (.map (some b))) (hy : opd E y = some (.string (str s))) (hz : ∃ i, P.info? V = some i ∧ i.zero = some (.bool false)) (hm : ∀ w, Mem I L w → w.heap[b]? = some (metObj m)) (hg : Wants ops E g) (hdn : Nat.blt d n = true)
    (h : RunO P f n I₀ Q ops l k ((d, .bool (decide (s ∈ m))) :: E) I L) : RunO P f n I₀ Q ops (⟨some d, .lookup T x y false, ty, pos, af, g⟩ :: l) k E I L := by
  refine o_step rfl hdn (fun a he => hg.wanted a he) (fun a w he hM => ⟨w, ?_, hM⟩) h
  simp only [execOp, he.eval hx, he.eval hy, Instr.lookup]
  refine run_bind_ok (a := .bool (decide (s ∈ m))) (w' := w) ?_ |>.trans rfl
  rw [run_bind_ok (run_underlying ht.und w)]
  simp only
  rw [run_bind_ok (run_getObj (hm w hM))]
  simp only [pure_bind]
  rw [run_bind_ok (run_checkKey hk _ s w)]
  by_cases hs : s ∈ m
  · obtain ⟨j, hj⟩ := find_in s m 0 0 hs
    rw [run_bind_ok (run_findKey hk (show Instr.findNow .string (.string (str s)) (ents m 0).toArray.toList 0 = _ from hj) w)]
    simp [hs]
  · rw [run_bind_ok (run_findKey hk (show Instr.findNow .string (.string (str s)) (ents m 0).toArray.toList 0 = _ from find_out s m 0 0 hs) w)]
    obtain ⟨i, hi1, hi2⟩ := hz
    have hv1 : (zeroValue V).run P w = .ok (.bool false) w := by
      unfold zeroValue
      rw [run_bind_ok (run_typeInfo hi1 w), hi2]; rfl
    simp only
    rw [run_bind_ok hv1]
    simp [hs]
theorem o_mapUpdate {T K V : TypeId} {sz bb ks kb : Nat} {z kz : List Value} [ht : TyIs P T (.map K V) sz bb z] [hk : TyIs P K .string ks kb kz] {x y u : Operand} {b : Nat} {m : List Txt} {s : Txt} {L' : Own}
    (hx : opd E x = some (.map (some b))) (hy : opd E y = some (.string (str s))) (hv : opd E u = some (.bool true)) (hs : s ∉ m) (hu : Upd b (metObj (m ++ [s])) (metObj m) L L') (hg : Wants ops E g)
    (h : RunO P f n I₀ Q ops l k E I L') : RunO P f n I₀ Q ops (⟨none, .mapUpdate T x y u, ty, pos, af, g⟩ :: l) k E I L := by
  refine o_step_none rfl (fun a he => hg.wanted a he) (fun a w he hM => ⟨_, .inl ?_, hM.upd hu⟩) h
  simp only [execOp, he.eval hx, he.eval hy, he.eval hv, Instr.mapUpdate]
  refine run_bind_ok (a := ()) (w' := { w with heap := w.heap.setIfInBounds b (metObj (m ++ [s])) }) ?_ |>.trans rfl
  rw [run_bind_ok (run_underlying ht.und w)]
  simp only
  rw [run_bind_ok (run_getObj (hM.2.1 _ hu.mem.1).1)]
  simp only [metObj]
  rw [run_bind_ok (run_checkKey hk _ s w)]
  rw [run_bind_ok (run_findKey hk (show Instr.findNow .string (.string (str s)) (ents m 0).toArray.toList 0 = _ from find_out s m 0 0 hs) w)]
  simp only
  rw [run_setObj (hM.2.1 _ hu.mem.1).1]
  simp [ents_push]
end
end Go.Proofs.Ytbppjohpghpcnaa


/- Atoms of forms, by the program; how often a name stands free. No conditions. -/
namespace Go.Proofs.Ytbppjohpghpcnaa
set_option maxRecDepth 100000
set_option linter.unusedVariables false
set_option linter.unusedSimpArgs false

/-- A function value that is told of atoms. -/
structure ATeller (P : Program) (kf : FuncId) (cap : List Value) (X : Type) (own : X → Own) (R : X → List Txt → Heap → Prop) : Prop where
  tell : ∀ x seen s I L, R x seen I → s.length ≤ maxN → seen.length < 4294967296 → Fun P kf (.string (str s) :: cap) I (own x ++ L) (fun v I' L' => v = .tuple #[] ∧ ∃ y, R y (seen ++ [s]) I' ∧ L' = own y ++ L)
  mono : ∀ x seen I I', HLe I I' → R x seen I → R x seen I'
/-- How far a walk over the parts has come. -/
structure GX (X : Type) where
  i : Nat
  x : X
  J : Heap
theorem f_form_atoms {kf : FuncId} {cap : List Value} {X : Type} {own : X → Own} {R : X → List Txt → Heap → Prop} {c0 : Code} {m0' : Nat} {rs0 : List ResultVar} [hfi : FnIs Try.prog kf c0 m0' rs0] (T : ATeller Try.prog kf cap X own R) :
    ∀ (n : Nat) {I : Heap} {t : Tree} {cs : List Value} (_ : SizeOf.sizeOf t < n) (_ : Rep I t cs) (x : X) (seen : List Txt) (_ : seen.length + t.size ≤ 4294967296) (_ : R x seen I) (L : Own),
    Fun Try.prog 20 [.agg cs.toArray, .func (.func kf) #[] cap.toArray] I (own x ++ L) (TP own R (seen ++ t.atomL) L) := by
  intro n
  induction n with
  | zero => intro I t cs h; omega
  | succ n ihn =>
    intro I t cs hlt h x seen hsl hx L
    obtain ⟨oa, c, oaf, cf, rfl, hf⟩ := h.at'
    have ha := hf.alen
    have hp := hf.len
    unfold maxN at hp
    refine fun_intro (by simp) ?_
    refine s_seq ?_
    refine o_enter rfl ?_
    refine o_box rfl rfl .free rfl ?_
    intro b2
    refine o_done ?_
    refine s_seq ?_
    refine s_seq ?_
    refine o_enter rfl ?_
    refine o_lOS rfl .free rfl ?_
    refine o_call rfl .free rfl (f_form_isAtom hf.rep _) ?_
    rintro _ _ _ _ ⟨rfl, rfl, rfl⟩
    refine o_done ?_
    refine s_cond rfl ?_ ?_
    · intro c0
      try simp only [nb] at c0
      have hps : t.parts = [] := by simpa using c0
      refine o_enter rfl ?_
      refine o_move rfl .free rfl ?_
      refine o_fieldAddr rfl .free rfl ?_
      refine o_lO1 rfl .free rfl ?_
      refine o_mem (fun w h => h.u1) ?_
      refine o_callv rfl rfl .free rfl (T.tell x seen t.atom _ _ hx ha (by have := t.size_one; omega)) ?_
      rintro _ J _ e1 ⟨rfl, x, hx, rfl⟩
      refine o_mem (fun w h => h.w1) ?_
      obtain ⟨s0, hs0, hx⟩ : ∃ s0, s0 ++ atomsL t.parts = t.atomL ∧ R x (seen ++ s0) J := ⟨[t.atom], by rw [hps, atomL_atom t hps]; rfl, hx⟩
      have hf := hf.mono e1
      have hle := e1
      refine o_done ?_
      refine s_seq ?_
      have hsz : s0.length + (atomsL t.parts).length = t.size := by rw [← t.atomL_len, ← hs0, List.length_append]
      refine o_enter rfl ?_
      refine o_fieldAddr rfl .free rfl ?_
      refine o_lO1 rfl .free rfl ?_
      refine o_len_slice rfl .free rfl ?_
      refine o_move rfl .free rfl ?_
      refine o_done ?_
      refine s_block ?_
      refine s_while (X := GX X) (fun y => t.parts.length - y.i) (fun y => [(1, .func (.func kf) #[] cap.toArray), (13, .slice oa t.parts.length c), (14, .int .i64 (t.parts.length : Nat)), (15, .int .i64 (y.i : Nat))]) (fun y => y.J) (fun y => (b2, .cells [.string (str t.atom), .slice oa t.parts.length c].toArray 39 (0, 0)) :: (own y.x ++ L)) (fun y => y.i ≤ t.parts.length ∧ HLe I y.J ∧ R y.x (seen ++ s0 ++ atomsL (t.parts.take y.i)) y.J) ⟨0, x, _⟩ ⟨Nat.zero_le _, hle, by simpa [atomsL] using hx⟩ ⟨rfl, rfl, rfl, rfl, trivial⟩ (by intro _ h; exact h) ?_
      rintro ⟨i, x1, J1⟩ ⟨hi, hle1, hx1⟩ ih
      simp only at hi hle1 hx1 ih ⊢
      have hf1 := h.mono hle1
      refine s_seq ?_
      refine o_enter rfl ?_
      refine o_cmp rfl rfl rfl .free rfl ?_
      refine o_done ?_
      refine s_seq ?_
      refine s_cond rfl ?_ ?_
      · intro c1
        try simp only [nb] at c1
        have hi1 : i < t.parts.length := by omega
        have hall := atomsL_take t.parts i hi1
        have hle3 : (atomsL (t.parts.take i)).length + (t.pt i).size ≤ (atomsL t.parts).length := by
          rw [Tree.pt_at hi1]
          have h1 := sizeL_append (t.parts.take i) (t.parts.drop i)
          rw [List.take_append_drop, List.drop_eq_getElem_cons hi1] at h1
          simp only [sizeL] at h1
          rw [atomsL_len, atomsL_len]; omega
        obtain ⟨oa2, c2, oaf2, cf2, he2, hf2⟩ := hf1.at'
        simp only [List.cons.injEq, Value.slice.injEq, and_true, true_and] at he2
        obtain ⟨rfl, rfl⟩ := he2
        refine s_skip ?_
        refine s_seq ?_
        refine s_block ?_
        refine s_seq ?_
        refine o_enter rfl ?_
        first | refine o_ixD rfl rfl _ rfl .free rfl ?_ | refine o_ixP rfl rfl _ rfl .free rfl ?_
        refine o_lIS rfl .free rfl ?_
        refine o_alloc .free rfl ?_
        intro b5
        refine o_st rfl rfl rfl rfl .free ?_
        refine o_done ?_
        refine o_enter rfl ?_
        refine o_lOS rfl .free rfl ?_
        refine o_move rfl .free rfl ?_
        refine o_mem (fun w h => h.u2) ?_
        refine o_call rfl .free rfl (ihn (t := t.pt i) (by have := t.pt_lt i hi1; omega) (hf2.rp i hi1) x1 _ (by simp only [List.length_append]; omega) hx1 _) ?_
        rintro _ J2 _ e2 ⟨rfl, x2, hx2, rfl⟩
        refine o_mem (fun w h => h.w1.drop.w1) ?_
        refine o_done ?_
        refine s_inBlock ?_
        refine o_enter rfl ?_
        refine o_arith rfl rfl rfl (by omega) .free rfl ?_
        refine o_move rfl .free rfl ?_
        refine o_done ?_
        refine s_env (E' := [(1, .func (.func kf) #[] cap.toArray), (13, .slice oa t.parts.length c), (14, .int .i64 (t.parts.length : Nat)), (15, .int .i64 ((i + 1 : Nat)))]) ⟨rfl, rfl, rfl, rfl, trivial⟩ (ih ⟨i + 1, x2, J2⟩ ⟨by simp only; omega, hle1.trans e2, by simp only; rw [hall, ← List.append_assoc, ← Tree.pt_at hi1]; exact hx2⟩ (by simp only; omega))
      intro c1
      try simp only [nb] at c1
      refine s_exit rfl ?_
      refine s_end .nil ?_
      have hi0 : i = t.parts.length := by omega
      subst hi0
      rw [List.take_length, List.append_assoc, hs0] at hx1
      exact ⟨J1, _, hle1, fun w h => h.drop, rfl, x1, hx1, rfl⟩
    intro c0
    try simp only [nb] at c0
    have hne : t.parts ≠ [] := by simpa using c0
    obtain ⟨s0, hs0, hx⟩ : ∃ s0, s0 ++ atomsL t.parts = t.atomL ∧ R x (seen ++ s0) I := ⟨[], by rw [atomsL_eq t hne]; rfl, by rw [List.append_nil]; exact hx⟩
    have hle : HLe I I := .refl _
    refine s_skip ?_
    refine s_seq ?_
    have hsz : s0.length + (atomsL t.parts).length = t.size := by rw [← t.atomL_len, ← hs0, List.length_append]
    refine o_enter rfl ?_
    refine o_fieldAddr rfl .free rfl ?_
    refine o_lO1 rfl .free rfl ?_
    refine o_len_slice rfl .free rfl ?_
    refine o_move rfl .free rfl ?_
    refine o_done ?_
    refine s_block ?_
    refine s_while (X := GX X) (fun y => t.parts.length - y.i) (fun y => [(1, .func (.func kf) #[] cap.toArray), (13, .slice oa t.parts.length c), (14, .int .i64 (t.parts.length : Nat)), (15, .int .i64 (y.i : Nat))]) (fun y => y.J) (fun y => (b2, .cells [.string (str t.atom), .slice oa t.parts.length c].toArray 39 (0, 0)) :: (own y.x ++ L)) (fun y => y.i ≤ t.parts.length ∧ HLe I y.J ∧ R y.x (seen ++ s0 ++ atomsL (t.parts.take y.i)) y.J) ⟨0, x, _⟩ ⟨Nat.zero_le _, hle, by simpa [atomsL] using hx⟩ ⟨rfl, rfl, rfl, rfl, trivial⟩ (by intro _ h; exact h) ?_
    rintro ⟨i, x1, J1⟩ ⟨hi, hle1, hx1⟩ ih
    simp only at hi hle1 hx1 ih ⊢
    have hf1 := h.mono hle1
    refine s_seq ?_
    refine o_enter rfl ?_
    refine o_cmp rfl rfl rfl .free rfl ?_
    refine o_done ?_
    refine s_seq ?_
    refine s_cond rfl ?_ ?_
    · intro c1
      try simp only [nb] at c1
      have hi1 : i < t.parts.length := by omega
      have hall := atomsL_take t.parts i hi1
      have hle3 : (atomsL (t.parts.take i)).length + (t.pt i).size ≤ (atomsL t.parts).length := by
        rw [Tree.pt_at hi1]
        have h1 := sizeL_append (t.parts.take i) (t.parts.drop i)
        rw [List.take_append_drop, List.drop_eq_getElem_cons hi1] at h1
        simp only [sizeL] at h1
        rw [atomsL_len, atomsL_len]; omega
      obtain ⟨oa2, c2, oaf2, cf2, he2, hf2⟩ := hf1.at'
      simp only [List.cons.injEq, Value.slice.injEq, and_true, true_and] at he2
      obtain ⟨rfl, rfl⟩ := he2
      refine s_skip ?_
      refine s_seq ?_
      refine s_block ?_
      refine s_seq ?_
      refine o_enter rfl ?_
      first | refine o_ixD rfl rfl _ rfl .free rfl ?_ | refine o_ixP rfl rfl _ rfl .free rfl ?_
      refine o_lIS rfl .free rfl ?_
      refine o_alloc .free rfl ?_
      intro b5
      refine o_st rfl rfl rfl rfl .free ?_
      refine o_done ?_
      refine o_enter rfl ?_
      refine o_lOS rfl .free rfl ?_
      refine o_move rfl .free rfl ?_
      refine o_mem (fun w h => h.u2) ?_
      refine o_call rfl .free rfl (ihn (t := t.pt i) (by have := t.pt_lt i hi1; omega) (hf2.rp i hi1) x1 _ (by simp only [List.length_append]; omega) hx1 _) ?_
      rintro _ J2 _ e2 ⟨rfl, x2, hx2, rfl⟩
      refine o_mem (fun w h => h.w1.drop.w1) ?_
      refine o_done ?_
      refine s_inBlock ?_
      refine o_enter rfl ?_
      refine o_arith rfl rfl rfl (by omega) .free rfl ?_
      refine o_move rfl .free rfl ?_
      refine o_done ?_
      refine s_env (E' := [(1, .func (.func kf) #[] cap.toArray), (13, .slice oa t.parts.length c), (14, .int .i64 (t.parts.length : Nat)), (15, .int .i64 ((i + 1 : Nat)))]) ⟨rfl, rfl, rfl, rfl, trivial⟩ (ih ⟨i + 1, x2, J2⟩ ⟨by simp only; omega, hle1.trans e2, by simp only; rw [hall, ← List.append_assoc, ← Tree.pt_at hi1]; exact hx2⟩ (by simp only; omega))
    intro c1
    try simp only [nb] at c1
    refine s_exit rfl ?_
    refine s_end .nil ?_
    have hi0 : i = t.parts.length := by omega
    subst hi0
    rw [List.take_length, List.append_assoc, hs0] at hx1
    exact ⟨J1, _, hle1, fun w h => h.drop, rfl, x1, hx1, rfl⟩
/-- The atoms that 'FormAtoms' has met, and the list of them. -/
def FB.met (bm bq bo : Nat) (x : FB) : Own := (bm, .cells [.map (some bq)].toArray 49 (0, 0)) :: (bq, metObj x.l) :: (bo, .cells [bufVal x.l.length x.c x.B].toArray 24 (0, 0)) :: bufOwn 9 (x.l.map sv) x.B
def FB.ats (x : FB) (seen : List Txt) (I : Heap) : Prop := x.l = addAll [] seen ∧ BufOk 1 x.l.length x.c (x.l.map sv) x.B ∧ ∀ s ∈ x.l, s.length ≤ maxN
theorem f_FormAtoms_1 (bm bq bo : Nat) (x : FB) (seen : List Txt) (s : Txt) (I : Heap) (L : Own) (hx : x.ats seen I) (hs : s.length ≤ maxN) (hl : seen.length < 4294967296) :
    Fun Try.prog 21 [.string (str s), .pointer (some ⟨bm, 0, none⟩), .pointer (some ⟨bo, 0, none⟩)] I (FB.met bm bq bo x ++ L) (fun v I' L' => v = .tuple #[] ∧ ∃ y : FB, y.ats (seen ++ [s]) I' ∧ L' = FB.met bm bq bo y ++ L) := by
  obtain ⟨l, B, c⟩ := x
  obtain ⟨hl1, hB, hn⟩ := hx
  simp only at hl1 hB hn
  have hll := addAll_len [] seen
  rw [← hl1] at hll
  simp only [List.length_nil, Nat.zero_add] at hll
  unfold FB.met
  simp only [List.cons_append]
  refine fun_intro (by simp) ?_
  refine s_seq ?_
  refine o_enter rfl ?_
  refine o_load rfl (loads_own1 (cs := [.map (some bq)]) m0 (by rfl) (by rfl)) .free rfl ?_
  refine o_move rfl .free rfl ?_
  refine o_lookup rfl rfl ⟨_, rfl, rfl⟩ (fun w h => (h.2.1 _ m1).1) .free rfl ?_
  refine o_not rfl .free rfl ?_
  refine o_done ?_
  refine s_cond rfl ?_ ?_
  · intro c0
    try simp only [nb] at c0
    have hadd : addAll [] (seen ++ [s]) = l ++ [s] := by rw [addAll_append, ← hl1]; simp [addAll, addOnce, c0]
    refine s_seq ?_
    refine o_enter rfl ?_
    refine o_load rfl (loads_own1 (cs := [.map (some bq)]) m0 (by rfl) (by rfl)) .free rfl ?_
    refine o_move rfl .free rfl ?_
    refine o_mapUpdate rfl rfl rfl c0 u1 .free ?_
    refine o_done ?_
    refine o_enter rfl ?_
    refine o_load rfl (loads_own1 (cs := [bufVal l.length c B]) m2 (by rfl) (by cases B <;> rfl)) .free rfl ?_
    refine o_move rfl .free rfl ?_
    refine o_lits rfl rfl (by rfl) (by rfl) (by rfl) (by decide) (by decide) (by rfl) .free rfl ?_
    intro b12
    refine o_append (B := B) (xs := l.map sv) (ys := [sv s]) (m := l.length) (c := c) (by intro kk; simp) (by rfl) rfl rfl hB (fun _ h => h.u4) (by rfl) (fun a ha => by cases ha; exact reads_ownL (.head _) (by rfl)) (by simp) (by rfl) (by decide) (by decide) (by omega) (by decide) .free rfl ?_
    intro bb sp c2 hB'
    refine o_store rfl rfl rfl rfl (by rfl) u4 (by rfl) .free ?_
    refine o_done ?_
    refine s_end .nil ?_
    first
      | exact ⟨I, _, .refl _, fun w h => h, rfl, ⟨l, B, c⟩, ⟨hadd.symm, hB, hn⟩, rfl⟩
      | exact ⟨I, _, .refl _, fun w h => Mem.drop (Mem.u1 (X := [_, _, _, _]) h), rfl, ⟨l ++ [s], some (bb, sp), c2⟩, ⟨hadd.symm, by simpa using hB', by intro z hz; rcases List.mem_append.1 hz with h | h; exact hn z h; rw [List.mem_singleton.1 h]; exact hs⟩, by simp [bufOwn, bufVal]⟩
  intro c0
  try simp only [nb] at c0
  have hadd : addAll [] (seen ++ [s]) = l := by rw [addAll_append, ← hl1]; simp [addAll, addOnce, c0]
  refine s_skip ?_
  refine s_end .nil ?_
  first
    | exact ⟨I, _, .refl _, fun w h => h, rfl, ⟨l, B, c⟩, ⟨hadd.symm, hB, hn⟩, rfl⟩
    | exact ⟨I, _, .refl _, fun w h => Mem.drop (Mem.u1 (X := [_, _, _, _]) h), rfl, ⟨l ++ [s], some (bb, sp), c2⟩, ⟨hadd.symm, by simpa using hB', by intro z hz; rcases List.mem_append.1 hz with h | h; exact hn z h; rw [List.mem_singleton.1 h]; exact hs⟩, by simp [bufOwn, bufVal]⟩
theorem atoms_teller (bm bq bo : Nat) : ATeller Try.prog 21 [.pointer (some ⟨bm, 0, none⟩), .pointer (some ⟨bo, 0, none⟩)] FB (FB.met bm bq bo) FB.ats :=
  ⟨fun x seen s I L hx hs hl => f_FormAtoms_1 bm bq bo x seen s I L hx hs hl, fun x seen I I' _ h => h⟩
theorem f_FormAtoms (s : Txt) (hs : s.length ≤ maxN) (I : Heap) (L : Own) : Fun Try.prog 8 [.string (str s)] I L (EF (atomsOf s) L) := by
  have hT := fun bm bq bo => atoms_teller bm bq bo
  refine fun_intro (by simp) ?_
  refine s_seq ?_
  refine o_enter rfl ?_
  refine o_assign rfl .free rfl ?_
  refine o_assign rfl .free rfl ?_
  refine o_done ?_
  refine s_seq ?_
  refine o_enter rfl ?_
  refine o_move rfl .free rfl ?_
  refine o_call rfl .free rfl (f_read s hs _ _) ?_
  rintro _ J _ e1 ⟨t, cs, ok, rfl, hrep, rfl, hpf⟩
  obtain ⟨o1, k1, _, rfl, -⟩ := hrep.open
  refine o_move rfl .free rfl ?_
  refine o_extract rfl rfl .free rfl ?_
  refine o_extract rfl rfl .free rfl ?_
  refine o_alloc .free rfl ?_
  intro b4
  refine o_st rfl rfl rfl rfl .free ?_
  refine o_assign rfl .free rfl ?_
  refine o_done ?_
  refine s_seq ?_
  refine s_seq ?_
  refine o_enter rfl ?_
  refine o_move rfl .free rfl ?_
  refine o_not rfl .free rfl ?_
  refine o_done ?_
  refine s_cond rfl ?_ ?_
  · intro c0
    try simp only [nb] at c0
    refine s_seq ?_
    refine o_enter rfl ?_
    refine o_assign rfl .free rfl ?_
    refine o_assign rfl .free rfl ?_
    refine o_done ?_
    refine s_ret (.tmp rfl (.tmp rfl .nil)) ?_
    have : atomsOf s = none := by
        unfold atomsOf
        cases hp : parse s with
        | none => rfl
        | some t0 => rw [hp] at hpf; rw [hpf.1] at c0; cases c0
    exact ⟨J, L, e1, (by intro _ h; first | exact h | exact dr1 h | exact dr2 h | exact dr3 h | exact dr4 h | exact dr5 h | exact dr6 h | exact dr6 h.drop | exact dr6 h.drop.drop | exact dr6 h.drop.drop.drop), none, 0, by rw [this]; rfl, by rw [this]; exact strs_nil _, rfl⟩
  intro c0
  try simp only [nb] at c0
  have hps := RD_some hpf c0
  have hpg := parse_good hps
  have hpz := parse_size hps
  have hat : atomsOf s = some (addAll [] t.atomL) := by unfold atomsOf; rw [hps]; rfl
  refine s_skip ?_
  refine s_seq ?_
  refine o_enter rfl ?_
  refine o_alloc .free rfl ?_
  intro b6
  refine o_done ?_
  refine s_seq ?_
  refine o_enter rfl ?_
  refine o_makeMap .free rfl ?_
  intro bq
  refine o_alloc .free rfl ?_
  intro b7
  refine o_st rfl rfl rfl rfl .free ?_
  refine o_done ?_
  refine s_seq ?_
  refine o_enter rfl ?_
  refine o_lOS rfl .free rfl ?_
  refine o_makeFunc rfl rfl .free rfl ?_
  refine o_mem (L' := FB.met b7 bq b6 ⟨[], none, 0⟩ ++ _) (fun w h => h) ?_
  refine o_call rfl .free rfl (f_form_atoms (hT b7 bq b6) _ (Nat.lt_succ_self _) hrep ⟨[], none, 0⟩ [] (by simp; omega) ⟨rfl, ⟨rfl, rfl, rfl⟩, by simp⟩ _) ?_
  rintro _ J1 _ e2 ⟨rfl, ⟨l, B, c2⟩, ⟨hl, hB, hn⟩, rfl⟩
  simp only at hl hB hn
  simp only [FB.met, List.cons_append]
  refine o_done ?_
  refine s_seq ?_
  refine o_enter rfl ?_
  refine o_load rfl (loads_own1 (cs := [bufVal l.length c2 B]) m2 (by rfl) (by cases B <;> rfl)) .free rfl ?_
  refine o_assign rfl .free rfl ?_
  refine o_assign rfl .free rfl ?_
  refine o_done ?_
  have hll := addAll_len [] t.atomL
  simp only [List.nil_append] at hl
  rw [← hl, Tree.atomL_len] at hll
  simp only [List.length_nil, Nat.zero_add] at hll
  refine s_mem (fun w h => h.u3) (s_freezeStrs hB rfl (by unfold maxN; omega) hn ?_)
  intro J2 oz cz ez hbv hst
  refine s_put (t := 2) rfl hbv ?_
  refine s_ret (.tmp rfl (.tmp rfl .nil)) ?_
  exact ⟨J2, L, (e1.trans e2).trans ez, (by intro _ h; first | exact h | exact dr1 h | exact dr2 h | exact dr3 h | exact dr4 h | exact dr5 h | exact dr6 h | exact dr6 h.drop | exact dr6 h.drop.drop | exact dr6 h.drop.drop.drop), oz, cz, by rw [hat, ← hl]; rfl, by rw [hat, ← hl]; exact hst, rfl⟩
end Go.Proofs.Ytbppjohpghpcnaa


/- Plain names. No conditions. -/
namespace Go.Proofs.Ytbppjohpghpcnaa
set_option maxRecDepth 100000
set_option linter.unusedVariables false
set_option linter.unusedSimpArgs false

/-- The number of decimals. -/
def numT (s : Txt) : Nat := s.foldl (fun a c => 10 * a + (c.toNat - 48)) 0
theorem numT_app (s : Txt) (c : UInt8) : numT (s ++ [c]) = 10 * numT s + (c.toNat - 48) := by simp [numT]
theorem digit_val {d : Nat} (h : d < 10) : (UInt8.ofNat (48 + d)).toNat - 48 = d := by
  have : (UInt8.ofNat (48 + d)).toNat = 48 + d := by simp [UInt8.toNat_ofNat]; omega
  omega
theorem numT_decT : ∀ n : Nat, numT (decT n) = n := by
  intro n
  induction n using Nat.strongRecOn with
  | _ n ih =>
    by_cases h : n < 10
    · rw [decT_small h]
      show 10 * 0 + ((UInt8.ofNat (48 + n)).toNat - 48) = n
      rw [digit_val h]; omega
    · rw [decT_big h, numT_app, ih (n / 10) (by omega), digit_val (Nat.mod_lt _ (by omega))]
      omega
theorem decT_inj {a b : Nat} (h : decT a = decT b) : a = b := by
  have := congrArg numT h
  rwa [numT_decT, numT_decT] at this
def nm (c : UInt8) (n : Nat) : Txt := c :: decT n
theorem nm_inj {c : UInt8} {a b : Nat} (h : nm c a = nm c b) : a = b := decT_inj (List.cons.inj h).2
/-- How many of the first 'n' names are barred. -/
def hits (c : UInt8) (av : List Txt) (n : Nat) : Nat := ((List.range n).filter fun k => decide (nm c k ∈ av)).length
theorem hits_succ (c : UInt8) (av : List Txt) (n : Nat) : hits c av (n + 1) = hits c av n + (if nm c n ∈ av then 1 else 0) := by
  unfold hits
  rw [List.range_succ, List.filter_append]
  by_cases h : nm c n ∈ av <;> simp [h]
theorem sub_length : ∀ {l m : List Txt}, l.Nodup → (∀ x ∈ l, x ∈ m) → l.length ≤ m.length
  | [], m, _, _ => Nat.zero_le _
  | x :: l, m, hn, hs => by
    obtain ⟨h1, h2⟩ := List.nodup_cons.1 hn
    have hx := hs x (.head _)
    have := sub_length (l := l) (m := m.erase x) h2 fun y hy => by
      have hne : y ≠ x := by rintro rfl; exact h1 hy
      exact (List.mem_erase_of_ne hne).2 (hs y (.tail _ hy))
    rw [List.length_erase_of_mem hx] at this
    have := List.length_pos_of_mem hx
    simp only [List.length_cons]; omega
theorem hits_le (c : UInt8) (av : List Txt) (n : Nat) : hits c av n ≤ av.length := by
  unfold hits
  rw [← List.length_map (f := nm c)]
  refine sub_length ?_ ?_
  · have h1 : ((List.range n).filter fun k => decide (nm c k ∈ av)).Nodup := List.nodup_range.filter _
    unfold List.Nodup at h1 ⊢
    rw [List.pairwise_map]
    exact h1.imp fun h e => h (nm_inj e)
  · intro x hx
    obtain ⟨k, hk, rfl⟩ := List.mem_map.1 hx
    simpa using (List.mem_filter.1 hk).2
/-- The next number whose name is not barred. -/
def frs (c : UInt8) (av : List Txt) : Nat → Nat → Nat
  | 0, n => n
  | k + 1, n => if nm c n ∈ av then frs c av k (n + 1) else n
theorem frs_hits {c : UInt8} {av : List Txt} : ∀ {k n : Nat}, av.length ≤ hits c av n + k → nm c (frs c av k n) ∉ av ∧ n ≤ frs c av k n ∧ frs c av k n + hits c av n = n + hits c av (frs c av k n)
  | 0, n, h => by
    have h1 := hits_le c av (n + 1)
    rw [hits_succ] at h1
    refine ⟨fun hm => ?_, Nat.le_refl _, rfl⟩
    simp only [frs] at hm
    rw [if_pos hm] at h1; omega
  | k + 1, n, h => by
    simp only [frs]
    by_cases hm : nm c n ∈ av
    · rw [if_pos hm]
      have h2 := hits_succ c av n
      rw [if_pos hm] at h2
      obtain ⟨h3, h4, h5⟩ := frs_hits (c := c) (av := av) (k := k) (n := n + 1) (by omega)
      exact ⟨h3, by omega, by omega⟩
    · rw [if_neg hm]; exact ⟨hm, Nat.le_refl _, rfl⟩
def fr (c : UInt8) (av : List Txt) (n : Nat) : Nat := frs c av av.length n
theorem fr_facts (c : UInt8) (av : List Txt) (n : Nat) : nm c (fr c av n) ∉ av ∧ n ≤ fr c av n ∧ fr c av n + hits c av n = n + hits c av (fr c av n) := frs_hits (by omega)
theorem fr_hits_succ (c : UInt8) (av : List Txt) (n : Nat) : fr c av n + 1 + hits c av n = n + 1 + hits c av (fr c av n + 1) := by
  obtain ⟨h1, h2, h3⟩ := fr_facts c av n
  have := hits_succ c av (fr c av n)
  rw [if_neg h1] at this; omega
theorem frs_stop {c : UInt8} {av : List Txt} : ∀ {k n m : Nat}, (∀ j, n ≤ j → j < m → nm c j ∈ av) → n ≤ m → m ≤ n + k → nm c m ∉ av → frs c av k n = m
  | 0, n, m, _, h1, h2, _ => by simp only [frs]; omega
  | k + 1, n, m, h, h1, h2, h3 => by
    simp only [frs]
    by_cases hm : nm c n ∈ av
    · rw [if_pos hm]
      have : n ≠ m := by rintro rfl; exact h3 hm
      exact frs_stop (fun j a b => h j (by omega) b) (by omega) (by omega) h3
    · rw [if_neg hm]
      by_cases he : n = m
      · exact he
      · exact absurd (h n (Nat.le_refl _) (by omega)) hm
theorem fr_stop {c : UInt8} {av : List Txt} {n m : Nat} (h : ∀ j, n ≤ j → j < m → nm c j ∈ av) (h1 : n ≤ m) (h3 : nm c m ∉ av) : fr c av n = m := by
  obtain ⟨g1, g2, g3⟩ := fr_facts c av n
  by_cases hlt : fr c av n < m
  · exact absurd (h _ g2 hlt) g1
  · have hmm : m ≤ fr c av n := by omega
    have key : ∀ d, hits c av (n + d) ≤ hits c av n + d := by
      intro d
      induction d with
      | zero => exact Nat.le_refl _
      | succ d ih => rw [← Nat.add_assoc, hits_succ]; split <;> omega
    have h5 : m ≤ n + av.length := by
      have e1 : ∀ d, n + d ≤ m → hits c av (n + d) = hits c av n + d := by
        intro d hd
        induction d with
        | zero => rfl
        | succ d ih =>
          rw [← Nat.add_assoc, hits_succ, if_pos (h (n + d) (by omega) (by omega)), ih (by omega)]; omega
      have e2 := e1 (m - n) (by omega)
      have e3 := hits_le c av (n + (m - n))
      omega
    exact frs_stop h h1 h5 h3

/-- The expression with plain names, and the next number. -/
def Ex.pl (av : List Txt) : Ex → List Txt → List Txt → Nat → Ex × Nat
  | .num s, _, _, n => (.num s, n)
  | .name s, f, t, n => (.name (match lastIdx f s with | some i => t.getD i [] | none => s), n)
  | .bin o a b, f, t, n => let p := a.pl av f t n; let q := b.pl av f t p.2; (.bin o p.1 q.1, q.2)
  | .ite a b c, f, t, n => let p := a.pl av f t n; let q := b.pl av f t p.2; let r := c.pl av f t q.2; (.ite p.1 q.1 r.1, r.2)
  | .lt x a b, f, t, n => let k := fr 120 av n; let p := a.pl av f t (k + 1); let q := b.pl av (f ++ [x]) (t ++ [nm 120 k]) p.2; (.lt (nm 120 k) p.1 q.1, q.2)
  | .fn g x s u b, f, t, n => let k := fr 120 av n; let j := fr 120 av (k + 1); let p := b.pl av (f ++ [g, x]) (t ++ [nm 120 k, nm 120 j]) (j + 1); (.fn (nm 120 k) (nm 120 j) s u p.1, p.2)
  | .un o a, f, t, n => let p := a.pl av f t n; (.un o p.1, p.2)
/-- How many names are bound. -/
def Ex.nb : Ex → Nat
  | .num _ => 0
  | .name _ => 0
  | .bin _ a b => a.nb + b.nb
  | .ite a b c => a.nb + b.nb + c.nb
  | .lt _ a b => 1 + a.nb + b.nb
  | .fn _ _ _ _ b => 2 + b.nb
  | .un _ a => a.nb
theorem Ex.pl_hits (av : List Txt) : ∀ (e : Ex) (f t : List Txt) (n : Nat), n ≤ (e.pl av f t n).2 ∧ (e.pl av f t n).2 + hits 120 av n = n + e.nb + hits 120 av (e.pl av f t n).2
  | .num s, f, t, n => ⟨Nat.le_refl _, by simp [Ex.pl, Ex.nb]⟩
  | .name s, f, t, n => ⟨Nat.le_refl _, by simp [Ex.pl, Ex.nb]⟩
  | .bin o a b, f, t, n => by
    have h1 := a.pl_hits av f t n
    have h2 := b.pl_hits av f t (a.pl av f t n).2
    simp only [Ex.pl, Ex.nb]; omega
  | .ite a b c, f, t, n => by
    have h1 := a.pl_hits av f t n
    have h2 := b.pl_hits av f t (a.pl av f t n).2
    have h3 := c.pl_hits av f t (b.pl av f t (a.pl av f t n).2).2
    simp only [Ex.pl, Ex.nb]; omega
  | .lt x a b, f, t, n => by
    have h0 := fr_hits_succ 120 av n
    have h00 := (fr_facts 120 av n).2.1
    have h1 := a.pl_hits av f t (fr 120 av n + 1)
    have h2 := b.pl_hits av (f ++ [x]) (t ++ [nm 120 (fr 120 av n)]) (a.pl av f t (fr 120 av n + 1)).2
    simp only [Ex.pl, Ex.nb]; omega
  | .fn g x s u b, f, t, n => by
    have h0 := fr_hits_succ 120 av n
    have h00 := (fr_facts 120 av n).2.1
    have h1 := fr_hits_succ 120 av (fr 120 av n + 1)
    have h11 := (fr_facts 120 av (fr 120 av n + 1)).2.1
    have h2 := b.pl_hits av (f ++ [g, x]) (t ++ [nm 120 (fr 120 av n), nm 120 (fr 120 av (fr 120 av n + 1))]) (fr 120 av (fr 120 av n + 1) + 1)
    simp only [Ex.pl, Ex.nb]; omega
  | .un o a, f, t, n => by
    have h1 := a.pl_hits av f t n
    simp only [Ex.pl, Ex.nb]; omega
theorem hits_mono (c : UInt8) (av : List Txt) {n m : Nat} (h : n ≤ m) : hits c av n ≤ hits c av m := by
  induction m with
  | zero => obtain rfl : n = 0 := by omega
            exact Nat.le_refl _
  | succ m ih =>
    rw [hits_succ]
    by_cases he : n = m + 1
    · subst he; rw [hits_succ]; exact Nat.le_refl _
    · have := ih (by omega); omega
theorem Ex.pl_size (av : List Txt) : ∀ (e : Ex) (f t : List Txt) (n : Nat), (e.pl av f t n).1.size = e.size ∧ (e.pl av f t n).1.tree.depth = e.tree.depth ∧ (e.pl av f t n).1.many = e.many
  | .num s, f, t, n => ⟨rfl, rfl, rfl⟩
  | .name s, f, t, n => ⟨rfl, rfl, rfl⟩
  | .bin o a b, f, t, n => by
    obtain ⟨h1, h2, h3⟩ := a.pl_size av f t n
    obtain ⟨g1, g2, g3⟩ := b.pl_size av f t (a.pl av f t n).2
    simp only [Ex.pl, Ex.size, Ex.many, Ex.tree, Tree.depth, depthL, List.isEmpty_cons, cond_false, h1, h2, h3, g1, g2, g3, and_self]
  | .ite a b c, f, t, n => by
    obtain ⟨h1, h2, h3⟩ := a.pl_size av f t n
    obtain ⟨g1, g2, g3⟩ := b.pl_size av f t (a.pl av f t n).2
    obtain ⟨k1, k2, k3⟩ := c.pl_size av f t (b.pl av f t (a.pl av f t n).2).2
    simp only [Ex.pl, Ex.size, Ex.many, Ex.tree, Tree.depth, depthL, List.isEmpty_cons, cond_false, h1, h2, h3, g1, g2, g3, k1, k2, k3, and_self]
  | .lt x a b, f, t, n => by
    obtain ⟨h1, h2, h3⟩ := a.pl_size av f t (fr 120 av n + 1)
    obtain ⟨g1, g2, g3⟩ := b.pl_size av (f ++ [x]) (t ++ [nm 120 (fr 120 av n)]) (a.pl av f t (fr 120 av n + 1)).2
    simp only [Ex.pl, Ex.size, Ex.many, Ex.tree, Tree.depth, depthL, List.isEmpty_cons, List.isEmpty_nil, cond_true, cond_false, h1, h2, h3, g1, g2, g3, and_self]
  | .fn g x s u b, f, t, n => by
    obtain ⟨g1, g2, g3⟩ := b.pl_size av (f ++ [g, x]) (t ++ [nm 120 (fr 120 av n), nm 120 (fr 120 av (fr 120 av n + 1))]) (fr 120 av (fr 120 av n + 1) + 1)
    simp only [Ex.pl, Ex.size, Ex.many, Ex.tree, Tree.depth, depthL, List.isEmpty_cons, List.isEmpty_nil, cond_true, cond_false, g1, g2, g3, and_self]
  | .un o a, f, t, n => by
    obtain ⟨h1, h2, h3⟩ := a.pl_size av f t n
    simp only [Ex.pl, Ex.size, Ex.many, Ex.tree, Tree.depth, depthL, List.isEmpty_cons, cond_false, h1, h2, h3, and_self]
/-- How many names stand in an expression. -/
theorem Ex.nb_occ : ∀ (e : Ex) (bd : List Txt), 3 * (e.nb + (e.occ bd).length) ≤ 2 * e.size + 1
  | .num s, bd => by simp [Ex.nb, Ex.occ, Ex.size]
  | .name s, bd => by simp only [Ex.nb, Ex.occ, Ex.size]; split <;> simp
  | .bin o a b, bd => by have := a.nb_occ bd; have := b.nb_occ bd; simp only [Ex.nb, Ex.occ, Ex.size, List.length_append]; omega
  | .ite a b c, bd => by have := a.nb_occ bd; have := b.nb_occ bd; have := c.nb_occ bd; simp only [Ex.nb, Ex.occ, Ex.size, List.length_append]; omega
  | .lt x a b, bd => by have := a.nb_occ bd; have := b.nb_occ (bd ++ [x]); simp only [Ex.nb, Ex.occ, Ex.size, List.length_append]; omega
  | .fn f x s t b, bd => by have := b.nb_occ (bd ++ [f, x]); have := s.size_pos; have := t.size_pos; simp only [Ex.nb, Ex.occ, Ex.size]; omega
  | .un o a, bd => by have := a.nb_occ bd; simp only [Ex.nb, Ex.occ, Ex.size]; omega
end Go.Proofs.Ytbppjohpghpcnaa


/- Expressions with plain names are expressions. No conditions. -/
namespace Go.Proofs.Ytbppjohpghpcnaa
set_option maxRecDepth 100000
set_option linter.unusedVariables false
set_option linter.unusedSimpArgs false

theorem digit_of {d : Nat} (h : d < 10) : digit (UInt8.ofNat (48 + d)) = true := by
  have : (UInt8.ofNat (48 + d)).toNat = 48 + d := by simp [UInt8.toNat_ofNat]; omega
  simp only [digit, this, Bool.and_eq_true, decide_eq_true_eq]; omega
theorem decT_digits : ∀ n : Nat, (decT n).all digit = true := by
  intro n
  induction n using Nat.strongRecOn with
  | _ n ih =>
    by_cases h : n < 10
    · rw [decT_small h]; simp only [List.all_cons, List.all_nil, Bool.and_true]; exact digit_of h
    · rw [decT_big h, List.all_append, ih (n / 10) (by omega)]
      simp only [List.all_cons, List.all_nil, Bool.and_true, Bool.true_and]; exact digit_of (Nat.mod_lt n (by omega))
theorem decT_len {n : Nat} (h : n < 1000) : (decT n).length ≤ 3 := by
  by_cases h1 : n < 10
  · rw [decT_small h1]; simp
  · rw [decT_big h1, List.length_append]
    by_cases h2 : n / 10 < 10
    · rw [decT_small h2]; simp
    · rw [decT_big h2, List.length_append, decT_small (show n / 10 / 10 < 10 by omega)]; simp
theorem nm_name {c : UInt8} {n : Nat} (hc : lower c = true) (h : n < 1000) : isName (nm c n) = true := by
  have := decT_len h
  simp [nm, isName, hc, decT_digits n, this]
def namesL (l : List Txt) : Prop := ∀ s ∈ l, isName s = true
theorem namesL.add {l m : List Txt} (h : namesL l) (h' : namesL m) : namesL (l ++ m) := by
  intro s hs
  rcases List.mem_append.1 hs with hs | hs
  · exact h s hs
  · exact h' s hs
theorem Ex.pl_ok {av : List Txt} : ∀ {e : Ex} {f t : List Txt} {n : Nat}, e.ok = true → namesL t → f.length = t.length → n + e.nb + av.length ≤ 900 + hits 120 av n → (e.pl av f t n).1.ok = true
  | .num s, f, t, n, h, _, _, _ => h
  | .name s, f, t, n, h, ht, hl, _ => by
    simp only [Ex.pl, Ex.ok]
    cases hi : lastIdx f s with
    | none => exact h
    | some i =>
      have h1 := (lastAt_lt (show lastAt f s f.length = some i from hi)).1
      have h2 : i < t.length := by omega
      show isName (t.getD i []) = true
      rw [show t.getD i [] = t[i] by simp [h2]]
      exact ht _ (List.getElem_mem h2)
  | .bin o a b, f, t, n, h, ht, hl, hn => by
    simp only [Ex.ok, Bool.and_eq_true] at h
    simp only [Ex.nb] at hn
    have h1 := a.pl_hits av f t n
    have h2 := hits_le 120 av (a.pl av f t n).2
    simp only [Ex.pl, Ex.ok, Bool.and_eq_true]
    exact ⟨Ex.pl_ok h.1 ht hl (by omega), Ex.pl_ok h.2 ht hl (by omega)⟩
  | .ite a b c, f, t, n, h, ht, hl, hn => by
    simp only [Ex.ok, Bool.and_eq_true] at h
    simp only [Ex.nb] at hn
    have h1 := a.pl_hits av f t n
    have h2 := b.pl_hits av f t (a.pl av f t n).2
    have h3 := hits_le 120 av (a.pl av f t n).2
    have h4 := hits_le 120 av (b.pl av f t (a.pl av f t n).2).2
    simp only [Ex.pl, Ex.ok, Bool.and_eq_true]
    exact ⟨⟨Ex.pl_ok h.1.1 ht hl (by omega), Ex.pl_ok h.1.2 ht hl (by omega)⟩, Ex.pl_ok h.2 ht hl (by omega)⟩
  | .lt x a b, f, t, n, h, ht, hl, hn => by
    simp only [Ex.ok, Bool.and_eq_true] at h
    simp only [Ex.nb] at hn
    have h0 := fr_hits_succ 120 av n
    have h1 := a.pl_hits av f t (fr 120 av n + 1)
    have h2 := hits_le 120 av (fr 120 av n + 1)
    have h3 := hits_le 120 av (a.pl av f t (fr 120 av n + 1)).2
    have h4 := hits_le 120 av n
    have hz : isName (nm 120 (fr 120 av n)) = true := nm_name (by decide) (by omega)
    simp only [Ex.pl, Ex.ok, Bool.and_eq_true]
    exact ⟨⟨hz, Ex.pl_ok h.1.2 ht hl (by omega)⟩, Ex.pl_ok h.2 (ht.add fun s hs => by rw [List.mem_singleton.1 hs]; exact hz) (by simp [hl]) (by omega)⟩
  | .fn g x s u b, f, t, n, h, ht, hl, hn => by
    simp only [Ex.ok, Bool.and_eq_true, decide_eq_true_eq] at h
    obtain ⟨⟨⟨⟨⟨h1, h2⟩, h3⟩, h4⟩, h5⟩, h6⟩ := h
    simp only [Ex.nb] at hn
    have k0 := fr_hits_succ 120 av n
    have k1 := fr_hits_succ 120 av (fr 120 av n + 1)
    have k2 := hits_le 120 av (fr 120 av n + 1)
    have k3 := hits_le 120 av (fr 120 av (fr 120 av n + 1) + 1)
    have k5 := hits_le 120 av n
    have k4 := (fr_facts 120 av (fr 120 av n + 1)).2.1
    have hz1 : isName (nm 120 (fr 120 av n)) = true := nm_name (by decide) (by omega)
    have hz2 : isName (nm 120 (fr 120 av (fr 120 av n + 1))) = true := nm_name (by decide) (by omega)
    simp only [Ex.pl, Ex.ok, Bool.and_eq_true, decide_eq_true_eq]
    refine ⟨⟨⟨⟨⟨hz1, hz2⟩, fun e => ?_⟩, h4⟩, h5⟩, Ex.pl_ok h6 (ht.add fun s hs => ?_) (by simp [hl]) (by omega)⟩
    · have := nm_inj e; omega
    · simp only [List.mem_cons, List.not_mem_nil, or_false] at hs
      rcases hs with rfl | rfl
      · exact hz1
      · exact hz2
  | .un o a, f, t, n, h, ht, hl, hn => by
    simp only [Ex.pl, Ex.ok]
    exact Ex.pl_ok (e := a) h ht hl (by simpa [Ex.nb] using hn)
theorem B5.txt_len (o : B5) : o.txt.length ≤ 4 := by cases o <;> decide
theorem U2.txt_len (o : U2) : o.txt.length ≤ 3 := by cases o <;> decide
/-- An expression's text is short. -/
theorem Ex.len_size : ∀ {e : Ex}, e.ok = true → e.tree.len + 1 ≤ 8 * e.size
  | .num s, h => by
    have h : isNum s = true := h
    have : s.length ≤ 4 := by
      simp only [isNum, Bool.or_eq_true, Bool.and_eq_true, decide_eq_true_eq] at h
      rcases h with h | h
      · rw [h]; decide
      · have h1 := h.1.1.2
        unfold unsign at h1
        split at h1
        · simp only [List.length_drop] at h1; omega
        · omega
    simp only [Ex.tree, Tree.len, List.isEmpty_nil, cond_true, Ex.size]; omega
  | .name s, h => by
    have := isName_len (show isName s = true from h)
    simp only [Ex.tree, Tree.len, List.isEmpty_nil, cond_true, Ex.size]; omega
  | .bin o a b, h => by
    simp only [Ex.ok, Bool.and_eq_true] at h
    have h1 := Ex.len_size h.1; have h2 := Ex.len_size h.2; have h3 := o.txt_len
    simp only [Ex.tree, Tree.len, lenL, List.isEmpty_nil, List.isEmpty_cons, cond_true, cond_false, Ex.size]; omega
  | .ite a b c, h => by
    simp only [Ex.ok, Bool.and_eq_true] at h
    have h1 := Ex.len_size h.1.1; have h2 := Ex.len_size h.1.2; have h3 := Ex.len_size h.2
    simp only [Ex.tree, Tree.len, lenL, List.isEmpty_nil, List.isEmpty_cons, cond_true, cond_false, Ex.size, tIf, List.length_cons, List.length_nil]; omega
  | .lt x a b, h => by
    simp only [Ex.ok, Bool.and_eq_true] at h
    have h1 := Ex.len_size h.1.2; have h2 := Ex.len_size h.2; have h3 := isName_len h.1.1
    simp only [Ex.tree, Tree.len, lenL, List.isEmpty_nil, List.isEmpty_cons, cond_true, cond_false, Ex.size, tLet, List.length_cons, List.length_nil]; omega
  | .fn f x s t b, h => by
    simp only [Ex.ok, Bool.and_eq_true, decide_eq_true_eq] at h
    obtain ⟨⟨⟨⟨⟨h1, h2⟩, h3⟩, h4⟩, h5⟩, h6⟩ := h
    have k1 := Ex.len_size h6; have k2 := isName_len h1; have k3 := isName_len h2
    have k4 := s.tree_small; have k5 := t.tree_small; have k6 := s.size_pos; have k7 := t.size_pos
    simp only [Ex.tree, Tree.len, lenL, List.isEmpty_nil, List.isEmpty_cons, cond_true, cond_false, Ex.size, tFun, List.length_cons, List.length_nil]; omega
  | .un o a, h => by
    have h1 := Ex.len_size (e := a) h; have h3 := o.txt_len
    simp only [Ex.tree, Tree.len, lenL, List.isEmpty_nil, List.isEmpty_cons, cond_true, cond_false, Ex.size]; omega
/-- The plain one of an expression. -/
def Ex.plain (e : Ex) : Ex := (e.pl e.free [] [] 0).1
theorem addAll_len' (l m : List Txt) : (addAll l m).length ≤ l.length + m.length := by
  induction m generalizing l with
  | nil => exact Nat.le_refl _
  | cons s m ih =>
    have h1 : (addOnce l s).length ≤ l.length + 1 := by unfold addOnce; split <;> simp
    have h2 := ih (addOnce l s)
    simp only [addAll, List.foldl_cons, List.length_cons] at *
    omega
theorem plain_room {e : Ex} (h : e.size ≤ 120) : e.nb + e.free.length ≤ 80 := by
  have h1 := e.nb_occ []
  have h2 := addAll_len' [] (e.occ [])
  simp only [List.length_nil, Nat.zero_add] at h2
  have h3 : e.free.length ≤ (e.occ []).length := h2
  omega
theorem plain_fine {e : Ex} (h : e.fine = true) : e.plain.fine = true := by
  simp only [Ex.fine, Bool.and_eq_true, decide_eq_true_eq, Tree.fits] at h
  obtain ⟨h1, h2, h3⟩ := e.pl_size e.free [] [] 0
  have hr := plain_room h.1.2
  have hok : e.plain.ok = true := Ex.pl_ok h.1.1 (fun s hs => by cases hs) rfl (by omega)
  have hl := Ex.len_size hok
  have h4 : e.plain.size = e.size := h1
  have h5 : e.plain.tree.depth = e.tree.depth := h2
  simp only [Ex.fine, Bool.and_eq_true, decide_eq_true_eq, Tree.fits]
  exact ⟨⟨hok, by omega⟩, by omega, by omega⟩
def plainOf (s : Txt) : Option Txt := (exOf s).map fun e => e.plain.tree.text
end Go.Proofs.Ytbppjohpghpcnaa
