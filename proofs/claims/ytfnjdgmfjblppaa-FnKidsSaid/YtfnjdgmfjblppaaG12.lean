/- Drawn expressions, well and odd ones. No conditions. -/
import Derived.Test.YtfnjdgmfjblppaaG11
namespace Go.Proofs.Ytfnjdgmfjblppaa
set_option maxRecDepth 100000
set_option linter.unusedVariables false
set_option linter.unusedSimpArgs false

theorem replOf_some {s a b : Txt} {t x y : Tree} (h1 : parse s = some t) (h2 : parse a = some x) (h3 : parse b = some y) : replOf s a b = if x.atom ≠ [] ∧ (parse (t.repl a y).text).isSome = true then some (t.repl a y).text else none := by
  unfold replOf; rw [h1, h2, h3]
theorem replOf_none {s a b : Txt} (h : parse s = none ∨ parse a = none ∨ parse b = none) : replOf s a b = none := by
  unfold replOf
  rcases h with h | h | h
  · rw [h]
  · rw [h]; cases parse s <;> rfl
  · rw [h]; cases parse s <;> cases parse a <;> rfl
theorem RD_get {p : Option Tree} {t : Tree} {ok : Bool} (hpf : match p with | some t0 => ok = true ∧ t = t0 | none => ok = false) : (ok = false → p = none) ∧ (ok = true → p = some t) := by
  cases p with
  | none => exact ⟨fun _ => rfl, fun h => (by rw [hpf] at h; cases h)⟩
  | some t0 => exact ⟨fun h => (by rw [hpf.1] at h; cases h), fun _ => (by rw [hpf.2])⟩
theorem parse_len {s : Txt} {t : Tree} (h : parse s = some t) : s.length ≤ 12000 ∧ t.len ≤ 12000 := by
  have h1 := (parse_fits h).1
  simp only [Tree.fits, Bool.and_eq_true, decide_eq_true_eq] at h1
  exact ⟨by rw [← parse_text h, Tree.text_len]; exact h1.2, h1.2⟩
theorem repl_out {s a b o : Txt} (h : replOf s a b = some o) : o.length ≤ 12000 := by
  unfold replOf at h
  cases h1 : parse s with
  | none => rw [h1] at h; cases h
  | some t =>
    cases h2 : parse a with
    | none => rw [h1, h2] at h; cases h
    | some x =>
      cases h3 : parse b with
      | none => rw [h1, h2, h3] at h; cases h
      | some y =>
        rw [h1, h2, h3] at h
        simp only at h
        split at h
        · rename_i hh
          cases h
          obtain ⟨z, hz⟩ := Option.isSome_iff_exists.1 hh.2
          exact (parse_len hz).1
        · cases h
theorem g_FormReplace (s a b : Txt) (hs : s.length ≤ maxL) (ha : a.length ≤ maxL) (hb : b.length ≤ 900) (I : Heap) (L : Own) : Fun Try.prog 29 [.string (str s), .string (str a), .string (str b)] I L (EL (replOf s a b) L) := by
  refine fun_intro (by simp) ?_
  refine s_seq ?_
  refine o_enter rfl ?_
  refine o_assign rfl .free rfl ?_
  refine o_assign rfl .free rfl ?_
  refine o_done ?_
  refine s_seq ?_
  refine o_enter rfl ?_
  refine o_move rfl .free rfl ?_
  refine o_call rfl .free rfl (g_l1Parse' s hs _ _) ?_
  rintro _ J1 _ e1 ⟨t, cs1, ok1, rfl, hr1, rfl, hp1⟩
  obtain ⟨o1, k1, _, rfl, -⟩ := hr1.open
  refine o_move rfl .free rfl ?_
  refine o_extract rfl rfl .free rfl ?_
  refine o_extract rfl rfl .free rfl ?_
  refine o_alloc .free rfl ?_
  intro b8
  refine o_st rfl rfl rfl rfl .free ?_
  refine o_assign rfl .free rfl ?_
  refine o_done ?_
  refine s_seq ?_
  refine o_enter rfl ?_
  refine o_move rfl .free rfl ?_
  refine o_call rfl .free rfl (g_l1Parse' a ha _ _) ?_
  rintro _ J2 _ e2 ⟨x, cs2, ok2, rfl, hr2, rfl, hp2⟩
  obtain ⟨o2, k2, _, rfl, -⟩ := hr2.open
  refine o_move rfl .free rfl ?_
  refine o_extract rfl rfl .free rfl ?_
  refine o_extract rfl rfl .free rfl ?_
  refine o_alloc .free rfl ?_
  intro b10
  refine o_st rfl rfl rfl rfl .free ?_
  refine o_assign rfl .free rfl ?_
  refine o_done ?_
  refine s_seq ?_
  refine o_enter rfl ?_
  refine o_move rfl .free rfl ?_
  refine o_call rfl .free rfl (g_l1Parse' b (by unfold maxL; omega) _ _) ?_
  rintro _ J3 _ e3 ⟨y, cs3, ok3, rfl, hr3, rfl, hp3⟩
  obtain ⟨o3, k3, _, rfl, -⟩ := hr3.open
  have q1 := RD_get hp1
  have q2 := RD_get hp2
  have q3 := RD_get hp3
  have hle := (e1.trans e2).trans e3
  refine o_move rfl .free rfl ?_
  refine o_extract rfl rfl .free rfl ?_
  refine o_extract rfl rfl .free rfl ?_
  refine o_alloc .free rfl ?_
  intro b12
  refine o_st rfl rfl rfl rfl .free ?_
  refine o_assign rfl .free rfl ?_
  refine o_done ?_
  refine s_seq ?_
  refine s_seq ?_
  refine o_enter rfl ?_
  refine o_move rfl .free rfl ?_
  refine o_not rfl .free rfl ?_
  refine o_move rfl .free rfl ?_
  apply o_or 32 35 rfl
  · intro g4_3 hk
    try simp only [nb] at g4_3
    refine o_move rfl (.met rfl rfl) rfl ?_
    refine o_not rfl (.met rfl rfl) rfl ?_
    refine o_pick_false rfl rfl .free rfl ?_
    exact o_fin 2 rfl rfl hk
  · intro _ hk
    refine o_skips 2 rfl ?_
    refine o_pick_true rfl rfl .free rfl ?_
    exact o_fin 2 rfl rfl hk
  refine o_move rfl .free rfl ?_
  apply o_or 36 39 rfl
  · intro g4_7 hk
    try simp only [nb] at g4_7
    refine o_move rfl (.met rfl rfl) rfl ?_
    refine o_not rfl (.met rfl rfl) rfl ?_
    refine o_pick_false rfl rfl .free rfl ?_
    exact o_fin 2 rfl rfl hk
  · intro _ hk
    refine o_skips 2 rfl ?_
    refine o_pick_true rfl rfl .free rfl ?_
    exact o_fin 2 rfl rfl hk
  refine o_move rfl .free rfl ?_
  apply o_or 40 44 rfl
  · intro g4_11 hk
    try simp only [nb] at g4_11
    refine o_fieldAddr rfl (.met rfl rfl) rfl ?_
    refine o_lO1 rfl (.met rfl rfl) rfl ?_
    refine o_cmps rfl rfl rfl (.met rfl rfl) rfl ?_
    refine o_pick_false rfl rfl .free rfl ?_
    exact o_fin 3 rfl rfl hk
  · intro _ hk
    refine o_skips 3 rfl ?_
    refine o_pick_true rfl rfl .free rfl ?_
    exact o_fin 3 rfl rfl hk
  refine o_done ?_
  refine s_cond rfl ?_ ?_
  · intro c0
    try simp only [nb] at c0
    refine s_seq ?_
    refine o_enter rfl ?_
    refine o_assign rfl .free rfl ?_
    refine o_assign rfl .free rfl ?_
    refine o_done ?_
    refine s_ret (.tmp rfl (.tmp rfl .nil)) ?_
    refine ⟨J3, L, hle, (by intro _ h; first | exact h | exact dr1 h | exact dr2 h | exact dr3 h | exact dr4 h | exact dr5 h | exact dr6 h | exact dr6 h.drop | exact dr6 h.drop.drop | exact dr6 h.drop.drop.drop), ?_, rfl⟩
    have hz : replOf s a b = none := by
      rcases c0 with ((h | h) | h) | h
      · exact replOf_none (.inl (q1.1 h))
      · exact replOf_none (.inr (.inl (q2.1 h)))
      · exact replOf_none (.inr (.inr (q3.1 h)))
      · cases hh1 : parse s with
        | none => exact replOf_none (.inl hh1)
        | some t1 =>
          cases hh2 : parse a with
          | none => exact replOf_none (.inr (.inl hh2))
          | some x1 =>
            cases hh3 : parse b with
            | none => exact replOf_none (.inr (.inr hh3))
            | some y1 =>
              rw [hh2] at hp2
              rw [replOf_some hh1 hh2 hh3, if_neg (by rw [← hp2.2]; exact fun e => e.1 h)]
    rw [hz]; rfl
  intro c0
  try simp only [nb] at c0
  obtain ⟨⟨⟨h1, h2⟩, h3⟩, h4⟩ := c0
  have p1 := q1.2 h1
  have p2 := q2.2 h2
  have p3 := q3.2 h3
  have f1 := parse_fits p1
  have f2 := parse_fits p2
  have f3 := parse_fits p3
  have l1 := (parse_len p1).2
  have l3 : y.len ≤ 900 := by rw [← Tree.text_len, parse_text p3]; exact hb
  have z1 := parse_size p1
  have hrl := t.repl_len a y
  have hmul : t.size * y.len ≤ 12000 * 900 := Nat.mul_le_mul z1 l3
  have hrg := Tree.repl_good (a := a) f1.2.1 f3.2.1
  have ha0 : a ≠ [] := by
    intro e
    have h5 := parse_text p2
    have h6 := good_nil f2.2.1 h4
    cases x with
    | node n ps =>
      simp only [Tree.parts] at h6
      subst h6
      simp only [Tree.text, List.isEmpty_nil, cond_true] at h5
      exact h4 (h5.trans e)
  have hro := replOf_some p1 p2 p3
  refine s_skip ?_
  refine s_seq ?_
  refine o_enter rfl ?_
  refine o_lOS rfl .free rfl ?_
  refine o_move rfl .free rfl ?_
  refine o_lOS rfl .free rfl ?_
  refine o_call rfl .free rfl (g_l1Replace _ (Nat.lt_succ_self _) ((hr1.mono e2).mono e3) f1.2.1 a ha0 hr3 _) ?_
  rintro _ J4 _ e4 ⟨cs4, rfl, hr4, rfl⟩
  refine o_call rfl .free rfl (g_l1Text _ (Nat.lt_succ_self _) hr4 hrg (by omega) _) ?_
  rintro _ _ _ _ ⟨rfl, rfl, rfl⟩
  refine o_assign rfl .free rfl ?_
  refine o_done ?_
  refine s_seq ?_
  refine s_seq ?_
  refine o_enter rfl ?_
  refine o_move rfl .free rfl ?_
  refine o_call rfl .free rfl (g_FormValid _ (by rw [Tree.text_len]; unfold maxL; omega) _ _) ?_
  rintro _ J5 _ e5 ⟨rfl, rfl⟩
  have hle := (hle.trans e4).trans e5
  refine o_not rfl .free rfl ?_
  refine o_done ?_
  refine s_cond rfl ?_ ?_
  · intro c1
    try simp only [nb] at c1
    refine s_seq ?_
    refine o_enter rfl ?_
    refine o_assign rfl .free rfl ?_
    refine o_assign rfl .free rfl ?_
    refine o_done ?_
    refine s_ret (.tmp rfl (.tmp rfl .nil)) ?_
    refine ⟨J5, L, hle, (by intro _ h; first | exact h | exact dr1 h | exact dr2 h | exact dr3 h | exact dr4 h | exact dr5 h | exact dr6 h | exact dr6 h.drop | exact dr6 h.drop.drop | exact dr6 h.drop.drop.drop), ?_, rfl⟩
    rw [hro, if_neg (by rintro ⟨-, h⟩; rw [c1] at h; cases h)]; rfl
  intro c1
  try simp only [nb] at c1
  refine s_skip ?_
  refine s_seq ?_
  refine o_enter rfl ?_
  refine o_move rfl .free rfl ?_
  refine o_assign rfl .free rfl ?_
  refine o_assign rfl .free rfl ?_
  refine o_done ?_
  refine s_ret (.tmp rfl (.tmp rfl .nil)) ?_
  refine ⟨J5, L, hle, (by intro _ h; first | exact h | exact dr1 h | exact dr2 h | exact dr3 h | exact dr4 h | exact dr5 h | exact dr6 h | exact dr6 h.drop | exact dr6 h.drop.drop | exact dr6 h.drop.drop.drop), ?_, rfl⟩
  rw [hro, if_pos ⟨h4, c1⟩]; rfl
theorem sc_nil (I : Heap) (oa ob : Option Addr) : ScAt I [] [] oa 0 ob 0 := ⟨strs_empty _ _, strs_empty _ _, rfl, (fun _ h => by cases h), (fun _ h => by cases h)⟩
theorem g_l91Good {I : Heap} {oa : Option Addr} {l : List UInt8} {c : Nat} (h : Bytes I oa l c) (hl : l.length ≤ 2000) (b p : Nat) (hp : p + 7000 ≤ 1099511627776) (L : Own) :
    Fun Try.prog 26 [.pointer (some ⟨b, 0, none⟩)] I (rd b oa l c p :: L) (DT b oa l c p 7000 400000 L) := by
  have hle : HLe I I := .refl _
  have hk2 : kT 2 = 6 := rfl
  have hb2 : bT 2 = 19 := rfl
  refine fun_intro (by simp) ?_
  refine s_seq ?_
  refine o_enter rfl ?_
  refine o_assign rfl .free rfl ?_
  refine o_done ?_
  refine s_seq ?_
  refine o_enter rfl ?_
  refine o_assign rfl .free rfl ?_
  refine o_done ?_
  refine s_seq ?_
  refine s_seq ?_
  refine o_enter rfl ?_
  refine o_move rfl .free rfl ?_
  refine o_call rfl .free rfl (g_l6Rd_pick h hl b _ 3 (by omega) (by decide) _) ?_
  rintro _ _ _ _ ⟨r, rfl, rfl, rfl, hr⟩
  refine o_cmp rfl rfl rfl .free rfl ?_
  refine o_done ?_
  refine s_cond rfl ?_ ?_
  · intro c0
    try simp only [nb] at c0
    refine o_enter rfl ?_
    refine o_move rfl .free rfl ?_
    refine o_call rfl .free rfl (g_l91Type 2 h hl b _ (by omega) (by decide) (by decide) _) ?_
    rintro _ J _ e ⟨w, pw, rfl, hw, hp1, hp2, rfl⟩
    have h := h.mono e
    have hle := hle.trans e
    refine o_assign rfl .free rfl ?_
    refine o_done ?_
    refine s_seq ?_
    try have hw := hw
    refine o_enter rfl ?_
    refine o_move rfl .free rfl ?_
    refine o_lits0 .free rfl ?_
    intro b11
    refine o_lits0 .free rfl ?_
    intro b12
    refine o_struct rfl rfl rfl .free rfl ?_
    refine o_move rfl .free rfl ?_
    refine o_move rfl .free rfl ?_
    refine o_mem (fun w h => Mem.sub (L' := rd b oa l c _ :: L) (by repeat (first | exact List.Sublist.refl _ | apply List.Sublist.cons_cons | apply List.Sublist.cons)) h) ?_
    refine o_call rfl .free rfl (g_l6Rd_pick h hl b _ 3 (by omega) (by decide) _) ?_
    rintro _ _ _ _ ⟨r2, rfl, rfl, rfl, hr2⟩
    have hr3 : r2 < 3 := by omega
    have hdd : ∃ d : Nat, (2 : Int) + (r2 : Nat) = (d : Nat) ∧ d ≤ 4 := ⟨2 + r2, by omega, by omega⟩
    obtain ⟨d, hd1, hd2⟩ := hdd
    refine o_arith rfl rfl rfl (by omega) .free rfl ?_
    refine o_put (t := 17) (v' := .int .i64 (d : Nat)) rfl (by rw [← hd1]) ?_
    refine o_call rfl .free rfl (g_l91Expr hd2 h hl b _ (by omega) (sc_nil _ _ _) (by simp) _ (by first | omega | (simp; done) | decide) _) ?_
    rintro _ J1 _ e1 ⟨s1, p1, rfl, hs1, hp3, hp4, rfl⟩
    have h := h.mono e1
    have hle := hle.trans e1
    refine o_assign rfl .free rfl ?_
    refine o_done ?_
    refine s_seq ?_
    refine s_seq ?_
    refine o_enter rfl ?_
    refine o_move rfl .free rfl ?_
    refine o_call rfl .free rfl (g_ExprValid s1 (by unfold maxN; omega) _ _) ?_
    rintro _ _ _ _ ⟨rfl, rfl, rfl⟩
    refine o_done ?_
    refine s_cond rfl ?_ ?_
    · intro c1
      try simp only [nb] at c1
      refine s_seq ?_
      refine o_enter rfl ?_
      refine o_move rfl .free rfl ?_
      refine o_assign rfl .free rfl ?_
      refine o_done ?_
      refine s_ret (.tmp rfl .nil) ?_
      exact ⟨_, _, hle, fun w h => Mem.sub (L' := rd b oa l c _ :: L) (by repeat (first | exact List.Sublist.refl _ | apply List.Sublist.cons_cons | apply List.Sublist.cons)) h, _, _, rfl, by omega, by omega, by omega, rfl⟩
    intro c1
    try simp only [nb] at c1
    refine s_skip ?_
    refine s_seq ?_
    refine o_enter rfl ?_
    refine o_move rfl .free rfl ?_
    refine o_lits0 .free rfl ?_
    intro b23
    refine o_lits0 .free rfl ?_
    intro b24
    refine o_struct rfl rfl rfl .free rfl ?_
    refine o_move rfl .free rfl ?_
    refine o_mem (fun w h => Mem.sub (L' := rd b oa l c _ :: L) (by repeat (first | exact List.Sublist.refl _ | apply List.Sublist.cons_cons | apply List.Sublist.cons)) h) ?_
    refine o_call rfl .free rfl (g_l91Expr (d := 2) (by decide) h hl b _ (by omega) (sc_nil _ _ _) (by simp) _ (by first | omega | (simp; done) | decide) _) ?_
    rintro _ J2 _ e2 ⟨s2, p2, rfl, hs2, hp5, hp6, rfl⟩
    have hle := hle.trans e2
    refine o_assign rfl .free rfl ?_
    refine o_done ?_
    refine s_ret (.tmp rfl .nil) ?_
    exact ⟨_, _, hle, fun w h => Mem.sub (L' := rd b oa l c _ :: L) (by repeat (first | exact List.Sublist.refl _ | apply List.Sublist.cons_cons | apply List.Sublist.cons)) h, _, _, rfl, by omega, by omega, by omega, rfl⟩
  intro c0
  try simp only [nb] at c0
  refine s_skip ?_
  refine s_seq ?_
  try have hw := hw
  refine o_enter rfl ?_
  refine o_move rfl .free rfl ?_
  refine o_lits0 .free rfl ?_
  intro b11
  refine o_lits0 .free rfl ?_
  intro b12
  refine o_struct rfl rfl rfl .free rfl ?_
  refine o_move rfl .free rfl ?_
  refine o_move rfl .free rfl ?_
  refine o_mem (fun w h => Mem.sub (L' := rd b oa l c _ :: L) (by repeat (first | exact List.Sublist.refl _ | apply List.Sublist.cons_cons | apply List.Sublist.cons)) h) ?_
  refine o_call rfl .free rfl (g_l6Rd_pick h hl b _ 3 (by omega) (by decide) _) ?_
  rintro _ _ _ _ ⟨r2, rfl, rfl, rfl, hr2⟩
  have hr3 : r2 < 3 := by omega
  have hdd : ∃ d : Nat, (2 : Int) + (r2 : Nat) = (d : Nat) ∧ d ≤ 4 := ⟨2 + r2, by omega, by omega⟩
  obtain ⟨d, hd1, hd2⟩ := hdd
  refine o_arith rfl rfl rfl (by omega) .free rfl ?_
  refine o_put (t := 17) (v' := .int .i64 (d : Nat)) rfl (by rw [← hd1]) ?_
  refine o_call rfl .free rfl (g_l91Expr hd2 h hl b _ (by omega) (sc_nil _ _ _) (by simp) _ (by first | omega | (simp; done) | decide) _) ?_
  rintro _ J1 _ e1 ⟨s1, p1, rfl, hs1, hp3, hp4, rfl⟩
  have h := h.mono e1
  have hle := hle.trans e1
  refine o_assign rfl .free rfl ?_
  refine o_done ?_
  refine s_seq ?_
  refine s_seq ?_
  refine o_enter rfl ?_
  refine o_move rfl .free rfl ?_
  refine o_call rfl .free rfl (g_ExprValid s1 (by unfold maxN; omega) _ _) ?_
  rintro _ _ _ _ ⟨rfl, rfl, rfl⟩
  refine o_done ?_
  refine s_cond rfl ?_ ?_
  · intro c1
    try simp only [nb] at c1
    refine s_seq ?_
    refine o_enter rfl ?_
    refine o_move rfl .free rfl ?_
    refine o_assign rfl .free rfl ?_
    refine o_done ?_
    refine s_ret (.tmp rfl .nil) ?_
    exact ⟨_, _, hle, fun w h => Mem.sub (L' := rd b oa l c _ :: L) (by repeat (first | exact List.Sublist.refl _ | apply List.Sublist.cons_cons | apply List.Sublist.cons)) h, _, _, rfl, by omega, by omega, by omega, rfl⟩
  intro c1
  try simp only [nb] at c1
  refine s_skip ?_
  refine s_seq ?_
  refine o_enter rfl ?_
  refine o_move rfl .free rfl ?_
  refine o_lits0 .free rfl ?_
  intro b23
  refine o_lits0 .free rfl ?_
  intro b24
  refine o_struct rfl rfl rfl .free rfl ?_
  refine o_move rfl .free rfl ?_
  refine o_mem (fun w h => Mem.sub (L' := rd b oa l c _ :: L) (by repeat (first | exact List.Sublist.refl _ | apply List.Sublist.cons_cons | apply List.Sublist.cons)) h) ?_
  refine o_call rfl .free rfl (g_l91Expr (d := 2) (by decide) h hl b _ (by omega) (sc_nil _ _ _) (by simp) _ (by first | omega | (simp; done) | decide) _) ?_
  rintro _ J2 _ e2 ⟨s2, p2, rfl, hs2, hp5, hp6, rfl⟩
  have hle := hle.trans e2
  refine o_assign rfl .free rfl ?_
  refine o_done ?_
  refine s_ret (.tmp rfl .nil) ?_
  exact ⟨_, _, hle, fun w h => Mem.sub (L' := rd b oa l c _ :: L) (by repeat (first | exact List.Sublist.refl _ | apply List.Sublist.cons_cons | apply List.Sublist.cons)) h, _, _, rfl, by omega, by omega, by omega, rfl⟩
theorem atoms_some {s : Txt} {l : List Txt} (h : atomsOf s = some l) : l ≠ [] ∧ (∀ x ∈ l, x.length ≤ 12000) ∧ l.length ≤ 12000 := by
  unfold atomsOf at h
  cases hp : parse s with
  | none => rw [hp] at h; cases h
  | some t =>
    rw [hp] at h
    simp only [Option.map_some, Option.some.injEq] at h
    subst h
    have h1 := (parse_len hp).2
    have h2 := parse_size hp
    refine ⟨addAll_ne (atomL_ne t), fun x hx => ?_, ?_⟩
    · rcases addAll_mem.1 hx with h3 | h3
      · cases h3
      · have := t.atom_len x h3; omega
    · have := addAll_len [] t.atomL
      rw [t.atomL_len] at this
      simp only [List.length_nil, Nat.zero_add] at this
      exact Nat.le_trans this h2
theorem g_l91Odd {I : Heap} {oa : Option Addr} {l : List UInt8} {c : Nat} (h : Bytes I oa l c) (hl : l.length ≤ 2000) (b p : Nat) (hp : p + 8000 ≤ 1099511627776) (L : Own) :
    Fun Try.prog 12 [.pointer (some ⟨b, 0, none⟩)] I (rd b oa l c p :: L) (DT b oa l c p 8000 400001 L) := by
  refine fun_intro (by simp) ?_
  refine s_seq ?_
  refine o_enter rfl ?_
  refine o_assign rfl .free rfl ?_
  refine o_done ?_
  refine s_seq ?_
  refine o_enter rfl ?_
  refine o_move rfl .free rfl ?_
  refine o_call rfl .free rfl (g_l91Good h hl b _ (by omega) _) ?_
  rintro _ J1 _ e1 ⟨s, p1, rfl, hs, hp1, hp2, rfl⟩
  have h := h.mono e1
  refine o_assign rfl .free rfl ?_
  refine o_done ?_
  refine s_seq ?_
  refine s_seq ?_
  refine o_enter rfl ?_
  refine o_move rfl .free rfl ?_
  refine o_call rfl .free rfl (g_l6Rd_pick h hl b _ 4 (by omega) (by decide) _) ?_
  rintro _ _ _ _ ⟨r, rfl, rfl, rfl, hr⟩
  refine o_cmp rfl rfl rfl .free rfl ?_
  refine o_done ?_
  refine s_cond rfl ?_ ?_
  · intro c0
    try simp only [nb] at c0
    refine s_seq ?_
    refine o_enter rfl ?_
    refine o_move rfl .free rfl ?_
    refine o_assign rfl .free rfl ?_
    refine o_done ?_
    refine s_ret (.tmp rfl .nil) ?_
    exact ⟨J1, _, e1, fun _ h => h, s, _, rfl, by omega, by omega, by omega, rfl⟩
  intro c0
  try simp only [nb] at c0
  refine s_skip ?_
  refine s_seq ?_
  refine o_enter rfl ?_
  refine o_move rfl .free rfl ?_
  refine o_call rfl .free rfl (g_FormAtoms s (by unfold maxL; omega) _ _) ?_
  rintro _ J2 _ e2 ⟨o1, k1, rfl, hat, rfl⟩
  have h := h.mono e2
  have hle := e1.trans e2
  refine o_move rfl .free rfl ?_
  refine o_extract rfl rfl .free rfl ?_
  refine o_extract rfl rfl .free rfl ?_
  refine o_assign rfl .free rfl ?_
  refine o_assign rfl .free rfl ?_
  refine o_done ?_
  refine s_seq ?_
  refine s_seq ?_
  refine o_enter rfl ?_
  refine o_move rfl .free rfl ?_
  refine o_not rfl .free rfl ?_
  refine o_done ?_
  refine s_cond rfl ?_ ?_
  · intro c1
    try simp only [nb] at c1
    refine s_seq ?_
    refine o_enter rfl ?_
    refine o_move rfl .free rfl ?_
    refine o_assign rfl .free rfl ?_
    refine o_done ?_
    refine s_ret (.tmp rfl .nil) ?_
    exact ⟨J2, _, hle, fun _ h => h, s, _, rfl, by omega, by omega, by omega, rfl⟩
  intro c1
  try simp only [nb] at c1
  obtain ⟨al, hal⟩ : ∃ al, atomsOf s = some al := Option.isSome_iff_exists.1 c1
  rw [hal] at hat ⊢
  simp only [Option.getD_some] at hat ⊢
  obtain ⟨ha1, ha2, ha3⟩ := atoms_some hal
  have hapos := List.length_pos_iff.2 ha1
  have hanil := hat.nil'
  refine s_skip ?_
  refine s_seq ?_
  refine s_here fun hlr => ?_
  refine d_tl 17 rfl rfl ?_
  refine d_takeA 0 rfl (by kernel_rfl) rfl (.inr heldx) (y_move rfl) .free rfl ?_
  refine d_takeA 1 rfl (by kernel_rfl) rfl (.inr heldx) (y_move rfl) .free rfl ?_
  refine d_takeA 2 rfl (by kernel_rfl) rfl (.inr heldx) (y_move rfl) .free rfl ?_
  refine d_takeA 3 rfl (by kernel_rfl) rfl (.inr heldx) (y_move rfl) .free rfl ?_
  refine d_takeA 4 rfl (by kernel_rfl) rfl (.inr heldx) (y_len_slice rfl) .free rfl ?_
  refine d_takeA 8 rfl (by kernel_rfl) rfl (.inr heldx) (y_move rfl) .free rfl ?_
  refine d_two 5 9 (by kernel_rfl) ?_ ?_
  · skip
    refine i_call 5 rfl rfl rfl .free rfl (g_l6Rd_pick h hl b _ al.length (by omega) (by omega) _) ?_
    rintro _ _ _ _ ⟨r2, rfl, rfl, rfl, hr2⟩
    have hr3 : r2 < al.length := by omega
    have hst := hat.st r2 hr3
    have hel : (al.getD r2 []).length ≤ 12000 := ha2 _ (by rw [show al.getD r2 [] = al[r2] by simp [hr3]]; exact List.getElem_mem _)
    refine ⟨(.inr heldx), ?_⟩
    first | refine d_takeA 6 rfl (by kernel_rfl) rfl (.inr heldx) (y_ixD rfl rfl _ rfl) .free rfl ?_ | refine d_takeA 6 rfl (by kernel_rfl) rfl (.inr heldx) (y_ixP rfl rfl _ rfl) .free rfl ?_
    refine d_take 7 [17] rfl (by kernel_rfl) rfl heldx (y_lI1 rfl) .free rfl ?_
    refine d_lits 9 rfl (by kernel_rfl) rfl rfl rfl (by rfl) (by rfl) (by rfl) (by decide) (by decide) (by rfl) .free rfl (.inr heldx) ?_
    intro b32
    refine d_freeze ?_
    intro hz
    have hk := strs_lit (I := J2) (b := b32) (e := 9) (l := [[97], [120], [49], [112, 97, 105, 114], [99, 97, 108, 108], [102, 115, 116], [105], [43], [40, 102, 115, 116, 32, 49, 41], [98, 55]]) (by decide) (by decide)
    have hlr := hlr.trans hz
    have h := h.mono hz
    have hat := hat.mono hz
    try have hst := hst.mono hz
    refine d_call 10 rfl (by kernel_rfl) rfl rfl .free rfl (g_l6Rd_of h hl b _ (by omega) hk (by simp) _) ?_
    rintro _ _ _ _ ⟨y, rfl, hy, rfl, rfl⟩
    have hyl : y.length ≤ 10 := by revert y; decide
    refine ⟨(.inr heldx), ?_⟩
    refine d_call 11 rfl (by kernel_rfl) rfl rfl .free rfl (g_FormReplace s (al.getD r2 []) y (by unfold maxL; omega) (by unfold maxL; omega) (by omega) _ _) ?_
    rintro _ J3 _ e3 ⟨rfl, rfl⟩
    have h := h.mono e3
    have hlr := hlr.trans e3
    have hol : ((replOf s (al.getD r2 []) y).getD []).length ≤ 12000 := by
      cases ho : replOf s (al.getD r2 []) y with
      | none => decide
      | some o => exact repl_out ho
    refine ⟨(.inr heldx), ?_⟩
    refine d_takeA 12 rfl (by kernel_rfl) rfl (.inr heldx) (y_move rfl) .free rfl ?_
    refine d_takeA 13 rfl (by kernel_rfl) rfl (.inr heldx) (y_extract rfl rfl) .free rfl ?_
    refine d_takeA 14 rfl (by kernel_rfl) rfl (.inr heldx) (y_extract rfl rfl) .free rfl ?_
    refine d_takeA 15 rfl (by kernel_rfl) rfl (.inr heldx) (y_assign rfl) .free rfl ?_
    refine d_takeA 16 rfl (by kernel_rfl) rfl (.inr heldx) (y_assign rfl) .free rfl ?_
    refine d_done (by kernel_rfl) ?_
    refine s_seq ?_
    refine s_seq ?_
    refine o_enter rfl ?_
    refine o_move rfl .free rfl ?_
    refine o_move rfl .free rfl ?_
    first | refine g_if rfl rfl ?_ ?_ | refine g_ifn rfl rfl ?_ ?_ | refine g_b rfl rfl ?_ ?_
    · intro g8_2
      refine o_move rfl (.met rfl rfl) rfl ?_
      refine o_call rfl (.met rfl rfl) rfl (g_l6Rd_pick h hl b _ 8 (by omega) (by decide) _) ?_
      rintro _ _ _ _ ⟨r4, rfl, rfl, rfl, hr4⟩
      refine o_cmp rfl rfl rfl (.met rfl rfl) rfl ?_
      refine o_pick_true rfl rfl .free rfl ?_
      refine o_done ?_
      refine s_cond rfl ?_ ?_
      · intro c2
        try simp only [nb] at c2
        refine s_seq ?_
        refine o_enter rfl ?_
        refine o_move rfl .free rfl ?_
        refine o_assign rfl .free rfl ?_
        refine o_done ?_
        refine s_ret (.tmp rfl .nil) ?_
        exact ⟨J3, _, hle.trans hlr, fun _ h => h, _, _, rfl, by omega, by omega, by omega, rfl⟩
      intro c2
      try simp only [nb] at c2
      refine s_skip ?_
      refine s_seq ?_
      refine o_enter rfl ?_
      refine o_move rfl .free rfl ?_
      refine o_move rfl .free rfl ?_
      refine o_lits rfl rfl (by rfl) (by rfl) (by rfl) (by decide) (by decide) (by rfl) .free rfl ?_
      intro b46
      refine o_freezeLit [[], [32], [41]] (by decide) (by decide) ?_
      intro J5 e5 k5
      refine o_call rfl .free rfl (g_l6Rd_of (h.mono e5) hl b _ (by omega) k5 (by simp) _) ?_
      rintro _ _ _ _ ⟨z, rfl, hz, rfl, rfl⟩
      have hzl : z.length ≤ 1 := by revert z; decide
      refine o_concat rfl rfl (by first | omega | (simp only [List.length_append, List.length_cons, List.length_nil]; omega) | (simp; omega)) .free rfl ?_
      refine o_assign rfl .free rfl ?_
      refine o_done ?_
      refine s_ret (.tmp rfl .nil) ?_
      exact ⟨J5, _, (hle.trans hlr).trans e5, fun _ h => h, _, _, rfl, (by first | omega | (simp only [List.length_append, List.length_cons, List.length_nil]; omega) | (simp; omega)), by omega, by omega, rfl⟩
    intro g8_2
    iterate 3 refine o_skip rfl rfl rfl ?_
    refine o_pick_false rfl rfl .free rfl ?_
    refine o_done ?_
    refine s_false rfl ?_
    refine s_skip ?_
    refine s_seq ?_
    refine o_enter rfl ?_
    refine o_move rfl .free rfl ?_
    refine o_move rfl .free rfl ?_
    refine o_lits rfl rfl (by rfl) (by rfl) (by rfl) (by decide) (by decide) (by rfl) .free rfl ?_
    intro b46
    refine o_freezeLit [[], [32], [41]] (by decide) (by decide) ?_
    intro J5 e5 k5
    refine o_call rfl .free rfl (g_l6Rd_of (h.mono e5) hl b _ (by omega) k5 (by simp) _) ?_
    rintro _ _ _ _ ⟨z, rfl, hz, rfl, rfl⟩
    have hzl : z.length ≤ 1 := by revert z; decide
    refine o_concat rfl rfl (by first | omega | (simp only [List.length_append, List.length_cons, List.length_nil]; omega) | (simp; omega)) .free rfl ?_
    refine o_assign rfl .free rfl ?_
    refine o_done ?_
    refine s_ret (.tmp rfl .nil) ?_
    exact ⟨J5, _, (hle.trans hlr).trans e5, fun _ h => h, _, _, rfl, (by first | omega | (simp only [List.length_append, List.length_cons, List.length_nil]; omega) | (simp; omega)), by omega, by omega, rfl⟩
  · skip
    refine i_lits 9 rfl rfl rfl rfl (by rfl) (by rfl) (by rfl) (by decide) (by decide) (by rfl) .free rfl (.inr heldx) ?_
    intro b32
    refine d_freeze ?_
    intro hz
    have hk := strs_lit (I := J2) (b := b32) (e := 9) (l := [[97], [120], [49], [112, 97, 105, 114], [99, 97, 108, 108], [102, 115, 116], [105], [43], [40, 102, 115, 116, 32, 49, 41], [98, 55]]) (by decide) (by decide)
    have hlr := hlr.trans hz
    have h := h.mono hz
    have hat := hat.mono hz
    try have hst := hst.mono hz
    refine d_call 5 rfl (by kernel_rfl) rfl rfl .free rfl (g_l6Rd_pick h hl b _ al.length (by omega) (by omega) _) ?_
    rintro _ _ _ _ ⟨r2, rfl, rfl, rfl, hr2⟩
    have hr3 : r2 < al.length := by omega
    have hst := hat.st r2 hr3
    have hel : (al.getD r2 []).length ≤ 12000 := ha2 _ (by rw [show al.getD r2 [] = al[r2] by simp [hr3]]; exact List.getElem_mem _)
    refine ⟨(.inr heldx), ?_⟩
    first | refine d_takeA 6 rfl (by kernel_rfl) rfl (.inr heldx) (y_ixD rfl rfl _ rfl) .free rfl ?_ | refine d_takeA 6 rfl (by kernel_rfl) rfl (.inr heldx) (y_ixP rfl rfl _ rfl) .free rfl ?_
    refine d_take 7 [17] rfl (by kernel_rfl) rfl heldx (y_lI1 rfl) .free rfl ?_
    refine d_call 10 rfl (by kernel_rfl) rfl rfl .free rfl (g_l6Rd_of h hl b _ (by omega) hk (by simp) _) ?_
    rintro _ _ _ _ ⟨y, rfl, hy, rfl, rfl⟩
    have hyl : y.length ≤ 10 := by revert y; decide
    refine ⟨(.inr heldx), ?_⟩
    refine d_call 11 rfl (by kernel_rfl) rfl rfl .free rfl (g_FormReplace s (al.getD r2 []) y (by unfold maxL; omega) (by unfold maxL; omega) (by omega) _ _) ?_
    rintro _ J3 _ e3 ⟨rfl, rfl⟩
    have h := h.mono e3
    have hlr := hlr.trans e3
    have hol : ((replOf s (al.getD r2 []) y).getD []).length ≤ 12000 := by
      cases ho : replOf s (al.getD r2 []) y with
      | none => decide
      | some o => exact repl_out ho
    refine ⟨(.inr heldx), ?_⟩
    refine d_takeA 12 rfl (by kernel_rfl) rfl (.inr heldx) (y_move rfl) .free rfl ?_
    refine d_takeA 13 rfl (by kernel_rfl) rfl (.inr heldx) (y_extract rfl rfl) .free rfl ?_
    refine d_takeA 14 rfl (by kernel_rfl) rfl (.inr heldx) (y_extract rfl rfl) .free rfl ?_
    refine d_takeA 15 rfl (by kernel_rfl) rfl (.inr heldx) (y_assign rfl) .free rfl ?_
    refine d_takeA 16 rfl (by kernel_rfl) rfl (.inr heldx) (y_assign rfl) .free rfl ?_
    refine d_done (by kernel_rfl) ?_
    refine s_seq ?_
    refine s_seq ?_
    refine o_enter rfl ?_
    refine o_move rfl .free rfl ?_
    refine o_move rfl .free rfl ?_
    first | refine g_if rfl rfl ?_ ?_ | refine g_ifn rfl rfl ?_ ?_ | refine g_b rfl rfl ?_ ?_
    · intro g8_2
      refine o_move rfl (.met rfl rfl) rfl ?_
      refine o_call rfl (.met rfl rfl) rfl (g_l6Rd_pick h hl b _ 8 (by omega) (by decide) _) ?_
      rintro _ _ _ _ ⟨r4, rfl, rfl, rfl, hr4⟩
      refine o_cmp rfl rfl rfl (.met rfl rfl) rfl ?_
      refine o_pick_true rfl rfl .free rfl ?_
      refine o_done ?_
      refine s_cond rfl ?_ ?_
      · intro c2
        try simp only [nb] at c2
        refine s_seq ?_
        refine o_enter rfl ?_
        refine o_move rfl .free rfl ?_
        refine o_assign rfl .free rfl ?_
        refine o_done ?_
        refine s_ret (.tmp rfl .nil) ?_
        exact ⟨J3, _, hle.trans hlr, fun _ h => h, _, _, rfl, by omega, by omega, by omega, rfl⟩
      intro c2
      try simp only [nb] at c2
      refine s_skip ?_
      refine s_seq ?_
      refine o_enter rfl ?_
      refine o_move rfl .free rfl ?_
      refine o_move rfl .free rfl ?_
      refine o_lits rfl rfl (by rfl) (by rfl) (by rfl) (by decide) (by decide) (by rfl) .free rfl ?_
      intro b46
      refine o_freezeLit [[], [32], [41]] (by decide) (by decide) ?_
      intro J5 e5 k5
      refine o_call rfl .free rfl (g_l6Rd_of (h.mono e5) hl b _ (by omega) k5 (by simp) _) ?_
      rintro _ _ _ _ ⟨z, rfl, hz, rfl, rfl⟩
      have hzl : z.length ≤ 1 := by revert z; decide
      refine o_concat rfl rfl (by first | omega | (simp only [List.length_append, List.length_cons, List.length_nil]; omega) | (simp; omega)) .free rfl ?_
      refine o_assign rfl .free rfl ?_
      refine o_done ?_
      refine s_ret (.tmp rfl .nil) ?_
      exact ⟨J5, _, (hle.trans hlr).trans e5, fun _ h => h, _, _, rfl, (by first | omega | (simp only [List.length_append, List.length_cons, List.length_nil]; omega) | (simp; omega)), by omega, by omega, rfl⟩
    intro g8_2
    iterate 3 refine o_skip rfl rfl rfl ?_
    refine o_pick_false rfl rfl .free rfl ?_
    refine o_done ?_
    refine s_false rfl ?_
    refine s_skip ?_
    refine s_seq ?_
    refine o_enter rfl ?_
    refine o_move rfl .free rfl ?_
    refine o_move rfl .free rfl ?_
    refine o_lits rfl rfl (by rfl) (by rfl) (by rfl) (by decide) (by decide) (by rfl) .free rfl ?_
    intro b46
    refine o_freezeLit [[], [32], [41]] (by decide) (by decide) ?_
    intro J5 e5 k5
    refine o_call rfl .free rfl (g_l6Rd_of (h.mono e5) hl b _ (by omega) k5 (by simp) _) ?_
    rintro _ _ _ _ ⟨z, rfl, hz, rfl, rfl⟩
    have hzl : z.length ≤ 1 := by revert z; decide
    refine o_concat rfl rfl (by first | omega | (simp only [List.length_append, List.length_cons, List.length_nil]; omega) | (simp; omega)) .free rfl ?_
    refine o_assign rfl .free rfl ?_
    refine o_done ?_
    refine s_ret (.tmp rfl .nil) ?_
    exact ⟨J5, _, (hle.trans hlr).trans e5, fun _ h => h, _, _, rfl, (by first | omega | (simp only [List.length_append, List.length_cons, List.length_nil]; omega) | (simp; omega)), by omega, by omega, rfl⟩
end Go.Proofs.Ytfnjdgmfjblppaa


/- Drawn expressions of the statements. No conditions. -/
namespace Go.Proofs.Ytfnjdgmfjblppaa
set_option maxRecDepth 100000
set_option linter.unusedVariables false
set_option linter.unusedSimpArgs false

def DX (L : Own) : Post := fun v I' L' => ∃ s, v = .string (str s) ∧ List.length s ≤ 400001 ∧ L = L'
theorem g_DrawExprKids {I : Heap} {oa : Option Addr} {l : List UInt8} {c : Nat} (h : Bytes I oa l c) (L : Own) : Fun Try.prog 4 [.slice oa l.length c] I L (DX L) := by
  refine fun_intro (by simp) ?_
  refine s_seq ?_
  refine o_enter rfl ?_
  refine o_assign rfl .free rfl ?_
  refine o_done ?_
  refine s_seq ?_
  refine o_enter rfl ?_
  refine o_move rfl .free rfl ?_
  refine o_call rfl .free rfl (g_l6Open h _) ?_
  rintro _ J1 _ e1 ⟨b, oa1, l1, c1, rfl, h1, hl1, rfl⟩
  refine o_call rfl .free rfl (g_l91Odd h1 hl1 b 0 (by decide) L) ?_
  rintro _ J2 _ e2 ⟨s, p', rfl, hs, hp1, hp2, rfl⟩
  refine o_assign rfl .free rfl ?_
  refine o_done ?_
  refine s_ret (.tmp rfl .nil) ?_
  exact ⟨J2, L, e1.trans e2, fun _ h => h.drop, s, rfl, hs, rfl⟩
end Go.Proofs.Ytfnjdgmfjblppaa


/- Parts of expressions are expressions; what is counted and put. No conditions. -/
namespace Go.Proofs.Ytfnjdgmfjblppaa
set_option maxRecDepth 100000
set_option linter.unusedVariables false
set_option linter.unusedSimpArgs false

theorem depthL_mem : ∀ {ps : List Tree} {p : Tree}, p ∈ ps → p.depth ≤ depthL ps
  | q :: ps, p, h => by
    simp only [depthL]
    rcases List.mem_cons.1 h with rfl | h
    · omega
    · have := depthL_mem h; omega
theorem pt_depth {t : Tree} {i : Nat} (hi : i < t.parts.length) : (t.pt i).depth + 1 ≤ t.depth := by
  rw [Tree.pt_at hi, t.depth_eq (by intro e; rw [e] at hi; simp at hi)]
  have := depthL_mem (List.getElem_mem hi); omega
theorem sub_index {e a : Ex} (h : a ∈ e.sub) : ∃ i, i < e.tree.parts.length ∧ e.tree.pt i = a.tree := by
  obtain ⟨j, hj, rfl⟩ := List.mem_iff_getElem.1 h
  have hkl := sub_len e
  have hkm : (kids e.tree).getD j 0 ∈ kids e.tree := by
    rw [show (kids e.tree).getD j 0 = (kids e.tree)[j]'(by omega) by simp [show j < (kids e.tree).length by omega]]; exact List.getElem_mem _
  exact ⟨_, (kids_lt hkm).1, sub_pt e j hj⟩
theorem sub_fine {e a : Ex} (h : a ∈ e.sub) (hf : e.fine = true) : a.fine = true ∧ a.size + 1 ≤ e.size := by
  obtain ⟨i, hi, hp⟩ := sub_index h
  obtain ⟨h1, h2, h3⟩ := sub_facts h
  have h4 := pt_depth hi
  have h5 := e.tree.pt_len i hi
  rw [hp] at h4 h5
  simp only [Ex.fine, Bool.and_eq_true, decide_eq_true_eq, Tree.fits] at hf ⊢
  exact ⟨⟨⟨h3 hf.1.1, by omega⟩, by omega, by omega⟩, h2⟩
theorem exOf_fine {e : Ex} (h : e.fine = true) : exOf e.tree.text = some e := by
  have hok : e.ok = true := by simp only [Ex.fine, Bool.and_eq_true] at h; exact h.1.1
  rw [exOf_text hok, if_pos h]
theorem exOf_is {s : Txt} {e : Ex} (h : exOf s = some e) : e.fine = true ∧ e.ok = true ∧ e.size ≤ 120 ∧ e.tree.len ≤ 12000 ∧ s = e.tree.text := by
  obtain ⟨_, h2, h3⟩ := exOf_some h
  have h4 := h2
  simp only [Ex.fine, Bool.and_eq_true, Tree.fits, decide_eq_true_eq] at h4
  exact ⟨h2, h4.1.1, h4.1.2, h4.2.2, h3⟩
/-- How many expressions an expression and its parts are. -/
def Ex.many : Ex → Nat
  | .num _ => 1
  | .name _ => 1
  | .bin _ a b => 1 + a.many + b.many
  | .ite a b c => 1 + a.many + b.many + c.many
  | .lt _ a b => 1 + a.many + b.many
  | .fn _ _ _ _ b => 1 + b.many
  | .un _ a => 1 + a.many
theorem Ex.many_pos (e : Ex) : 1 ≤ e.many := by cases e <;> simp [Ex.many] <;> omega
theorem Ex.many_size : ∀ e : Ex, e.many ≤ e.size
  | .num _ => Nat.le_refl _
  | .name _ => Nat.le_refl _
  | .bin _ a b => by have := a.many_size; have := b.many_size; simp only [Ex.many, Ex.size]; omega
  | .ite a b c => by have := a.many_size; have := b.many_size; have := c.many_size; simp only [Ex.many, Ex.size]; omega
  | .lt _ a b => by have := a.many_size; have := b.many_size; simp only [Ex.many, Ex.size]; omega
  | .fn _ _ s t b => by have := b.many_size; simp only [Ex.many, Ex.size]; omega
  | .un _ a => by have := a.many_size; simp only [Ex.many, Ex.size]; omega
theorem Ex.many_sub (e : Ex) : e.many = 1 + (e.sub.map Ex.many).sum := by cases e <;> simp [Ex.many, Ex.sub] <;> omega
theorem Ex.many_subs (e : Ex) : 1 + e.sub.length ≤ e.many := by
  cases e with
  | num s => exact Nat.le_refl _
  | name s => exact Nat.le_refl _
  | bin o a b => have := a.many_pos; have := b.many_pos; simp only [Ex.many, Ex.sub, List.length_cons, List.length_nil]; omega
  | ite a b c => have := a.many_pos; have := b.many_pos; have := c.many_pos; simp only [Ex.many, Ex.sub, List.length_cons, List.length_nil]; omega
  | lt x a b => have := a.many_pos; have := b.many_pos; simp only [Ex.many, Ex.sub, List.length_cons, List.length_nil]; omega
  | fn f x s t b => have := b.many_pos; simp only [Ex.many, Ex.sub, List.length_cons, List.length_nil]; omega
  | un o a => have := a.many_pos; simp only [Ex.many, Ex.sub, List.length_cons, List.length_nil]; omega
/-- What does not stand free cannot be put. -/
theorem Ex.put_id : ∀ {e : Ex} {n : Txt} {v : Ex}, n ∉ e.occ [] → e.put n v = e
  | .num _, n, v, h => rfl
  | .name s, n, v, h => by
    simp only [Ex.occ, List.not_mem_nil, if_false, List.mem_singleton] at h
    simp only [Ex.put]; rw [if_neg (fun e => h e.symm)]
  | .bin o a b, n, v, h => by
    simp only [Ex.occ, List.mem_append, not_or] at h
    simp only [Ex.put, Ex.put_id h.1, Ex.put_id h.2]
  | .ite a b c, n, v, h => by
    simp only [Ex.occ, List.mem_append, not_or] at h
    simp only [Ex.put, Ex.put_id h.1.1, Ex.put_id h.1.2, Ex.put_id h.2]
  | .lt x a b, n, v, h => by
    simp only [Ex.occ, List.mem_append, not_or, List.nil_append] at h
    simp only [Ex.put, Ex.put_id h.1]
    by_cases hx : x = n
    · rw [if_pos hx]
    · rw [if_neg hx, Ex.put_id]
      intro hb; exact h.2 (Ex.occ_mem.2 ⟨hb, by simp only [List.mem_singleton]; exact fun e => hx e.symm⟩)
  | .fn f x s t b, n, v, h => by
    simp only [Ex.occ, List.nil_append] at h
    simp only [Ex.put]
    by_cases hx : f = n ∨ x = n
    · rw [if_pos hx]
    · rw [if_neg hx, Ex.put_id]
      intro hb; refine h (Ex.occ_mem.2 ⟨hb, ?_⟩)
      simp only [List.mem_cons, List.not_mem_nil, or_false]
      rintro (e | e)
      · exact hx (.inl e.symm)
      · exact hx (.inr e.symm)
  | .un o a, n, v, h => by
    simp only [Ex.occ] at h
    simp only [Ex.put, Ex.put_id h]
/-- What stands free stands free in a part. -/
theorem Ex.occ_sub {e : Ex} {x : Txt} (h : x ∈ e.occ []) : (∃ s, e = .name s) ∨ ∃ a ∈ e.sub, x ∈ a.occ [] := by
  cases e with
  | num s => cases h
  | name s => exact .inl ⟨s, rfl⟩
  | bin o a b =>
    simp only [Ex.occ, List.mem_append] at h
    rcases h with h | h
    · exact .inr ⟨a, .head _, h⟩
    · exact .inr ⟨b, .tail _ (.head _), h⟩
  | ite a b c =>
    simp only [Ex.occ, List.mem_append] at h
    rcases h with (h | h) | h
    · exact .inr ⟨a, .head _, h⟩
    · exact .inr ⟨b, .tail _ (.head _), h⟩
    · exact .inr ⟨c, .tail _ (.tail _ (.head _)), h⟩
  | lt y a b =>
    simp only [Ex.occ, List.mem_append, List.nil_append] at h
    rcases h with h | h
    · exact .inr ⟨a, .head _, h⟩
    · exact .inr ⟨b, .tail _ (.head _), (Ex.occ_mem.1 h).1⟩
  | fn f y s t b =>
    simp only [Ex.occ, List.nil_append] at h
    exact .inr ⟨b, .head _, (Ex.occ_mem.1 h).1⟩
  | un o a => exact .inr ⟨a, .head _, h⟩
/-- What an expression begins with. -/
def Ex.hd : Ex → Txt
  | .num _ => [110, 117, 109, 98, 101, 114]
  | .name _ => [110, 97, 109, 101]
  | e => e.tree.head
theorem Ex.hd_ne (e : Ex) : e.hd ≠ [] := by
  cases e with
  | num s => simp [Ex.hd]
  | name s => simp [Ex.hd]
  | bin o a b => exact o.txt_ne.2.2.2.2
  | un o a => exact o.txt_ne.2.2.2
  | ite a b c => exact (by decide : tIf ≠ [])
  | lt x a b => exact (by decide : tLet ≠ [])
  | fn f x s t b => exact (by decide : tFun ≠ [])
def headOf (s : Txt) : Txt := match exOf s with
  | some e => e.hd
  | none => []
def kidsOf (s : Txt) : Option (List Txt) := (exOf s).map fun e => e.sub.map fun a => a.tree.text
def manyOf (s : Txt) : Int := match exOf s with
  | some e => (e.many : Nat)
  | none => -1
def sizeOfT (s : Txt) : Int := match parse s with
  | some t => (t.size : Nat)
  | none => -1
theorem parse_ex {s : Txt} {e : Ex} (h : exOf s = some e) : parse s = some e.tree := (exOf_some h).1
theorem sizeOfT_ex {s : Txt} {e : Ex} (h : exOf s = some e) : sizeOfT s = (e.size : Nat) := by unfold sizeOfT; rw [parse_ex h]; simp [Ex.tree_size]
end Go.Proofs.Ytfnjdgmfjblppaa


/- An expression put for a name. No conditions. -/
namespace Go.Proofs.Ytfnjdgmfjblppaa
set_option maxRecDepth 100000
set_option linter.unusedVariables false
set_option linter.unusedSimpArgs false

end Go.Proofs.Ytfnjdgmfjblppaa


/- 'ExprPut', by the program and by the reference. No conditions. -/
namespace Go.Proofs.Ytfnjdgmfjblppaa
set_option maxRecDepth 100000
set_option linter.unusedVariables false
set_option linter.unusedSimpArgs false

theorem bin_len (o : B5) (a b : Ex) : (Ex.bin o a b).tree.len = 4 + o.txt.length + a.tree.len + b.tree.len := by simp [Ex.tree, Tree.len, lenL]; omega
theorem ite_len (a b c : Ex) : (Ex.ite a b c).tree.len = 7 + a.tree.len + b.tree.len + c.tree.len := by simp [Ex.tree, Tree.len, lenL, tIf]; omega
theorem un_len (o : U2) (a : Ex) : (Ex.un o a).tree.len = 3 + o.txt.length + a.tree.len := by simp [Ex.tree, Tree.len, lenL]; omega
theorem fn_len (f x : Txt) (s t : Ty) (b : Ex) : (Ex.fn f x s t b).tree.len = 10 + f.length + x.length + s.tree.len + t.tree.len + b.tree.len := by simp [Ex.tree, Tree.len, lenL, tFun]; omega
theorem Ex.put_len : ∀ (e : Ex) (n : Txt) (v : Ex), (e.put n v).tree.len ≤ e.tree.len + e.size * v.tree.len
  | .num s, n, v => by simp [Ex.put]
  | .name s, n, v => by simp only [Ex.put, Ex.size, Nat.one_mul]; split <;> omega
  | .bin o a b, n, v => by have := a.put_len n v; have := b.put_len n v; simp only [Ex.put, bin_len, Ex.size, Nat.add_mul]; omega
  | .ite a b c, n, v => by have := a.put_len n v; have := b.put_len n v; have := c.put_len n v; simp only [Ex.put, ite_len, Ex.size, Nat.add_mul]; omega
  | .lt x a b, n, v => by have := a.put_len n v; have := b.put_len n v; simp only [Ex.put, lt_len, Ex.size, Nat.add_mul]; split <;> omega
  | .fn f x s t b, n, v => by have := b.put_len n v; simp only [Ex.put, fn_len, Ex.size, Nat.add_mul]; split <;> omega
  | .un o a, n, v => by have := a.put_len n v; simp only [Ex.put, un_len, Ex.size, Nat.add_mul]; omega
theorem put_room {e v : Ex} {n : Txt} (he : e.size ≤ 120) (hl : e.tree.len ≤ 12000) (hv : v.tree.len ≤ 12000) : (e.put n v).tree.len ≤ 12000000 := by
  have h1 := e.put_len n v
  have h2 : e.size * v.tree.len ≤ 120 * 12000 := Nat.mul_le_mul he hv
  omega
/-- What 'ExprPut' returns. -/
def putOf (s nm by' : Txt) : Option Txt := match exOf s, closedOf by' with
  | some e, some v => if isName nm = true ∧ (e.put nm v).fine = true then some (e.put nm v).tree.text else none
  | _, _ => none
theorem putOf_none {s nm by' : Txt} (h : exOf s = none ∨ closedOf by' = none ∨ isName nm = false) : putOf s nm by' = none := by
  unfold putOf
  rcases h with h | h | h
  · rw [h]
  · rw [h]; cases exOf s <;> rfl
  · cases exOf s <;> cases closedOf by' <;> simp [h]
theorem putOf_some {s nm by' : Txt} {e v : Ex} (h : exOf s = some e) (h' : closedOf by' = some v) (hn : isName nm = true) : putOf s nm by' = if (e.put nm v).fine = true then some (e.put nm v).tree.text else none := by
  unfold putOf; rw [h, h']; simp [hn]

end Go.Proofs.Ytfnjdgmfjblppaa


/- What the statements say of closed expressions, of parts and of prints. No conditions. -/
namespace Go.Proofs.Ytfnjdgmfjblppaa
set_option maxRecDepth 100000
set_option linter.unusedVariables false
set_option linter.unusedSimpArgs false

theorem closed_nil {e : Ex} (h : e.closed = true) : e.occ [] = [] := by unfold Ex.closed at h; simpa using h
theorem closed_put {s n b : Txt} {e v : Ex} (h : closedOf s = some e) (hb : closedOf b = some v) (hn : isName n = true) : putOf s n b = some s := by
  obtain ⟨h1, h2, h3, h4, h5⟩ := closedOf_facts h
  have hf := exOf_is h1
  rw [putOf_some h1 hb hn, Ex.put_id (by rw [closed_nil h5]; simp), if_pos hf.1, ← hf.2.2.2.2]
theorem closed_free {s : Txt} {e : Ex} (h : closedOf s = some e) : freeOf s = some [] := by
  obtain ⟨h1, h2, h3, h4, h5⟩ := closedOf_facts h
  unfold freeOf
  rw [h1]
  have : e.free = [] := by unfold Ex.free; rw [closed_nil h5]; rfl
  simp [this]
theorem kids_fine {s : Txt} {ks : List Txt} (h : kidsOf s = some ks) {x : Txt} (hx : x ∈ ks) : ∃ e a, exOf s = some e ∧ a ∈ e.sub ∧ x = a.tree.text ∧ exOf x = some a ∧ a.size + 1 ≤ e.size ∧ a.fine = true := by
  unfold kidsOf at h
  cases he : exOf s with
  | none => rw [he] at h; cases h
  | some e =>
    rw [he] at h
    simp only [Option.map_some, Option.some.injEq] at h
    subst h
    obtain ⟨a, ha, rfl⟩ := List.mem_map.1 hx
    obtain ⟨h1, h2⟩ := sub_fine ha (exOf_is he).1
    exact ⟨e, a, rfl, ha, rfl, exOf_fine h1, h2, h1⟩
theorem kidsOf_some {s : Txt} {e : Ex} (h : exOf s = some e) : kidsOf s = some (e.sub.map fun a => a.tree.text) := by unfold kidsOf; rw [h]; rfl
theorem kidsOf_none {s : Txt} (h : exOf s = none) : kidsOf s = none := by unfold kidsOf; rw [h]; rfl
theorem freeOf_some {s : Txt} {e : Ex} (h : exOf s = some e) : freeOf s = some e.free := by unfold freeOf; rw [h]; rfl
theorem headOf_some {s : Txt} {e : Ex} (h : exOf s = some e) : headOf s = e.hd := by unfold headOf; rw [h]
theorem manyOf_some {s : Txt} {e : Ex} (h : exOf s = some e) : manyOf s = (e.many : Nat) := by unfold manyOf; rw [h]
/-- A name that stands free does so in a part, or the expression is that name. -/
theorem free_kid {e : Ex} {x : Txt} (h : x ∈ e.free) : e.hd = [110, 97, 109, 101] ∨ ∃ a ∈ e.sub, x ∈ a.free := by
  rcases Ex.occ_sub (Ex.free_mem.1 h) with ⟨s, rfl⟩ | ⟨a, h1, h2⟩
  · exact .inl rfl
  · exact .inr ⟨a, h1, Ex.free_mem.2 h2⟩
theorem valueOf_is {s : Txt} {e : Ex} (h : valueOf s = some e) : closedOf s = some e ∧ e.value = true := by
  unfold valueOf at h
  cases hc : closedOf s with
  | none => rw [hc] at h; cases h
  | some e' =>
    rw [hc] at h
    simp only at h
    split at h
    · cases h; exact ⟨rfl, by assumption⟩
    · cases h
theorem closed_sub {e a : Ex} (h : e.closed = true) (hb : ∀ x p q, e ≠ .lt x p q) (hf : ∀ f x s t b, e ≠ .fn f x s t b) (ha : a ∈ e.sub) : a.closed = true := by
  have h1 := closed_nil h
  have key : a.occ [] = [] := by
    cases e with
    | num s => cases ha
    | name s => cases ha
    | lt x p q => exact absurd rfl (hb x p q)
    | fn f x s t b => exact absurd rfl (hf f x s t b)
    | bin o p q =>
      simp only [Ex.occ, List.append_eq_nil_iff] at h1
      simp only [Ex.sub, List.mem_cons, List.not_mem_nil, or_false] at ha
      rcases ha with rfl | rfl
      · exact h1.1
      · exact h1.2
    | ite p q r =>
      simp only [Ex.occ, List.append_eq_nil_iff] at h1
      simp only [Ex.sub, List.mem_cons, List.not_mem_nil, or_false] at ha
      rcases ha with rfl | rfl | rfl
      · exact h1.1.1
      · exact h1.1.2
      · exact h1.2
    | un o p =>
      simp only [Ex.sub, List.mem_cons, List.not_mem_nil, or_false] at ha
      subst ha; exact h1
  unfold Ex.closed; rw [key]; rfl
/-- The print of a value, by its head. -/
theorem print_facts {s o : Txt} (h : printOf s = some o) : ∃ e, exOf s = some e ∧ s.length ≤ 12000 ∧
    ((e.hd = [110, 117, 109, 98, 101, 114] ∧ o = s) ∨ (e.hd = [102, 117, 110] ∧ o = [102, 117, 110]) ∨
     (∃ a b x y, e.hd = tPair ∧ e.sub = [a, b] ∧ printOf a.tree.text = some x ∧ printOf b.tree.text = some y ∧ o = [40, 112, 97, 105, 114, 32] ++ x ++ [32] ++ y ++ [41])) := by
  unfold printOf at h
  obtain ⟨e, hv, rfl⟩ := Option.map_eq_some_iff.1 h
  obtain ⟨hc, hval⟩ := valueOf_is hv
  obtain ⟨h1, h2, h3, h4, h5⟩ := closedOf_facts hc
  have hs := (exOf_is h1).2.2.2.2
  refine ⟨e, h1, by rw [hs, Tree.text_len]; exact h4, ?_⟩
  cases e with
  | num t => exact .inl ⟨rfl, hs.symm⟩
  | fn f x s t b => exact .inr (.inl ⟨rfl, rfl⟩)
  | bin o a b =>
    cases o with
    | pair =>
      simp only [Ex.value, Bool.and_eq_true] at hval
      have hfine := (exOf_is h1).1
      have sub : ∀ c, c ∈ (Ex.bin .pair a b).sub → c.value = true → printOf c.tree.text = some c.print.text := by
        intro c hm hcv
        have k1 := (sub_fine hm hfine).1
        have k2 := closed_sub h5 (by intros; intro h; cases h) (by intros; intro h; cases h) hm
        have k3 : closedOf c.tree.text = some c := by unfold closedOf; rw [exOf_fine k1]; simp [k2]
        unfold printOf valueOf
        rw [k3]; simp [hcv]
      exact .inr (.inr ⟨a, b, _, _, rfl, rfl, sub a (.head _) hval.1, sub b (.tail _ (.head _)) hval.2, pair_text a.print b.print⟩)
    | _ => cases hval
  | _ => cases hval
end Go.Proofs.Ytfnjdgmfjblppaa


/- Parts, sizes and heads of expressions, by the program and by the reference. No conditions. -/
namespace Go.Proofs.Ytfnjdgmfjblppaa
set_option maxRecDepth 100000
set_option linter.unusedVariables false
set_option linter.unusedSimpArgs false

theorem rep_is {I : Heap} {t u : Tree} {cs : List Value} (h : Rep I t cs) (e : t = u) : Rep I u cs := e ▸ h
/-- What a loop over the kids has gathered. -/
structure GK where
  i : Nat
  B : Buf
  c : Nat
def Ex.ks (e : Ex) : List Txt := e.sub.map fun a => a.tree.text
theorem Ex.ks_len (e : Ex) : e.ks.length = e.sub.length := by simp [Ex.ks]
theorem Ex.ks_sv {e : Ex} {i : Nat} (hi : i < e.sub.length) : (e.ks.take i).map sv ++ [sv e.sub[i].tree.text] = (e.ks.take (i + 1)).map sv := by
  rw [List.take_succ_eq_append_getElem (by rw [e.ks_len]; exact hi)]
  simp [Ex.ks]
theorem Ex.ks_each {e : Ex} (hl : e.tree.len ≤ 12000) : ∀ s ∈ e.ks, s.length ≤ maxN := by
  intro s hs
  obtain ⟨a, ha, rfl⟩ := List.mem_map.1 hs
  obtain ⟨i, hi, hp⟩ := sub_index ha
  have := e.tree.pt_len i hi
  rw [hp] at this
  rw [Tree.text_len]; unfold maxN; omega
theorem kid_mem {e : Ex} {j : Nat} (hj : j < e.sub.length) : (kids e.tree).getD j 0 ∈ kids e.tree := by
  have hkl := sub_len e
  rw [show (kids e.tree).getD j 0 = (kids e.tree)[j]'(by omega) by simp [show j < (kids e.tree).length by omega]]; exact List.getElem_mem _
theorem f_ExprKids (s : Txt) (hs : s.length ≤ maxN) (I : Heap) (L : Own) : Fun Try.prog 5 [.string (str s)] I L (EF (kidsOf s) L) := by
  refine fun_intro (by simp) ?_
  refine s_seq ?_
  refine o_enter rfl ?_
  refine o_assign rfl .free rfl ?_
  refine o_assign rfl .free rfl ?_
  refine o_done ?_
  refine s_seq ?_
  refine o_enter rfl ?_
  refine o_move rfl .free rfl ?_
  refine o_call rfl .free rfl (f_readExpr s hs _ _) ?_
  rintro _ J _ hleJ ⟨t, cs, ok, rfl, hrep, rfl, hpf⟩
  obtain ⟨oc, cc, oaf, cf, rfl, hf⟩ := hrep.at'
  refine o_move rfl .free rfl ?_
  refine o_extract rfl rfl .free rfl ?_
  refine o_extract rfl rfl .free rfl ?_
  refine o_alloc .free rfl ?_
  intro b4
  refine o_st rfl rfl rfl rfl .free ?_
  refine o_assign rfl .free rfl ?_
  refine o_done ?_
  refine s_seq ?_
  refine s_seq ?_
  refine o_enter rfl ?_
  refine o_move rfl .free rfl ?_
  refine o_not rfl .free rfl ?_
  refine o_done ?_
  refine s_cond rfl ?_ ?_
  · intro c0
    try simp only [nb] at c0
    refine s_seq ?_
    refine o_enter rfl ?_
    refine o_assign rfl .free rfl ?_
    refine o_assign rfl .free rfl ?_
    refine o_done ?_
    refine s_ret (.tmp rfl (.tmp rfl .nil)) ?_
    exact ⟨J, L, hleJ, (by intro _ h; first | exact h | exact dr1 h | exact dr2 h | exact dr3 h | exact dr4 h | exact dr5 h | exact dr6 h | exact dr6 h.drop | exact dr6 h.drop.drop | exact dr6 h.drop.drop.drop), none, 0, by rw [kidsOf_none (RX_none hpf c0)]; rfl, by rw [kidsOf_none (RX_none hpf c0)]; exact strs_nil _, rfl⟩
  intro c0
  try simp only [nb] at c0
  obtain ⟨e, he, rfl, hok, hlen, hfine, htxt⟩ := RX_some hpf c0
  have hkl := sub_len e
  have hks := e.ks_len
  have hn3 : e.sub.length ≤ 3 := by cases e <;> simp [Ex.sub]
  have hko : kidsOf s = some e.ks := kidsOf_some he
  refine s_skip ?_
  refine s_seq ?_
  refine o_enter rfl ?_
  refine o_assign rfl .free rfl ?_
  refine o_done ?_
  refine s_seq ?_
  refine s_seq ?_
  refine o_enter rfl ?_
  refine o_lOS rfl .free rfl ?_
  refine o_call rfl .free rfl (f_form_kids hf.rep _) ?_
  rintro _ J2 _ e2 ⟨okk, ck, rfl, hk, rfl⟩
  have hf := hf.mono e2
  refine o_len_slice rfl .free rfl ?_
  refine o_move rfl .free rfl ?_
  refine o_done ?_
  refine s_block ?_
  refine s_while (X := GK) (fun x => e.sub.length - x.i) (fun x => [(4, .pointer (some ⟨b4, 0, none⟩)), (6, bufVal x.i x.c x.B), (17, .slice okk (kids e.tree).length ck), (18, .int .i64 ((kids e.tree).length : Nat)), (19, .int .i64 (x.i : Nat))]) (fun _ => J2) (fun x => (b4, .cells [.string (str e.tree.atom), .slice oc e.tree.parts.length cc].toArray 37 (0, 0)) :: (bufOwn 9 ((e.ks.take x.i).map sv) x.B ++ L)) (fun x => x.i ≤ e.sub.length ∧ BufOk 1 x.i x.c ((e.ks.take x.i).map sv) x.B) ⟨0, none, 0⟩ ⟨Nat.zero_le _, rfl, rfl, rfl⟩ ⟨rfl, rfl, rfl, rfl, rfl, trivial⟩ (by intro _ h; exact h) ?_
  rintro ⟨i, B, c⟩ ⟨hi, hB⟩ ih
  simp only at hi hB ih ⊢
  refine s_seq ?_
  refine o_enter rfl ?_
  refine o_cmp rfl rfl rfl .free rfl ?_
  refine o_done ?_
  refine s_seq ?_
  refine s_cond rfl ?_ ?_
  · intro c1
    try simp only [nb] at c1
    have hi1 : i < e.sub.length := by omega
    have hkm := kid_mem hi1
    have hkt := (kids_lt hkm).1
    have hspt := sub_pt e i hi1
    have hel := Ex.ks_each hlen (e.sub[i].tree.text) (List.mem_map.2 ⟨_, List.getElem_mem hi1, rfl⟩)
    refine s_skip ?_
    refine s_seq ?_
    refine s_block ?_
    refine s_seq ?_
    refine o_enter rfl ?_
    first | refine o_ixD rfl rfl _ rfl .free rfl ?_ | refine o_ixP rfl rfl _ rfl .free rfl ?_
    refine o_lI1 rfl .free rfl ?_
    refine o_assign rfl .free rfl ?_
    refine o_done ?_
    refine o_enter rfl ?_
    refine o_move rfl .free rfl ?_
    refine o_fieldAddr rfl .free rfl ?_
    refine o_lO1 rfl .free rfl ?_
    refine o_move rfl .free rfl ?_
    first | refine o_ixD rfl rfl _ rfl .free rfl ?_ | refine o_ixP rfl rfl _ rfl .free rfl ?_
    refine o_lIS rfl .free rfl ?_
    refine o_call rfl .free rfl (f_form_text (rep_is (hf.rp _ hkt) hspt) hel _) ?_
    rintro _ _ _ _ ⟨rfl, rfl, rfl⟩
    refine o_lits rfl rfl (by rfl) (by rfl) (by rfl) (by decide) (by decide) (by rfl) .free rfl ?_
    intro b30
    refine o_append (B := B) (xs := (e.ks.take i).map sv) (ys := [sv e.sub[i].tree.text]) (m := i) (c := c) (by intro kk; simp) (by rfl) rfl rfl hB (fun _ h => h.u2) (by rfl) (fun a ha => by cases ha; exact reads_ownL (.head _) (by rfl)) (by simp) (by rfl) (by decide) (by decide) (by omega) (by decide) .free rfl ?_
    intro bb sp c2 hB'
    rw [Ex.ks_sv hi1] at hB' ⊢
    refine o_assign rfl .free rfl ?_
    refine o_done ?_
    refine s_inBlock ?_
    refine o_enter rfl ?_
    refine o_arith rfl rfl rfl (by omega) .free rfl ?_
    refine o_move rfl .free rfl ?_
    refine o_done ?_
    refine s_mem (fun w hw => Mem.sub (L' := (b4, _) :: (bb, _) :: L) (by repeat (first | exact List.Sublist.refl _ | apply List.Sublist.cons_cons | apply List.Sublist.cons)) hw.f2) (s_env (E' := [(4, .pointer (some ⟨b4, 0, none⟩)), (6, bufVal (i + 1) c2 (some (bb, sp))), (17, .slice okk (kids e.tree).length ck), (18, .int .i64 ((kids e.tree).length : Nat)), (19, .int .i64 ((i + 1 : Nat)))]) ⟨rfl, rfl, rfl, rfl, rfl, trivial⟩ (ih ⟨i + 1, some (bb, sp), c2⟩ ⟨by simp only; omega, hB'⟩ (by simp only; omega)))
  intro c1
  try simp only [nb] at c1
  obtain rfl : i = e.sub.length := by omega
  rw [List.take_of_length_le (by omega)] at hB
  rw [List.take_of_length_le (by omega)]
  refine s_exit rfl ?_
  refine s_seq ?_
  refine o_enter rfl ?_
  refine o_move rfl .free rfl ?_
  refine o_assign rfl .free rfl ?_
  refine o_assign rfl .free rfl ?_
  refine o_done ?_
  refine s_mem (fun w h => h.u1) (s_freezeStrs hB hks.symm (by unfold maxN; omega) (Ex.ks_each hlen) ?_)
  intro J3 oz cz ez hbv hst
  refine s_put (t := 2) rfl hbv ?_
  refine s_ret (.tmp rfl (.tmp rfl .nil)) ?_
  exact ⟨J3, L, (hleJ.trans e2).trans ez, (by intro _ h; first | exact h | exact dr1 h | exact dr2 h | exact dr3 h | exact dr4 h | exact dr5 h | exact dr6 h | exact dr6 h.drop | exact dr6 h.drop.drop | exact dr6 h.drop.drop.drop), oz, cz, by rw [hko]; rfl, by rw [hko]; exact hst, rfl⟩
theorem g_ExprKids (s : Txt) (hs : s.length ≤ maxL) (I : Heap) (L : Own) : Fun Try.prog 6 [.string (str s)] I L (EF (kidsOf s) L) := by
  refine fun_intro (by simp) ?_
  refine s_seq ?_
  refine o_enter rfl ?_
  refine o_assign rfl .free rfl ?_
  refine o_assign rfl .free rfl ?_
  refine o_done ?_
  refine s_seq ?_
  refine o_enter rfl ?_
  refine o_move rfl .free rfl ?_
  refine o_call rfl .free rfl (g_l2Parse' s hs _ _) ?_
  rintro _ J _ hleJ ⟨t, cs, ok, rfl, hrep, rfl, hpf⟩
  obtain ⟨oc, cc, oaf, cf, rfl, hf⟩ := hrep.at'
  refine o_move rfl .free rfl ?_
  refine o_extract rfl rfl .free rfl ?_
  refine o_extract rfl rfl .free rfl ?_
  refine o_alloc .free rfl ?_
  intro b4
  refine o_st rfl rfl rfl rfl .free ?_
  refine o_assign rfl .free rfl ?_
  refine o_done ?_
  refine s_seq ?_
  refine o_enter rfl ?_
  refine o_lits0 .free rfl ?_
  intro b15
  refine o_assign rfl .free rfl ?_
  refine o_done ?_
  refine s_seq ?_
  refine s_seq ?_
  refine o_enter rfl ?_
  refine o_move rfl .free rfl ?_
  refine o_not rfl .free rfl ?_
  refine o_move rfl .free rfl ?_
  apply o_or 18 22 rfl
  · intro g3_3 hk
    try simp only [nb] at g3_3
    refine o_fieldAddr rfl (.met rfl rfl) rfl ?_
    refine o_lO1 rfl (.met rfl rfl) rfl ?_
    refine o_cmps rfl rfl rfl (.met rfl rfl) rfl ?_
    refine o_pick_false rfl rfl .free rfl ?_
    exact o_fin 3 rfl rfl hk
  · intro _ hk
    refine o_skips 3 rfl ?_
    refine o_pick_true rfl rfl .free rfl ?_
    exact o_fin 3 rfl rfl hk
  refine o_done ?_
  refine s_cond rfl ?_ ?_
  · intro c0
    try simp only [nb] at c0
    refine s_seq ?_
    refine o_enter rfl ?_
    refine o_move rfl .free rfl ?_
    refine o_move rfl .free rfl ?_
    refine o_assign rfl .free rfl ?_
    refine o_assign rfl .free rfl ?_
    refine o_done ?_
    refine s_ret (.tmp rfl (.tmp rfl .nil)) ?_
    refine ⟨J, L, hleJ, (by intro _ h; first | exact h | exact dr1 h | exact dr2 h | exact dr3 h | exact dr4 h | exact dr5 h | exact dr6 h | exact dr6 h.drop | exact dr6 h.drop.drop | exact dr6 h.drop.drop.drop), ?_⟩
    have hz : (kidsOf s).getD [] = [] ∧ (kidsOf s).isSome = ok := by
      cases he : exOf s with
      | none =>
        rw [he] at hpf
        rw [kidsOf_none he, hpf]; exact ⟨rfl, rfl⟩
      | some e =>
        rw [he] at hpf
        obtain ⟨h1, rfl⟩ := hpf
        rcases c0 with h | h
        · rw [h1] at h; cases h
        · rw [kidsOf_some he, h1]
          refine ⟨?_, rfl⟩
          cases e <;> first | rfl | exact absurd rfl h
    rw [EF, hz.1, hz.2]
    exact ⟨_, _, rfl, strs_empty _ _, rfl⟩
  intro c0
  try simp only [nb] at c0
  obtain ⟨e, he, rfl, hok, hlen, hfine, htxt⟩ := RX_some hpf c0.1
  have hkl := sub_len e
  have hks := e.ks_len
  have hn3 : e.sub.length ≤ 3 := by cases e <;> simp [Ex.sub]
  have hko : kidsOf s = some e.ks := kidsOf_some he
  have hb : e.bare = false := (Ex.atom_iff hok).1 (by simpa using c0.2)
  have hpos : 0 < e.tree.parts.length := by
    rw [Ex.bare_parts] at hb
    have : e.tree.parts ≠ [] := by intro hh; rw [hh] at hb; cases hb
    exact List.length_pos_iff.2 this
  have hhd := head_at hpos
  obtain ⟨hfrom, hkj⟩ := kids_from e hb
  refine s_skip ?_
  refine s_seq ?_
  refine o_enter rfl ?_
  refine o_fieldAddr rfl .free rfl ?_
  refine o_lO1 rfl .free rfl ?_
  first | refine o_ixD rfl rfl 0 rfl .free rfl ?_ | refine o_ixP rfl rfl 0 rfl .free rfl ?_
  refine o_fieldAddr' rfl .free rfl ?_
  refine o_lIF rfl .free rfl ?_
  refine o_call rfl .free rfl (g_l2Kids (e.tree.pt 0).atom _ _) ?_
  rw [← hhd]; rintro _ _ _ _ ⟨rfl, rfl, rfl⟩
  refine o_move rfl .free rfl ?_
  refine o_extract rfl rfl .free rfl ?_
  refine o_extract rfl rfl .free rfl ?_
  refine o_assign rfl .free rfl ?_
  refine o_assign rfl .free rfl ?_
  refine o_done ?_
  refine s_seq ?_
  refine s_seq ?_
  refine o_enter rfl ?_
  refine o_move rfl .free rfl ?_
  refine o_assign rfl .free rfl ?_
  refine o_done ?_
  refine s_block ?_
  refine s_while (X := GK) (fun x => e.sub.length - x.i) (fun x => [(4, .pointer (some ⟨b4, 0, none⟩)), (6, bufVal x.i x.c x.B), (8, .int .i64 ((kidRange e.tree.head).2 : Nat)), (9, .int .i64 (((kidRange e.tree.head).1 + x.i : Nat)))]) (fun _ => J) (fun x => bufOwn 9 ((e.ks.take x.i).map sv) x.B ++ ((b4, .cells [.string (str e.tree.atom), .slice oc e.tree.parts.length cc].toArray 45 (0, 0)) :: L)) (fun x => x.i ≤ e.sub.length ∧ BufOk 1 x.i x.c ((e.ks.take x.i).map sv) x.B) ⟨0, some (b15, []), 0⟩ ⟨Nat.zero_le _, rfl, Nat.le_refl _, rfl⟩ ⟨rfl, rfl, rfl, rfl, trivial⟩ (by intro _ h; exact h) ?_
  rintro ⟨i, B, c⟩ ⟨hi, hB⟩ ih
  simp only at hi hB ih ⊢
  refine s_seq ?_
  refine s_seq ?_
  refine s_mem (fun w h => h.w1) ?_
  refine o_enter rfl ?_
  refine o_move rfl .free rfl ?_
  refine o_move rfl .free rfl ?_
  refine o_cmp rfl rfl rfl .free rfl ?_
  refine o_done ?_
  refine s_cond rfl ?_ ?_
  · intro c1
    try simp only [nb] at c1
    have hi1 : i < e.sub.length := by omega
    have hkm := kid_mem hi1
    have hkt := (kids_lt hkm).1
    have hspt := sub_pt e i hi1
    have hkj1 := hkj i hi1
    have hpl := hf.len
    unfold maxN at hpl
    rw [← hkj1]
    have hg := (Ex.tree_good ((sub_facts (List.getElem_mem hi1)).2.2 hok)).1
    have hel0 : e.sub[i].tree.len ≤ 12000 := by
      have := e.tree.pt_len _ hkt
      rw [hspt] at this; omega
    refine s_skip ?_
    refine s_seq ?_
    refine s_block ?_
    refine o_enter rfl ?_
    refine o_move rfl .free rfl ?_
    refine o_fieldAddr rfl .free rfl ?_
    refine o_lO1 rfl .free rfl ?_
    refine o_move rfl .free rfl ?_
    first | refine o_ixD rfl rfl _ rfl .free rfl ?_ | refine o_ixP rfl rfl _ rfl .free rfl ?_
    refine o_lIS rfl .free rfl ?_
    refine o_call rfl .free rfl (g_l1Text _ (Nat.lt_succ_self _) (rep_is (hf.rp _ hkt) hspt) hg (by omega) _) ?_
    rintro _ _ _ _ ⟨rfl, rfl, rfl⟩
    refine o_lits rfl rfl (by rfl) (by rfl) (by rfl) (by decide) (by decide) (by rfl) .free rfl ?_
    intro b47
    refine o_append (B := B) (xs := (e.ks.take i).map sv) (ys := [sv e.sub[i].tree.text]) (m := i) (c := c) (by intro kk; simp) (by rfl) rfl rfl hB (fun _ h => h.u2) (by rfl) (fun a ha => by cases ha; exact reads_ownL (.head _) (by rfl)) (by simp) (by rfl) (by decide) (by decide) (by omega) (by decide) .free rfl ?_
    intro bb sp c2 hB'
    rw [Ex.ks_sv hi1] at hB' ⊢
    refine o_assign rfl .free rfl ?_
    refine o_done ?_
    refine s_inBlock ?_
    refine o_enter rfl ?_
    refine o_move rfl .free rfl ?_
    refine o_arith rfl rfl rfl (by omega) .free rfl ?_
    refine o_assign rfl .free rfl ?_
    refine o_done ?_
    refine s_mem (fun w hw => Mem.sub (L' := (bb, _) :: (b4, _) :: L) (by repeat (first | exact List.Sublist.refl _ | apply List.Sublist.cons_cons | apply List.Sublist.cons)) hw) (s_env (E' := [(4, .pointer (some ⟨b4, 0, none⟩)), (6, bufVal (i + 1) c2 (some (bb, sp))), (8, .int .i64 ((kidRange e.tree.head).2 : Nat)), (9, .int .i64 (((kidRange e.tree.head).1 + (i + 1) : Nat)))]) ⟨rfl, rfl, rfl, by rw [hkj1]; rfl, trivial⟩ (ih ⟨i + 1, some (bb, sp), c2⟩ ⟨by simp only; omega, hB'⟩ (by simp only; omega)))
  intro c1
  try simp only [nb] at c1
  obtain rfl : i = e.sub.length := by omega
  rw [List.take_of_length_le (by omega)] at hB
  rw [List.take_of_length_le (by omega)]
  refine s_exit rfl ?_
  refine s_seq ?_
  refine o_enter rfl ?_
  refine o_move rfl .free rfl ?_
  refine o_assign rfl .free rfl ?_
  refine o_assign rfl .free rfl ?_
  refine o_done ?_
  refine s_mem (fun w h => h.u1) (s_freezeStrs hB hks.symm (by unfold maxN; omega) (Ex.ks_each hlen) ?_)
  intro J3 oz cz ez hbv hst
  refine s_put (t := 2) rfl hbv ?_
  refine s_ret (.tmp rfl (.tmp rfl .nil)) ?_
  exact ⟨J3, L, hleJ.trans ez, (by intro _ h; first | exact h | exact dr1 h | exact dr2 h | exact dr3 h | exact dr4 h | exact dr5 h | exact dr6 h | exact dr6 h.drop | exact dr6 h.drop.drop | exact dr6 h.drop.drop.drop), oz, cz, by rw [hko]; rfl, by rw [hko]; exact hst, rfl⟩
theorem f_FormSize (s : Txt) (hs : s.length ≤ maxN) (I : Heap) (L : Own) : Fun Try.prog 9 [.string (str s)] I L (fun v I' L' => v = .int .i64 (sizeOfT s) ∧ L = L') := by
  refine fun_intro (by simp) ?_
  refine s_seq ?_
  refine o_enter rfl ?_
  refine o_assign rfl .free rfl ?_
  refine o_done ?_
  refine s_seq ?_
  refine o_enter rfl ?_
  refine o_move rfl .free rfl ?_
  refine o_call rfl .free rfl (f_read s hs _ _) ?_
  rintro _ J _ hleJ ⟨t, cs, ok, rfl, hrep, rfl, hpf⟩
  obtain ⟨oc, cc, _, rfl, -⟩ := hrep.open
  refine o_move rfl .free rfl ?_
  refine o_extract rfl rfl .free rfl ?_
  refine o_extract rfl rfl .free rfl ?_
  refine o_alloc .free rfl ?_
  intro b3
  refine o_st rfl rfl rfl rfl .free ?_
  refine o_assign rfl .free rfl ?_
  refine o_done ?_
  refine s_seq ?_
  refine s_seq ?_
  refine o_enter rfl ?_
  refine o_move rfl .free rfl ?_
  refine o_not rfl .free rfl ?_
  refine o_done ?_
  refine s_cond rfl ?_ ?_
  · intro c0
    try simp only [nb] at c0
    refine s_seq ?_
    refine o_enter rfl ?_
    refine o_assign rfl .free rfl ?_
    refine o_done ?_
    refine s_ret (.tmp rfl .nil) ?_
    refine ⟨J, L, hleJ, (by intro _ h; first | exact h | exact dr1 h | exact dr2 h | exact dr3 h | exact dr4 h | exact dr5 h | exact dr6 h | exact dr6 h.drop | exact dr6 h.drop.drop | exact dr6 h.drop.drop.drop), ?_, rfl⟩
    have : parse s = none := by
      cases hp : parse s with
      | none => rfl
      | some t0 => rw [hp] at hpf; rw [hpf.1] at c0; cases c0
    rw [sizeOfT, this]; rfl
  intro c0
  try simp only [nb] at c0
  have hps := RD_some hpf c0
  have hpz := parse_size hps
  refine s_skip ?_
  refine s_seq ?_
  refine o_enter rfl ?_
  refine o_lOS rfl .free rfl ?_
  refine o_call rfl .free rfl (f_form_size _ (Nat.lt_succ_self _) hrep (by unfold maxN; omega) _) ?_
  rintro _ _ _ _ ⟨rfl, rfl, rfl⟩
  refine o_assign rfl .free rfl ?_
  refine o_done ?_
  refine s_ret (.tmp rfl .nil) ?_
  refine ⟨J, L, hleJ, (by intro _ h; first | exact h | exact dr1 h | exact dr2 h | exact dr3 h | exact dr4 h | exact dr5 h | exact dr6 h | exact dr6 h.drop | exact dr6 h.drop.drop | exact dr6 h.drop.drop.drop), ?_, rfl⟩
  rw [sizeOfT, hps]; rfl
theorem f_ExprHead (s : Txt) (hs : s.length ≤ maxN) (I : Heap) (L : Own) : Fun Try.prog 11 [.string (str s)] I L (fun v I' L' => v = .string (str (headOf s)) ∧ L = L') := by
  refine fun_intro (by simp) ?_
  refine s_seq ?_
  refine o_enter rfl ?_
  refine o_assign rfl .free rfl ?_
  refine o_done ?_
  refine s_seq ?_
  refine o_enter rfl ?_
  refine o_move rfl .free rfl ?_
  refine o_call rfl .free rfl (f_readExpr s hs _ _) ?_
  rintro _ J _ hleJ ⟨t, cs, ok, rfl, hrep, rfl, hpf⟩
  obtain ⟨oc, cc, oaf, cf, rfl, hf⟩ := hrep.at'
  refine o_move rfl .free rfl ?_
  refine o_extract rfl rfl .free rfl ?_
  refine o_extract rfl rfl .free rfl ?_
  refine o_alloc .free rfl ?_
  intro b3
  refine o_st rfl rfl rfl rfl .free ?_
  refine o_assign rfl .free rfl ?_
  refine o_done ?_
  refine s_seq ?_
  refine s_block ?_
  refine s_seq ?_
  refine o_enter rfl ?_
  refine o_move rfl .free rfl ?_
  refine o_not rfl .free rfl ?_
  refine o_assign rfl .free rfl ?_
  refine o_done ?_
  refine s_cond rfl ?_ ?_
  · intro c0
    try simp only [nb] at c0
    refine s_seq ?_
    refine o_enter rfl ?_
    refine o_assign rfl .free rfl ?_
    refine o_done ?_
    refine s_ret (.tmp rfl .nil) ?_
    refine ⟨J, L, hleJ, (by intro _ h; first | exact h | exact dr1 h | exact dr2 h | exact dr3 h | exact dr4 h | exact dr5 h | exact dr6 h | exact dr6 h.drop | exact dr6 h.drop.drop | exact dr6 h.drop.drop.drop), ?_, rfl⟩
    have : exOf s = none := RX_none hpf c0
    rw [headOf, this]; rfl
  intro c0
  try simp only [nb] at c0
  obtain ⟨e, he, rfl, hok, hlen, hfine, htxt⟩ := RX_some hpf c0
  have hhe := headOf_some he
  refine s_seq ?_
  refine o_enter rfl ?_
  refine o_lOS rfl .free rfl ?_
  refine o_call rfl .free rfl (f_form_isAtom hf.rep _) ?_
  rintro _ _ _ _ ⟨rfl, rfl, rfl⟩
  refine o_not rfl .free rfl ?_
  refine o_assign rfl .free rfl ?_
  refine o_done ?_
  refine s_cond rfl ?_ ?_
  · intro c1
    try simp only [nb] at c1
    refine s_seq ?_
    refine o_enter rfl ?_
    refine o_lOS rfl .free rfl ?_
    refine o_call rfl .free rfl (f_form_head hf.rep _) ?_
    rintro _ _ _ _ ⟨rfl, rfl, rfl⟩
    refine o_assign rfl .free rfl ?_
    refine o_done ?_
    refine s_ret (.tmp rfl .nil) ?_
    refine ⟨J, L, hleJ, (by intro _ h; first | exact h | exact dr1 h | exact dr2 h | exact dr3 h | exact dr4 h | exact dr5 h | exact dr6 h | exact dr6 h.drop | exact dr6 h.drop.drop | exact dr6 h.drop.drop.drop), ?_, rfl⟩
    rw [hhe]
    cases e <;> first | rfl | cases c1
  intro c1
  try simp only [nb] at c1
  refine s_seq ?_
  refine o_enter rfl ?_
  refine o_fieldAddr rfl .free rfl ?_
  refine o_lO1 rfl .free rfl ?_
  refine o_call rfl .free rfl (f_isName e.tree.atom (by have := e.tree.text_len; have := hf.rep.atom_le; exact this) _ _) ?_
  rintro _ _ _ _ ⟨rfl, rfl, rfl⟩
  refine o_assign rfl .free rfl ?_
  refine o_done ?_
  refine s_cond rfl ?_ ?_
  · intro c2
    try simp only [nb] at c2
    refine s_seq ?_
    refine o_enter rfl ?_
    refine o_assign rfl .free rfl ?_
    refine o_done ?_
    refine s_ret (.tmp rfl .nil) ?_
    refine ⟨J, L, hleJ, (by intro _ h; first | exact h | exact dr1 h | exact dr2 h | exact dr3 h | exact dr4 h | exact dr5 h | exact dr6 h | exact dr6 h.drop | exact dr6 h.drop.drop | exact dr6 h.drop.drop.drop), ?_, rfl⟩
    rw [hhe]
    cases e with
    | name t => rfl
    | num t =>
      have h1 : isName t = true := c2
      have h2 := name_not_num h1
      rw [show isNum t = true from hok] at h2; cases h2
    | _ => cases c1
  intro c2
  try simp only [nb] at c2
  refine s_skip ?_
  refine s_inBlock ?_
  refine s_seq ?_
  refine o_enter rfl ?_
  refine o_assign rfl .free rfl ?_
  refine o_done ?_
  refine s_ret (.tmp rfl .nil) ?_
  refine ⟨J, L, hleJ, (by intro _ h; first | exact h | exact dr1 h | exact dr2 h | exact dr3 h | exact dr4 h | exact dr5 h | exact dr6 h | exact dr6 h.drop | exact dr6 h.drop.drop | exact dr6 h.drop.drop.drop), ?_, rfl⟩
  rw [hhe]
  cases e with
  | num t => rfl
  | name t =>
    have h1 : isName t = true := hok
    rw [show isName (Ex.name t).tree.atom = isName t from rfl, h1] at c2; cases c2
  | _ => cases c1
theorem sum_take {l : List Ex} {i : Nat} (hi : i < l.length) : ((l.take (i + 1)).map Ex.many).sum = ((l.take i).map Ex.many).sum + l[i].many ∧ ((l.take (i + 1)).map Ex.many).sum ≤ (l.map Ex.many).sum := by
  constructor
  · rw [List.take_succ_eq_append_getElem hi, List.map_append, List.sum_append]; simp [-List.map_take]
  · have h := List.take_append_drop (i + 1) l
    have : (l.map Ex.many).sum = ((l.take (i + 1)).map Ex.many).sum + ((l.drop (i + 1)).map Ex.many).sum := by
      conv => lhs; rw [← h]
      rw [List.map_append, List.sum_append]
    omega
/-- How far a count has come. -/
structure GM where
  i : Nat
  J : Heap
theorem x_sameTexts {I : Heap} {oa ob : Option Addr} {l m : List Txt} {c c' : Nat} (h : Strs I oa l c) (h' : Strs I ob m c') (L : Own) :
    Fun Try.prog 7 [.slice oa l.length c, .slice ob m.length c'] I L (Only (.bool (decide (l = m))) I L) := by
  have hlen := h.len
  have hlen' := h'.len
  unfold maxN at hlen hlen'
  refine fun_intro (by simp) ?_
  refine s_seq ?_
  refine o_enter rfl ?_
  refine o_assign rfl .free rfl ?_
  refine o_done ?_
  refine s_seq ?_
  refine s_seq ?_
  refine o_enter rfl ?_
  refine o_move rfl .free rfl ?_
  refine o_len_slice rfl .free rfl ?_
  refine o_move rfl .free rfl ?_
  refine o_len_slice rfl .free rfl ?_
  refine o_cmp rfl rfl rfl .free rfl ?_
  refine o_done ?_
  refine s_cond rfl ?_ ?_
  · intro c0
    try simp only [nb] at c0
    refine s_seq ?_
    refine o_enter rfl ?_
    refine o_assign rfl .free rfl ?_
    refine o_done ?_
    refine s_ret (.tmp rfl .nil) ?_
    refine done_only rfl (by intro _ h; first | exact h | exact dr1 h | exact dr2 h | exact dr3 h | exact dr4 h | exact dr5 h | exact dr6 h | exact dr6 h.drop | exact dr6 h.drop.drop | exact dr6 h.drop.drop.drop) ?_
    have : l ≠ m := by rintro rfl; exact c0 rfl
    simp [retOne, this]
  intro c0
  try simp only [nb] at c0
  refine s_skip ?_
  refine s_seq ?_
  refine s_seq ?_
  refine o_enter rfl ?_
  refine o_assign rfl .free rfl ?_
  refine o_done ?_
  refine s_block ?_
  refine s_while (X := Nat) (fun i => l.length - i) (fun i => [(0, .slice oa l.length c), (1, .slice ob m.length c'), (5, .int .i64 (i : Nat))]) (fun _ => I) (fun _ => L) (fun i => i ≤ l.length ∧ l.take i = m.take i) 0 ⟨Nat.zero_le _, by simp⟩ ⟨rfl, rfl, rfl, trivial⟩ (fun _ h => h) ?_
  rintro i ⟨hi, hs⟩ ih
  have hlm : l.length = m.length := by omega
  refine s_seq ?_
  refine s_seq ?_
  refine o_enter rfl ?_
  refine o_move rfl .free rfl ?_
  refine o_move rfl .free rfl ?_
  refine o_len_slice rfl .free rfl ?_
  refine o_cmp rfl rfl rfl .free rfl ?_
  refine o_done ?_
  refine s_cond rfl ?_ ?_
  · intro c1
    try simp only [nb] at c1
    have hi1 : i < l.length := by omega
    have hi2 : i < m.length := by omega
    have hst1 := h.st i hi1
    have hst2 := h'.st i hi2
    refine s_skip ?_
    refine s_seq ?_
    refine s_block ?_
    refine s_seq ?_
    refine d_all 9 rfl rfl ?_
    refine d_takeA 0 rfl (by kernel_rfl) rfl (.inr heldx) (y_move rfl) .free rfl ?_
    refine d_takeA 1 rfl (by kernel_rfl) rfl (.inr heldx) (y_move rfl) .free rfl ?_
    first | refine d_takeA 2 rfl (by kernel_rfl) rfl (.inr heldx) (y_ixD rfl rfl _ rfl) .free rfl ?_ | refine d_takeA 2 rfl (by kernel_rfl) rfl (.inr heldx) (y_ixP rfl rfl _ rfl) .free rfl ?_
    refine d_take 3 [9] rfl (by kernel_rfl) rfl heldx (y_lI1 rfl) .free rfl ?_
    refine d_takeA 4 rfl (by kernel_rfl) rfl (.inr heldx) (y_move rfl) .free rfl ?_
    refine d_takeA 5 rfl (by kernel_rfl) rfl (.inr heldx) (y_move rfl) .free rfl ?_
    first | refine d_takeA 6 rfl (by kernel_rfl) rfl (.inr heldx) (y_ixD rfl rfl _ rfl) .free rfl ?_ | refine d_takeA 6 rfl (by kernel_rfl) rfl (.inr heldx) (y_ixP rfl rfl _ rfl) .free rfl ?_
    refine d_take 7 [9] rfl (by kernel_rfl) rfl heldx (y_lI1 rfl) .free rfl ?_
    refine d_takeA 8 rfl (by kernel_rfl) rfl (.inr heldx) (y_cmps rfl rfl rfl) .free rfl ?_
    refine d_done (by kernel_rfl) ?_
    refine s_cond rfl ?_ ?_
    · intro c2
      try simp only [nb] at c2
      refine s_seq ?_
      refine o_enter rfl ?_
      refine o_assign rfl .free rfl ?_
      refine o_done ?_
      refine s_ret (.tmp rfl .nil) ?_
      refine done_only rfl (by intro _ h; first | exact h | exact dr1 h | exact dr2 h | exact dr3 h | exact dr4 h | exact dr5 h | exact dr6 h | exact dr6 h.drop | exact dr6 h.drop.drop | exact dr6 h.drop.drop.drop) ?_
      have : l ≠ m := by rintro rfl; exact c2 rfl
      simp [retOne, this]
    intro c2
    try simp only [nb] at c2
    refine s_skip ?_
    refine s_inBlock ?_
    refine o_enter rfl ?_
    refine o_move rfl .free rfl ?_
    refine o_arith rfl rfl rfl (by omega) .free rfl ?_
    refine o_assign rfl .free rfl ?_
    refine o_done ?_
    refine s_env (E' := [(0, .slice oa l.length c), (1, .slice ob m.length c'), (5, .int .i64 ((i + 1 : Nat)))]) ⟨rfl, rfl, rfl, trivial⟩ (ih (i + 1) ⟨by omega, ?_⟩ (by omega))
    have hx : l[i] = m[i] := by simpa [hi1, hi2] using c2
    rw [List.take_succ_eq_append_getElem hi1, List.take_succ_eq_append_getElem hi2, hs, hx]
  intro c1
  try simp only [nb] at c1
  refine s_exit rfl ?_
  refine s_seq ?_
  refine o_enter rfl ?_
  refine o_assign rfl .free rfl ?_
  refine o_done ?_
  refine s_ret (.tmp rfl .nil) ?_
  refine done_only rfl (by intro _ h; first | exact h | exact dr1 h | exact dr2 h | exact dr3 h | exact dr4 h | exact dr5 h | exact dr6 h | exact dr6 h.drop | exact dr6 h.drop.drop | exact dr6 h.drop.drop.drop) ?_
  have : l = m := by
    have h1 : i = l.length := by omega
    rw [List.take_of_length_le (by omega), List.take_of_length_le (by omega)] at hs
    exact hs
  simp [retOne, this]
end Go.Proofs.Ytfnjdgmfjblppaa


/- A list's text, a valid environment by the program. No conditions. -/
namespace Go.Proofs.Ytfnjdgmfjblppaa
set_option maxRecDepth 100000
set_option linter.unusedVariables false
set_option linter.unusedSimpArgs false

theorem x_hasText {I : Heap} {oa : Option Addr} {l : List Txt} {c : Nat} (h : Strs I oa l c) (s : Txt) (L : Own) :
    Fun Try.prog 10 [.slice oa l.length c, .string (str s)] I L (Only (.bool (decide (s ∈ l))) I L) := by
  have hlen := h.len
  unfold maxN at hlen
  refine fun_intro (by simp) ?_
  refine s_seq ?_
  refine o_enter rfl ?_
  refine o_assign rfl .free rfl ?_
  refine o_done ?_
  refine s_seq ?_
  refine s_seq ?_
  refine o_enter rfl ?_
  refine o_assign rfl .free rfl ?_
  refine o_done ?_
  refine s_block ?_
  refine s_while (X := Nat) (fun i => l.length - i) (fun i => [(0, .slice oa l.length c), (1, .string (str s)), (5, .int .i64 (i : Nat))]) (fun _ => I) (fun _ => L) (fun i => i ≤ l.length ∧ s ∉ l.take i) 0 ⟨by simp, by simp⟩ ⟨rfl, rfl, rfl, trivial⟩ (fun _ h => h) ?_
  rintro i ⟨hi, hs⟩ ih
  refine s_seq ?_
  refine s_seq ?_
  refine o_enter rfl ?_
  refine o_move rfl .free rfl ?_
  refine o_move rfl .free rfl ?_
  refine o_len_slice rfl .free rfl ?_
  refine o_cmp rfl rfl rfl .free rfl ?_
  refine o_done ?_
  first | refine s_if rfl ?_ ?_ | refine s_ifn rfl ?_ ?_ | refine s_cond rfl ?_ ?_
  · intro c0
    obtain ⟨x, hx, hst⟩ := h.at i (by omega)
    refine s_skip ?_
    refine s_seq ?_
    refine s_block ?_
    refine s_seq ?_
    refine o_enter rfl ?_
    refine o_move rfl .free rfl ?_
    refine o_move rfl .free rfl ?_
    refine o_indexAddr' rfl rfl _ rfl (by first | omega | exact lt_of (by assumption) (by decide) | (simp; done) | (simp; omega) | decide | (simp at *; omega)) (by first | rfl | assumption) .free rfl ?_
    refine o_lS rfl .free rfl ?_
    refine o_move rfl .free rfl ?_
    refine o_cmps rfl rfl rfl .free rfl ?_
    refine o_done ?_
    first | refine s_if rfl ?_ ?_ | refine s_ifn rfl ?_ ?_ | refine s_cond rfl ?_ ?_
    · intro c1
      refine s_seq ?_
      refine o_enter rfl ?_
      refine o_assign rfl .free rfl ?_
      refine o_done ?_
      refine s_ret (.tmp rfl .nil) ?_
      refine done_only rfl (by intro _ h; first | exact h | exact dr1 h | exact dr2 h | exact dr3 h | exact dr4 h | exact dr5 h | exact dr6 h | exact dr6 h.drop | exact dr6 h.drop.drop | exact dr6 h.drop.drop.drop) ?_
      have : s ∈ l := by have h2 := List.getElem_mem (show i < l.length by omega); rwa [c1] at h2
      simp [retOne, this]
    intro c1
    refine s_skip ?_
    refine s_inBlock ?_
    refine o_enter rfl ?_
    refine o_move rfl .free rfl ?_
    refine o_arith rfl rfl rfl (by omega) .free rfl ?_
    refine o_assign rfl .free rfl ?_
    refine o_done ?_
    refine s_env (E' := [(0, .slice oa l.length c), (1, .string (str s)), (5, .int .i64 ((i + 1 : Nat)))]) ⟨rfl, rfl, rfl, trivial⟩ (ih (i + 1) ⟨by omega, ?_⟩ (by omega))
    rw [List.take_succ_eq_append_getElem (by omega), List.mem_append]
    rintro (h1 | h1)
    · exact hs h1
    · exact c1 (List.mem_singleton.1 h1).symm
  intro c0
  refine s_exit rfl ?_
  refine s_seq ?_
  refine o_enter rfl ?_
  refine o_assign rfl .free rfl ?_
  refine o_done ?_
  refine s_ret (.tmp rfl .nil) ?_
  refine done_only rfl (by intro _ h; first | exact h | exact dr1 h | exact dr2 h | exact dr3 h | exact dr4 h | exact dr5 h | exact dr6 h | exact dr6 h.drop | exact dr6 h.drop.drop | exact dr6 h.drop.drop.drop) ?_
  have : s ∉ l := by rwa [List.take_of_length_le (by omega)] at hs
  simp [retOne, this]

end Go.Proofs.Ytfnjdgmfjblppaa


/- The walk of the statement 'FnKids'. No conditions. -/
namespace Go.Proofs.Ytfnjdgmfjblppaa
set_option maxRecDepth 100000
set_option linter.unusedVariables false
set_option linter.unusedSimpArgs false

/-- The names that stand free in the first kids. -/
def Ex.alls (e : Ex) (i : Nat) : List Txt := (e.sub.take i).flatMap Ex.free
theorem Ex.alls_next {e : Ex} {i : Nat} (hi : i < e.sub.length) : e.alls (i + 1) = e.alls i ++ e.sub[i].free := by
  unfold Ex.alls; rw [List.take_succ_eq_append_getElem hi, List.flatMap_append]; simp only [List.flatMap_cons, List.flatMap_nil, List.append_nil]
theorem Ex.free_len {e : Ex} (h : e.size ≤ 120) : e.free.length ≤ 120 := by
  have h1 := addAll_len [] (e.occ [])
  have h2 := e.occ_len []
  unfold Ex.free
  simp only [List.length_nil, Nat.zero_add] at h1
  omega
theorem Ex.free_strs {e : Ex} (hok : e.ok = true) : ∀ s ∈ e.free, s.length ≤ maxN := names_strs fun z hz => Ex.occ_name hok z (Ex.free_mem.1 hz)
theorem Ex.alls_strs {e : Ex} (hok : e.ok = true) (i : Nat) : ∀ s ∈ e.alls i, s.length ≤ maxN := by
  intro s hs
  obtain ⟨a, ha, hs⟩ := List.mem_flatMap.1 hs
  exact Ex.free_strs ((sub_facts (List.mem_of_mem_take ha)).2.2 hok) s hs
/-- What a loop over the kids has gathered. -/
structure GL where
  i : Nat
  J : Heap
  B : Buf
  c : Nat
theorem law_FnKids {I : Heap} {oa : Option Addr} {code : List UInt8} {c : Nat} (h : Bytes I oa code c) (L : Own) : Fun Try.prog 3 [.slice oa code.length c] I L (YES L) := by
  have hlen := h.len
  refine fun_intro (by simp) ?_
  refine s_seq ?_
  refine o_enter rfl ?_
  refine o_assign rfl .free rfl ?_
  refine o_done ?_
  refine s_seq ?_
  refine s_seq ?_
  refine o_enter rfl ?_
  refine o_move rfl .free rfl ?_
  refine o_len_slice rfl .free rfl ?_
  refine o_cmp rfl rfl rfl .free rfl ?_
  refine o_done ?_
  refine s_cond rfl ?_ ?_
  · intro c0
    try simp only [nb] at c0
    refine s_seq ?_
    refine o_enter rfl ?_
    refine o_assign rfl .free rfl ?_
    refine o_done ?_
    refine s_ret (.tmp rfl .nil) ?_
    exact ⟨I, L, .refl _, fun _ h => h, rfl, rfl⟩
  intro c0
  try simp only [nb] at c0
  refine s_skip ?_
  refine s_seq ?_
  refine o_enter rfl ?_
  refine o_move rfl .free rfl ?_
  refine o_call rfl .free rfl (g_DrawExprKids h _) ?_
  rintro _ J1 _ e1 ⟨s, rfl, hsl, rfl⟩
  have hs : s.length ≤ maxN := by unfold maxN; omega
  refine o_assign rfl .free rfl ?_
  refine o_done ?_
  refine s_seq ?_
  refine o_enter rfl ?_
  refine o_move rfl .free rfl ?_
  refine o_call rfl .free rfl (f_ExprKids s hs _ _) ?_
  rintro _ J2 _ e2 ⟨ok, ck, rfl, hkS, rfl⟩
  refine o_move rfl .free rfl ?_
  refine o_extract rfl rfl .free rfl ?_
  refine o_extract rfl rfl .free rfl ?_
  refine o_assign rfl .free rfl ?_
  refine o_assign rfl .free rfl ?_
  refine o_done ?_
  refine s_seq ?_
  refine o_enter rfl ?_
  refine o_move rfl .free rfl ?_
  refine o_call rfl .free rfl (g_ExprKids s (maxN_maxL hs) _ _) ?_
  rintro _ J3 _ e3 ⟨ok2, ck2, rfl, hk2, rfl⟩
  have hkS := hkS.mono e3
  have hle := (e1.trans e2).trans e3
  refine o_move rfl .free rfl ?_
  refine o_extract rfl rfl .free rfl ?_
  refine o_extract rfl rfl .free rfl ?_
  refine o_assign rfl .free rfl ?_
  refine o_assign rfl .free rfl ?_
  refine o_done ?_
  refine s_seq ?_
  refine s_seq ?_
  refine o_enter rfl ?_
  refine o_move rfl .free rfl ?_
  refine o_move rfl .free rfl ?_
  refine o_cmpb rfl rfl rfl .free rfl ?_
  refine o_move rfl .free rfl ?_
  apply o_or 33 38 rfl
  · intro g6_4 hk
    try simp only [nb] at g6_4
    refine o_move rfl (.met rfl rfl) rfl ?_
    refine o_move rfl (.met rfl rfl) rfl ?_
    refine o_call rfl (.met rfl rfl) rfl (x_sameTexts hkS hk2 _) ?_
    rintro _ _ _ _ ⟨rfl, rfl, rfl⟩
    refine o_not rfl (.met rfl rfl) rfl ?_
    refine o_pick_false rfl rfl .free rfl ?_
    exact o_fin 4 rfl rfl hk
  · intro _ hk
    refine o_skips 4 rfl ?_
    refine o_pick_true rfl rfl .free rfl ?_
    exact o_fin 4 rfl rfl hk
  refine o_move rfl .free rfl ?_
  apply o_or 39 42 rfl
  · intro g6_10 hk
    try simp only [nb] at g6_10
    refine o_move rfl (.met rfl rfl) rfl ?_
    refine o_not rfl (.met rfl rfl) rfl ?_
    refine o_pick_false rfl rfl .free rfl ?_
    exact o_fin 2 rfl rfl hk
  · intro _ hk
    refine o_skips 2 rfl ?_
    refine o_pick_true rfl rfl .free rfl ?_
    exact o_fin 2 rfl rfl hk
  refine o_done ?_
  refine s_cond rfl ?_ ?_
  · intro c1
    try simp only [nb] at c1
    refine s_seq ?_
    refine o_enter rfl ?_
    refine o_move rfl .free rfl ?_
    refine o_move rfl .free rfl ?_
    refine o_cmpb rfl rfl rfl .free rfl ?_
    refine o_move rfl .free rfl ?_
    apply o_and 46 50 rfl
    · intro g7_4 hk
      try simp only [nb] at g7_4
      refine o_move rfl (.met rfl rfl) rfl ?_
      refine o_move rfl (.met rfl rfl) rfl ?_
      refine o_call rfl (.met rfl rfl) rfl (x_sameTexts hkS hk2 _) ?_
      rintro _ _ _ _ ⟨rfl, rfl, rfl⟩
      refine o_pick_true rfl rfl .free rfl ?_
      exact o_fin 3 rfl rfl hk
    · intro _ hk
      refine o_skips 3 rfl ?_
      refine o_pick_false rfl rfl .free rfl ?_
      exact o_fin 3 rfl rfl hk
    refine o_assign rfl .free rfl ?_
    refine o_done ?_
    refine s_ret (.tmp rfl .nil) ?_
    refine ⟨J3, L, hle, (by intro _ h; first | exact h | exact dr1 h | exact dr2 h | exact dr3 h | exact dr4 h | exact dr5 h | exact dr6 h | exact dr6 h.drop | exact dr6 h.drop.drop | exact dr6 h.drop.drop.drop), ?_, rfl⟩
    simp [retOne]
  intro c1
  try simp only [nb] at c1
  obtain ⟨ks, hks⟩ : ∃ ks, kidsOf s = some ks := Option.isSome_iff_exists.1 (by simpa using c1)
  obtain ⟨e, he⟩ : ∃ e, exOf s = some e := by
    cases he : exOf s with
    | none => rw [kidsOf_none he] at hks; cases hks
    | some e => exact ⟨e, rfl⟩
  have hko := kidsOf_some he
  obtain ⟨hfine, hok, hsz, hln, -⟩ := exOf_is he
  clear c1
  rw [hko] at hkS
  rw [hko]
  simp only [Option.getD_some, Option.isSome_some] at hkS ⊢
  have hn3 : e.sub.length ≤ 3 := by cases e <;> simp [Ex.sub]
  have hkl : (e.sub.map fun a => a.tree.text).length = e.sub.length := by simp
  have hfl := Ex.free_len hsz
  refine s_skip ?_
  refine s_seq ?_
  refine o_enter rfl ?_
  refine o_move rfl .free rfl ?_
  refine o_call rfl .free rfl (f_ExprFree s hs _ _) ?_
  rintro _ J4 _ e4 ⟨of, cf, rfl, hf, rfl⟩
  rw [freeOf_some he] at hf
  rw [freeOf_some he]
  simp only [Option.getD_some, Option.isSome_some] at hf ⊢
  have hkS := hkS.mono e4
  refine o_move rfl .free rfl ?_
  refine o_extract rfl rfl .free rfl ?_
  refine o_extract rfl rfl .free rfl ?_
  refine o_assign rfl .free rfl ?_
  refine o_assign rfl .free rfl ?_
  refine o_done ?_
  refine s_seq ?_
  refine o_enter rfl ?_
  refine o_lits0 .free rfl ?_
  intro b56
  refine o_assign rfl .free rfl ?_
  refine o_done ?_
  refine s_seq ?_
  refine s_seq ?_
  refine o_enter rfl ?_
  refine o_assign rfl .free rfl ?_
  refine o_done ?_
  refine s_block ?_
  refine s_while (X := GL) (fun x => e.sub.length - x.i) (fun x => [(3, .string (str s)), (4, .slice ok (e.sub.map fun a => a.tree.text).length ck), (8, .slice of e.free.length cf), (9, .bool true), (10, bufVal (e.alls x.i).length x.c x.B), (11, .int .i64 (x.i : Nat))]) (fun x => x.J) (fun x => bufOwn 9 ((e.alls x.i).map sv) x.B ++ L) (fun x => x.i ≤ e.sub.length ∧ HLe J4 x.J ∧ (e.alls x.i).length ≤ 120 * x.i ∧ BufOk 1 (e.alls x.i).length x.c ((e.alls x.i).map sv) x.B) ⟨0, J4, some (b56, []), 0⟩ ⟨Nat.zero_le _, .refl _, Nat.le_refl _, rfl, Nat.le_refl _, rfl⟩ ⟨rfl, rfl, rfl, rfl, rfl, rfl, trivial⟩ (by intro _ h; exact h) ?_
  rintro ⟨i, J, B, cb⟩ ⟨hi, ez, hal, hB⟩ ih
  simp only at hi ez hal hB ih ⊢
  have hkS := hkS.mono ez
  have hf := hf.mono ez
  have hle := (hle.trans e4).trans ez
  refine s_seq ?_
  refine s_seq ?_
  refine o_enter rfl ?_
  refine o_move rfl .free rfl ?_
  refine o_move rfl .free rfl ?_
  refine o_len_slice rfl .free rfl ?_
  refine o_cmp rfl rfl rfl .free rfl ?_
  refine o_done ?_
  refine s_cond rfl ?_ ?_
  · intro c2
    try simp only [nb] at c2
    have hi1 : i < (e.sub.map fun a => a.tree.text).length := by omega
    have hi2 : i < e.sub.length := by omega
    have hst := hkS.st i hi1
    have hgd : (e.sub.map fun a => a.tree.text).getD i [] = e.sub[i].tree.text := by simp [hi2]
    have hel := hkS.each _ (List.getElem_mem hi1)
    rw [show (e.sub.map fun a => a.tree.text)[i] = (e.sub.map fun a => a.tree.text).getD i [] by simp [hi2]] at hel
    obtain ⟨haf, has⟩ := sub_fine (List.getElem_mem hi2) hfine
    have hae := exOf_fine haf
    rw [← hgd] at hae
    have hafl := Ex.free_len (e := e.sub[i]) (by omega)
    refine s_skip ?_
    refine s_seq ?_
    refine s_block ?_
    refine s_seq ?_
    refine o_enter rfl ?_
    refine o_move rfl .free rfl ?_
    refine o_move rfl .free rfl ?_
    first | refine o_ixD rfl rfl _ rfl .free rfl ?_ | refine o_ixP rfl rfl _ rfl .free rfl ?_
    refine o_lI1 rfl .free rfl ?_
    refine o_call rfl .free rfl (f_ExprFree ((e.sub.map fun a => a.tree.text).getD i []) hel _ _) ?_
    rintro _ J5 _ e5 ⟨og, cg, rfl, hg, rfl⟩
    rw [freeOf_some hae] at hg
    rw [freeOf_some hae]
    simp only [Option.getD_some, Option.isSome_some] at hg ⊢
    have hkS := hkS.mono e5
    have hst := hst.mono e5
    refine o_move rfl .free rfl ?_
    refine o_extract rfl rfl .free rfl ?_
    refine o_extract rfl rfl .free rfl ?_
    refine o_assign rfl .free rfl ?_
    refine o_assign rfl .free rfl ?_
    refine o_done ?_
    refine s_seq ?_
    refine s_seq ?_
    refine o_enter rfl ?_
    refine o_move rfl .free rfl ?_
    refine o_not rfl .free rfl ?_
    refine o_move rfl .free rfl ?_
    apply o_or 73 82 rfl
    · intro g14_3 hk
      try simp only [nb] at g14_3
      refine o_move rfl (.met rfl rfl) rfl ?_
      refine o_move rfl (.met rfl rfl) rfl ?_
      first | refine o_ixD rfl rfl _ rfl (.met rfl rfl) rfl ?_ | refine o_ixP rfl rfl _ rfl (.met rfl rfl) rfl ?_
      refine o_lI1 rfl (.met rfl rfl) rfl ?_
      refine o_call rfl (.met rfl rfl) rfl (f_FormSize ((e.sub.map fun a => a.tree.text).getD i []) hel _ _) ?_
      rintro _ J6 _ e6 ⟨rfl, rfl⟩
      rw [sizeOfT_ex hae]
      refine o_mem (fun w h => Mem.le e6 h) ?_
      refine o_move rfl (.met rfl rfl) rfl ?_
      refine o_call rfl (.met rfl rfl) rfl (f_FormSize s hs _ _) ?_
      rintro _ J7 _ e7 ⟨rfl, rfl⟩
      rw [sizeOfT_ex he]
      refine o_mem (fun w h => Mem.le e7 h) ?_
      refine o_cmp rfl rfl rfl (.met rfl rfl) rfl ?_
      refine o_pick_false rfl rfl .free rfl ?_
      exact o_fin 8 rfl rfl hk
    · intro _ hk
      refine o_skips 8 rfl ?_
      refine o_pick_true rfl rfl .free rfl ?_
      exact o_fin 8 rfl rfl hk
    refine o_done ?_
    first | refine s_fp rfl (by simp; omega) ?_ | refine s_fn rfl (by simp; omega) ?_ | refine s_false (by simp [look, opd, *]) ?_
    refine s_skip ?_
    refine o_enter rfl ?_
    refine o_move rfl .free rfl ?_
    refine o_move rfl .free rfl ?_
    refine o_appendB (B := B) (xs := (e.alls i).map sv) (ys := e.sub[i].free.map sv) (m := (e.alls i).length) (c := cb) (L₀ := L) (by intro kk; simp) (by rfl) rfl rfl hB (fun _ h => h) (by simp) hg.reads hg.none (sv_plain _) (by decide) (by omega) (by decide) .free rfl ?_
    intro B2 c2 hB2
    rw [← List.map_append, ← List.length_append, ← Ex.alls_next hi2] at hB2
    rw [← List.map_append, ← List.length_append, ← Ex.alls_next hi2]
    have hal2 : (e.alls (i + 1)).length ≤ 120 * (i + 1) := by rw [Ex.alls_next hi2, List.length_append]; omega
    refine o_assign rfl .free rfl ?_
    refine o_done ?_
    refine s_inBlock ?_
    refine o_enter rfl ?_
    refine o_move rfl .free rfl ?_
    refine o_arith rfl rfl rfl (by omega) .free rfl ?_
    refine o_assign rfl .free rfl ?_
    refine o_done ?_
    refine s_env (E' := [(3, .string (str s)), (4, .slice ok (e.sub.map fun a => a.tree.text).length ck), (8, .slice of e.free.length cf), (9, .bool true), (10, bufVal (e.alls (i + 1)).length c2 B2), (11, .int .i64 ((i + 1 : Nat)))]) ⟨rfl, rfl, rfl, rfl, rfl, rfl, trivial⟩ (ih ⟨i + 1, J5, B2, c2⟩ ⟨by simp only; omega, ez.trans e5, hal2, hB2⟩ (by simp only; omega))
  intro c2
  try simp only [nb] at c2
  refine s_exit rfl ?_
  refine s_seq ?_
  refine s_seq ?_
  refine s_freezeStrs hB rfl (by unfold maxN; omega) (Ex.alls_strs hok i) ?_
  intro J8 o8 c8 e8 hbv8 hs8
  refine s_put (t := 10) rfl hbv8 ?_
  obtain rfl : i = e.sub.length := by omega
  have hf := hf.mono e8
  have hle := hle.trans e8
  refine o_enter rfl ?_
  refine o_assign rfl .free rfl ?_
  refine o_done ?_
  refine s_block ?_
  refine s_while (X := GM) (fun x => e.free.length - x.i) (fun x => [(3, .string (str s)), (8, .slice of e.free.length cf), (9, .bool true), (10, .slice o8 (e.alls e.sub.length).length c8), (14, .int .i64 (x.i : Nat))]) (fun x => x.J) (fun _ => L) (fun x => x.i ≤ e.free.length ∧ HLe J8 x.J) ⟨0, J8⟩ ⟨Nat.zero_le _, .refl _⟩ ⟨rfl, rfl, rfl, rfl, rfl, trivial⟩ (by intro _ h; exact h) ?_
  rintro ⟨j, J9⟩ ⟨hj, e9⟩ ih2
  simp only at hj e9 ih2 ⊢
  have hf := hf.mono e9
  have hs8 := hs8.mono e9
  have hle := hle.trans e9
  refine s_seq ?_
  refine s_seq ?_
  refine o_enter rfl ?_
  refine o_move rfl .free rfl ?_
  refine o_move rfl .free rfl ?_
  refine o_len_slice rfl .free rfl ?_
  refine o_cmp rfl rfl rfl .free rfl ?_
  refine o_done ?_
  refine s_cond rfl ?_ ?_
  · intro c4
    try simp only [nb] at c4
    have hj1 : j < e.free.length := by omega
    have hst := hf.st j hj1
    have hjm : e.free.getD j [] ∈ e.free := by rw [show e.free.getD j [] = e.free[j] by simp [hj1]]; exact List.getElem_mem _
    refine s_skip ?_
    refine s_seq ?_
    refine s_block ?_
    refine s_seq ?_
    refine o_enter rfl ?_
    iterate 3 refine o_move rfl .free rfl ?_
    first | refine o_ixD rfl rfl _ rfl .free rfl ?_ | refine o_ixP rfl rfl _ rfl .free rfl ?_
    refine o_lI1 rfl .free rfl ?_
    refine o_call rfl .free rfl (x_hasText hs8 (e.free.getD j []) _) ?_
    rintro _ _ _ _ ⟨rfl, rfl, rfl⟩
    refine o_not rfl .free rfl ?_
    refine o_move rfl .free rfl ?_
    apply o_and 99 103 rfl
    · intro g20_8 hk
      try simp only [nb] at g20_8
      refine o_move rfl (.met rfl rfl) rfl ?_
      refine o_call rfl (.met rfl rfl) rfl (f_ExprHead s hs _ _) ?_
      rintro _ J10 _ e10 ⟨rfl, rfl⟩
      rw [headOf_some he]
      refine o_mem (fun w h => Mem.le e10 h) ?_
      refine o_cmps rfl rfl rfl (.met rfl rfl) rfl ?_
      refine o_pick_true rfl rfl .free rfl ?_
      exact o_fin 3 rfl rfl hk
    · intro _ hk
      refine o_skips 3 rfl ?_
      refine o_pick_false rfl rfl .free rfl ?_
      exact o_fin 3 rfl rfl hk
    refine o_done ?_
    refine s_cond rfl ?_ ?_
    · intro c5
      try simp only [nb] at c5
      refine s_seq ?_
      refine o_enter rfl ?_
      refine o_assign rfl .free rfl ?_
      refine o_done ?_
      refine s_ret (.tmp rfl .nil) ?_
      exfalso
      rcases free_kid hjm with h1 | ⟨a, ha, hx⟩
      · simp_all
      · have : e.free.getD j [] ∈ e.alls e.sub.length := by
          unfold Ex.alls; rw [List.take_length]; exact List.mem_flatMap.2 ⟨a, ha, hx⟩
        simp_all
    intro c5
    try simp only [nb] at c5
    refine s_skip ?_
    refine s_inBlock ?_
    refine o_enter rfl ?_
    refine o_move rfl .free rfl ?_
    refine o_arith rfl rfl rfl (by omega) .free rfl ?_
    refine o_assign rfl .free rfl ?_
    refine o_done ?_
    refine s_env (E' := [(3, .string (str s)), (8, .slice of e.free.length cf), (9, .bool true), (10, .slice o8 (e.alls e.sub.length).length c8), (14, .int .i64 ((j + 1 : Nat)))]) ⟨rfl, rfl, rfl, rfl, rfl, trivial⟩ (ih2 ⟨j + 1, J9⟩ ⟨by simp only; omega, e9⟩ (by simp only; omega))
  intro c4
  try simp only [nb] at c4
  refine s_exit rfl ?_
  refine s_seq ?_
  refine o_enter rfl ?_
  refine o_move rfl .free rfl ?_
  refine o_assign rfl .free rfl ?_
  refine o_done ?_
  refine s_ret (.tmp rfl .nil) ?_
  refine ⟨J9, L, hle, (by intro _ h; first | exact h | exact dr1 h | exact dr2 h | exact dr3 h | exact dr4 h | exact dr5 h | exact dr6 h | exact dr6 h.drop | exact dr6 h.drop.drop | exact dr6 h.drop.drop.drop), ?_, rfl⟩
  rfl
end Go.Proofs.Ytfnjdgmfjblppaa
