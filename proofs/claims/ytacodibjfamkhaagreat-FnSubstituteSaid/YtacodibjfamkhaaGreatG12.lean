/- Drawn expressions, well and odd ones. No conditions. -/
import Derived.Test.YtacodibjfamkhaaGreatG11
namespace Go.Proofs.YtacodibjfamkhaaGreat
set_option maxRecDepth 100000
set_option linter.unusedVariables false
set_option linter.unusedSimpArgs false

theorem replOf_some {s a b : Txt} {t x y : Tree} (h1 : parse s = some t) (h2 : parse a = some x) (h3 : parse b = some y) : replOf s a b = if x.atom ≠ [] ∧ (parse (t.repl a y).text).isSome = true then some (t.repl a y).text else none := by
  unfold replOf; rw [h1, h2, h3]
theorem replOf_none {s a b : Txt} (h : parse s = none ∨ parse a = none ∨ parse b = none) : replOf s a b = none := by
  unfold replOf
  rcases h with h | h | h
  · rw [h]
  · rw [h]; cases parse s <;> rfl
  · rw [h]; cases parse s <;> cases parse a <;> rfl
theorem RD_get {p : Option Tree} {t : Tree} {ok : Bool} (hpf : match p with | some t0 => ok = true ∧ t = t0 | none => ok = false) : (ok = false → p = none) ∧ (ok = true → p = some t) := by
  cases p with
  | none => exact ⟨fun _ => rfl, fun h => (by rw [hpf] at h; cases h)⟩
  | some t0 => exact ⟨fun h => (by rw [hpf.1] at h; cases h), fun _ => (by rw [hpf.2])⟩
theorem parse_len {s : Txt} {t : Tree} (h : parse s = some t) : s.length ≤ 12000 ∧ t.len ≤ 12000 := by
  have h1 := (parse_fits h).1
  simp only [Tree.fits, Bool.and_eq_true, decide_eq_true_eq] at h1
  exact ⟨by rw [← parse_text h, Tree.text_len]; exact h1.2, h1.2⟩
theorem repl_out {s a b o : Txt} (h : replOf s a b = some o) : o.length ≤ 12000 := by
  unfold replOf at h
  cases h1 : parse s with
  | none => rw [h1] at h; cases h
  | some t =>
    cases h2 : parse a with
    | none => rw [h1, h2] at h; cases h
    | some x =>
      cases h3 : parse b with
      | none => rw [h1, h2, h3] at h; cases h
      | some y =>
        rw [h1, h2, h3] at h
        simp only at h
        split at h
        · rename_i hh
          cases h
          obtain ⟨z, hz⟩ := Option.isSome_iff_exists.1 hh.2
          exact (parse_len hz).1
        · cases h
theorem g_FormReplace (s a b : Txt) (hs : s.length ≤ maxL) (ha : a.length ≤ maxL) (hb : b.length ≤ 900) (I : Heap) (L : Own) : Fun Tryz.prog 35 [.string (str s), .string (str a), .string (str b)] I L (EL (replOf s a b) L) := by
  refine fun_intro (by simp) ?_
  refine s_seq ?_
  refine o_enter rfl ?_
  refine o_assign rfl .free rfl ?_
  refine o_assign rfl .free rfl ?_
  refine o_done ?_
  refine s_seq ?_
  refine o_enter rfl ?_
  refine o_move rfl .free rfl ?_
  refine o_call rfl .free rfl (g_l1Parse' s hs _ _) ?_
  rintro _ J1 _ e1 ⟨t, cs1, ok1, rfl, hr1, rfl, hp1⟩
  obtain ⟨o1, k1, _, rfl, -⟩ := hr1.open
  refine o_move rfl .free rfl ?_
  refine o_extract rfl rfl .free rfl ?_
  refine o_extract rfl rfl .free rfl ?_
  refine o_alloc .free rfl ?_
  intro b8
  refine o_st rfl rfl rfl rfl .free ?_
  refine o_assign rfl .free rfl ?_
  refine o_done ?_
  refine s_seq ?_
  refine o_enter rfl ?_
  refine o_move rfl .free rfl ?_
  refine o_call rfl .free rfl (g_l1Parse' a ha _ _) ?_
  rintro _ J2 _ e2 ⟨x, cs2, ok2, rfl, hr2, rfl, hp2⟩
  obtain ⟨o2, k2, _, rfl, -⟩ := hr2.open
  refine o_move rfl .free rfl ?_
  refine o_extract rfl rfl .free rfl ?_
  refine o_extract rfl rfl .free rfl ?_
  refine o_alloc .free rfl ?_
  intro b10
  refine o_st rfl rfl rfl rfl .free ?_
  refine o_assign rfl .free rfl ?_
  refine o_done ?_
  refine s_seq ?_
  refine o_enter rfl ?_
  refine o_move rfl .free rfl ?_
  refine o_call rfl .free rfl (g_l1Parse' b (by unfold maxL; omega) _ _) ?_
  rintro _ J3 _ e3 ⟨y, cs3, ok3, rfl, hr3, rfl, hp3⟩
  obtain ⟨o3, k3, _, rfl, -⟩ := hr3.open
  have q1 := RD_get hp1
  have q2 := RD_get hp2
  have q3 := RD_get hp3
  have hle := (e1.trans e2).trans e3
  refine o_move rfl .free rfl ?_
  refine o_extract rfl rfl .free rfl ?_
  refine o_extract rfl rfl .free rfl ?_
  refine o_alloc .free rfl ?_
  intro b12
  refine o_st rfl rfl rfl rfl .free ?_
  refine o_assign rfl .free rfl ?_
  refine o_done ?_
  refine s_seq ?_
  refine s_seq ?_
  refine o_enter rfl ?_
  refine o_move rfl .free rfl ?_
  refine o_not rfl .free rfl ?_
  refine o_move rfl .free rfl ?_
  apply o_or 32 35 rfl
  · intro g4_3 hk
    try simp only [nb] at g4_3
    refine o_move rfl (.met rfl rfl) rfl ?_
    refine o_not rfl (.met rfl rfl) rfl ?_
    refine o_pick_false rfl rfl .free rfl ?_
    exact o_fin 2 rfl rfl hk
  · intro _ hk
    refine o_skips 2 rfl ?_
    refine o_pick_true rfl rfl .free rfl ?_
    exact o_fin 2 rfl rfl hk
  refine o_move rfl .free rfl ?_
  apply o_or 36 39 rfl
  · intro g4_7 hk
    try simp only [nb] at g4_7
    refine o_move rfl (.met rfl rfl) rfl ?_
    refine o_not rfl (.met rfl rfl) rfl ?_
    refine o_pick_false rfl rfl .free rfl ?_
    exact o_fin 2 rfl rfl hk
  · intro _ hk
    refine o_skips 2 rfl ?_
    refine o_pick_true rfl rfl .free rfl ?_
    exact o_fin 2 rfl rfl hk
  refine o_move rfl .free rfl ?_
  apply o_or 40 44 rfl
  · intro g4_11 hk
    try simp only [nb] at g4_11
    refine o_fieldAddr rfl (.met rfl rfl) rfl ?_
    refine o_lO1 rfl (.met rfl rfl) rfl ?_
    refine o_cmps rfl rfl rfl (.met rfl rfl) rfl ?_
    refine o_pick_false rfl rfl .free rfl ?_
    exact o_fin 3 rfl rfl hk
  · intro _ hk
    refine o_skips 3 rfl ?_
    refine o_pick_true rfl rfl .free rfl ?_
    exact o_fin 3 rfl rfl hk
  refine o_done ?_
  refine s_cond rfl ?_ ?_
  · intro c0
    try simp only [nb] at c0
    refine s_seq ?_
    refine o_enter rfl ?_
    refine o_assign rfl .free rfl ?_
    refine o_assign rfl .free rfl ?_
    refine o_done ?_
    refine s_ret (.tmp rfl (.tmp rfl .nil)) ?_
    refine ⟨J3, L, hle, drops, ?_, rfl⟩
    have hz : replOf s a b = none := by
      rcases c0 with ((h | h) | h) | h
      · exact replOf_none (.inl (q1.1 h))
      · exact replOf_none (.inr (.inl (q2.1 h)))
      · exact replOf_none (.inr (.inr (q3.1 h)))
      · cases hh1 : parse s with
        | none => exact replOf_none (.inl hh1)
        | some t1 =>
          cases hh2 : parse a with
          | none => exact replOf_none (.inr (.inl hh2))
          | some x1 =>
            cases hh3 : parse b with
            | none => exact replOf_none (.inr (.inr hh3))
            | some y1 =>
              rw [hh2] at hp2
              rw [replOf_some hh1 hh2 hh3, if_neg (by rw [← hp2.2]; exact fun e => e.1 h)]
    rw [hz]; rfl
  intro c0
  try simp only [nb] at c0
  obtain ⟨⟨⟨h1, h2⟩, h3⟩, h4⟩ := c0
  have p1 := q1.2 h1
  have p2 := q2.2 h2
  have p3 := q3.2 h3
  have f1 := parse_fits p1
  have f2 := parse_fits p2
  have f3 := parse_fits p3
  have l1 := (parse_len p1).2
  have l3 : y.len ≤ 900 := by rw [← Tree.text_len, parse_text p3]; exact hb
  have z1 := parse_size p1
  have hrl := t.repl_len a y
  have hmul : t.size * y.len ≤ 12000 * 900 := Nat.mul_le_mul z1 l3
  have hrg := Tree.repl_good (a := a) f1.2.1 f3.2.1
  have ha0 : a ≠ [] := by
    intro e
    have h5 := parse_text p2
    have h6 := good_nil f2.2.1 h4
    cases x with
    | node n ps =>
      simp only [Tree.parts] at h6
      subst h6
      simp only [Tree.text, List.isEmpty_nil, cond_true] at h5
      exact h4 (h5.trans e)
  have hro := replOf_some p1 p2 p3
  refine s_skip ?_
  refine s_seq ?_
  refine o_enter rfl ?_
  refine o_lOS rfl .free rfl ?_
  refine o_move rfl .free rfl ?_
  refine o_lOS rfl .free rfl ?_
  refine o_call rfl .free rfl (g_l1Replace _ (Nat.lt_succ_self _) ((hr1.mono e2).mono e3) f1.2.1 a ha0 hr3 _) ?_
  rintro _ J4 _ e4 ⟨cs4, rfl, hr4, rfl⟩
  refine o_call rfl .free rfl (g_l1Text _ (Nat.lt_succ_self _) hr4 hrg (by omega) _) ?_
  rintro _ _ _ _ ⟨rfl, rfl, rfl⟩
  refine o_assign rfl .free rfl ?_
  refine o_done ?_
  refine s_seq ?_
  refine s_seq ?_
  refine o_enter rfl ?_
  refine o_move rfl .free rfl ?_
  refine o_call rfl .free rfl (g_FormValid _ (by rw [Tree.text_len]; unfold maxL; omega) _ _) ?_
  rintro _ J5 _ e5 ⟨rfl, rfl⟩
  have hle := (hle.trans e4).trans e5
  refine o_not rfl .free rfl ?_
  refine o_done ?_
  refine s_cond rfl ?_ ?_
  · intro c1
    try simp only [nb] at c1
    refine s_seq ?_
    refine o_enter rfl ?_
    refine o_assign rfl .free rfl ?_
    refine o_assign rfl .free rfl ?_
    refine o_done ?_
    refine s_ret (.tmp rfl (.tmp rfl .nil)) ?_
    refine ⟨J5, L, hle, drops, ?_, rfl⟩
    rw [hro, if_neg (by rintro ⟨-, h⟩; rw [c1] at h; cases h)]; rfl
  intro c1
  try simp only [nb] at c1
  refine s_skip ?_
  refine s_seq ?_
  refine o_enter rfl ?_
  refine o_move rfl .free rfl ?_
  refine o_assign rfl .free rfl ?_
  refine o_assign rfl .free rfl ?_
  refine o_done ?_
  refine s_ret (.tmp rfl (.tmp rfl .nil)) ?_
  refine ⟨J5, L, hle, drops, ?_, rfl⟩
  rw [hro, if_pos ⟨h4, c1⟩]; rfl
theorem sc_nil (I : Heap) (oa ob : Option Addr) : ScAt I [] [] oa 0 ob 0 := ⟨strs_empty _ _, strs_empty _ _, rfl, (fun _ h => by cases h), (fun _ h => by cases h)⟩
theorem g_l91Good {I : Heap} {oa : Option Addr} {l : List UInt8} {c : Nat} (h : Bytes I oa l c) (hl : l.length ≤ 2000) (b p : Nat) (hp : p + 7000 ≤ 1099511627776) (L : Own) :
    Fun Tryz.prog 33 [.pointer (some ⟨b, 0, none⟩)] I (rd b oa l c p :: L) (DT b oa l c p 7000 400000 L) := by
  have hle : HLe I I := .refl _
  have hk2 : kT 2 = 6 := rfl
  have hb2 : bT 2 = 19 := rfl
  refine fun_intro (by simp) ?_
  refine s_seq ?_
  refine o_enter rfl ?_
  refine o_assign rfl .free rfl ?_
  refine o_done ?_
  refine s_seq ?_
  refine o_enter rfl ?_
  refine o_assign rfl .free rfl ?_
  refine o_done ?_
  refine s_seq ?_
  refine s_seq ?_
  refine o_enter rfl ?_
  refine o_move rfl .free rfl ?_
  refine o_call rfl .free rfl (g_l6Rd_pick h hl b _ 3 (by omega) (by decide) _) ?_
  rintro _ _ _ _ ⟨r, rfl, rfl, rfl, hr⟩
  refine o_cmp rfl rfl rfl .free rfl ?_
  refine o_done ?_
  refine s_cond rfl ?_ ?_
  · intro c0
    try simp only [nb] at c0
    refine o_enter rfl ?_
    refine o_move rfl .free rfl ?_
    refine o_call rfl .free rfl (g_l91Type 2 h hl b _ (by omega) (by decide) (by decide) _) ?_
    rintro _ J _ e ⟨w, pw, rfl, hw, hp1, hp2, rfl⟩
    have h := h.mono e
    have hle := hle.trans e
    refine o_assign rfl .free rfl ?_
    refine o_done ?_
    refine s_seq ?_
    try have hw := hw
    refine o_enter rfl ?_
    refine o_move rfl .free rfl ?_
    refine o_lits0 .free rfl ?_
    intro b11
    refine o_lits0 .free rfl ?_
    intro b12
    refine o_struct rfl rfl rfl .free rfl ?_
    refine o_move rfl .free rfl ?_
    refine o_move rfl .free rfl ?_
    refine o_mem (fun w h => Mem.sub (L' := rd b oa l c _ :: L) (by repeat (first | exact List.Sublist.refl _ | apply List.Sublist.cons_cons | apply List.Sublist.cons)) h) ?_
    refine o_call rfl .free rfl (g_l6Rd_pick h hl b _ 3 (by omega) (by decide) _) ?_
    rintro _ _ _ _ ⟨r2, rfl, rfl, rfl, hr2⟩
    have hr3 : r2 < 3 := by omega
    have hdd : ∃ d : Nat, (2 : Int) + (r2 : Nat) = (d : Nat) ∧ d ≤ 4 := ⟨2 + r2, by omega, by omega⟩
    obtain ⟨d, hd1, hd2⟩ := hdd
    refine o_arith rfl rfl rfl (by omega) .free rfl ?_
    refine o_put (t := 17) (v' := .int .i64 (d : Nat)) rfl (by rw [← hd1]) ?_
    refine o_call rfl .free rfl (g_l91Expr hd2 h hl b _ (by omega) (sc_nil _ _ _) (by simp) _ (by first | omega | (simp; done) | decide) _) ?_
    rintro _ J1 _ e1 ⟨s1, p1, rfl, hs1, hp3, hp4, rfl⟩
    have h := h.mono e1
    have hle := hle.trans e1
    refine o_assign rfl .free rfl ?_
    refine o_done ?_
    refine s_seq ?_
    refine s_seq ?_
    refine o_enter rfl ?_
    refine o_move rfl .free rfl ?_
    refine o_call rfl .free rfl (g_ExprValid s1 (by unfold maxN; omega) _ _) ?_
    rintro _ _ _ _ ⟨rfl, rfl, rfl⟩
    refine o_done ?_
    refine s_cond rfl ?_ ?_
    · intro c1
      try simp only [nb] at c1
      refine s_seq ?_
      refine o_enter rfl ?_
      refine o_move rfl .free rfl ?_
      refine o_assign rfl .free rfl ?_
      refine o_done ?_
      refine s_ret (.tmp rfl .nil) ?_
      exact ⟨_, _, hle, fun w h => Mem.sub (L' := rd b oa l c _ :: L) (by repeat (first | exact List.Sublist.refl _ | apply List.Sublist.cons_cons | apply List.Sublist.cons)) h, _, _, rfl, by omega, by omega, by omega, rfl⟩
    intro c1
    try simp only [nb] at c1
    refine s_skip ?_
    refine s_seq ?_
    refine o_enter rfl ?_
    refine o_move rfl .free rfl ?_
    refine o_lits0 .free rfl ?_
    intro b23
    refine o_lits0 .free rfl ?_
    intro b24
    refine o_struct rfl rfl rfl .free rfl ?_
    refine o_move rfl .free rfl ?_
    refine o_mem (fun w h => Mem.sub (L' := rd b oa l c _ :: L) (by repeat (first | exact List.Sublist.refl _ | apply List.Sublist.cons_cons | apply List.Sublist.cons)) h) ?_
    refine o_call rfl .free rfl (g_l91Expr (d := 2) (by decide) h hl b _ (by omega) (sc_nil _ _ _) (by simp) _ (by first | omega | (simp; done) | decide) _) ?_
    rintro _ J2 _ e2 ⟨s2, p2, rfl, hs2, hp5, hp6, rfl⟩
    have hle := hle.trans e2
    refine o_assign rfl .free rfl ?_
    refine o_done ?_
    refine s_ret (.tmp rfl .nil) ?_
    exact ⟨_, _, hle, fun w h => Mem.sub (L' := rd b oa l c _ :: L) (by repeat (first | exact List.Sublist.refl _ | apply List.Sublist.cons_cons | apply List.Sublist.cons)) h, _, _, rfl, by omega, by omega, by omega, rfl⟩
  intro c0
  try simp only [nb] at c0
  refine s_skip ?_
  refine s_seq ?_
  try have hw := hw
  refine o_enter rfl ?_
  refine o_move rfl .free rfl ?_
  refine o_lits0 .free rfl ?_
  intro b11
  refine o_lits0 .free rfl ?_
  intro b12
  refine o_struct rfl rfl rfl .free rfl ?_
  refine o_move rfl .free rfl ?_
  refine o_move rfl .free rfl ?_
  refine o_mem (fun w h => Mem.sub (L' := rd b oa l c _ :: L) (by repeat (first | exact List.Sublist.refl _ | apply List.Sublist.cons_cons | apply List.Sublist.cons)) h) ?_
  refine o_call rfl .free rfl (g_l6Rd_pick h hl b _ 3 (by omega) (by decide) _) ?_
  rintro _ _ _ _ ⟨r2, rfl, rfl, rfl, hr2⟩
  have hr3 : r2 < 3 := by omega
  have hdd : ∃ d : Nat, (2 : Int) + (r2 : Nat) = (d : Nat) ∧ d ≤ 4 := ⟨2 + r2, by omega, by omega⟩
  obtain ⟨d, hd1, hd2⟩ := hdd
  refine o_arith rfl rfl rfl (by omega) .free rfl ?_
  refine o_put (t := 17) (v' := .int .i64 (d : Nat)) rfl (by rw [← hd1]) ?_
  refine o_call rfl .free rfl (g_l91Expr hd2 h hl b _ (by omega) (sc_nil _ _ _) (by simp) _ (by first | omega | (simp; done) | decide) _) ?_
  rintro _ J1 _ e1 ⟨s1, p1, rfl, hs1, hp3, hp4, rfl⟩
  have h := h.mono e1
  have hle := hle.trans e1
  refine o_assign rfl .free rfl ?_
  refine o_done ?_
  refine s_seq ?_
  refine s_seq ?_
  refine o_enter rfl ?_
  refine o_move rfl .free rfl ?_
  refine o_call rfl .free rfl (g_ExprValid s1 (by unfold maxN; omega) _ _) ?_
  rintro _ _ _ _ ⟨rfl, rfl, rfl⟩
  refine o_done ?_
  refine s_cond rfl ?_ ?_
  · intro c1
    try simp only [nb] at c1
    refine s_seq ?_
    refine o_enter rfl ?_
    refine o_move rfl .free rfl ?_
    refine o_assign rfl .free rfl ?_
    refine o_done ?_
    refine s_ret (.tmp rfl .nil) ?_
    exact ⟨_, _, hle, fun w h => Mem.sub (L' := rd b oa l c _ :: L) (by repeat (first | exact List.Sublist.refl _ | apply List.Sublist.cons_cons | apply List.Sublist.cons)) h, _, _, rfl, by omega, by omega, by omega, rfl⟩
  intro c1
  try simp only [nb] at c1
  refine s_skip ?_
  refine s_seq ?_
  refine o_enter rfl ?_
  refine o_move rfl .free rfl ?_
  refine o_lits0 .free rfl ?_
  intro b23
  refine o_lits0 .free rfl ?_
  intro b24
  refine o_struct rfl rfl rfl .free rfl ?_
  refine o_move rfl .free rfl ?_
  refine o_mem (fun w h => Mem.sub (L' := rd b oa l c _ :: L) (by repeat (first | exact List.Sublist.refl _ | apply List.Sublist.cons_cons | apply List.Sublist.cons)) h) ?_
  refine o_call rfl .free rfl (g_l91Expr (d := 2) (by decide) h hl b _ (by omega) (sc_nil _ _ _) (by simp) _ (by first | omega | (simp; done) | decide) _) ?_
  rintro _ J2 _ e2 ⟨s2, p2, rfl, hs2, hp5, hp6, rfl⟩
  have hle := hle.trans e2
  refine o_assign rfl .free rfl ?_
  refine o_done ?_
  refine s_ret (.tmp rfl .nil) ?_
  exact ⟨_, _, hle, fun w h => Mem.sub (L' := rd b oa l c _ :: L) (by repeat (first | exact List.Sublist.refl _ | apply List.Sublist.cons_cons | apply List.Sublist.cons)) h, _, _, rfl, by omega, by omega, by omega, rfl⟩
theorem atoms_some {s : Txt} {l : List Txt} (h : atomsOf s = some l) : l ≠ [] ∧ (∀ x ∈ l, x.length ≤ 12000) ∧ l.length ≤ 12000 := by
  unfold atomsOf at h
  cases hp : parse s with
  | none => rw [hp] at h; cases h
  | some t =>
    rw [hp] at h
    simp only [Option.map_some, Option.some.injEq] at h
    subst h
    have h1 := (parse_len hp).2
    have h2 := parse_size hp
    refine ⟨addAll_ne (atomL_ne t), fun x hx => ?_, ?_⟩
    · rcases addAll_mem.1 hx with h3 | h3
      · cases h3
      · have := t.atom_len x h3; omega
    · have := addAll_len [] t.atomL
      rw [t.atomL_len] at this
      simp only [List.length_nil, Nat.zero_add] at this
      exact Nat.le_trans this h2
theorem g_l91Odd {I : Heap} {oa : Option Addr} {l : List UInt8} {c : Nat} (h : Bytes I oa l c) (hl : l.length ≤ 2000) (b p : Nat) (hp : p + 8000 ≤ 1099511627776) (L : Own) :
    Fun Tryz.prog 15 [.pointer (some ⟨b, 0, none⟩)] I (rd b oa l c p :: L) (DT b oa l c p 8000 400001 L) := by
  refine fun_intro (by simp) ?_
  refine s_seq ?_
  refine o_enter rfl ?_
  refine o_assign rfl .free rfl ?_
  refine o_done ?_
  refine s_seq ?_
  refine o_enter rfl ?_
  refine o_move rfl .free rfl ?_
  refine o_call rfl .free rfl (g_l91Good h hl b _ (by omega) _) ?_
  rintro _ J1 _ e1 ⟨s, p1, rfl, hs, hp1, hp2, rfl⟩
  have h := h.mono e1
  refine o_assign rfl .free rfl ?_
  refine o_done ?_
  refine s_seq ?_
  refine s_seq ?_
  refine o_enter rfl ?_
  refine o_move rfl .free rfl ?_
  refine o_call rfl .free rfl (g_l6Rd_pick h hl b _ 4 (by omega) (by decide) _) ?_
  rintro _ _ _ _ ⟨r, rfl, rfl, rfl, hr⟩
  refine o_cmp rfl rfl rfl .free rfl ?_
  refine o_done ?_
  refine s_cond rfl ?_ ?_
  · intro c0
    try simp only [nb] at c0
    refine s_seq ?_
    refine o_enter rfl ?_
    refine o_move rfl .free rfl ?_
    refine o_assign rfl .free rfl ?_
    refine o_done ?_
    refine s_ret (.tmp rfl .nil) ?_
    exact ⟨J1, _, e1, fun _ h => h, s, _, rfl, by omega, by omega, by omega, rfl⟩
  intro c0
  try simp only [nb] at c0
  refine s_skip ?_
  refine s_seq ?_
  refine o_enter rfl ?_
  refine o_move rfl .free rfl ?_
  refine o_call rfl .free rfl (g_FormAtoms s (by unfold maxL; omega) _ _) ?_
  rintro _ J2 _ e2 ⟨o1, k1, rfl, hat, rfl⟩
  have h := h.mono e2
  have hle := e1.trans e2
  refine o_move rfl .free rfl ?_
  refine o_extract rfl rfl .free rfl ?_
  refine o_extract rfl rfl .free rfl ?_
  refine o_assign rfl .free rfl ?_
  refine o_assign rfl .free rfl ?_
  refine o_done ?_
  refine s_seq ?_
  refine s_seq ?_
  refine o_enter rfl ?_
  refine o_move rfl .free rfl ?_
  refine o_not rfl .free rfl ?_
  refine o_done ?_
  refine s_cond rfl ?_ ?_
  · intro c1
    try simp only [nb] at c1
    refine s_seq ?_
    refine o_enter rfl ?_
    refine o_move rfl .free rfl ?_
    refine o_assign rfl .free rfl ?_
    refine o_done ?_
    refine s_ret (.tmp rfl .nil) ?_
    exact ⟨J2, _, hle, fun _ h => h, s, _, rfl, by omega, by omega, by omega, rfl⟩
  intro c1
  try simp only [nb] at c1
  obtain ⟨al, hal⟩ : ∃ al, atomsOf s = some al := Option.isSome_iff_exists.1 c1
  rw [hal] at hat ⊢
  simp only [Option.getD_some] at hat ⊢
  obtain ⟨ha1, ha2, ha3⟩ := atoms_some hal
  have hapos := List.length_pos_iff.2 ha1
  have hanil := hat.nil'
  refine s_skip ?_
  refine s_seq ?_
  refine s_here fun hlr => ?_
  refine d_tl 17 rfl rfl ?_
  refine d_takeA 0 rfl (by kernel_rfl) rfl (.inr heldx) (y_move rfl) .free rfl ?_
  refine d_takeA 1 rfl (by kernel_rfl) rfl (.inr heldx) (y_move rfl) .free rfl ?_
  refine d_takeA 2 rfl (by kernel_rfl) rfl (.inr heldx) (y_move rfl) .free rfl ?_
  refine d_takeA 3 rfl (by kernel_rfl) rfl (.inr heldx) (y_move rfl) .free rfl ?_
  refine d_takeA 4 rfl (by kernel_rfl) rfl (.inr heldx) (y_len_slice rfl) .free rfl ?_
  refine d_takeA 8 rfl (by kernel_rfl) rfl (.inr heldx) (y_move rfl) .free rfl ?_
  refine d_two 5 9 (by kernel_rfl) ?_ ?_
  · skip
    refine i_call 5 rfl rfl rfl .free rfl (g_l6Rd_pick h hl b _ al.length (by omega) (by omega) _) ?_
    rintro _ _ _ _ ⟨r2, rfl, rfl, rfl, hr2⟩
    have hr3 : r2 < al.length := by omega
    have hst := hat.st r2 hr3
    have hel : (al.getD r2 []).length ≤ 12000 := ha2 _ (by rw [show al.getD r2 [] = al[r2] by simp [hr3]]; exact List.getElem_mem _)
    refine ⟨(.inr heldx), ?_⟩
    first | refine d_takeA 6 rfl (by kernel_rfl) rfl (.inr heldx) (y_ixD rfl rfl _ rfl) .free rfl ?_ | refine d_takeA 6 rfl (by kernel_rfl) rfl (.inr heldx) (y_ixP rfl rfl _ rfl) .free rfl ?_
    refine d_take 7 [17] rfl (by kernel_rfl) rfl heldx (y_lI1 rfl) .free rfl ?_
    refine d_lits 9 rfl (by kernel_rfl) rfl rfl rfl (by rfl) (by rfl) (by rfl) (by decide) (by decide) (by rfl) .free rfl (.inr heldx) ?_
    intro b32
    refine d_freeze ?_
    intro hz
    have hk := strs_lit (I := J2) (b := b32) (e := 9) (l := [[97], [120], [49], [112, 97, 105, 114], [99, 97, 108, 108], [102, 115, 116], [105], [43], [40, 102, 115, 116, 32, 49, 41], [98, 55]]) (by decide) (by decide)
    have hlr := hlr.trans hz
    have h := h.mono hz
    have hat := hat.mono hz
    try have hst := hst.mono hz
    refine d_call 10 rfl (by kernel_rfl) rfl rfl .free rfl (g_l6Rd_of h hl b _ (by omega) hk (by simp) _) ?_
    rintro _ _ _ _ ⟨y, rfl, hy, rfl, rfl⟩
    have hyl : y.length ≤ 10 := by revert y; decide
    refine ⟨(.inr heldx), ?_⟩
    refine d_call 11 rfl (by kernel_rfl) rfl rfl .free rfl (g_FormReplace s (al.getD r2 []) y (by unfold maxL; omega) (by unfold maxL; omega) (by omega) _ _) ?_
    rintro _ J3 _ e3 ⟨rfl, rfl⟩
    have h := h.mono e3
    have hlr := hlr.trans e3
    have hol : ((replOf s (al.getD r2 []) y).getD []).length ≤ 12000 := by
      cases ho : replOf s (al.getD r2 []) y with
      | none => decide
      | some o => exact repl_out ho
    refine ⟨(.inr heldx), ?_⟩
    refine d_takeA 12 rfl (by kernel_rfl) rfl (.inr heldx) (y_move rfl) .free rfl ?_
    refine d_takeA 13 rfl (by kernel_rfl) rfl (.inr heldx) (y_extract rfl rfl) .free rfl ?_
    refine d_takeA 14 rfl (by kernel_rfl) rfl (.inr heldx) (y_extract rfl rfl) .free rfl ?_
    refine d_takeA 15 rfl (by kernel_rfl) rfl (.inr heldx) (y_assign rfl) .free rfl ?_
    refine d_takeA 16 rfl (by kernel_rfl) rfl (.inr heldx) (y_assign rfl) .free rfl ?_
    refine d_done (by kernel_rfl) ?_
    refine s_seq ?_
    refine s_seq ?_
    refine o_enter rfl ?_
    refine o_move rfl .free rfl ?_
    refine o_move rfl .free rfl ?_
    first | refine g_if rfl rfl ?_ ?_ | refine g_ifn rfl rfl ?_ ?_ | refine g_b rfl rfl ?_ ?_
    · intro g8_2
      refine o_move rfl (.met rfl rfl) rfl ?_
      refine o_call rfl (.met rfl rfl) rfl (g_l6Rd_pick h hl b _ 8 (by omega) (by decide) _) ?_
      rintro _ _ _ _ ⟨r4, rfl, rfl, rfl, hr4⟩
      refine o_cmp rfl rfl rfl (.met rfl rfl) rfl ?_
      refine o_pick_true rfl rfl .free rfl ?_
      refine o_done ?_
      refine s_cond rfl ?_ ?_
      · intro c2
        try simp only [nb] at c2
        refine s_seq ?_
        refine o_enter rfl ?_
        refine o_move rfl .free rfl ?_
        refine o_assign rfl .free rfl ?_
        refine o_done ?_
        refine s_ret (.tmp rfl .nil) ?_
        exact ⟨J3, _, hle.trans hlr, fun _ h => h, _, _, rfl, by omega, by omega, by omega, rfl⟩
      intro c2
      try simp only [nb] at c2
      refine s_skip ?_
      refine s_seq ?_
      refine o_enter rfl ?_
      refine o_move rfl .free rfl ?_
      refine o_move rfl .free rfl ?_
      refine o_lits rfl rfl (by rfl) (by rfl) (by rfl) (by decide) (by decide) (by rfl) .free rfl ?_
      intro b46
      refine o_freezeLit [[], [32], [41]] (by decide) (by decide) ?_
      intro J5 e5 k5
      refine o_call rfl .free rfl (g_l6Rd_of (h.mono e5) hl b _ (by omega) k5 (by simp) _) ?_
      rintro _ _ _ _ ⟨z, rfl, hz, rfl, rfl⟩
      have hzl : z.length ≤ 1 := by revert z; decide
      refine o_concat rfl rfl (by first | omega | (simp only [List.length_append, List.length_cons, List.length_nil]; omega) | (simp; omega)) .free rfl ?_
      refine o_assign rfl .free rfl ?_
      refine o_done ?_
      refine s_ret (.tmp rfl .nil) ?_
      exact ⟨J5, _, (hle.trans hlr).trans e5, fun _ h => h, _, _, rfl, (by first | omega | (simp only [List.length_append, List.length_cons, List.length_nil]; omega) | (simp; omega)), by omega, by omega, rfl⟩
    intro g8_2
    iterate 3 refine o_skip rfl rfl rfl ?_
    refine o_pick_false rfl rfl .free rfl ?_
    refine o_done ?_
    refine s_false rfl ?_
    refine s_skip ?_
    refine s_seq ?_
    refine o_enter rfl ?_
    refine o_move rfl .free rfl ?_
    refine o_move rfl .free rfl ?_
    refine o_lits rfl rfl (by rfl) (by rfl) (by rfl) (by decide) (by decide) (by rfl) .free rfl ?_
    intro b46
    refine o_freezeLit [[], [32], [41]] (by decide) (by decide) ?_
    intro J5 e5 k5
    refine o_call rfl .free rfl (g_l6Rd_of (h.mono e5) hl b _ (by omega) k5 (by simp) _) ?_
    rintro _ _ _ _ ⟨z, rfl, hz, rfl, rfl⟩
    have hzl : z.length ≤ 1 := by revert z; decide
    refine o_concat rfl rfl (by first | omega | (simp only [List.length_append, List.length_cons, List.length_nil]; omega) | (simp; omega)) .free rfl ?_
    refine o_assign rfl .free rfl ?_
    refine o_done ?_
    refine s_ret (.tmp rfl .nil) ?_
    exact ⟨J5, _, (hle.trans hlr).trans e5, fun _ h => h, _, _, rfl, (by first | omega | (simp only [List.length_append, List.length_cons, List.length_nil]; omega) | (simp; omega)), by omega, by omega, rfl⟩
  · skip
    refine i_lits 9 rfl rfl rfl rfl (by rfl) (by rfl) (by rfl) (by decide) (by decide) (by rfl) .free rfl (.inr heldx) ?_
    intro b32
    refine d_freeze ?_
    intro hz
    have hk := strs_lit (I := J2) (b := b32) (e := 9) (l := [[97], [120], [49], [112, 97, 105, 114], [99, 97, 108, 108], [102, 115, 116], [105], [43], [40, 102, 115, 116, 32, 49, 41], [98, 55]]) (by decide) (by decide)
    have hlr := hlr.trans hz
    have h := h.mono hz
    have hat := hat.mono hz
    try have hst := hst.mono hz
    refine d_call 5 rfl (by kernel_rfl) rfl rfl .free rfl (g_l6Rd_pick h hl b _ al.length (by omega) (by omega) _) ?_
    rintro _ _ _ _ ⟨r2, rfl, rfl, rfl, hr2⟩
    have hr3 : r2 < al.length := by omega
    have hst := hat.st r2 hr3
    have hel : (al.getD r2 []).length ≤ 12000 := ha2 _ (by rw [show al.getD r2 [] = al[r2] by simp [hr3]]; exact List.getElem_mem _)
    refine ⟨(.inr heldx), ?_⟩
    first | refine d_takeA 6 rfl (by kernel_rfl) rfl (.inr heldx) (y_ixD rfl rfl _ rfl) .free rfl ?_ | refine d_takeA 6 rfl (by kernel_rfl) rfl (.inr heldx) (y_ixP rfl rfl _ rfl) .free rfl ?_
    refine d_take 7 [17] rfl (by kernel_rfl) rfl heldx (y_lI1 rfl) .free rfl ?_
    refine d_call 10 rfl (by kernel_rfl) rfl rfl .free rfl (g_l6Rd_of h hl b _ (by omega) hk (by simp) _) ?_
    rintro _ _ _ _ ⟨y, rfl, hy, rfl, rfl⟩
    have hyl : y.length ≤ 10 := by revert y; decide
    refine ⟨(.inr heldx), ?_⟩
    refine d_call 11 rfl (by kernel_rfl) rfl rfl .free rfl (g_FormReplace s (al.getD r2 []) y (by unfold maxL; omega) (by unfold maxL; omega) (by omega) _ _) ?_
    rintro _ J3 _ e3 ⟨rfl, rfl⟩
    have h := h.mono e3
    have hlr := hlr.trans e3
    have hol : ((replOf s (al.getD r2 []) y).getD []).length ≤ 12000 := by
      cases ho : replOf s (al.getD r2 []) y with
      | none => decide
      | some o => exact repl_out ho
    refine ⟨(.inr heldx), ?_⟩
    refine d_takeA 12 rfl (by kernel_rfl) rfl (.inr heldx) (y_move rfl) .free rfl ?_
    refine d_takeA 13 rfl (by kernel_rfl) rfl (.inr heldx) (y_extract rfl rfl) .free rfl ?_
    refine d_takeA 14 rfl (by kernel_rfl) rfl (.inr heldx) (y_extract rfl rfl) .free rfl ?_
    refine d_takeA 15 rfl (by kernel_rfl) rfl (.inr heldx) (y_assign rfl) .free rfl ?_
    refine d_takeA 16 rfl (by kernel_rfl) rfl (.inr heldx) (y_assign rfl) .free rfl ?_
    refine d_done (by kernel_rfl) ?_
    refine s_seq ?_
    refine s_seq ?_
    refine o_enter rfl ?_
    refine o_move rfl .free rfl ?_
    refine o_move rfl .free rfl ?_
    first | refine g_if rfl rfl ?_ ?_ | refine g_ifn rfl rfl ?_ ?_ | refine g_b rfl rfl ?_ ?_
    · intro g8_2
      refine o_move rfl (.met rfl rfl) rfl ?_
      refine o_call rfl (.met rfl rfl) rfl (g_l6Rd_pick h hl b _ 8 (by omega) (by decide) _) ?_
      rintro _ _ _ _ ⟨r4, rfl, rfl, rfl, hr4⟩
      refine o_cmp rfl rfl rfl (.met rfl rfl) rfl ?_
      refine o_pick_true rfl rfl .free rfl ?_
      refine o_done ?_
      refine s_cond rfl ?_ ?_
      · intro c2
        try simp only [nb] at c2
        refine s_seq ?_
        refine o_enter rfl ?_
        refine o_move rfl .free rfl ?_
        refine o_assign rfl .free rfl ?_
        refine o_done ?_
        refine s_ret (.tmp rfl .nil) ?_
        exact ⟨J3, _, hle.trans hlr, fun _ h => h, _, _, rfl, by omega, by omega, by omega, rfl⟩
      intro c2
      try simp only [nb] at c2
      refine s_skip ?_
      refine s_seq ?_
      refine o_enter rfl ?_
      refine o_move rfl .free rfl ?_
      refine o_move rfl .free rfl ?_
      refine o_lits rfl rfl (by rfl) (by rfl) (by rfl) (by decide) (by decide) (by rfl) .free rfl ?_
      intro b46
      refine o_freezeLit [[], [32], [41]] (by decide) (by decide) ?_
      intro J5 e5 k5
      refine o_call rfl .free rfl (g_l6Rd_of (h.mono e5) hl b _ (by omega) k5 (by simp) _) ?_
      rintro _ _ _ _ ⟨z, rfl, hz, rfl, rfl⟩
      have hzl : z.length ≤ 1 := by revert z; decide
      refine o_concat rfl rfl (by first | omega | (simp only [List.length_append, List.length_cons, List.length_nil]; omega) | (simp; omega)) .free rfl ?_
      refine o_assign rfl .free rfl ?_
      refine o_done ?_
      refine s_ret (.tmp rfl .nil) ?_
      exact ⟨J5, _, (hle.trans hlr).trans e5, fun _ h => h, _, _, rfl, (by first | omega | (simp only [List.length_append, List.length_cons, List.length_nil]; omega) | (simp; omega)), by omega, by omega, rfl⟩
    intro g8_2
    iterate 3 refine o_skip rfl rfl rfl ?_
    refine o_pick_false rfl rfl .free rfl ?_
    refine o_done ?_
    refine s_false rfl ?_
    refine s_skip ?_
    refine s_seq ?_
    refine o_enter rfl ?_
    refine o_move rfl .free rfl ?_
    refine o_move rfl .free rfl ?_
    refine o_lits rfl rfl (by rfl) (by rfl) (by rfl) (by decide) (by decide) (by rfl) .free rfl ?_
    intro b46
    refine o_freezeLit [[], [32], [41]] (by decide) (by decide) ?_
    intro J5 e5 k5
    refine o_call rfl .free rfl (g_l6Rd_of (h.mono e5) hl b _ (by omega) k5 (by simp) _) ?_
    rintro _ _ _ _ ⟨z, rfl, hz, rfl, rfl⟩
    have hzl : z.length ≤ 1 := by revert z; decide
    refine o_concat rfl rfl (by first | omega | (simp only [List.length_append, List.length_cons, List.length_nil]; omega) | (simp; omega)) .free rfl ?_
    refine o_assign rfl .free rfl ?_
    refine o_done ?_
    refine s_ret (.tmp rfl .nil) ?_
    exact ⟨J5, _, (hle.trans hlr).trans e5, fun _ h => h, _, _, rfl, (by first | omega | (simp only [List.length_append, List.length_cons, List.length_nil]; omega) | (simp; omega)), by omega, by omega, rfl⟩
end Go.Proofs.YtacodibjfamkhaaGreat


/- Drawn expressions in an environment, and for faults. No conditions. -/
namespace Go.Proofs.YtacodibjfamkhaaGreat
set_option maxRecDepth 100000
set_option linter.unusedVariables false
set_option linter.unusedSimpArgs false

theorem g_l91Open {I : Heap} {oa : Option Addr} {l : List UInt8} {c : Nat} (h : Bytes I oa l c) (hl : l.length ≤ 2000) (b p : Nat) (hp : p + 4000 ≤ 1099511627776) (L : Own) :
    Fun Tryz.prog 16 [.pointer (some ⟨b, 0, none⟩)] I (rd b oa l c p :: L) (DT b oa l c p 4000 400000 L) := by
  refine fun_intro (by simp) ?_
  refine s_seq ?_
  refine o_enter rfl ?_
  refine o_assign rfl .free rfl ?_
  refine o_done ?_
  refine s_seq ?_
  refine o_enter rfl ?_
  refine o_lits rfl rfl (by rfl) (by rfl) (by rfl) (by decide) (by decide) (by rfl) .free rfl ?_
  intro b4
  refine o_freezeLit [[97], [98], [120, 48]] (by decide) (by decide) ?_
  intro J1 e1 k1
  have h := h.mono e1
  refine o_lits rfl rfl (by rfl) (by rfl) (by rfl) (by decide) (by decide) (by rfl) .free rfl ?_
  intro b5
  refine o_freezeLit [[105], [40, 42, 32, 105, 32, 105, 41], [105]] (by decide) (by decide) ?_
  intro J2 e2 k2
  have h := h.mono e2
  have k1 := k1.mono e2
  have hle := e1.trans e2
  have hsc : ScAt J2 [[97], [98], [120, 48]] [[105], [40, 42, 32, 105, 32, 105, 41], [105]] (some ⟨b4, 0, none⟩) 3 (some ⟨b5, 0, none⟩) 3 := ⟨k1, k2, rfl, by decide, by decide⟩
  refine o_struct rfl rfl rfl .free rfl ?_
  refine o_alloc .free rfl ?_
  intro b3
  refine o_st rfl rfl rfl rfl .free ?_
  refine o_done ?_
  refine s_seq ?_
  refine s_mem (fun w h => h.perm2) ?_
  refine s_here fun hlr => ?_
  refine d_tl 7 rfl rfl ?_
  refine d_takeA 0 rfl (by kernel_rfl) rfl (.inr heldx) (y_move rfl) .free rfl ?_
  refine d_take 1 [7] rfl (by kernel_rfl) rfl heldx (y_lOS rfl) .free rfl ?_
  refine d_takeA 2 rfl (by kernel_rfl) rfl (.inr heldx) (y_move rfl) .free rfl ?_
  refine d_call 3 rfl (by kernel_rfl) rfl rfl .free rfl (g_l6Rd_pick h hl b _ 2 (by omega) (by decide) _) ?_
  rintro _ _ _ _ ⟨r, rfl, rfl, rfl, hr⟩
  refine ⟨(.inr heldx), ?_⟩
  refine d_takeA 4 rfl (by kernel_rfl) rfl (.inr heldx) (y_arith rfl rfl rfl (by omega)) .free rfl ?_
  refine d_call 5 rfl (by kernel_rfl) rfl rfl .free rfl (g_l91Expr (d := 2 + r) (by omega) h hl b _ (by omega) hsc (by simp) [105] (by decide) _) ?_
  rintro _ J3 _ e3 ⟨s, p1, rfl, hs, hp1, hp2, rfl⟩
  have hlr := hlr.trans e3
  refine ⟨(.inr heldx), ?_⟩
  refine d_takeA 6 rfl (by kernel_rfl) rfl (.inr heldx) (y_assign rfl) .free rfl ?_
  refine d_done (by kernel_rfl) ?_
  refine s_ret (.tmp rfl .nil) ?_
  exact ⟨_, _, hle.trans e3, fun w h => Mem.sub (L' := rd b oa l c _ :: L) (by repeat (first | exact List.Sublist.refl _ | apply List.Sublist.cons_cons | apply List.Sublist.cons)) h, _, _, rfl, hs, by omega, by omega, rfl⟩
/-- A drawn expression in a drawn environment. -/
def DQ (L : Own) : Post := fun v I' L' => ∃ o1 n1 c1 o2 n2 c2 s, v = .tuple #[.slice o1 (List.length n1) c1, .slice o2 (List.length n2) c2, .string (str s)] ∧ Strs I' o1 n1 c1 ∧ Strs I' o2 n2 c2 ∧ n1.length ≤ 16 ∧ n2.length ≤ 16 ∧ (∀ s ∈ n1, s.length ≤ 16) ∧ (∀ s ∈ n2, s.length ≤ 16) ∧ List.length s ≤ 400001 ∧ L = L'
theorem g_DrawExprType {I : Heap} {oa : Option Addr} {l : List UInt8} {c : Nat} (h : Bytes I oa l c) (L : Own) : Fun Tryz.prog 4 [.slice oa l.length c] I L (DQ L) := by
  refine fun_intro (by simp) ?_
  refine s_seq ?_
  refine o_enter rfl ?_
  iterate 3 refine o_assign rfl .free rfl ?_
  refine o_done ?_
  refine s_seq ?_
  refine o_enter rfl ?_
  refine o_move rfl .free rfl ?_
  refine o_call rfl .free rfl (g_l6Open h _) ?_
  rintro _ J1 _ e1 ⟨b, oa1, l1, c1, rfl, h1, hl1, rfl⟩
  refine o_assign rfl .free rfl ?_
  refine o_done ?_
  refine s_seq ?_
  refine o_enter rfl ?_
  refine o_move rfl .free rfl ?_
  refine o_call rfl .free rfl (g_l91Env h1 hl1 b 0 (by decide) L) ?_
  rintro _ J2 _ e2 ⟨o1, n1, c1, o2, n2, c2, rfl, k1, k2, m1, m2, m3, m4, rfl⟩
  have h2 := h1.mono e2
  refine o_move rfl .free rfl ?_
  refine o_extract rfl rfl .free rfl ?_
  refine o_extract rfl rfl .free rfl ?_
  refine o_assign rfl .free rfl ?_
  refine o_assign rfl .free rfl ?_
  refine o_done ?_
  refine s_seq ?_
  refine s_seq ?_
  refine o_enter rfl ?_
  refine o_move rfl .free rfl ?_
  refine o_call rfl .free rfl (g_l6Rd_pick h2 hl1 b _ 4 (by omega) (by decide) _) ?_
  rintro _ _ _ _ ⟨r, rfl, rfl, rfl, hr⟩
  refine o_cmp rfl rfl rfl .free rfl ?_
  refine o_done ?_
  refine s_cond rfl ?_ ?_
  · intro c0
    try simp only [nb] at c0
    refine s_seq ?_
    refine o_enter rfl ?_
    iterate 3 refine o_move rfl .free rfl ?_
    refine o_call rfl .free rfl (g_l91Odd h2 hl1 b _ (by omega) _) ?_
    rintro _ J3 _ e3 ⟨s, p1, rfl, hs, hp1, hp2, rfl⟩
    iterate 3 refine o_assign rfl .free rfl ?_
    refine o_done ?_
    refine s_ret (.tmp rfl (.tmp rfl (.tmp rfl .nil))) ?_
    exact ⟨J3, L, (e1.trans e2).trans e3, fun _ h => h.drop, _, _, _, _, _, _, s, rfl, k1.mono e3, k2.mono e3, m1, m2, m3, m4, hs, rfl⟩
  intro c0
  try simp only [nb] at c0
  refine s_skip ?_
  refine s_seq ?_
  refine o_enter rfl ?_
  iterate 3 refine o_move rfl .free rfl ?_
  refine o_call rfl .free rfl (g_l91Open h2 hl1 b _ (by omega) _) ?_
  rintro _ J4 _ e4 ⟨s, p1, rfl, hs, hp1, hp2, rfl⟩
  iterate 3 refine o_assign rfl .free rfl ?_
  refine o_done ?_
  refine s_ret (.tmp rfl (.tmp rfl (.tmp rfl .nil))) ?_
  exact ⟨J4, L, (e1.trans e2).trans e4, fun _ h => h.drop, _, _, _, _, _, _, s, rfl, k1.mono e4, k2.mono e4, m1, m2, m3, m4, by omega, rfl⟩
end Go.Proofs.YtacodibjfamkhaaGreat


/- Parts of expressions are expressions; what is counted and put. No conditions. -/
namespace Go.Proofs.YtacodibjfamkhaaGreat
set_option maxRecDepth 100000
set_option linter.unusedVariables false
set_option linter.unusedSimpArgs false

theorem exOf_fine {e : Ex} (h : e.fine = true) : exOf e.tree.text = some e := by
  have hok : e.ok = true := by simp only [Ex.fine, Bool.and_eq_true] at h; exact h.1.1
  rw [exOf_text hok, if_pos h]
theorem exOf_is {s : Txt} {e : Ex} (h : exOf s = some e) : e.fine = true ∧ e.ok = true ∧ e.size ≤ 120 ∧ e.tree.len ≤ 12000 ∧ s = e.tree.text := by
  obtain ⟨_, h2, h3⟩ := exOf_some h
  have h4 := h2
  simp only [Ex.fine, Bool.and_eq_true, Tree.fits, decide_eq_true_eq] at h4
  exact ⟨h2, h4.1.1, h4.1.2, h4.2.2, h3⟩
/-- How many expressions an expression and its parts are. -/
def Ex.many : Ex → Nat
  | .num _ => 1
  | .name _ => 1
  | .bin _ a b => 1 + a.many + b.many
  | .ite a b c => 1 + a.many + b.many + c.many
  | .lt _ a b => 1 + a.many + b.many
  | .fn _ _ _ _ b => 1 + b.many
  | .un _ a => 1 + a.many
/-- What an expression begins with. -/
def Ex.hd : Ex → Txt
  | .num _ => [110, 117, 109, 98, 101, 114]
  | .name _ => [110, 97, 109, 101]
  | e => e.tree.head
def headOf (s : Txt) : Txt := match exOf s with
  | some e => e.hd
  | none => []
def kidsOf (s : Txt) : Option (List Txt) := (exOf s).map fun e => e.sub.map fun a => a.tree.text
def manyOf (s : Txt) : Int := match exOf s with
  | some e => (e.many : Nat)
  | none => -1
def sizeOfT (s : Txt) : Int := match parse s with
  | some t => (t.size : Nat)
  | none => -1
end Go.Proofs.YtacodibjfamkhaaGreat


/- An expression put for a name. No conditions. -/
namespace Go.Proofs.YtacodibjfamkhaaGreat
set_option maxRecDepth 100000
set_option linter.unusedVariables false
set_option linter.unusedSimpArgs false

theorem f_form_put : ∀ (n : Nat) {I : Heap} {e : Ex} {cs : List Value} (_ : SizeOf.sizeOf e < n) (_ : Rep I e.tree cs) (_ : e.ok = true) (nm : Txt) (_ : isName nm = true) {v : Ex} {ds : List Value} (_ : Rep I v.tree ds) (L : Own),
    Fun Tryz.prog 31 [.agg cs.toArray, .string (str nm), .agg ds.toArray] I L (RP (e.put nm v).tree L) := by
  intro n
  induction n with
  | zero => intro I e cs h; omega
  | succ n ihn =>
    intro I e cs hlt h hok nm hnm v ds hv L
    obtain ⟨oa, c, oaf, cf, rfl, hf, hcl, hcs⟩ := h.cells
    obtain ⟨ov, cv, _, rfl, -⟩ := hv.open
    have hle : HLe I I := .refl _
    refine fun_intro (by simp) ?_
    refine s_seq ?_
    refine o_enter rfl ?_
    refine o_box rfl rfl .free rfl ?_
    intro b3
    refine o_box rfl rfl .free rfl ?_
    intro b5
    refine o_alloc .free rfl ?_
    intro b6
    refine o_done ?_
    refine s_seq ?_
    refine s_seq ?_
    refine o_enter rfl ?_
    refine o_lOS rfl .free rfl ?_
    refine o_call rfl .free rfl (f_form_isAtom hf.rep _) ?_
    rintro _ _ _ _ ⟨rfl, rfl, rfl⟩
    refine o_done ?_
    refine s_cond rfl ?_ ?_
    · intro c0
      try simp only [nb] at c0
      have hb : e.bare = true := by rw [Ex.bare_parts]; exact c0
      refine s_seq ?_
      refine s_seq ?_
      refine o_enter rfl ?_
      refine o_fieldAddr rfl .free rfl ?_
      refine o_lO1 rfl .free rfl ?_
      refine o_move rfl .free rfl ?_
      refine o_cmps rfl rfl rfl .free rfl ?_
      refine o_done ?_
      refine s_cond rfl ?_ ?_
      · intro c1
        try simp only [nb] at c1
        refine s_seq ?_
        refine o_enter rfl ?_
        refine o_lOS rfl .free rfl ?_
        refine o_st rfl rfl rfl rfl .free ?_
        refine o_done ?_
        refine s_ret (.c rfl .nil) ?_
        refine ⟨I, L, .refl _, drops, _, rfl, ?_, rfl⟩
        have : e.put nm v = v := by
          cases e with
          | num s =>
            have c1 : s = nm := c1
            subst c1
            have h2 := name_not_num hnm
            rw [show isNum s = true from hok] at h2; cases h2
          | name s => exact if_pos c1
          | _ => cases hb
        rw [this]; exact hv
      intro c1
      try simp only [nb] at c1
      refine s_skip ?_
      refine s_seq ?_
      refine o_enter rfl ?_
      refine o_lOS rfl .free rfl ?_
      refine o_st rfl rfl rfl rfl .free ?_
      refine o_done ?_
      refine s_ret (.c rfl .nil) ?_
      refine ⟨I, L, .refl _, drops, _, rfl, ?_, rfl⟩
      have : e.put nm v = e := by
        cases e with
        | num s => rfl
        | name s => exact if_neg c1
        | _ => cases hb
      rw [this]; exact hf.rep
    intro c0
    try simp only [nb] at c0
    have hb : e.bare = false := by rw [Ex.bare_parts]; exact c0
    have hsh := e.shapes hb
    have hok0 := hok
    have hpos : 0 < e.tree.parts.length := by
      rw [Ex.bare_parts] at hb
      have : e.tree.parts ≠ [] := by intro hh; rw [hh] at hb; cases hb
      exact List.length_pos_iff.2 this
    obtain ⟨xa, rfl⟩ : ∃ xa, oa = some xa := ⟨_, some_oad hf.nil hpos⟩
    have hp := hf.len
    refine s_skip ?_
    refine s_seq ?_
    refine o_enter rfl ?_
    refine o_fieldAddr rfl .free rfl ?_
    refine o_lO1 rfl .free rfl ?_
    refine o_call rfl .free rfl (f_slices_Clone (hcs _ rfl) (by have := hcl.length; omega) hcl.plain hpos hp _) ?_
    rintro _ _ _ _ ⟨bc, sp, cc, rfl, hcc, rfl, rfl⟩
    refine o_struct rfl rfl rfl .free rfl ?_
    refine o_alloc .free rfl ?_
    intro b7
    refine o_st rfl rfl rfl rfl .free ?_
    refine o_done ?_
    refine s_seq ?_
    refine s_seq ?_
    rcases hsh with ⟨o, a, b, rfl⟩ | ⟨a, b, d, rfl⟩ | ⟨z, a, b, rfl⟩ | ⟨g, z, s, t, b, rfl⟩ | ⟨o, a, rfl⟩
    · skip
      have hlen : (Ex.bin o a b).tree.parts.length = 3 := rfl
      have hki := kids_bin o a b
      simp only [Ex.bin.sizeOf_spec] at hlt
      simp only [Ex.ok, Bool.and_eq_true] at hok
      obtain ⟨_, hrl⟩ : ∃ _ : True, RepL I (Ex.bin o a b).tree.parts _ := ⟨trivial, hcl⟩
      simp only [show (Ex.bin o a b).tree.parts = [.node o.txt [], a.tree, b.tree] from rfl, cellsF, List.cons_append, List.nil_append] at hrl ⊢
      refine o_enter rfl ?_
      refine o_lOS rfl .free rfl ?_
      refine o_call rfl .free rfl (f_form_kids hf.rep _) ?_
      rintro _ J _ e0 ⟨ok, ck, rfl, hk, rfl⟩
      have hf := hf.mono e0
      have hv := hv.mono e0
      have hle := e0
      rw [hki] at hk
      rw [hki]
      refine o_len_slice rfl .free rfl ?_
      refine o_move rfl .free rfl ?_
      refine o_done ?_
      refine s_block ?_
      refine s_loop ?_
      refine s_seq ?_
      refine o_enter rfl ?_
      refine o_cmp rfl rfl rfl .free rfl ?_
      refine o_done ?_
      refine s_seq ?_
      refine s_condT rfl (by first | rfl | decide | (simp; done) | omega) ?_
      refine s_skip ?_
      refine s_seq ?_
      refine s_block ?_
      refine s_seq ?_
      refine o_enter rfl ?_
      first | refine o_ixD rfl rfl _ rfl .free rfl ?_ | refine o_ixP rfl rfl _ rfl .free rfl ?_
      refine o_lI1 rfl .free rfl ?_
      refine o_assign rfl .free rfl ?_
      refine o_done ?_
      refine s_seq ?_
      refine o_enter rfl ?_
      refine o_lOS rfl .free rfl ?_
      refine o_move rfl .free rfl ?_
      refine o_call rfl .free rfl (f_form_bound hf.rep hok0 _ _) ?_
      rintro _ J1 _ e1 ⟨o1, k1, rfl, hs1, rfl⟩
      refine o_move rfl .free rfl ?_
      refine o_call rfl .free rfl (f_slices_Contains (hs1.rd _) k1 nm) ?_
      rintro _ _ _ _ ⟨rfl, rfl, rfl⟩
      refine o_not rfl .free rfl ?_
      refine o_mem (fun w h => Mem.le e1 h) ?_
      refine o_done ?_
      first | refine s_tp rfl (by simp [Ex.binds]) ?_ | refine s_tn rfl (by simp [Ex.binds]) ?_ | refine s_true (by simp [look, opd, *]) ?_
      refine d_all 13 rfl rfl ?_
      refine d_takeA 0 rfl (by kernel_rfl) rfl (.inr heldx) (y_fieldAddr rfl) .free rfl ?_
      refine d_take 1 [12] rfl (by kernel_rfl) rfl heldx (y_lO1 rfl) .free rfl ?_
      refine d_takeA 2 rfl (by kernel_rfl) rfl (.inr heldx) (y_move rfl) .free rfl ?_
      refine d_takeA 3 rfl (by kernel_rfl) rfl (.inr heldx) (y_fieldAddr rfl) .free rfl ?_
      refine d_take 4 [12] rfl (by kernel_rfl) rfl heldx (y_lO1 rfl) .free rfl ?_
      refine d_takeA 5 rfl (by kernel_rfl) rfl (.inr heldx) (y_move rfl) .free rfl ?_
      first | refine d_takeA 6 rfl (by kernel_rfl) rfl (.inr heldx) (y_ixD rfl rfl _ rfl) .free rfl ?_ | refine d_takeA 6 rfl (by kernel_rfl) rfl (.inr heldx) (y_ixP rfl rfl _ rfl) .free rfl ?_
      refine d_take 7 [12] rfl (by kernel_rfl) rfl heldx (y_lIS rfl) .free rfl ?_
      refine d_takeA 8 rfl (by kernel_rfl) rfl (.inr heldx) (y_move rfl) .free rfl ?_
      refine d_take 9 [12] rfl (by kernel_rfl) rfl heldx (y_lOS rfl) .free rfl ?_
      refine d_call 10 rfl (by kernel_rfl) rfl rfl .free rfl (ihn (by omega) (hf.as 1 a.tree (by omega) rfl) hok.1 nm hnm hv _) ?_
      rintro _ J2 _ e2 ⟨cs2, rfl, hr_0, rfl⟩
      obtain ⟨o2, k2, _, rfl, -⟩ := hr_0.open
      have hf := hf.mono e2
      have hv := hv.mono e2
      have hle := hle.trans e2
      have hk := hk.mono e2
      refine ⟨(.inr heldx), ?_⟩
      first | refine d_takeA 11 rfl (by kernel_rfl) rfl (.inr heldx) (y_ixD rfl rfl _ rfl) .free rfl ?_ | refine d_takeA 11 rfl (by kernel_rfl) rfl (.inr heldx) (y_ixP rfl rfl _ rfl) .free rfl ?_
      refine d_st 12 rfl (by kernel_rfl) rfl rfl rfl rfl rfl .free (.inl (by kernel_rfl)) ?_
      refine d_done (by kernel_rfl) ?_
      refine s_inBlock ?_
      refine o_enter rfl ?_
      refine o_arith rfl rfl rfl (by omega) .free rfl ?_
      refine o_move rfl .free rfl ?_
      refine o_done ?_
      refine s_round ?_
      refine s_seq ?_
      refine o_enter rfl ?_
      refine o_cmp rfl rfl rfl .free rfl ?_
      refine o_done ?_
      refine s_seq ?_
      refine s_condT rfl (by first | rfl | decide | (simp; done) | omega) ?_
      refine s_skip ?_
      refine s_seq ?_
      refine s_block ?_
      refine s_seq ?_
      refine o_enter rfl ?_
      first | refine o_ixD rfl rfl _ rfl .free rfl ?_ | refine o_ixP rfl rfl _ rfl .free rfl ?_
      refine o_lI1 rfl .free rfl ?_
      refine o_assign rfl .free rfl ?_
      refine o_done ?_
      refine s_seq ?_
      refine o_enter rfl ?_
      refine o_lOS rfl .free rfl ?_
      refine o_move rfl .free rfl ?_
      refine o_call rfl .free rfl (f_form_bound hf.rep hok0 _ _) ?_
      rintro _ J1 _ e1 ⟨o1, k1, rfl, hs1, rfl⟩
      refine o_move rfl .free rfl ?_
      refine o_call rfl .free rfl (f_slices_Contains (hs1.rd _) k1 nm) ?_
      rintro _ _ _ _ ⟨rfl, rfl, rfl⟩
      refine o_not rfl .free rfl ?_
      refine o_mem (fun w h => Mem.le e1 h) ?_
      refine o_done ?_
      first | refine s_tp rfl (by simp [Ex.binds]) ?_ | refine s_tn rfl (by simp [Ex.binds]) ?_ | refine s_true (by simp [look, opd, *]) ?_
      refine d_all 13 rfl rfl ?_
      refine d_takeA 0 rfl (by kernel_rfl) rfl (.inr heldx) (y_fieldAddr rfl) .free rfl ?_
      refine d_take 1 [12] rfl (by kernel_rfl) rfl heldx (y_lO1 rfl) .free rfl ?_
      refine d_takeA 2 rfl (by kernel_rfl) rfl (.inr heldx) (y_move rfl) .free rfl ?_
      refine d_takeA 3 rfl (by kernel_rfl) rfl (.inr heldx) (y_fieldAddr rfl) .free rfl ?_
      refine d_take 4 [12] rfl (by kernel_rfl) rfl heldx (y_lO1 rfl) .free rfl ?_
      refine d_takeA 5 rfl (by kernel_rfl) rfl (.inr heldx) (y_move rfl) .free rfl ?_
      first | refine d_takeA 6 rfl (by kernel_rfl) rfl (.inr heldx) (y_ixD rfl rfl _ rfl) .free rfl ?_ | refine d_takeA 6 rfl (by kernel_rfl) rfl (.inr heldx) (y_ixP rfl rfl _ rfl) .free rfl ?_
      refine d_take 7 [12] rfl (by kernel_rfl) rfl heldx (y_lIS rfl) .free rfl ?_
      refine d_takeA 8 rfl (by kernel_rfl) rfl (.inr heldx) (y_move rfl) .free rfl ?_
      refine d_take 9 [12] rfl (by kernel_rfl) rfl heldx (y_lOS rfl) .free rfl ?_
      refine d_call 10 rfl (by kernel_rfl) rfl rfl .free rfl (ihn (by omega) (hf.as 2 b.tree (by omega) rfl) hok.2 nm hnm hv _) ?_
      rintro _ J2 _ e2 ⟨cs2, rfl, hr_1, rfl⟩
      obtain ⟨o2, k2, _, rfl, -⟩ := hr_1.open
      have hf := hf.mono e2
      have hv := hv.mono e2
      have hle := hle.trans e2
      have hk := hk.mono e2
      have hr_0 := hr_0.mono e2
      refine ⟨(.inr heldx), ?_⟩
      first | refine d_takeA 11 rfl (by kernel_rfl) rfl (.inr heldx) (y_ixD rfl rfl _ rfl) .free rfl ?_ | refine d_takeA 11 rfl (by kernel_rfl) rfl (.inr heldx) (y_ixP rfl rfl _ rfl) .free rfl ?_
      refine d_st 12 rfl (by kernel_rfl) rfl rfl rfl rfl rfl .free (.inl (by kernel_rfl)) ?_
      refine d_done (by kernel_rfl) ?_
      refine s_inBlock ?_
      refine o_enter rfl ?_
      refine o_arith rfl rfl rfl (by omega) .free rfl ?_
      refine o_move rfl .free rfl ?_
      refine o_done ?_
      refine s_round ?_
      refine s_seq ?_
      refine o_enter rfl ?_
      refine o_cmp rfl rfl rfl .free rfl ?_
      refine o_done ?_
      refine s_seq ?_
      refine s_condF rfl (by first | rfl | decide | (simp; done) | omega) ?_
      refine s_exit rfl ?_
      refine s_seq ?_
      refine o_enter rfl ?_
      refine o_lOS rfl .free rfl ?_
      refine o_st rfl rfl rfl rfl .free ?_
      refine o_done ?_
      refine s_mem (fun w h => h.f1) (s_freeze ?_)
      intro hz
      have hf := hf.mono hz
      refine s_ret (.c rfl .nil) ?_
      exact ⟨_, L, hle.trans hz, drops, _, rfl, .mk' rfl (.cons (hf.as 0 (.node o.txt []) (by omega) rfl) (.cons (hr_0.mono hz) (.cons (hr_1.mono hz) .nil))) (fun y hy => by cases hy; exact still_set (xs := [_, _, _, _, _, _])) (by simp) hcc (by simp [maxN]) (by simp [maxN]), rfl⟩
    · skip
      have hlen : (Ex.ite a b d).tree.parts.length = 4 := rfl
      have hki := kids_ite a b d
      simp only [Ex.ite.sizeOf_spec] at hlt
      simp only [Ex.ok, Bool.and_eq_true] at hok
      obtain ⟨_, hrl⟩ : ∃ _ : True, RepL I (Ex.ite a b d).tree.parts _ := ⟨trivial, hcl⟩
      simp only [show (Ex.ite a b d).tree.parts = [.node tIf [], a.tree, b.tree, d.tree] from rfl, cellsF, List.cons_append, List.nil_append] at hrl ⊢
      refine o_enter rfl ?_
      refine o_lOS rfl .free rfl ?_
      refine o_call rfl .free rfl (f_form_kids hf.rep _) ?_
      rintro _ J _ e0 ⟨ok, ck, rfl, hk, rfl⟩
      have hf := hf.mono e0
      have hv := hv.mono e0
      have hle := e0
      rw [hki] at hk
      rw [hki]
      refine o_len_slice rfl .free rfl ?_
      refine o_move rfl .free rfl ?_
      refine o_done ?_
      refine s_block ?_
      refine s_loop ?_
      refine s_seq ?_
      refine o_enter rfl ?_
      refine o_cmp rfl rfl rfl .free rfl ?_
      refine o_done ?_
      refine s_seq ?_
      refine s_condT rfl (by first | rfl | decide | (simp; done) | omega) ?_
      refine s_skip ?_
      refine s_seq ?_
      refine s_block ?_
      refine s_seq ?_
      refine o_enter rfl ?_
      first | refine o_ixD rfl rfl _ rfl .free rfl ?_ | refine o_ixP rfl rfl _ rfl .free rfl ?_
      refine o_lI1 rfl .free rfl ?_
      refine o_assign rfl .free rfl ?_
      refine o_done ?_
      refine s_seq ?_
      refine o_enter rfl ?_
      refine o_lOS rfl .free rfl ?_
      refine o_move rfl .free rfl ?_
      refine o_call rfl .free rfl (f_form_bound hf.rep hok0 _ _) ?_
      rintro _ J1 _ e1 ⟨o1, k1, rfl, hs1, rfl⟩
      refine o_move rfl .free rfl ?_
      refine o_call rfl .free rfl (f_slices_Contains (hs1.rd _) k1 nm) ?_
      rintro _ _ _ _ ⟨rfl, rfl, rfl⟩
      refine o_not rfl .free rfl ?_
      refine o_mem (fun w h => Mem.le e1 h) ?_
      refine o_done ?_
      first | refine s_tp rfl (by simp [Ex.binds]) ?_ | refine s_tn rfl (by simp [Ex.binds]) ?_ | refine s_true (by simp [look, opd, *]) ?_
      refine d_all 13 rfl rfl ?_
      refine d_takeA 0 rfl (by kernel_rfl) rfl (.inr heldx) (y_fieldAddr rfl) .free rfl ?_
      refine d_take 1 [12] rfl (by kernel_rfl) rfl heldx (y_lO1 rfl) .free rfl ?_
      refine d_takeA 2 rfl (by kernel_rfl) rfl (.inr heldx) (y_move rfl) .free rfl ?_
      refine d_takeA 3 rfl (by kernel_rfl) rfl (.inr heldx) (y_fieldAddr rfl) .free rfl ?_
      refine d_take 4 [12] rfl (by kernel_rfl) rfl heldx (y_lO1 rfl) .free rfl ?_
      refine d_takeA 5 rfl (by kernel_rfl) rfl (.inr heldx) (y_move rfl) .free rfl ?_
      first | refine d_takeA 6 rfl (by kernel_rfl) rfl (.inr heldx) (y_ixD rfl rfl _ rfl) .free rfl ?_ | refine d_takeA 6 rfl (by kernel_rfl) rfl (.inr heldx) (y_ixP rfl rfl _ rfl) .free rfl ?_
      refine d_take 7 [12] rfl (by kernel_rfl) rfl heldx (y_lIS rfl) .free rfl ?_
      refine d_takeA 8 rfl (by kernel_rfl) rfl (.inr heldx) (y_move rfl) .free rfl ?_
      refine d_take 9 [12] rfl (by kernel_rfl) rfl heldx (y_lOS rfl) .free rfl ?_
      refine d_call 10 rfl (by kernel_rfl) rfl rfl .free rfl (ihn (by omega) (hf.as 1 a.tree (by omega) rfl) hok.1.1 nm hnm hv _) ?_
      rintro _ J2 _ e2 ⟨cs2, rfl, hr_0, rfl⟩
      obtain ⟨o2, k2, _, rfl, -⟩ := hr_0.open
      have hf := hf.mono e2
      have hv := hv.mono e2
      have hle := hle.trans e2
      have hk := hk.mono e2
      refine ⟨(.inr heldx), ?_⟩
      first | refine d_takeA 11 rfl (by kernel_rfl) rfl (.inr heldx) (y_ixD rfl rfl _ rfl) .free rfl ?_ | refine d_takeA 11 rfl (by kernel_rfl) rfl (.inr heldx) (y_ixP rfl rfl _ rfl) .free rfl ?_
      refine d_st 12 rfl (by kernel_rfl) rfl rfl rfl rfl rfl .free (.inl (by kernel_rfl)) ?_
      refine d_done (by kernel_rfl) ?_
      refine s_inBlock ?_
      refine o_enter rfl ?_
      refine o_arith rfl rfl rfl (by omega) .free rfl ?_
      refine o_move rfl .free rfl ?_
      refine o_done ?_
      refine s_round ?_
      refine s_seq ?_
      refine o_enter rfl ?_
      refine o_cmp rfl rfl rfl .free rfl ?_
      refine o_done ?_
      refine s_seq ?_
      refine s_condT rfl (by first | rfl | decide | (simp; done) | omega) ?_
      refine s_skip ?_
      refine s_seq ?_
      refine s_block ?_
      refine s_seq ?_
      refine o_enter rfl ?_
      first | refine o_ixD rfl rfl _ rfl .free rfl ?_ | refine o_ixP rfl rfl _ rfl .free rfl ?_
      refine o_lI1 rfl .free rfl ?_
      refine o_assign rfl .free rfl ?_
      refine o_done ?_
      refine s_seq ?_
      refine o_enter rfl ?_
      refine o_lOS rfl .free rfl ?_
      refine o_move rfl .free rfl ?_
      refine o_call rfl .free rfl (f_form_bound hf.rep hok0 _ _) ?_
      rintro _ J1 _ e1 ⟨o1, k1, rfl, hs1, rfl⟩
      refine o_move rfl .free rfl ?_
      refine o_call rfl .free rfl (f_slices_Contains (hs1.rd _) k1 nm) ?_
      rintro _ _ _ _ ⟨rfl, rfl, rfl⟩
      refine o_not rfl .free rfl ?_
      refine o_mem (fun w h => Mem.le e1 h) ?_
      refine o_done ?_
      first | refine s_tp rfl (by simp [Ex.binds]) ?_ | refine s_tn rfl (by simp [Ex.binds]) ?_ | refine s_true (by simp [look, opd, *]) ?_
      refine d_all 13 rfl rfl ?_
      refine d_takeA 0 rfl (by kernel_rfl) rfl (.inr heldx) (y_fieldAddr rfl) .free rfl ?_
      refine d_take 1 [12] rfl (by kernel_rfl) rfl heldx (y_lO1 rfl) .free rfl ?_
      refine d_takeA 2 rfl (by kernel_rfl) rfl (.inr heldx) (y_move rfl) .free rfl ?_
      refine d_takeA 3 rfl (by kernel_rfl) rfl (.inr heldx) (y_fieldAddr rfl) .free rfl ?_
      refine d_take 4 [12] rfl (by kernel_rfl) rfl heldx (y_lO1 rfl) .free rfl ?_
      refine d_takeA 5 rfl (by kernel_rfl) rfl (.inr heldx) (y_move rfl) .free rfl ?_
      first | refine d_takeA 6 rfl (by kernel_rfl) rfl (.inr heldx) (y_ixD rfl rfl _ rfl) .free rfl ?_ | refine d_takeA 6 rfl (by kernel_rfl) rfl (.inr heldx) (y_ixP rfl rfl _ rfl) .free rfl ?_
      refine d_take 7 [12] rfl (by kernel_rfl) rfl heldx (y_lIS rfl) .free rfl ?_
      refine d_takeA 8 rfl (by kernel_rfl) rfl (.inr heldx) (y_move rfl) .free rfl ?_
      refine d_take 9 [12] rfl (by kernel_rfl) rfl heldx (y_lOS rfl) .free rfl ?_
      refine d_call 10 rfl (by kernel_rfl) rfl rfl .free rfl (ihn (by omega) (hf.as 2 b.tree (by omega) rfl) hok.1.2 nm hnm hv _) ?_
      rintro _ J2 _ e2 ⟨cs2, rfl, hr_1, rfl⟩
      obtain ⟨o2, k2, _, rfl, -⟩ := hr_1.open
      have hf := hf.mono e2
      have hv := hv.mono e2
      have hle := hle.trans e2
      have hk := hk.mono e2
      have hr_0 := hr_0.mono e2
      refine ⟨(.inr heldx), ?_⟩
      first | refine d_takeA 11 rfl (by kernel_rfl) rfl (.inr heldx) (y_ixD rfl rfl _ rfl) .free rfl ?_ | refine d_takeA 11 rfl (by kernel_rfl) rfl (.inr heldx) (y_ixP rfl rfl _ rfl) .free rfl ?_
      refine d_st 12 rfl (by kernel_rfl) rfl rfl rfl rfl rfl .free (.inl (by kernel_rfl)) ?_
      refine d_done (by kernel_rfl) ?_
      refine s_inBlock ?_
      refine o_enter rfl ?_
      refine o_arith rfl rfl rfl (by omega) .free rfl ?_
      refine o_move rfl .free rfl ?_
      refine o_done ?_
      refine s_round ?_
      refine s_seq ?_
      refine o_enter rfl ?_
      refine o_cmp rfl rfl rfl .free rfl ?_
      refine o_done ?_
      refine s_seq ?_
      refine s_condT rfl (by first | rfl | decide | (simp; done) | omega) ?_
      refine s_skip ?_
      refine s_seq ?_
      refine s_block ?_
      refine s_seq ?_
      refine o_enter rfl ?_
      first | refine o_ixD rfl rfl _ rfl .free rfl ?_ | refine o_ixP rfl rfl _ rfl .free rfl ?_
      refine o_lI1 rfl .free rfl ?_
      refine o_assign rfl .free rfl ?_
      refine o_done ?_
      refine s_seq ?_
      refine o_enter rfl ?_
      refine o_lOS rfl .free rfl ?_
      refine o_move rfl .free rfl ?_
      refine o_call rfl .free rfl (f_form_bound hf.rep hok0 _ _) ?_
      rintro _ J1 _ e1 ⟨o1, k1, rfl, hs1, rfl⟩
      refine o_move rfl .free rfl ?_
      refine o_call rfl .free rfl (f_slices_Contains (hs1.rd _) k1 nm) ?_
      rintro _ _ _ _ ⟨rfl, rfl, rfl⟩
      refine o_not rfl .free rfl ?_
      refine o_mem (fun w h => Mem.le e1 h) ?_
      refine o_done ?_
      first | refine s_tp rfl (by simp [Ex.binds]) ?_ | refine s_tn rfl (by simp [Ex.binds]) ?_ | refine s_true (by simp [look, opd, *]) ?_
      refine d_all 13 rfl rfl ?_
      refine d_takeA 0 rfl (by kernel_rfl) rfl (.inr heldx) (y_fieldAddr rfl) .free rfl ?_
      refine d_take 1 [12] rfl (by kernel_rfl) rfl heldx (y_lO1 rfl) .free rfl ?_
      refine d_takeA 2 rfl (by kernel_rfl) rfl (.inr heldx) (y_move rfl) .free rfl ?_
      refine d_takeA 3 rfl (by kernel_rfl) rfl (.inr heldx) (y_fieldAddr rfl) .free rfl ?_
      refine d_take 4 [12] rfl (by kernel_rfl) rfl heldx (y_lO1 rfl) .free rfl ?_
      refine d_takeA 5 rfl (by kernel_rfl) rfl (.inr heldx) (y_move rfl) .free rfl ?_
      first | refine d_takeA 6 rfl (by kernel_rfl) rfl (.inr heldx) (y_ixD rfl rfl _ rfl) .free rfl ?_ | refine d_takeA 6 rfl (by kernel_rfl) rfl (.inr heldx) (y_ixP rfl rfl _ rfl) .free rfl ?_
      refine d_take 7 [12] rfl (by kernel_rfl) rfl heldx (y_lIS rfl) .free rfl ?_
      refine d_takeA 8 rfl (by kernel_rfl) rfl (.inr heldx) (y_move rfl) .free rfl ?_
      refine d_take 9 [12] rfl (by kernel_rfl) rfl heldx (y_lOS rfl) .free rfl ?_
      refine d_call 10 rfl (by kernel_rfl) rfl rfl .free rfl (ihn (by omega) (hf.as 3 d.tree (by omega) rfl) hok.2 nm hnm hv _) ?_
      rintro _ J2 _ e2 ⟨cs2, rfl, hr_2, rfl⟩
      obtain ⟨o2, k2, _, rfl, -⟩ := hr_2.open
      have hf := hf.mono e2
      have hv := hv.mono e2
      have hle := hle.trans e2
      have hk := hk.mono e2
      have hr_0 := hr_0.mono e2
      have hr_1 := hr_1.mono e2
      refine ⟨(.inr heldx), ?_⟩
      first | refine d_takeA 11 rfl (by kernel_rfl) rfl (.inr heldx) (y_ixD rfl rfl _ rfl) .free rfl ?_ | refine d_takeA 11 rfl (by kernel_rfl) rfl (.inr heldx) (y_ixP rfl rfl _ rfl) .free rfl ?_
      refine d_st 12 rfl (by kernel_rfl) rfl rfl rfl rfl rfl .free (.inl (by kernel_rfl)) ?_
      refine d_done (by kernel_rfl) ?_
      refine s_inBlock ?_
      refine o_enter rfl ?_
      refine o_arith rfl rfl rfl (by omega) .free rfl ?_
      refine o_move rfl .free rfl ?_
      refine o_done ?_
      refine s_round ?_
      refine s_seq ?_
      refine o_enter rfl ?_
      refine o_cmp rfl rfl rfl .free rfl ?_
      refine o_done ?_
      refine s_seq ?_
      refine s_condF rfl (by first | rfl | decide | (simp; done) | omega) ?_
      refine s_exit rfl ?_
      refine s_seq ?_
      refine o_enter rfl ?_
      refine o_lOS rfl .free rfl ?_
      refine o_st rfl rfl rfl rfl .free ?_
      refine o_done ?_
      refine s_mem (fun w h => h.f1) (s_freeze ?_)
      intro hz
      have hf := hf.mono hz
      refine s_ret (.c rfl .nil) ?_
      exact ⟨_, L, hle.trans hz, drops, _, rfl, .mk' rfl (.cons (hf.as 0 (.node tIf []) (by omega) rfl) (.cons (hr_0.mono hz) (.cons (hr_1.mono hz) (.cons (hr_2.mono hz) .nil)))) (fun y hy => by cases hy; exact still_set (xs := [_, _, _, _, _, _, _, _])) (by simp) hcc (by simp [maxN]) (by simp [maxN]), rfl⟩
    · skip
      have hlen : (Ex.lt z a b).tree.parts.length = 4 := rfl
      have hki := kids_lt' z a b
      simp only [Ex.lt.sizeOf_spec] at hlt
      simp only [Ex.ok, Bool.and_eq_true] at hok
      obtain ⟨_, hrl⟩ : ∃ _ : True, RepL I (Ex.lt z a b).tree.parts _ := ⟨trivial, hcl⟩
      simp only [show (Ex.lt z a b).tree.parts = [.node tLet [], .node z [], a.tree, b.tree] from rfl, cellsF, List.cons_append, List.nil_append] at hrl ⊢
      refine o_enter rfl ?_
      refine o_lOS rfl .free rfl ?_
      refine o_call rfl .free rfl (f_form_kids hf.rep _) ?_
      rintro _ J _ e0 ⟨ok, ck, rfl, hk, rfl⟩
      have hf := hf.mono e0
      have hv := hv.mono e0
      have hle := e0
      rw [hki] at hk
      rw [hki]
      refine o_len_slice rfl .free rfl ?_
      refine o_move rfl .free rfl ?_
      refine o_done ?_
      refine s_block ?_
      refine s_loop ?_
      refine s_seq ?_
      refine o_enter rfl ?_
      refine o_cmp rfl rfl rfl .free rfl ?_
      refine o_done ?_
      refine s_seq ?_
      refine s_condT rfl (by first | rfl | decide | (simp; done) | omega) ?_
      refine s_skip ?_
      refine s_seq ?_
      refine s_block ?_
      refine s_seq ?_
      refine o_enter rfl ?_
      first | refine o_ixD rfl rfl _ rfl .free rfl ?_ | refine o_ixP rfl rfl _ rfl .free rfl ?_
      refine o_lI1 rfl .free rfl ?_
      refine o_assign rfl .free rfl ?_
      refine o_done ?_
      refine s_seq ?_
      refine o_enter rfl ?_
      refine o_lOS rfl .free rfl ?_
      refine o_move rfl .free rfl ?_
      refine o_call rfl .free rfl (f_form_bound hf.rep hok0 _ _) ?_
      rintro _ J1 _ e1 ⟨o1, k1, rfl, hs1, rfl⟩
      refine o_move rfl .free rfl ?_
      refine o_call rfl .free rfl (f_slices_Contains (hs1.rd _) k1 nm) ?_
      rintro _ _ _ _ ⟨rfl, rfl, rfl⟩
      refine o_not rfl .free rfl ?_
      refine o_mem (fun w h => Mem.le e1 h) ?_
      refine o_done ?_
      first | refine s_tp rfl (by simp [Ex.binds]) ?_ | refine s_tn rfl (by simp [Ex.binds]) ?_ | refine s_true (by simp [look, opd, *]) ?_
      refine d_all 13 rfl rfl ?_
      refine d_takeA 0 rfl (by kernel_rfl) rfl (.inr heldx) (y_fieldAddr rfl) .free rfl ?_
      refine d_take 1 [12] rfl (by kernel_rfl) rfl heldx (y_lO1 rfl) .free rfl ?_
      refine d_takeA 2 rfl (by kernel_rfl) rfl (.inr heldx) (y_move rfl) .free rfl ?_
      refine d_takeA 3 rfl (by kernel_rfl) rfl (.inr heldx) (y_fieldAddr rfl) .free rfl ?_
      refine d_take 4 [12] rfl (by kernel_rfl) rfl heldx (y_lO1 rfl) .free rfl ?_
      refine d_takeA 5 rfl (by kernel_rfl) rfl (.inr heldx) (y_move rfl) .free rfl ?_
      first | refine d_takeA 6 rfl (by kernel_rfl) rfl (.inr heldx) (y_ixD rfl rfl _ rfl) .free rfl ?_ | refine d_takeA 6 rfl (by kernel_rfl) rfl (.inr heldx) (y_ixP rfl rfl _ rfl) .free rfl ?_
      refine d_take 7 [12] rfl (by kernel_rfl) rfl heldx (y_lIS rfl) .free rfl ?_
      refine d_takeA 8 rfl (by kernel_rfl) rfl (.inr heldx) (y_move rfl) .free rfl ?_
      refine d_take 9 [12] rfl (by kernel_rfl) rfl heldx (y_lOS rfl) .free rfl ?_
      refine d_call 10 rfl (by kernel_rfl) rfl rfl .free rfl (ihn (by omega) (hf.as 2 a.tree (by omega) rfl) hok.1.2 nm hnm hv _) ?_
      rintro _ J2 _ e2 ⟨cs2, rfl, hr_0, rfl⟩
      obtain ⟨o2, k2, _, rfl, -⟩ := hr_0.open
      have hf := hf.mono e2
      have hv := hv.mono e2
      have hle := hle.trans e2
      have hk := hk.mono e2
      refine ⟨(.inr heldx), ?_⟩
      first | refine d_takeA 11 rfl (by kernel_rfl) rfl (.inr heldx) (y_ixD rfl rfl _ rfl) .free rfl ?_ | refine d_takeA 11 rfl (by kernel_rfl) rfl (.inr heldx) (y_ixP rfl rfl _ rfl) .free rfl ?_
      refine d_st 12 rfl (by kernel_rfl) rfl rfl rfl rfl rfl .free (.inl (by kernel_rfl)) ?_
      refine d_done (by kernel_rfl) ?_
      refine s_inBlock ?_
      refine o_enter rfl ?_
      refine o_arith rfl rfl rfl (by omega) .free rfl ?_
      refine o_move rfl .free rfl ?_
      refine o_done ?_
      refine s_round ?_
      refine s_seq ?_
      refine o_enter rfl ?_
      refine o_cmp rfl rfl rfl .free rfl ?_
      refine o_done ?_
      refine s_seq ?_
      refine s_condT rfl (by first | rfl | decide | (simp; done) | omega) ?_
      refine s_skip ?_
      refine s_seq ?_
      refine s_block ?_
      refine s_seq ?_
      refine o_enter rfl ?_
      first | refine o_ixD rfl rfl _ rfl .free rfl ?_ | refine o_ixP rfl rfl _ rfl .free rfl ?_
      refine o_lI1 rfl .free rfl ?_
      refine o_assign rfl .free rfl ?_
      refine o_done ?_
      refine s_seq ?_
      refine o_enter rfl ?_
      refine o_lOS rfl .free rfl ?_
      refine o_move rfl .free rfl ?_
      refine o_call rfl .free rfl (f_form_bound hf.rep hok0 _ _) ?_
      rintro _ J1 _ e1 ⟨o1, k1, rfl, hs1, rfl⟩
      refine o_move rfl .free rfl ?_
      refine o_call rfl .free rfl (f_slices_Contains (hs1.rd _) k1 nm) ?_
      rintro _ _ _ _ ⟨rfl, rfl, rfl⟩
      refine o_not rfl .free rfl ?_
      refine o_mem (fun w h => Mem.le e1 h) ?_
      refine o_done ?_
      refine s_cond rfl ?_ ?_
      · intro c3
        try simp only [nb] at c3
        have c3 : ¬ nm ∈ [z] := c3
        refine d_all 13 rfl rfl ?_
        refine d_takeA 0 rfl (by kernel_rfl) rfl (.inr heldx) (y_fieldAddr rfl) .free rfl ?_
        refine d_take 1 [12] rfl (by kernel_rfl) rfl heldx (y_lO1 rfl) .free rfl ?_
        refine d_takeA 2 rfl (by kernel_rfl) rfl (.inr heldx) (y_move rfl) .free rfl ?_
        refine d_takeA 3 rfl (by kernel_rfl) rfl (.inr heldx) (y_fieldAddr rfl) .free rfl ?_
        refine d_take 4 [12] rfl (by kernel_rfl) rfl heldx (y_lO1 rfl) .free rfl ?_
        refine d_takeA 5 rfl (by kernel_rfl) rfl (.inr heldx) (y_move rfl) .free rfl ?_
        first | refine d_takeA 6 rfl (by kernel_rfl) rfl (.inr heldx) (y_ixD rfl rfl _ rfl) .free rfl ?_ | refine d_takeA 6 rfl (by kernel_rfl) rfl (.inr heldx) (y_ixP rfl rfl _ rfl) .free rfl ?_
        refine d_take 7 [12] rfl (by kernel_rfl) rfl heldx (y_lIS rfl) .free rfl ?_
        refine d_takeA 8 rfl (by kernel_rfl) rfl (.inr heldx) (y_move rfl) .free rfl ?_
        refine d_take 9 [12] rfl (by kernel_rfl) rfl heldx (y_lOS rfl) .free rfl ?_
        refine d_call 10 rfl (by kernel_rfl) rfl rfl .free rfl (ihn (by omega) (hf.as 3 b.tree (by omega) rfl) hok.2 nm hnm hv _) ?_
        rintro _ J2 _ e2 ⟨cs2, rfl, hr_1, rfl⟩
        obtain ⟨o2, k2, _, rfl, -⟩ := hr_1.open
        have hf := hf.mono e2
        have hv := hv.mono e2
        have hle := hle.trans e2
        have hk := hk.mono e2
        have hr_0 := hr_0.mono e2
        refine ⟨(.inr heldx), ?_⟩
        first | refine d_takeA 11 rfl (by kernel_rfl) rfl (.inr heldx) (y_ixD rfl rfl _ rfl) .free rfl ?_ | refine d_takeA 11 rfl (by kernel_rfl) rfl (.inr heldx) (y_ixP rfl rfl _ rfl) .free rfl ?_
        refine d_st 12 rfl (by kernel_rfl) rfl rfl rfl rfl rfl .free (.inl (by kernel_rfl)) ?_
        refine d_done (by kernel_rfl) ?_
        refine s_inBlock ?_
        refine o_enter rfl ?_
        refine o_arith rfl rfl rfl (by omega) .free rfl ?_
        refine o_move rfl .free rfl ?_
        refine o_done ?_
        refine s_round ?_
        refine s_seq ?_
        refine o_enter rfl ?_
        refine o_cmp rfl rfl rfl .free rfl ?_
        refine o_done ?_
        refine s_seq ?_
        refine s_condF rfl (by first | rfl | decide | (simp; done) | omega) ?_
        refine s_exit rfl ?_
        refine s_seq ?_
        refine o_enter rfl ?_
        refine o_lOS rfl .free rfl ?_
        refine o_st rfl rfl rfl rfl .free ?_
        refine o_done ?_
        refine s_mem (fun w h => h.f1) (s_freeze ?_)
        intro hz
        have hf := hf.mono hz
        refine s_ret (.c rfl .nil) ?_
        first
          | (have hput : (Ex.lt z a b).put nm v = .lt z (a.put nm v) (b.put nm v) := by
               have : ¬ z = nm := fun h => c3 (by simp [h])
               simp [Ex.put, this]
             rw [hput]
             exact ⟨_, L, hle.trans hz, drops, _, rfl, .mk' rfl (.cons (hf.as 0 (.node tLet []) (by omega) rfl) (.cons (hf.as 1 (.node z []) (by omega) rfl) (.cons (hr_0.mono hz) (.cons (hr_1.mono hz) .nil)))) (fun y hy => by cases hy; exact still_set (xs := [_, _, _, _, _, _, _, _])) (by simp) hcc (by simp [maxN]) (by simp [maxN]), rfl⟩)
          | (have hput : (Ex.lt z a b).put nm v = .lt z (a.put nm v) b := by
               have : nm = z := by simpa using c3
               simp [Ex.put, this]
             rw [hput]
             exact ⟨_, L, hle.trans hz, drops, _, rfl, .mk' rfl (.cons (hf.as 0 (.node tLet []) (by omega) rfl) (.cons (hf.as 1 (.node z []) (by omega) rfl) (.cons (hr_0.mono hz) (.cons (hf.as 3 b.tree (by omega) rfl) .nil)))) (fun y hy => by cases hy; exact still_set (xs := [_, _, _, _, _, _, _, _])) (by simp) hcc (by simp [maxN]) (by simp [maxN]), rfl⟩)
      intro c3
      try simp only [nb] at c3
      have c3 : nm ∈ [z] := c3
      refine s_skip ?_
      refine s_inBlock ?_
      refine o_enter rfl ?_
      refine o_arith rfl rfl rfl (by omega) .free rfl ?_
      refine o_move rfl .free rfl ?_
      refine o_done ?_
      refine s_round ?_
      refine s_seq ?_
      refine o_enter rfl ?_
      refine o_cmp rfl rfl rfl .free rfl ?_
      refine o_done ?_
      refine s_seq ?_
      refine s_condF rfl (by first | rfl | decide | (simp; done) | omega) ?_
      refine s_exit rfl ?_
      refine s_seq ?_
      refine o_enter rfl ?_
      refine o_lOS rfl .free rfl ?_
      refine o_st rfl rfl rfl rfl .free ?_
      refine o_done ?_
      refine s_mem (fun w h => h.f1) (s_freeze ?_)
      intro hz
      have hf := hf.mono hz
      refine s_ret (.c rfl .nil) ?_
      first
        | (have hput : (Ex.lt z a b).put nm v = .lt z (a.put nm v) (b.put nm v) := by
             have : ¬ z = nm := fun h => c3 (by simp [h])
             simp [Ex.put, this]
           rw [hput]
           exact ⟨_, L, hle.trans hz, drops, _, rfl, .mk' rfl (.cons (hf.as 0 (.node tLet []) (by omega) rfl) (.cons (hf.as 1 (.node z []) (by omega) rfl) (.cons (hr_0.mono hz) (.cons (hr_1.mono hz) .nil)))) (fun y hy => by cases hy; exact still_set (xs := [_, _, _, _, _, _, _, _])) (by simp) hcc (by simp [maxN]) (by simp [maxN]), rfl⟩)
        | (have hput : (Ex.lt z a b).put nm v = .lt z (a.put nm v) b := by
             have : nm = z := by simpa using c3
             simp [Ex.put, this]
           rw [hput]
           exact ⟨_, L, hle.trans hz, drops, _, rfl, .mk' rfl (.cons (hf.as 0 (.node tLet []) (by omega) rfl) (.cons (hf.as 1 (.node z []) (by omega) rfl) (.cons (hr_0.mono hz) (.cons (hf.as 3 b.tree (by omega) rfl) .nil)))) (fun y hy => by cases hy; exact still_set (xs := [_, _, _, _, _, _, _, _])) (by simp) hcc (by simp [maxN]) (by simp [maxN]), rfl⟩)
    · skip
      have hlen : (Ex.fn g z s t b).tree.parts.length = 6 := rfl
      have hki := kids_fn g z s t b
      simp only [Ex.fn.sizeOf_spec] at hlt
      simp only [Ex.ok, Bool.and_eq_true] at hok
      obtain ⟨_, hrl⟩ : ∃ _ : True, RepL I (Ex.fn g z s t b).tree.parts _ := ⟨trivial, hcl⟩
      simp only [show (Ex.fn g z s t b).tree.parts = [.node tFun [], .node g [], .node z [], s.tree, t.tree, b.tree] from rfl, cellsF, List.cons_append, List.nil_append] at hrl ⊢
      refine o_enter rfl ?_
      refine o_lOS rfl .free rfl ?_
      refine o_call rfl .free rfl (f_form_kids hf.rep _) ?_
      rintro _ J _ e0 ⟨ok, ck, rfl, hk, rfl⟩
      have hf := hf.mono e0
      have hv := hv.mono e0
      have hle := e0
      rw [hki] at hk
      rw [hki]
      refine o_len_slice rfl .free rfl ?_
      refine o_move rfl .free rfl ?_
      refine o_done ?_
      refine s_block ?_
      refine s_loop ?_
      refine s_seq ?_
      refine o_enter rfl ?_
      refine o_cmp rfl rfl rfl .free rfl ?_
      refine o_done ?_
      refine s_seq ?_
      refine s_condT rfl (by first | rfl | decide | (simp; done) | omega) ?_
      refine s_skip ?_
      refine s_seq ?_
      refine s_block ?_
      refine s_seq ?_
      refine o_enter rfl ?_
      first | refine o_ixD rfl rfl _ rfl .free rfl ?_ | refine o_ixP rfl rfl _ rfl .free rfl ?_
      refine o_lI1 rfl .free rfl ?_
      refine o_assign rfl .free rfl ?_
      refine o_done ?_
      refine s_seq ?_
      refine o_enter rfl ?_
      refine o_lOS rfl .free rfl ?_
      refine o_move rfl .free rfl ?_
      refine o_call rfl .free rfl (f_form_bound hf.rep hok0 _ _) ?_
      rintro _ J1 _ e1 ⟨o1, k1, rfl, hs1, rfl⟩
      refine o_move rfl .free rfl ?_
      refine o_call rfl .free rfl (f_slices_Contains (hs1.rd _) k1 nm) ?_
      rintro _ _ _ _ ⟨rfl, rfl, rfl⟩
      refine o_not rfl .free rfl ?_
      refine o_mem (fun w h => Mem.le e1 h) ?_
      refine o_done ?_
      refine s_cond rfl ?_ ?_
      · intro c3
        try simp only [nb] at c3
        have c3 : ¬ nm ∈ [g, z] := c3
        refine d_all 13 rfl rfl ?_
        refine d_takeA 0 rfl (by kernel_rfl) rfl (.inr heldx) (y_fieldAddr rfl) .free rfl ?_
        refine d_take 1 [12] rfl (by kernel_rfl) rfl heldx (y_lO1 rfl) .free rfl ?_
        refine d_takeA 2 rfl (by kernel_rfl) rfl (.inr heldx) (y_move rfl) .free rfl ?_
        refine d_takeA 3 rfl (by kernel_rfl) rfl (.inr heldx) (y_fieldAddr rfl) .free rfl ?_
        refine d_take 4 [12] rfl (by kernel_rfl) rfl heldx (y_lO1 rfl) .free rfl ?_
        refine d_takeA 5 rfl (by kernel_rfl) rfl (.inr heldx) (y_move rfl) .free rfl ?_
        first | refine d_takeA 6 rfl (by kernel_rfl) rfl (.inr heldx) (y_ixD rfl rfl _ rfl) .free rfl ?_ | refine d_takeA 6 rfl (by kernel_rfl) rfl (.inr heldx) (y_ixP rfl rfl _ rfl) .free rfl ?_
        refine d_take 7 [12] rfl (by kernel_rfl) rfl heldx (y_lIS rfl) .free rfl ?_
        refine d_takeA 8 rfl (by kernel_rfl) rfl (.inr heldx) (y_move rfl) .free rfl ?_
        refine d_take 9 [12] rfl (by kernel_rfl) rfl heldx (y_lOS rfl) .free rfl ?_
        refine d_call 10 rfl (by kernel_rfl) rfl rfl .free rfl (ihn (by omega) (hf.as 5 b.tree (by omega) rfl) hok.2 nm hnm hv _) ?_
        rintro _ J2 _ e2 ⟨cs2, rfl, hr_0, rfl⟩
        obtain ⟨o2, k2, _, rfl, -⟩ := hr_0.open
        have hf := hf.mono e2
        have hv := hv.mono e2
        have hle := hle.trans e2
        have hk := hk.mono e2
        refine ⟨(.inr heldx), ?_⟩
        first | refine d_takeA 11 rfl (by kernel_rfl) rfl (.inr heldx) (y_ixD rfl rfl _ rfl) .free rfl ?_ | refine d_takeA 11 rfl (by kernel_rfl) rfl (.inr heldx) (y_ixP rfl rfl _ rfl) .free rfl ?_
        refine d_st 12 rfl (by kernel_rfl) rfl rfl rfl rfl rfl .free (.inl (by kernel_rfl)) ?_
        refine d_done (by kernel_rfl) ?_
        refine s_inBlock ?_
        refine o_enter rfl ?_
        refine o_arith rfl rfl rfl (by omega) .free rfl ?_
        refine o_move rfl .free rfl ?_
        refine o_done ?_
        refine s_round ?_
        refine s_seq ?_
        refine o_enter rfl ?_
        refine o_cmp rfl rfl rfl .free rfl ?_
        refine o_done ?_
        refine s_seq ?_
        refine s_condF rfl (by first | rfl | decide | (simp; done) | omega) ?_
        refine s_exit rfl ?_
        refine s_seq ?_
        refine o_enter rfl ?_
        refine o_lOS rfl .free rfl ?_
        refine o_st rfl rfl rfl rfl .free ?_
        refine o_done ?_
        refine s_mem (fun w h => h.f1) (s_freeze ?_)
        intro hz
        have hf := hf.mono hz
        refine s_ret (.c rfl .nil) ?_
        first
          | (have hput : (Ex.fn g z s t b).put nm v = .fn g z s t (b.put nm v) := by
               have h1 : ¬ (g = nm ∨ z = nm) := by rintro (h | h) <;> exact c3 (by simp [h])
               simp only [Ex.put]; rw [if_neg h1]
             rw [hput]
             exact ⟨_, L, hle.trans hz, drops, _, rfl, .mk' rfl (.cons (hf.as 0 (.node tFun []) (by omega) rfl) (.cons (hf.as 1 (.node g []) (by omega) rfl) (.cons (hf.as 2 (.node z []) (by omega) rfl) (.cons (hf.as 3 (s.tree) (by omega) rfl) (.cons (hf.as 4 (t.tree) (by omega) rfl) (.cons (hr_0.mono hz) .nil)))))) (fun y hy => by cases hy; exact still_set (xs := [_, _, _, _, _, _, _, _, _, _, _, _])) (by simp) hcc (by simp [maxN]) (by simp [maxN]), rfl⟩)
          | (have hput : (Ex.fn g z s t b).put nm v = .fn g z s t b := by
               have h1 : g = nm ∨ z = nm := by simp at c3; rcases c3 with h | h <;> simp [h]
               simp only [Ex.put]; rw [if_pos h1]
             rw [hput]
             exact ⟨_, L, hle.trans hz, drops, _, rfl, .mk' rfl (.cons (hf.as 0 (.node tFun []) (by omega) rfl) (.cons (hf.as 1 (.node g []) (by omega) rfl) (.cons (hf.as 2 (.node z []) (by omega) rfl) (.cons (hf.as 3 (s.tree) (by omega) rfl) (.cons (hf.as 4 (t.tree) (by omega) rfl) (.cons (hf.as 5 b.tree (by omega) rfl) .nil)))))) (fun y hy => by cases hy; exact still_set (xs := [_, _, _, _, _, _, _, _, _, _, _, _])) (by simp) hcc (by simp [maxN]) (by simp [maxN]), rfl⟩)
      intro c3
      try simp only [nb] at c3
      have c3 : nm ∈ [g, z] := c3
      refine s_skip ?_
      refine s_inBlock ?_
      refine o_enter rfl ?_
      refine o_arith rfl rfl rfl (by omega) .free rfl ?_
      refine o_move rfl .free rfl ?_
      refine o_done ?_
      refine s_round ?_
      refine s_seq ?_
      refine o_enter rfl ?_
      refine o_cmp rfl rfl rfl .free rfl ?_
      refine o_done ?_
      refine s_seq ?_
      refine s_condF rfl (by first | rfl | decide | (simp; done) | omega) ?_
      refine s_exit rfl ?_
      refine s_seq ?_
      refine o_enter rfl ?_
      refine o_lOS rfl .free rfl ?_
      refine o_st rfl rfl rfl rfl .free ?_
      refine o_done ?_
      refine s_mem (fun w h => h.f1) (s_freeze ?_)
      intro hz
      have hf := hf.mono hz
      refine s_ret (.c rfl .nil) ?_
      first
        | (have hput : (Ex.fn g z s t b).put nm v = .fn g z s t (b.put nm v) := by
             have h1 : ¬ (g = nm ∨ z = nm) := by rintro (h | h) <;> exact c3 (by simp [h])
             simp only [Ex.put]; rw [if_neg h1]
           rw [hput]
           exact ⟨_, L, hle.trans hz, drops, _, rfl, .mk' rfl (.cons (hf.as 0 (.node tFun []) (by omega) rfl) (.cons (hf.as 1 (.node g []) (by omega) rfl) (.cons (hf.as 2 (.node z []) (by omega) rfl) (.cons (hf.as 3 (s.tree) (by omega) rfl) (.cons (hf.as 4 (t.tree) (by omega) rfl) (.cons (hr_0.mono hz) .nil)))))) (fun y hy => by cases hy; exact still_set (xs := [_, _, _, _, _, _, _, _, _, _, _, _])) (by simp) hcc (by simp [maxN]) (by simp [maxN]), rfl⟩)
        | (have hput : (Ex.fn g z s t b).put nm v = .fn g z s t b := by
             have h1 : g = nm ∨ z = nm := by simp at c3; rcases c3 with h | h <;> simp [h]
             simp only [Ex.put]; rw [if_pos h1]
           rw [hput]
           exact ⟨_, L, hle.trans hz, drops, _, rfl, .mk' rfl (.cons (hf.as 0 (.node tFun []) (by omega) rfl) (.cons (hf.as 1 (.node g []) (by omega) rfl) (.cons (hf.as 2 (.node z []) (by omega) rfl) (.cons (hf.as 3 (s.tree) (by omega) rfl) (.cons (hf.as 4 (t.tree) (by omega) rfl) (.cons (hf.as 5 b.tree (by omega) rfl) .nil)))))) (fun y hy => by cases hy; exact still_set (xs := [_, _, _, _, _, _, _, _, _, _, _, _])) (by simp) hcc (by simp [maxN]) (by simp [maxN]), rfl⟩)
    · skip
      have hlen : (Ex.un o a).tree.parts.length = 2 := rfl
      have hki := kids_un o a
      simp only [Ex.un.sizeOf_spec] at hlt
      simp only [Ex.ok, Bool.and_eq_true] at hok
      obtain ⟨_, hrl⟩ : ∃ _ : True, RepL I (Ex.un o a).tree.parts _ := ⟨trivial, hcl⟩
      simp only [show (Ex.un o a).tree.parts = [.node o.txt [], a.tree] from rfl, cellsF, List.cons_append, List.nil_append] at hrl ⊢
      refine o_enter rfl ?_
      refine o_lOS rfl .free rfl ?_
      refine o_call rfl .free rfl (f_form_kids hf.rep _) ?_
      rintro _ J _ e0 ⟨ok, ck, rfl, hk, rfl⟩
      have hf := hf.mono e0
      have hv := hv.mono e0
      have hle := e0
      rw [hki] at hk
      rw [hki]
      refine o_len_slice rfl .free rfl ?_
      refine o_move rfl .free rfl ?_
      refine o_done ?_
      refine s_block ?_
      refine s_loop ?_
      refine s_seq ?_
      refine o_enter rfl ?_
      refine o_cmp rfl rfl rfl .free rfl ?_
      refine o_done ?_
      refine s_seq ?_
      refine s_condT rfl (by first | rfl | decide | (simp; done) | omega) ?_
      refine s_skip ?_
      refine s_seq ?_
      refine s_block ?_
      refine s_seq ?_
      refine o_enter rfl ?_
      first | refine o_ixD rfl rfl _ rfl .free rfl ?_ | refine o_ixP rfl rfl _ rfl .free rfl ?_
      refine o_lI1 rfl .free rfl ?_
      refine o_assign rfl .free rfl ?_
      refine o_done ?_
      refine s_seq ?_
      refine o_enter rfl ?_
      refine o_lOS rfl .free rfl ?_
      refine o_move rfl .free rfl ?_
      refine o_call rfl .free rfl (f_form_bound hf.rep hok0 _ _) ?_
      rintro _ J1 _ e1 ⟨o1, k1, rfl, hs1, rfl⟩
      refine o_move rfl .free rfl ?_
      refine o_call rfl .free rfl (f_slices_Contains (hs1.rd _) k1 nm) ?_
      rintro _ _ _ _ ⟨rfl, rfl, rfl⟩
      refine o_not rfl .free rfl ?_
      refine o_mem (fun w h => Mem.le e1 h) ?_
      refine o_done ?_
      first | refine s_tp rfl (by simp [Ex.binds]) ?_ | refine s_tn rfl (by simp [Ex.binds]) ?_ | refine s_true (by simp [look, opd, *]) ?_
      refine d_all 13 rfl rfl ?_
      refine d_takeA 0 rfl (by kernel_rfl) rfl (.inr heldx) (y_fieldAddr rfl) .free rfl ?_
      refine d_take 1 [12] rfl (by kernel_rfl) rfl heldx (y_lO1 rfl) .free rfl ?_
      refine d_takeA 2 rfl (by kernel_rfl) rfl (.inr heldx) (y_move rfl) .free rfl ?_
      refine d_takeA 3 rfl (by kernel_rfl) rfl (.inr heldx) (y_fieldAddr rfl) .free rfl ?_
      refine d_take 4 [12] rfl (by kernel_rfl) rfl heldx (y_lO1 rfl) .free rfl ?_
      refine d_takeA 5 rfl (by kernel_rfl) rfl (.inr heldx) (y_move rfl) .free rfl ?_
      first | refine d_takeA 6 rfl (by kernel_rfl) rfl (.inr heldx) (y_ixD rfl rfl _ rfl) .free rfl ?_ | refine d_takeA 6 rfl (by kernel_rfl) rfl (.inr heldx) (y_ixP rfl rfl _ rfl) .free rfl ?_
      refine d_take 7 [12] rfl (by kernel_rfl) rfl heldx (y_lIS rfl) .free rfl ?_
      refine d_takeA 8 rfl (by kernel_rfl) rfl (.inr heldx) (y_move rfl) .free rfl ?_
      refine d_take 9 [12] rfl (by kernel_rfl) rfl heldx (y_lOS rfl) .free rfl ?_
      refine d_call 10 rfl (by kernel_rfl) rfl rfl .free rfl (ihn (by omega) (hf.as 1 a.tree (by omega) rfl) hok nm hnm hv _) ?_
      rintro _ J2 _ e2 ⟨cs2, rfl, hr_0, rfl⟩
      obtain ⟨o2, k2, _, rfl, -⟩ := hr_0.open
      have hf := hf.mono e2
      have hv := hv.mono e2
      have hle := hle.trans e2
      have hk := hk.mono e2
      refine ⟨(.inr heldx), ?_⟩
      first | refine d_takeA 11 rfl (by kernel_rfl) rfl (.inr heldx) (y_ixD rfl rfl _ rfl) .free rfl ?_ | refine d_takeA 11 rfl (by kernel_rfl) rfl (.inr heldx) (y_ixP rfl rfl _ rfl) .free rfl ?_
      refine d_st 12 rfl (by kernel_rfl) rfl rfl rfl rfl rfl .free (.inl (by kernel_rfl)) ?_
      refine d_done (by kernel_rfl) ?_
      refine s_inBlock ?_
      refine o_enter rfl ?_
      refine o_arith rfl rfl rfl (by omega) .free rfl ?_
      refine o_move rfl .free rfl ?_
      refine o_done ?_
      refine s_round ?_
      refine s_seq ?_
      refine o_enter rfl ?_
      refine o_cmp rfl rfl rfl .free rfl ?_
      refine o_done ?_
      refine s_seq ?_
      refine s_condF rfl (by first | rfl | decide | (simp; done) | omega) ?_
      refine s_exit rfl ?_
      refine s_seq ?_
      refine o_enter rfl ?_
      refine o_lOS rfl .free rfl ?_
      refine o_st rfl rfl rfl rfl .free ?_
      refine o_done ?_
      refine s_mem (fun w h => h.f1) (s_freeze ?_)
      intro hz
      have hf := hf.mono hz
      refine s_ret (.c rfl .nil) ?_
      exact ⟨_, L, hle.trans hz, drops, _, rfl, .mk' rfl (.cons (hf.as 0 (.node o.txt []) (by omega) rfl) (.cons (hr_0.mono hz) .nil)) (fun y hy => by cases hy; exact still_set (xs := [_, _, _, _])) (by simp) hcc (by simp [maxN]) (by simp [maxN]), rfl⟩

end Go.Proofs.YtacodibjfamkhaaGreat


/- 'ExprPut', by the program and by the reference. No conditions. -/
namespace Go.Proofs.YtacodibjfamkhaaGreat
set_option maxRecDepth 100000
set_option linter.unusedVariables false
set_option linter.unusedSimpArgs false

theorem bin_len (o : B5) (a b : Ex) : (Ex.bin o a b).tree.len = 4 + o.txt.length + a.tree.len + b.tree.len := by simp [Ex.tree, Tree.len, lenL]; omega
theorem ite_len (a b c : Ex) : (Ex.ite a b c).tree.len = 7 + a.tree.len + b.tree.len + c.tree.len := by simp [Ex.tree, Tree.len, lenL, tIf]; omega
theorem un_len (o : U2) (a : Ex) : (Ex.un o a).tree.len = 3 + o.txt.length + a.tree.len := by simp [Ex.tree, Tree.len, lenL]; omega
theorem fn_len (f x : Txt) (s t : Ty) (b : Ex) : (Ex.fn f x s t b).tree.len = 10 + f.length + x.length + s.tree.len + t.tree.len + b.tree.len := by simp [Ex.tree, Tree.len, lenL, tFun]; omega
theorem Ex.put_len : ∀ (e : Ex) (n : Txt) (v : Ex), (e.put n v).tree.len ≤ e.tree.len + e.size * v.tree.len
  | .num s, n, v => by simp [Ex.put]
  | .name s, n, v => by simp only [Ex.put, Ex.size, Nat.one_mul]; split <;> omega
  | .bin o a b, n, v => by have := a.put_len n v; have := b.put_len n v; simp only [Ex.put, bin_len, Ex.size, Nat.add_mul]; omega
  | .ite a b c, n, v => by have := a.put_len n v; have := b.put_len n v; have := c.put_len n v; simp only [Ex.put, ite_len, Ex.size, Nat.add_mul]; omega
  | .lt x a b, n, v => by have := a.put_len n v; have := b.put_len n v; simp only [Ex.put, lt_len, Ex.size, Nat.add_mul]; split <;> omega
  | .fn f x s t b, n, v => by have := b.put_len n v; simp only [Ex.put, fn_len, Ex.size, Nat.add_mul]; split <;> omega
  | .un o a, n, v => by have := a.put_len n v; simp only [Ex.put, un_len, Ex.size, Nat.add_mul]; omega
theorem put_room {e v : Ex} {n : Txt} (he : e.size ≤ 120) (hl : e.tree.len ≤ 12000) (hv : v.tree.len ≤ 12000) : (e.put n v).tree.len ≤ 12000000 := by
  have h1 := e.put_len n v
  have h2 : e.size * v.tree.len ≤ 120 * 12000 := Nat.mul_le_mul he hv
  omega
/-- What 'ExprPut' returns. -/
def putOf (s nm by' : Txt) : Option Txt := match exOf s, closedOf by' with
  | some e, some v => if isName nm = true ∧ (e.put nm v).fine = true then some (e.put nm v).tree.text else none
  | _, _ => none
theorem putOf_none {s nm by' : Txt} (h : exOf s = none ∨ closedOf by' = none ∨ isName nm = false) : putOf s nm by' = none := by
  unfold putOf
  rcases h with h | h | h
  · rw [h]
  · rw [h]; cases exOf s <;> rfl
  · cases exOf s <;> cases closedOf by' <;> simp [h]
theorem putOf_some {s nm by' : Txt} {e v : Ex} (h : exOf s = some e) (h' : closedOf by' = some v) (hn : isName nm = true) : putOf s nm by' = if (e.put nm v).fine = true then some (e.put nm v).tree.text else none := by
  unfold putOf; rw [h, h']; simp [hn]

theorem f_ExprPut (s nm by' : Txt) (hs : s.length ≤ maxN) (hnl : nm.length ≤ maxN) (hb : by'.length ≤ maxN) (I : Heap) (L : Own) : Fun Tryz.prog 11 [.string (str s), .string (str nm), .string (str by')] I L (EL (putOf s nm by') L) := by
  refine fun_intro (by simp) ?_
  refine s_seq ?_
  refine o_enter rfl ?_
  refine o_assign rfl .free rfl ?_
  refine o_assign rfl .free rfl ?_
  refine o_done ?_
  refine s_seq ?_
  refine o_enter rfl ?_
  refine o_move rfl .free rfl ?_
  refine o_call rfl .free rfl (f_readExpr s hs _ _) ?_
  rintro _ J1 _ e1 ⟨t, cs, ok, rfl, hrep, rfl, hpf⟩
  obtain ⟨oa, cc, vs, rfl, -⟩ := hrep.open
  refine o_move rfl .free rfl ?_
  refine o_extract rfl rfl .free rfl ?_
  refine o_extract rfl rfl .free rfl ?_
  refine o_alloc .free rfl ?_
  intro b8
  refine o_st rfl rfl rfl rfl .free ?_
  refine o_assign rfl .free rfl ?_
  refine o_done ?_
  refine s_seq ?_
  refine o_enter rfl ?_
  refine o_move rfl .free rfl ?_
  refine o_call rfl .free rfl (f_readClosed by' hb _ _) ?_
  rintro _ J2 _ e2 ⟨t2, cs2, ok2, rfl, hrep2, rfl, hpf2⟩
  obtain ⟨oa2, cc2, vs2, rfl, -⟩ := hrep2.open
  have g1 := RX_get hpf
  have g2 := RX_get hpf2
  refine o_move rfl .free rfl ?_
  refine o_extract rfl rfl .free rfl ?_
  refine o_extract rfl rfl .free rfl ?_
  refine o_alloc .free rfl ?_
  intro b10
  refine o_st rfl rfl rfl rfl .free ?_
  refine o_assign rfl .free rfl ?_
  refine o_done ?_
  refine s_seq ?_
  refine s_seq ?_
  refine o_enter rfl ?_
  refine o_move rfl .free rfl ?_
  refine o_not rfl .free rfl ?_
  refine o_move rfl .free rfl ?_
  apply o_or 25 28 rfl
  · intro g3_3 hk
    try simp only [nb] at g3_3
    refine o_move rfl (.met rfl rfl) rfl ?_
    refine o_not rfl (.met rfl rfl) rfl ?_
    refine o_pick_false rfl rfl .free rfl ?_
    exact o_fin 2 rfl rfl hk
  · intro _ hk
    refine o_skips 2 rfl ?_
    refine o_pick_true rfl rfl .free rfl ?_
    exact o_fin 2 rfl rfl hk
  refine o_move rfl .free rfl ?_
  apply o_or 29 33 rfl
  · intro g3_7 hk
    try simp only [nb] at g3_7
    refine o_move rfl (.met rfl rfl) rfl ?_
    refine o_call rfl (.met rfl rfl) rfl (f_isName nm hnl _ _) ?_
    rintro _ _ _ _ ⟨rfl, rfl, rfl⟩
    refine o_not rfl (.met rfl rfl) rfl ?_
    refine o_pick_false rfl rfl .free rfl ?_
    exact o_fin 3 rfl rfl hk
  · intro _ hk
    refine o_skips 3 rfl ?_
    refine o_pick_true rfl rfl .free rfl ?_
    exact o_fin 3 rfl rfl hk
  refine o_done ?_
  refine s_cond rfl ?_ ?_
  · intro c0
    try simp only [nb] at c0
    refine s_seq ?_
    refine o_enter rfl ?_
    refine o_assign rfl .free rfl ?_
    refine o_assign rfl .free rfl ?_
    refine o_done ?_
    refine s_ret (.tmp rfl (.tmp rfl .nil)) ?_
    refine ⟨J2, L, e1.trans e2, drops, ?_, rfl⟩
    rw [putOf_none (by rcases c0 with (h | h) | h; exact .inl (g1.1 h); exact .inr (.inl (g2.1 h)); exact .inr (.inr h))]; rfl
  intro c0
  try simp only [nb] at c0
  obtain ⟨⟨h1, h2⟩, hn⟩ := c0
  obtain ⟨e, he, rfl⟩ := g1.2 h1
  obtain ⟨v, hv, rfl⟩ := g2.2 h2
  obtain ⟨hok, hez, hel, -⟩ := exOf_facts he
  obtain ⟨-, hvok, hvz, hvl, -⟩ := closedOf_facts hv
  have hroom := put_room (n := nm) hez hel hvl
  have hpok := Ex.put_ok (n := nm) hok hvok
  have hput := putOf_some he hv hn
  refine s_skip ?_
  refine s_seq ?_
  refine o_enter rfl ?_
  refine o_lOS rfl .free rfl ?_
  refine o_move rfl .free rfl ?_
  refine o_lOS rfl .free rfl ?_
  refine o_call rfl .free rfl (f_form_put _ (Nat.lt_succ_self _) (hrep.mono e2) hok nm hn hrep2 _) ?_
  rintro _ J3 _ e3 ⟨cs3, rfl, h3, rfl⟩
  obtain ⟨o3, k3, _, rfl, -⟩ := h3.open
  refine o_alloc .free rfl ?_
  intro b12
  refine o_st rfl rfl rfl rfl .free ?_
  refine o_done ?_
  refine s_seq ?_
  refine s_seq ?_
  refine o_enter rfl ?_
  refine o_lOS rfl .free rfl ?_
  refine o_call rfl .free rfl (f_fine h3 hpok hroom _) ?_
  rintro _ _ _ _ ⟨rfl, rfl, rfl⟩
  refine o_not rfl .free rfl ?_
  refine o_done ?_
  refine s_cond rfl ?_ ?_
  · intro c1
    try simp only [nb] at c1
    refine s_seq ?_
    refine o_enter rfl ?_
    refine o_assign rfl .free rfl ?_
    refine o_assign rfl .free rfl ?_
    refine o_done ?_
    refine s_ret (.tmp rfl (.tmp rfl .nil)) ?_
    refine ⟨J3, L, (e1.trans e2).trans e3, drops, ?_, rfl⟩
    rw [hput, if_neg (by rw [c1]; simp)]; rfl
  intro c1
  try simp only [nb] at c1
  refine s_skip ?_
  refine s_seq ?_
  refine o_enter rfl ?_
  refine o_lOS rfl .free rfl ?_
  refine o_call rfl .free rfl (f_form_text h3 (by rw [Tree.text_len]; unfold maxN; omega) _) ?_
  rintro _ _ _ _ ⟨rfl, rfl, rfl⟩
  refine o_assign rfl .free rfl ?_
  refine o_assign rfl .free rfl ?_
  refine o_done ?_
  refine s_ret (.tmp rfl (.tmp rfl .nil)) ?_
  refine ⟨J3, L, (e1.trans e2).trans e3, drops, ?_, rfl⟩
  rw [hput, if_pos c1]; rfl
end Go.Proofs.YtacodibjfamkhaaGreat


/- What the statements say of closed expressions, of parts and of prints. No conditions. -/
namespace Go.Proofs.YtacodibjfamkhaaGreat
set_option maxRecDepth 100000
set_option linter.unusedVariables false
set_option linter.unusedSimpArgs false

theorem closed_nil {e : Ex} (h : e.closed = true) : e.occ [] = [] := by unfold Ex.closed at h; simpa using h
theorem closed_free {s : Txt} {e : Ex} (h : closedOf s = some e) : freeOf s = some [] := by
  obtain ⟨h1, h2, h3, h4, h5⟩ := closedOf_facts h
  unfold freeOf
  rw [h1]
  have : e.free = [] := by unfold Ex.free; rw [closed_nil h5]; rfl
  simp [this]
theorem freeOf_some {s : Txt} {e : Ex} (h : exOf s = some e) : freeOf s = some e.free := by unfold freeOf; rw [h]; rfl
end Go.Proofs.YtacodibjfamkhaaGreat


/- Parts, sizes and heads of expressions, by the program and by the reference. No conditions. -/
namespace Go.Proofs.YtacodibjfamkhaaGreat
set_option maxRecDepth 100000
set_option linter.unusedVariables false
set_option linter.unusedSimpArgs false

/-- What a loop over the kids has gathered. -/
structure GK where
  i : Nat
  B : Buf
  c : Nat
def Ex.ks (e : Ex) : List Txt := e.sub.map fun a => a.tree.text
/-- How far a count has come. -/
structure GM where
  i : Nat
  J : Heap
end Go.Proofs.YtacodibjfamkhaaGreat


/- A type leans only on the names that stand free; what is put for a name of its type keeps the type. No conditions. -/
namespace Go.Proofs.YtacodibjfamkhaaGreat
set_option maxRecDepth 100000
set_option linter.unusedVariables false
set_option linter.unusedSimpArgs false

theorem lastAt_app {l r : List Txt} {y : Txt} : ∀ {n : Nat}, n ≤ l.length → lastAt (l ++ r) y n = lastAt l y n
  | 0, _ => rfl
  | n + 1, h => by
    simp only [lastAt]
    rw [show (l ++ r).getD n [] = l.getD n [] by simp [List.getElem?_append_left (show n < l.length by omega)], lastAt_app (by omega)]
theorem lastIdx_add (l : List Txt) (x y : Txt) : lastIdx (l ++ [x]) y = if x = y then some l.length else lastIdx l y := by
  unfold lastIdx
  rw [show (l ++ [x]).length = l.length + 1 by simp]
  simp only [lastAt]
  rw [show (l ++ [x]).getD l.length [] = x by simp, lastAt_app (Nat.le_refl _)]
theorem tyLook_add {l : List Txt} {m : List Ty} (h : l.length = m.length) (x y : Txt) (s : Ty) : tyLook (l ++ [x]) (m ++ [s]) y = if x = y then some s else tyLook l m y := by
  unfold tyLook
  rw [lastIdx_add]
  by_cases hx : x = y
  · rw [if_pos hx, if_pos hx]; simp [h]
  · rw [if_neg hx, if_neg hx]
    cases hi : lastIdx l y with
    | none => rfl
    | some i =>
      have h1 := (lastAt_lt (show lastAt l y l.length = some i from hi)).1
      simp [List.getElem?_append_left (show i < m.length by omega)]
theorem tyLook_add2 {l : List Txt} {m : List Ty} (h : l.length = m.length) (f x y : Txt) (s t : Ty) : tyLook (l ++ [f, x]) (m ++ [s, t]) y = if x = y then some t else if f = y then some s else tyLook l m y := by
  have h1 := tyLook_add (l := l ++ [f]) (m := m ++ [s]) (by simp [h]) x y t
  rw [tyLook_add h, List.append_assoc, List.append_assoc] at h1
  exact h1
theorem Ex.chk_congr : ∀ {e : Ex} {l l' : List Txt} {m m' : List Ty}, l.length = m.length → l'.length = m'.length → (∀ x ∈ e.occ [], tyLook l m x = tyLook l' m' x) → e.chk l m = e.chk l' m'
  | .num _, l, l', m, m', _, _, _ => rfl
  | .name s, l, l', m, m', _, _, h => by
    have := h s (by simp [Ex.occ])
    simp only [Ex.chk, this]
  | .bin o a b, l, l', m, m', h1, h2, h => by
    simp only [Ex.occ, List.mem_append] at h
    simp only [Ex.chk, Ex.chk_congr h1 h2 fun x hx => h x (.inl hx), Ex.chk_congr h1 h2 fun x hx => h x (.inr hx)]
  | .ite a b c, l, l', m, m', h1, h2, h => by
    simp only [Ex.occ, List.mem_append] at h
    simp only [Ex.chk, Ex.chk_congr h1 h2 fun x hx => h x (.inl (.inl hx)), Ex.chk_congr h1 h2 fun x hx => h x (.inl (.inr hx)), Ex.chk_congr h1 h2 fun x hx => h x (.inr hx)]
  | .lt y a b, l, l', m, m', h1, h2, h => by
    simp only [Ex.occ, List.mem_append, List.nil_append] at h
    simp only [Ex.chk, Ex.chk_congr h1 h2 fun x hx => h x (.inl hx)]
    cases a.chk l' m' with
    | error x => rfl
    | ok s =>
      refine Ex.chk_congr (by simp [h1]) (by simp [h2]) fun x hx => ?_
      rw [tyLook_add h1, tyLook_add h2]
      by_cases hy : y = x
      · rw [if_pos hy, if_pos hy]
      · rw [if_neg hy, if_neg hy]
        exact h x (.inr (Ex.occ_mem.2 ⟨hx, by simp only [List.mem_singleton]; exact fun e => hy e.symm⟩))
  | .fn f y s t b, l, l', m, m', h1, h2, h => by
    simp only [Ex.occ, List.nil_append] at h
    simp only [Ex.chk]
    rw [Ex.chk_congr (e := b) (l := l ++ [f, y]) (l' := l' ++ [f, y]) (m := m ++ [.fn s t, s]) (m' := m' ++ [.fn s t, s]) (by simp [h1]) (by simp [h2]) fun x hx => ?_]
    rw [tyLook_add2 h1, tyLook_add2 h2]
    by_cases hy : y = x
    · rw [if_pos hy, if_pos hy]
    · rw [if_neg hy, if_neg hy]
      by_cases hf : f = x
      · rw [if_pos hf, if_pos hf]
      · rw [if_neg hf, if_neg hf]
        refine h x (Ex.occ_mem.2 ⟨hx, ?_⟩)
        simp only [List.mem_cons, List.not_mem_nil, or_false]
        rintro (e | e)
        · exact hf e.symm
        · exact hy e.symm
  | .un o a, l, l', m, m', h1, h2, h => by
    simp only [Ex.occ] at h
    simp only [Ex.chk, Ex.chk_congr h1 h2 h]
/-- The type of a closed expression is its type everywhere. -/
theorem Ex.chk_closed {e : Ex} {t : Ty} (h : e.chk [] [] = .ok t) {l : List Txt} {m : List Ty} (hl : l.length = m.length) : e.chk l m = .ok t := by
  rw [← h]
  refine (Ex.chk_congr (l := []) (m := []) rfl hl fun x hx => ?_).symm
  have := Ex.chk_occ h x hx
  cases this
/-- A value of the type of a name, put for it. -/
theorem Ex.put_chk : ∀ {e : Ex} {n : Txt} {v : Ex} {k t : Ty} {l : List Txt} {m : List Ty}, l.length = m.length → v.chk [] [] = .ok k → tyLook l m n = some k → e.chk l m = .ok t → (e.put n v).chk l m = .ok t
  | .num _, n, v, k, t, l, m, _, _, _, h => h
  | .name s, n, v, k, t, l, m, hl, hv, hn, h => by
    simp only [Ex.put]
    split
    · rename_i e; subst e
      simp only [Ex.chk, hn] at h
      cases h
      exact Ex.chk_closed hv hl
    · exact h
  | .bin o a b, n, v, k, t, l, m, hl, hv, hn, h => by
    simp only [Ex.chk] at h
    split at h
    · cases h
    · rename_i s h1
      split at h
      · cases h
      · rename_i u h2
        simp only [Ex.put, Ex.chk, Ex.put_chk hl hv hn h1, Ex.put_chk hl hv hn h2]
        split at h
        · rename_i w h3; cases h; simp only [h3]
        · cases h
  | .ite a b c, n, v, k, t, l, m, hl, hv, hn, h => by
    simp only [Ex.chk] at h
    split at h
    · cases h
    · rename_i s h1
      split at h
      · cases h
      · rename_i u h2
        split at h
        · cases h
        · rename_i w h3
          simp only [Ex.put, Ex.chk, Ex.put_chk hl hv hn h1, Ex.put_chk hl hv hn h2, Ex.put_chk hl hv hn h3]
          split at h
          · rename_i h4; cases h; rw [if_pos h4]
          · cases h
  | .lt y a b, n, v, k, t, l, m, hl, hv, hn, h => by
    simp only [Ex.chk] at h
    split at h
    · cases h
    · rename_i s h1
      simp only [Ex.put, Ex.chk, Ex.put_chk hl hv hn h1]
      by_cases hy : y = n
      · rw [if_pos hy]; exact h
      · rw [if_neg hy]
        exact Ex.put_chk (by simp [hl]) hv (by rw [tyLook_add hl, if_neg hy]; exact hn) h
  | .fn f y s u b, n, v, k, t, l, m, hl, hv, hn, h => by
    simp only [Ex.chk] at h
    split at h
    · rename_i hz
      split at h
      · cases h
      · rename_i w h1
        simp only [Ex.put, Ex.chk, hz, if_true]
        have h2 : (if f = n ∨ y = n then b else b.put n v).chk (l ++ [f, y]) (m ++ [.fn s u, s]) = .ok w := by
          by_cases hy : f = n ∨ y = n
          · rw [if_pos hy]; exact h1
          · rw [if_neg hy]
            refine Ex.put_chk (by simp [hl]) hv ?_ h1
            rw [tyLook_add2 hl, if_neg fun e => hy (.inr e), if_neg fun e => hy (.inl e)]; exact hn
        rw [h2]
        simp only
        split at h
        · rename_i h3; cases h; rw [if_pos h3]
        · cases h
    · cases h
  | .un o a, n, v, k, t, l, m, hl, hv, hn, h => by
    simp only [Ex.chk] at h
    split at h
    · cases h
    · rename_i s h1
      simp only [Ex.put, Ex.chk, Ex.put_chk hl hv hn h1]
      split at h
      · rename_i w h3; cases h; simp only [h3]
      · cases h
end Go.Proofs.YtacodibjfamkhaaGreat


/- What the statements say of faults and of what is put. No conditions. -/
namespace Go.Proofs.YtacodibjfamkhaaGreat
set_option maxRecDepth 100000
set_option linter.unusedVariables false
set_option linter.unusedSimpArgs false

/-- What can be put for a name of its type. -/
theorem subst_facts {l m : List Txt} {s n kind value o x : Txt} (h1 : exTy l m s = some o) (h2 : envLook l m n = some kind) (h3 : ofOf kind = some value) (h4 : putOf s n value = some x) : exTy l m x = some o := by
  have he : isEnv l m = true := by
    unfold exTy at h1; split at h1
    · assumption
    · cases h1
  cases hx : exOf s with
  | none => rw [exTy_no (.inr hx)] at h1; cases h1
  | some e =>
    rw [exTy_of he hx] at h1
    obtain ⟨t, ht, rfl⟩ := Option.map_eq_some_iff.1 h1
    obtain ⟨k1, k2, k3, k4, k5, k6⟩ := isEnv_tys he
    obtain ⟨k, hk, hkt, hvx, hvc, hvt, hvv, hvl⟩ := of_facts h3
    obtain ⟨_, i, hi, hil, him, hkk, _⟩ := (show isEnv l m = true ∧ ∃ i, lastIdx l n = some i ∧ i < l.length ∧ i < m.length ∧ kind = m.getD i [] ∧ True by
      unfold envLook at h2
      rw [he] at h2
      simp only [cond_true] at h2
      cases hi : lastIdx l n with
      | none => rw [hi] at h2; cases h2
      | some i =>
        rw [hi] at h2
        simp only [Option.map_some, Option.some.injEq] at h2
        have h1 := (lastAt_lt (show lastAt l n l.length = some i from hi)).1
        exact ⟨he, i, rfl, h1, by rw [← (isEnv_len he).2.1]; exact h1, h2.symm, trivial⟩)
    have hlook : tyLook l (tysOf m) n = some k := by
      unfold tyLook
      rw [hi]
      have h9 : i < (tysOf m).length := by omega
      simp only [Option.bind, List.getElem?_eq_getElem h9]
      have : m.getD i [] = ((tysOf m)[i]).tree.text := by conv => lhs; rw [k1]
                                                          simp [h9]
      rw [this] at hkk
      have h10 := tyOf_some hk
      rw [hkk, tyOf_text, if_pos (k2 _ (List.getElem_mem h9))] at hk
      rw [hk]
    unfold putOf at h4
    rw [hx, hvc] at h4
    simp only at h4
    split at h4
    · rename_i hp
      cases h4
      have hvk : k.sample.chk [] [] = .ok k := Ty.sample_chk (tyOf_some hk).2.1
      have hput : exOf (e.put n k.sample).tree.text = some (e.put n k.sample) := exOf_fine hp.2
      rw [exTy_of he hput]
      unfold Ex.ty at ht ⊢
      cases hc : e.chk l (tysOf m) with
      | error y => rw [hc] at ht; cases ht
      | ok t' =>
        rw [hc] at ht; cases ht
        rw [Ex.put_chk (by rw [tysOf_len]; exact (isEnv_len he).2.1) hvk hlook hc]; rfl
    · cases h4
end Go.Proofs.YtacodibjfamkhaaGreat


/- The walk of the statement 'FnSubstitute'. No conditions. -/
namespace Go.Proofs.YtacodibjfamkhaaGreat
set_option maxRecDepth 100000
set_option linter.unusedVariables false
set_option linter.unusedSimpArgs false

/-- What stands free in a typed expression is in the environment. -/
theorem free_look {l m : List Txt} {s o n : Txt} {e : Ex} (h : exTy l m s = some o) (he : exOf s = some e) (hn : n ∈ e.free) : ∃ kind, envLook l m n = some kind ∧ kind ∈ m := by
  have hv : isEnv l m = true := by
    unfold exTy at h; split at h
    · assumption
    · cases h
  rw [exTy_of hv he] at h
  obtain ⟨t, ht, rfl⟩ := Option.map_eq_some_iff.1 h
  have hl := Ex.ty_occ ht n (Ex.free_mem.1 hn)
  obtain ⟨k1, k2, k3, k4, k5, k6⟩ := isEnv_tys hv
  obtain ⟨u, hu⟩ := tyLook_some (m := tysOf m) (by rw [tysOf_len]; exact (isEnv_len hv).2.1) hl
  unfold tyLook at hu
  cases hi : lastIdx l n with
  | none => rw [hi] at hu; cases hu
  | some i =>
    have h1 := (lastAt_lt (show lastAt l n l.length = some i from hi)).1
    have h2 : i < m.length := by rw [← (isEnv_len hv).2.1]; exact h1
    refine ⟨m.getD i [], ?_, ?_⟩
    · unfold envLook; rw [hv, hi]; rfl
    · rw [show m.getD i [] = m[i] by simp [h2]]; exact List.getElem_mem _
/-- A closed expression has its type without an environment. -/
theorem nofree_typed {l m : List Txt} {s o : Txt} {e : Ex} (h : exTy l m s = some o) (he : exOf s = some e) (hn : e.free = []) : (tyC s).isSome = true := by
  have hv : isEnv l m = true := by
    unfold exTy at h; split at h
    · assumption
    · cases h
  rw [exTy_of hv he] at h
  obtain ⟨t, ht, rfl⟩ := Option.map_eq_some_iff.1 h
  unfold tyC
  rw [he]
  show (e.ty [] []).isSome = true
  unfold Ex.ty at ht ⊢
  rw [Ex.chk_congr (l' := l) (m' := tysOf m) rfl (by rw [tysOf_len]; exact (isEnv_len hv).2.1) (fun x hx => by
    have := Ex.free_mem.2 hx
    rw [hn] at this; cases this)]
  cases hc : e.chk l (tysOf m) with
  | error y => rw [hc] at ht; cases ht
  | ok t' => rfl
theorem put_out {s n b o : Txt} (h : putOf s n b = some o) : o.length ≤ 12000 := by
  unfold putOf at h
  split at h
  · split at h
    · rename_i hp
      cases h
      have h2 := hp.2
      simp only [Ex.fine, Bool.and_eq_true, decide_eq_true_eq, Tree.fits] at h2
      rw [Tree.text_len]; exact h2.2.2
    · cases h
  · cases h
theorem law_FnSubstitute {I : Heap} {oa ob : Option Addr} {code more : List UInt8} {c cm : Nat} (h : Bytes I oa code c) (hm : Bytes I ob more cm) (L : Own) : Fun Tryz.prog 3 [.slice oa code.length c, .slice ob more.length cm] I L (YES L) := by
  have hlen := h.len
  have hlen2 := hm.len
  refine fun_intro (by simp) ?_
  refine s_seq ?_
  refine o_enter rfl ?_
  refine o_assign rfl .free rfl ?_
  refine o_done ?_
  refine s_seq ?_
  refine s_seq ?_
  refine o_enter rfl ?_
  refine o_move rfl .free rfl ?_
  refine o_len_slice rfl .free rfl ?_
  refine o_cmp rfl rfl rfl .free rfl ?_
  refine o_move rfl .free rfl ?_
  apply o_or 26 30 rfl
  · intro g1_4 hk
    try simp only [nb] at g1_4
    refine o_move rfl (.met rfl rfl) rfl ?_
    refine o_len_slice rfl (.met rfl rfl) rfl ?_
    refine o_cmp rfl rfl rfl (.met rfl rfl) rfl ?_
    refine o_pick_false rfl rfl .free rfl ?_
    exact o_fin 3 rfl rfl hk
  · intro _ hk
    refine o_skips 3 rfl ?_
    refine o_pick_true rfl rfl .free rfl ?_
    exact o_fin 3 rfl rfl hk
  refine o_done ?_
  refine s_cond rfl ?_ ?_
  · intro c0
    try simp only [nb] at c0
    refine s_seq ?_
    refine o_enter rfl ?_
    refine o_assign rfl .free rfl ?_
    refine o_done ?_
    refine s_ret (.tmp rfl .nil) ?_
    exact ⟨I, L, .refl _, fun _ h => h, rfl, rfl⟩
  intro c0
  try simp only [nb] at c0
  refine s_skip ?_
  refine s_seq ?_
  refine o_enter rfl ?_
  refine o_move rfl .free rfl ?_
  refine o_call rfl .free rfl (g_DrawExprType h _) ?_
  rintro _ J1 _ e1 ⟨o1, l, ca, o2, m, cb, s, rfl, k1, k2, m1, m2, m3, m4, m5, rfl⟩
  have hsl : s.length ≤ maxN := by unfold maxN; omega
  refine o_move rfl .free rfl ?_
  iterate 3 refine o_extract rfl rfl .free rfl ?_
  iterate 3 refine o_assign rfl .free rfl ?_
  refine o_done ?_
  refine s_seq ?_
  refine o_enter rfl ?_
  iterate 3 refine o_move rfl .free rfl ?_
  refine o_call rfl .free rfl (f_ExprType k1 k2 s hsl _) ?_
  rintro _ J2 _ e2 ⟨rfl, rfl⟩
  refine o_move rfl .free rfl ?_
  refine o_extract rfl rfl .free rfl ?_
  refine o_extract rfl rfl .free rfl ?_
  refine o_assign rfl .free rfl ?_
  refine o_assign rfl .free rfl ?_
  refine o_done ?_
  refine s_seq ?_
  refine o_enter rfl ?_
  iterate 3 refine o_move rfl .free rfl ?_
  refine o_call rfl .free rfl (g_ExprType (k1.mono e2) (k2.mono e2) s (maxN_maxL hsl) _) ?_
  rintro _ J3 _ e3 ⟨rfl, rfl⟩
  have hle := (e1.trans e2).trans e3
  have k1 := k1.mono (e2.trans e3)
  have k2 := k2.mono (e2.trans e3)
  refine o_move rfl .free rfl ?_
  refine o_extract rfl rfl .free rfl ?_
  refine o_extract rfl rfl .free rfl ?_
  refine o_assign rfl .free rfl ?_
  refine o_assign rfl .free rfl ?_
  refine o_done ?_
  refine s_seq ?_
  refine s_seq ?_
  refine o_enter rfl ?_
  refine o_move rfl .free rfl ?_
  refine o_move rfl .free rfl ?_
  refine o_cmpb rfl rfl rfl .free rfl ?_
  refine o_move rfl .free rfl ?_
  apply o_or 54 58 rfl
  · intro g6_4 hk
    try simp only [nb] at g6_4
    refine o_move rfl (.met rfl rfl) rfl ?_
    refine o_move rfl (.met rfl rfl) rfl ?_
    refine o_cmps rfl rfl rfl (.met rfl rfl) rfl ?_
    refine o_pick_false rfl rfl .free rfl ?_
    exact o_fin 3 rfl rfl hk
  · intro _ hk
    refine o_skips 3 rfl ?_
    refine o_pick_true rfl rfl .free rfl ?_
    exact o_fin 3 rfl rfl hk
  refine o_move rfl .free rfl ?_
  apply o_or 59 62 rfl
  · intro g6_9 hk
    try simp only [nb] at g6_9
    refine o_move rfl (.met rfl rfl) rfl ?_
    refine o_not rfl (.met rfl rfl) rfl ?_
    refine o_pick_false rfl rfl .free rfl ?_
    exact o_fin 2 rfl rfl hk
  · intro _ hk
    refine o_skips 2 rfl ?_
    refine o_pick_true rfl rfl .free rfl ?_
    exact o_fin 2 rfl rfl hk
  refine o_done ?_
  refine s_cond rfl ?_ ?_
  · intro c1
    try simp only [nb] at c1
    refine s_seq ?_
    refine o_enter rfl ?_
    refine o_move rfl .free rfl ?_
    refine o_move rfl .free rfl ?_
    refine o_cmpb rfl rfl rfl .free rfl ?_
    refine o_move rfl .free rfl ?_
    apply o_and 66 70 rfl
    · intro g7_4 hk
      try simp only [nb] at g7_4
      refine o_move rfl (.met rfl rfl) rfl ?_
      refine o_move rfl (.met rfl rfl) rfl ?_
      refine o_cmps rfl rfl rfl (.met rfl rfl) rfl ?_
      refine o_pick_true rfl rfl .free rfl ?_
      exact o_fin 3 rfl rfl hk
    · intro _ hk
      refine o_skips 3 rfl ?_
      refine o_pick_false rfl rfl .free rfl ?_
      exact o_fin 3 rfl rfl hk
    refine o_assign rfl .free rfl ?_
    refine o_done ?_
    refine s_ret (.tmp rfl .nil) ?_
    refine ⟨J3, L, hle, drops, ?_, rfl⟩
    simp [retOne]
  intro c1
  try simp only [nb] at c1
  obtain ⟨o, ho⟩ : ∃ o, exTy l m s = some o := Option.isSome_iff_exists.1 (by simpa using c1)
  obtain ⟨e, he⟩ : ∃ e, exOf s = some e := by
    cases hx : exOf s with
    | none => rw [exTy_no (.inr hx)] at ho; cases ho
    | some e => exact ⟨e, rfl⟩
  have hei := exOf_is he
  rw [ho]
  simp only [Option.getD_some, Option.isSome_some]
  refine s_skip ?_
  refine s_seq ?_
  refine o_enter rfl ?_
  refine o_move rfl .free rfl ?_
  refine o_call rfl .free rfl (f_ExprFree s hsl _ _) ?_
  rintro _ J4 _ e4 ⟨of, cf, rfl, hf, rfl⟩
  rw [freeOf_some he] at hf
  rw [freeOf_some he]
  simp only [Option.getD_some, Option.isSome_some] at hf ⊢
  have hle := hle.trans e4
  have k1 := k1.mono e4
  have k2 := k2.mono e4
  refine o_move rfl .free rfl ?_
  refine o_extract rfl rfl .free rfl ?_
  refine o_extract rfl rfl .free rfl ?_
  refine o_assign rfl .free rfl ?_
  refine o_assign rfl .free rfl ?_
  refine o_done ?_
  refine s_seq ?_
  refine s_seq ?_
  refine o_enter rfl ?_
  refine o_move rfl .free rfl ?_
  refine o_len_slice rfl .free rfl ?_
  refine o_cmp rfl rfl rfl .free rfl ?_
  refine o_done ?_
  refine s_cond rfl ?_ ?_
  · intro c2
    try simp only [nb] at c2
    refine s_seq ?_
    refine o_enter rfl ?_
    refine o_move rfl .free rfl ?_
    refine o_move rfl .free rfl ?_
    apply o_and 80 83 rfl
    · intro g10_2 hk
      try simp only [nb] at g10_2
      refine o_move rfl (.met rfl rfl) rfl ?_
      refine o_call rfl (.met rfl rfl) rfl (f_ExprTyped s hsl _ _) ?_
      rintro _ J5 _ e5 ⟨rfl, rfl⟩
      refine o_mem (fun w h => Mem.le e5 h) ?_
      refine o_pick_true rfl rfl .free rfl ?_
      exact o_fin 2 rfl rfl hk
    · intro _ hk
      refine o_skips 2 rfl ?_
      refine o_pick_false rfl rfl .free rfl ?_
      exact o_fin 2 rfl rfl hk
    refine o_assign rfl .free rfl ?_
    refine o_done ?_
    refine s_ret (.tmp rfl .nil) ?_
    refine ⟨J4, L, hle, drops, ?_, rfl⟩
    have hf0 : e.free = [] := List.length_eq_zero_iff.1 (by omega)
    have := nofree_typed ho he hf0
    simp [retOne, this]
  intro c2
  try simp only [nb] at c2
  have hfp : 0 < e.free.length := by omega
  have hfl := hf.len
  unfold maxN at hfl
  have hlt : more.length % e.free.length < e.free.length := Nat.mod_lt _ hfp
  have hst := hf.st _ hlt
  have hfm : e.free.getD (more.length % e.free.length) [] ∈ e.free := by rw [show e.free.getD (more.length % e.free.length) [] = e.free[more.length % e.free.length] by simp [hlt]]; exact List.getElem_mem _
  obtain ⟨kind, hkd, hkm⟩ := free_look ho he hfm
  have hkl : kind.length ≤ maxN := k2.each _ hkm
  have hnl := hf.each _ hfm
  refine s_skip ?_
  refine s_seq ?_
  refine o_enter rfl ?_
  refine o_move rfl .free rfl ?_
  refine o_move rfl .free rfl ?_
  refine o_len_slice rfl .free rfl ?_
  refine o_move rfl .free rfl ?_
  refine o_len_slice rfl .free rfl ?_
  refine o_rem rfl rfl (by omega) .free rfl ?_
  refine o_put (t := 89) (v' := .int .i64 ((more.length % e.free.length : Nat))) rfl (by rw [Int.natCast_emod] <;> rfl) ?_
  first | refine o_ixD rfl rfl _ rfl .free rfl ?_ | refine o_ixP rfl rfl _ rfl .free rfl ?_
  refine o_lI1 rfl .free rfl ?_
  refine o_assign rfl .free rfl ?_
  refine o_done ?_
  refine s_seq ?_
  refine o_enter rfl ?_
  iterate 3 refine o_move rfl .free rfl ?_
  refine o_call rfl .free rfl (f_EnvLook k1 k2 _ _) ?_
  rw [hkd]; rintro _ J6 _ e6 ⟨rfl, rfl⟩
  simp only [Option.getD_some, Option.isSome_some]
  have hle := hle.trans e6
  have k1 := k1.mono e6
  have k2 := k2.mono e6
  refine o_move rfl .free rfl ?_
  refine o_extract rfl rfl .free rfl ?_
  refine o_extract rfl rfl .free rfl ?_
  refine o_assign rfl .free rfl ?_
  refine o_assign rfl .free rfl ?_
  refine o_done ?_
  refine s_seq ?_
  refine o_enter rfl ?_
  refine o_move rfl .free rfl ?_
  refine o_call rfl .free rfl (f_ExprOf kind hkl _ _) ?_
  rintro _ J7 _ e7 ⟨rfl, rfl⟩
  have hle := hle.trans e7
  have k1 := k1.mono e7
  have k2 := k2.mono e7
  have hvl : ((ofOf kind).getD []).length ≤ maxN := by
    cases hv : ofOf kind with
    | none => decide
    | some v =>
      obtain ⟨t, ht, hst, hx, hcl, htc, hv, hol⟩ := of_facts hv
      simp only [Option.getD_some]; unfold maxN; omega
  refine o_move rfl .free rfl ?_
  refine o_extract rfl rfl .free rfl ?_
  refine o_extract rfl rfl .free rfl ?_
  refine o_assign rfl .free rfl ?_
  refine o_assign rfl .free rfl ?_
  refine o_done ?_
  refine s_seq ?_
  refine o_enter rfl ?_
  iterate 3 refine o_move rfl .free rfl ?_
  refine o_call rfl .free rfl (f_ExprPut s _ _ hsl hnl hvl _ _) ?_
  rintro _ J8 _ e8 ⟨rfl, rfl⟩
  have hle := hle.trans e8
  have k1 := k1.mono e8
  have k2 := k2.mono e8
  have hpl : ((putOf s (e.free.getD (more.length % e.free.length) []) ((ofOf kind).getD [])).getD []).length ≤ maxN := by
    cases hv : putOf s (e.free.getD (more.length % e.free.length) []) ((ofOf kind).getD []) with
    | none => decide
    | some v => simp only [Option.getD_some]; have := put_out hv; unfold maxN; omega
  refine o_move rfl .free rfl ?_
  refine o_extract rfl rfl .free rfl ?_
  refine o_extract rfl rfl .free rfl ?_
  refine o_assign rfl .free rfl ?_
  refine o_assign rfl .free rfl ?_
  refine o_done ?_
  refine s_seq ?_
  refine o_enter rfl ?_
  iterate 3 refine o_move rfl .free rfl ?_
  refine o_call rfl .free rfl (f_ExprType k1 k2 _ hpl _) ?_
  rintro _ J9 _ e9 ⟨rfl, rfl⟩
  have hle := hle.trans e9
  refine o_move rfl .free rfl ?_
  refine o_extract rfl rfl .free rfl ?_
  refine o_extract rfl rfl .free rfl ?_
  refine o_assign rfl .free rfl ?_
  refine o_assign rfl .free rfl ?_
  refine o_done ?_
  refine s_seq ?_
  refine o_enter rfl ?_
  refine o_move rfl .free rfl ?_
  refine o_move rfl .free rfl ?_
  apply o_and 119 121 rfl
  · intro g16_2 hk
    try simp only [nb] at g16_2
    refine o_move rfl (.met rfl rfl) rfl ?_
    refine o_pick_true rfl rfl .free rfl ?_
    exact o_fin 1 rfl rfl hk
  · intro _ hk
    refine o_skips 1 rfl ?_
    refine o_pick_false rfl rfl .free rfl ?_
    exact o_fin 1 rfl rfl hk
  refine o_move rfl .free rfl ?_
  apply o_and 122 137 rfl
  · intro g16_5 hk
    try simp only [nb] at g16_5
    refine o_move rfl (.met rfl rfl) rfl ?_
    refine o_not rfl (.met rfl rfl) rfl ?_
    refine o_move rfl (.met rfl rfl) rfl ?_
    apply o_or 125 128 rfl
    · intro g16_8 hk
      try simp only [nb] at g16_8
      refine o_move rfl (.met rfl rfl) rfl ?_
      refine o_not rfl (.met rfl rfl) rfl ?_
      refine o_pick_false rfl rfl (.met rfl rfl) rfl ?_
      exact o_fin 2 rfl rfl hk
    · intro _ hk
      refine o_skips 2 rfl ?_
      refine o_pick_true rfl rfl (.met rfl rfl) rfl ?_
      exact o_fin 2 rfl rfl hk
    refine o_move rfl (.met rfl rfl) rfl ?_
    apply o_or 129 136 rfl
    · intro g16_12 hk
      try simp only [nb] at g16_12
      refine o_move rfl (.met rfl rfl) rfl ?_
      refine o_move rfl (.met rfl rfl) rfl ?_
      apply o_and 131 135 rfl
      · intro g16_14 hk
        try simp only [nb] at g16_14
        refine o_move rfl (.met rfl rfl) rfl ?_
        refine o_move rfl (.met rfl rfl) rfl ?_
        refine o_cmps rfl rfl rfl (.met rfl rfl) rfl ?_
        refine o_pick_true rfl rfl (.met rfl rfl) rfl ?_
        exact o_fin 3 rfl rfl hk
      · intro _ hk
        refine o_skips 3 rfl ?_
        refine o_pick_false rfl rfl (.met rfl rfl) rfl ?_
        exact o_fin 3 rfl rfl hk
      refine o_pick_false rfl rfl (.met rfl rfl) rfl ?_
      exact o_fin 3 rfl rfl hk
    · intro _ hk
      refine o_skips 6 rfl ?_
      refine o_pick_true rfl rfl (.met rfl rfl) rfl ?_
      exact o_fin 6 rfl rfl hk
    refine o_pick_true rfl rfl .free rfl ?_
    exact o_fin 6 rfl rfl hk
  · intro _ hk
    refine o_skips 14 rfl ?_
    refine o_pick_false rfl rfl .free rfl ?_
    exact o_fin 14 rfl rfl hk
  refine o_assign rfl .free rfl ?_
  refine o_done ?_
  refine s_ret (.tmp rfl .nil) ?_
  refine ⟨J9, L, hle, drops, ?_, rfl⟩
  clear hnl hst hpl hfm
  generalize e.free.getD (more.length % e.free.length) [] = nn at *
  cases hv : ofOf kind with
  | none => simp [retOne]
  | some v =>
    cases hp : putOf s nn v with
    | none => simp [retOne, hp]
    | some x =>
      have := subst_facts ho hkd hv hp
      simp [retOne, hp, this]
end Go.Proofs.YtacodibjfamkhaaGreat
