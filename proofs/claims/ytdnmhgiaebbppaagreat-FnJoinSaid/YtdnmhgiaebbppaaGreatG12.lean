/- Drawn expressions, well and odd ones. No conditions. -/
import Derived.Test.YtdnmhgiaebbppaaGreatG11
namespace Go.Proofs.YtdnmhgiaebbppaaGreat
set_option maxRecDepth 100000
set_option linter.unusedVariables false
set_option linter.unusedSimpArgs false

theorem replOf_some {s a b : Txt} {t x y : Tree} (h1 : parse s = some t) (h2 : parse a = some x) (h3 : parse b = some y) : replOf s a b = if x.atom ≠ [] ∧ (parse (t.repl a y).text).isSome = true then some (t.repl a y).text else none := by
  unfold replOf; rw [h1, h2, h3]
theorem replOf_none {s a b : Txt} (h : parse s = none ∨ parse a = none ∨ parse b = none) : replOf s a b = none := by
  unfold replOf
  rcases h with h | h | h
  · rw [h]
  · rw [h]; cases parse s <;> rfl
  · rw [h]; cases parse s <;> cases parse a <;> rfl
theorem RD_get {p : Option Tree} {t : Tree} {ok : Bool} (hpf : match p with | some t0 => ok = true ∧ t = t0 | none => ok = false) : (ok = false → p = none) ∧ (ok = true → p = some t) := by
  cases p with
  | none => exact ⟨fun _ => rfl, fun h => (by rw [hpf] at h; cases h)⟩
  | some t0 => exact ⟨fun h => (by rw [hpf.1] at h; cases h), fun _ => (by rw [hpf.2])⟩
theorem parse_len {s : Txt} {t : Tree} (h : parse s = some t) : s.length ≤ 12000 ∧ t.len ≤ 12000 := by
  have h1 := (parse_fits h).1
  simp only [Tree.fits, Bool.and_eq_true, decide_eq_true_eq] at h1
  exact ⟨by rw [← parse_text h, Tree.text_len]; exact h1.2, h1.2⟩
theorem repl_out {s a b o : Txt} (h : replOf s a b = some o) : o.length ≤ 12000 := by
  unfold replOf at h
  cases h1 : parse s with
  | none => rw [h1] at h; cases h
  | some t =>
    cases h2 : parse a with
    | none => rw [h1, h2] at h; cases h
    | some x =>
      cases h3 : parse b with
      | none => rw [h1, h2, h3] at h; cases h
      | some y =>
        rw [h1, h2, h3] at h
        simp only at h
        split at h
        · rename_i hh
          cases h
          obtain ⟨z, hz⟩ := Option.isSome_iff_exists.1 hh.2
          exact (parse_len hz).1
        · cases h
theorem g_FormReplace (s a b : Txt) (hs : s.length ≤ maxL) (ha : a.length ≤ maxL) (hb : b.length ≤ 900) (I : Heap) (L : Own) : Fun Tryz.prog 47 [.string (str s), .string (str a), .string (str b)] I L (EL (replOf s a b) L) := by
  refine fun_intro (by simp) ?_
  refine s_seq ?_
  refine o_enter rfl ?_
  refine o_assign rfl .free rfl ?_
  refine o_assign rfl .free rfl ?_
  refine o_done ?_
  refine s_seq ?_
  refine o_enter rfl ?_
  refine o_move rfl .free rfl ?_
  refine o_call rfl .free rfl (g_l1Parse' s hs _ _) ?_
  rintro _ J1 _ e1 ⟨t, cs1, ok1, rfl, hr1, rfl, hp1⟩
  obtain ⟨o1, k1, _, rfl, -⟩ := hr1.open
  refine o_move rfl .free rfl ?_
  refine o_extract rfl rfl .free rfl ?_
  refine o_extract rfl rfl .free rfl ?_
  refine o_alloc .free rfl ?_
  intro b8
  refine o_st rfl rfl rfl rfl .free ?_
  refine o_assign rfl .free rfl ?_
  refine o_done ?_
  refine s_seq ?_
  refine o_enter rfl ?_
  refine o_move rfl .free rfl ?_
  refine o_call rfl .free rfl (g_l1Parse' a ha _ _) ?_
  rintro _ J2 _ e2 ⟨x, cs2, ok2, rfl, hr2, rfl, hp2⟩
  obtain ⟨o2, k2, _, rfl, -⟩ := hr2.open
  refine o_move rfl .free rfl ?_
  refine o_extract rfl rfl .free rfl ?_
  refine o_extract rfl rfl .free rfl ?_
  refine o_alloc .free rfl ?_
  intro b10
  refine o_st rfl rfl rfl rfl .free ?_
  refine o_assign rfl .free rfl ?_
  refine o_done ?_
  refine s_seq ?_
  refine o_enter rfl ?_
  refine o_move rfl .free rfl ?_
  refine o_call rfl .free rfl (g_l1Parse' b (by unfold maxL; omega) _ _) ?_
  rintro _ J3 _ e3 ⟨y, cs3, ok3, rfl, hr3, rfl, hp3⟩
  obtain ⟨o3, k3, _, rfl, -⟩ := hr3.open
  have q1 := RD_get hp1
  have q2 := RD_get hp2
  have q3 := RD_get hp3
  have hle := (e1.trans e2).trans e3
  refine o_move rfl .free rfl ?_
  refine o_extract rfl rfl .free rfl ?_
  refine o_extract rfl rfl .free rfl ?_
  refine o_alloc .free rfl ?_
  intro b12
  refine o_st rfl rfl rfl rfl .free ?_
  refine o_assign rfl .free rfl ?_
  refine o_done ?_
  refine s_seq ?_
  refine s_seq ?_
  refine o_enter rfl ?_
  refine o_move rfl .free rfl ?_
  refine o_not rfl .free rfl ?_
  refine o_move rfl .free rfl ?_
  apply o_or 32 35 rfl
  · intro g4_3 hk
    try simp only [nb] at g4_3
    refine o_move rfl (.met rfl rfl) rfl ?_
    refine o_not rfl (.met rfl rfl) rfl ?_
    refine o_pick_false rfl rfl .free rfl ?_
    exact o_fin 2 rfl rfl hk
  · intro _ hk
    refine o_skips 2 rfl ?_
    refine o_pick_true rfl rfl .free rfl ?_
    exact o_fin 2 rfl rfl hk
  refine o_move rfl .free rfl ?_
  apply o_or 36 39 rfl
  · intro g4_7 hk
    try simp only [nb] at g4_7
    refine o_move rfl (.met rfl rfl) rfl ?_
    refine o_not rfl (.met rfl rfl) rfl ?_
    refine o_pick_false rfl rfl .free rfl ?_
    exact o_fin 2 rfl rfl hk
  · intro _ hk
    refine o_skips 2 rfl ?_
    refine o_pick_true rfl rfl .free rfl ?_
    exact o_fin 2 rfl rfl hk
  refine o_move rfl .free rfl ?_
  apply o_or 40 44 rfl
  · intro g4_11 hk
    try simp only [nb] at g4_11
    refine o_fieldAddr rfl (.met rfl rfl) rfl ?_
    refine o_lO1 rfl (.met rfl rfl) rfl ?_
    refine o_cmps rfl rfl rfl (.met rfl rfl) rfl ?_
    refine o_pick_false rfl rfl .free rfl ?_
    exact o_fin 3 rfl rfl hk
  · intro _ hk
    refine o_skips 3 rfl ?_
    refine o_pick_true rfl rfl .free rfl ?_
    exact o_fin 3 rfl rfl hk
  refine o_done ?_
  refine s_cond rfl ?_ ?_
  · intro c0
    try simp only [nb] at c0
    refine s_seq ?_
    refine o_enter rfl ?_
    refine o_assign rfl .free rfl ?_
    refine o_assign rfl .free rfl ?_
    refine o_done ?_
    refine s_ret (.tmp rfl (.tmp rfl .nil)) ?_
    refine ⟨J3, L, hle, drops, ?_, rfl⟩
    have hz : replOf s a b = none := by
      rcases c0 with ((h | h) | h) | h
      · exact replOf_none (.inl (q1.1 h))
      · exact replOf_none (.inr (.inl (q2.1 h)))
      · exact replOf_none (.inr (.inr (q3.1 h)))
      · cases hh1 : parse s with
        | none => exact replOf_none (.inl hh1)
        | some t1 =>
          cases hh2 : parse a with
          | none => exact replOf_none (.inr (.inl hh2))
          | some x1 =>
            cases hh3 : parse b with
            | none => exact replOf_none (.inr (.inr hh3))
            | some y1 =>
              rw [hh2] at hp2
              rw [replOf_some hh1 hh2 hh3, if_neg (by rw [← hp2.2]; exact fun e => e.1 h)]
    rw [hz]; rfl
  intro c0
  try simp only [nb] at c0
  obtain ⟨⟨⟨h1, h2⟩, h3⟩, h4⟩ := c0
  have p1 := q1.2 h1
  have p2 := q2.2 h2
  have p3 := q3.2 h3
  have f1 := parse_fits p1
  have f2 := parse_fits p2
  have f3 := parse_fits p3
  have l1 := (parse_len p1).2
  have l3 : y.len ≤ 900 := by rw [← Tree.text_len, parse_text p3]; exact hb
  have z1 := parse_size p1
  have hrl := t.repl_len a y
  have hmul : t.size * y.len ≤ 12000 * 900 := Nat.mul_le_mul z1 l3
  have hrg := Tree.repl_good (a := a) f1.2.1 f3.2.1
  have ha0 : a ≠ [] := by
    intro e
    have h5 := parse_text p2
    have h6 := good_nil f2.2.1 h4
    cases x with
    | node n ps =>
      simp only [Tree.parts] at h6
      subst h6
      simp only [Tree.text, List.isEmpty_nil, cond_true] at h5
      exact h4 (h5.trans e)
  have hro := replOf_some p1 p2 p3
  refine s_skip ?_
  refine s_seq ?_
  refine o_enter rfl ?_
  refine o_lOS rfl .free rfl ?_
  refine o_move rfl .free rfl ?_
  refine o_lOS rfl .free rfl ?_
  refine o_call rfl .free rfl (g_l1Replace _ (Nat.lt_succ_self _) ((hr1.mono e2).mono e3) f1.2.1 a ha0 hr3 _) ?_
  rintro _ J4 _ e4 ⟨cs4, rfl, hr4, rfl⟩
  refine o_call rfl .free rfl (g_l1Text _ (Nat.lt_succ_self _) hr4 hrg (by omega) _) ?_
  rintro _ _ _ _ ⟨rfl, rfl, rfl⟩
  refine o_assign rfl .free rfl ?_
  refine o_done ?_
  refine s_seq ?_
  refine s_seq ?_
  refine o_enter rfl ?_
  refine o_move rfl .free rfl ?_
  refine o_call rfl .free rfl (g_FormValid _ (by rw [Tree.text_len]; unfold maxL; omega) _ _) ?_
  rintro _ J5 _ e5 ⟨rfl, rfl⟩
  have hle := (hle.trans e4).trans e5
  refine o_not rfl .free rfl ?_
  refine o_done ?_
  refine s_cond rfl ?_ ?_
  · intro c1
    try simp only [nb] at c1
    refine s_seq ?_
    refine o_enter rfl ?_
    refine o_assign rfl .free rfl ?_
    refine o_assign rfl .free rfl ?_
    refine o_done ?_
    refine s_ret (.tmp rfl (.tmp rfl .nil)) ?_
    refine ⟨J5, L, hle, drops, ?_, rfl⟩
    rw [hro, if_neg (by rintro ⟨-, h⟩; rw [c1] at h; cases h)]; rfl
  intro c1
  try simp only [nb] at c1
  refine s_skip ?_
  refine s_seq ?_
  refine o_enter rfl ?_
  refine o_move rfl .free rfl ?_
  refine o_assign rfl .free rfl ?_
  refine o_assign rfl .free rfl ?_
  refine o_done ?_
  refine s_ret (.tmp rfl (.tmp rfl .nil)) ?_
  refine ⟨J5, L, hle, drops, ?_, rfl⟩
  rw [hro, if_pos ⟨h4, c1⟩]; rfl
theorem sc_nil (I : Heap) (oa ob : Option Addr) : ScAt I [] [] oa 0 ob 0 := ⟨strs_empty _ _, strs_empty _ _, rfl, (fun _ h => by cases h), (fun _ h => by cases h)⟩
theorem g_l91Good {I : Heap} {oa : Option Addr} {l : List UInt8} {c : Nat} (h : Bytes I oa l c) (hl : l.length ≤ 2000) (b p : Nat) (hp : p + 7000 ≤ 1099511627776) (L : Own) :
    Fun Tryz.prog 45 [.pointer (some ⟨b, 0, none⟩)] I (rd b oa l c p :: L) (DT b oa l c p 7000 400000 L) := by
  have hle : HLe I I := .refl _
  have hk2 : kT 2 = 6 := rfl
  have hb2 : bT 2 = 19 := rfl
  refine fun_intro (by simp) ?_
  refine s_seq ?_
  refine o_enter rfl ?_
  refine o_assign rfl .free rfl ?_
  refine o_done ?_
  refine s_seq ?_
  refine o_enter rfl ?_
  refine o_assign rfl .free rfl ?_
  refine o_done ?_
  refine s_seq ?_
  refine s_seq ?_
  refine o_enter rfl ?_
  refine o_move rfl .free rfl ?_
  refine o_call rfl .free rfl (g_l6Rd_pick h hl b _ 3 (by omega) (by decide) _) ?_
  rintro _ _ _ _ ⟨r, rfl, rfl, rfl, hr⟩
  refine o_cmp rfl rfl rfl .free rfl ?_
  refine o_done ?_
  refine s_cond rfl ?_ ?_
  · intro c0
    try simp only [nb] at c0
    refine o_enter rfl ?_
    refine o_move rfl .free rfl ?_
    refine o_call rfl .free rfl (g_l91Type 2 h hl b _ (by omega) (by decide) (by decide) _) ?_
    rintro _ J _ e ⟨w, pw, rfl, hw, hp1, hp2, rfl⟩
    have h := h.mono e
    have hle := hle.trans e
    refine o_assign rfl .free rfl ?_
    refine o_done ?_
    refine s_seq ?_
    try have hw := hw
    refine o_enter rfl ?_
    refine o_move rfl .free rfl ?_
    refine o_lits0 .free rfl ?_
    intro b11
    refine o_lits0 .free rfl ?_
    intro b12
    refine o_struct rfl rfl rfl .free rfl ?_
    refine o_move rfl .free rfl ?_
    refine o_move rfl .free rfl ?_
    refine o_mem (fun w h => Mem.sub (L' := rd b oa l c _ :: L) (by repeat (first | exact List.Sublist.refl _ | apply List.Sublist.cons_cons | apply List.Sublist.cons)) h) ?_
    refine o_call rfl .free rfl (g_l6Rd_pick h hl b _ 3 (by omega) (by decide) _) ?_
    rintro _ _ _ _ ⟨r2, rfl, rfl, rfl, hr2⟩
    have hr3 : r2 < 3 := by omega
    have hdd : ∃ d : Nat, (2 : Int) + (r2 : Nat) = (d : Nat) ∧ d ≤ 4 := ⟨2 + r2, by omega, by omega⟩
    obtain ⟨d, hd1, hd2⟩ := hdd
    refine o_arith rfl rfl rfl (by omega) .free rfl ?_
    refine o_put (t := 17) (v' := .int .i64 (d : Nat)) rfl (by rw [← hd1]) ?_
    refine o_call rfl .free rfl (g_l91Expr hd2 h hl b _ (by omega) (sc_nil _ _ _) (by simp) _ (by first | omega | (simp; done) | decide) _) ?_
    rintro _ J1 _ e1 ⟨s1, p1, rfl, hs1, hp3, hp4, rfl⟩
    have h := h.mono e1
    have hle := hle.trans e1
    refine o_assign rfl .free rfl ?_
    refine o_done ?_
    refine s_seq ?_
    refine s_seq ?_
    refine o_enter rfl ?_
    refine o_move rfl .free rfl ?_
    refine o_call rfl .free rfl (g_ExprValid s1 (by unfold maxN; omega) _ _) ?_
    rintro _ _ _ _ ⟨rfl, rfl, rfl⟩
    refine o_done ?_
    refine s_cond rfl ?_ ?_
    · intro c1
      try simp only [nb] at c1
      refine s_seq ?_
      refine o_enter rfl ?_
      refine o_move rfl .free rfl ?_
      refine o_assign rfl .free rfl ?_
      refine o_done ?_
      refine s_ret (.tmp rfl .nil) ?_
      exact ⟨_, _, hle, fun w h => Mem.sub (L' := rd b oa l c _ :: L) (by repeat (first | exact List.Sublist.refl _ | apply List.Sublist.cons_cons | apply List.Sublist.cons)) h, _, _, rfl, by omega, by omega, by omega, rfl⟩
    intro c1
    try simp only [nb] at c1
    refine s_skip ?_
    refine s_seq ?_
    refine o_enter rfl ?_
    refine o_move rfl .free rfl ?_
    refine o_lits0 .free rfl ?_
    intro b23
    refine o_lits0 .free rfl ?_
    intro b24
    refine o_struct rfl rfl rfl .free rfl ?_
    refine o_move rfl .free rfl ?_
    refine o_mem (fun w h => Mem.sub (L' := rd b oa l c _ :: L) (by repeat (first | exact List.Sublist.refl _ | apply List.Sublist.cons_cons | apply List.Sublist.cons)) h) ?_
    refine o_call rfl .free rfl (g_l91Expr (d := 2) (by decide) h hl b _ (by omega) (sc_nil _ _ _) (by simp) _ (by first | omega | (simp; done) | decide) _) ?_
    rintro _ J2 _ e2 ⟨s2, p2, rfl, hs2, hp5, hp6, rfl⟩
    have hle := hle.trans e2
    refine o_assign rfl .free rfl ?_
    refine o_done ?_
    refine s_ret (.tmp rfl .nil) ?_
    exact ⟨_, _, hle, fun w h => Mem.sub (L' := rd b oa l c _ :: L) (by repeat (first | exact List.Sublist.refl _ | apply List.Sublist.cons_cons | apply List.Sublist.cons)) h, _, _, rfl, by omega, by omega, by omega, rfl⟩
  intro c0
  try simp only [nb] at c0
  refine s_skip ?_
  refine s_seq ?_
  try have hw := hw
  refine o_enter rfl ?_
  refine o_move rfl .free rfl ?_
  refine o_lits0 .free rfl ?_
  intro b11
  refine o_lits0 .free rfl ?_
  intro b12
  refine o_struct rfl rfl rfl .free rfl ?_
  refine o_move rfl .free rfl ?_
  refine o_move rfl .free rfl ?_
  refine o_mem (fun w h => Mem.sub (L' := rd b oa l c _ :: L) (by repeat (first | exact List.Sublist.refl _ | apply List.Sublist.cons_cons | apply List.Sublist.cons)) h) ?_
  refine o_call rfl .free rfl (g_l6Rd_pick h hl b _ 3 (by omega) (by decide) _) ?_
  rintro _ _ _ _ ⟨r2, rfl, rfl, rfl, hr2⟩
  have hr3 : r2 < 3 := by omega
  have hdd : ∃ d : Nat, (2 : Int) + (r2 : Nat) = (d : Nat) ∧ d ≤ 4 := ⟨2 + r2, by omega, by omega⟩
  obtain ⟨d, hd1, hd2⟩ := hdd
  refine o_arith rfl rfl rfl (by omega) .free rfl ?_
  refine o_put (t := 17) (v' := .int .i64 (d : Nat)) rfl (by rw [← hd1]) ?_
  refine o_call rfl .free rfl (g_l91Expr hd2 h hl b _ (by omega) (sc_nil _ _ _) (by simp) _ (by first | omega | (simp; done) | decide) _) ?_
  rintro _ J1 _ e1 ⟨s1, p1, rfl, hs1, hp3, hp4, rfl⟩
  have h := h.mono e1
  have hle := hle.trans e1
  refine o_assign rfl .free rfl ?_
  refine o_done ?_
  refine s_seq ?_
  refine s_seq ?_
  refine o_enter rfl ?_
  refine o_move rfl .free rfl ?_
  refine o_call rfl .free rfl (g_ExprValid s1 (by unfold maxN; omega) _ _) ?_
  rintro _ _ _ _ ⟨rfl, rfl, rfl⟩
  refine o_done ?_
  refine s_cond rfl ?_ ?_
  · intro c1
    try simp only [nb] at c1
    refine s_seq ?_
    refine o_enter rfl ?_
    refine o_move rfl .free rfl ?_
    refine o_assign rfl .free rfl ?_
    refine o_done ?_
    refine s_ret (.tmp rfl .nil) ?_
    exact ⟨_, _, hle, fun w h => Mem.sub (L' := rd b oa l c _ :: L) (by repeat (first | exact List.Sublist.refl _ | apply List.Sublist.cons_cons | apply List.Sublist.cons)) h, _, _, rfl, by omega, by omega, by omega, rfl⟩
  intro c1
  try simp only [nb] at c1
  refine s_skip ?_
  refine s_seq ?_
  refine o_enter rfl ?_
  refine o_move rfl .free rfl ?_
  refine o_lits0 .free rfl ?_
  intro b23
  refine o_lits0 .free rfl ?_
  intro b24
  refine o_struct rfl rfl rfl .free rfl ?_
  refine o_move rfl .free rfl ?_
  refine o_mem (fun w h => Mem.sub (L' := rd b oa l c _ :: L) (by repeat (first | exact List.Sublist.refl _ | apply List.Sublist.cons_cons | apply List.Sublist.cons)) h) ?_
  refine o_call rfl .free rfl (g_l91Expr (d := 2) (by decide) h hl b _ (by omega) (sc_nil _ _ _) (by simp) _ (by first | omega | (simp; done) | decide) _) ?_
  rintro _ J2 _ e2 ⟨s2, p2, rfl, hs2, hp5, hp6, rfl⟩
  have hle := hle.trans e2
  refine o_assign rfl .free rfl ?_
  refine o_done ?_
  refine s_ret (.tmp rfl .nil) ?_
  exact ⟨_, _, hle, fun w h => Mem.sub (L' := rd b oa l c _ :: L) (by repeat (first | exact List.Sublist.refl _ | apply List.Sublist.cons_cons | apply List.Sublist.cons)) h, _, _, rfl, by omega, by omega, by omega, rfl⟩
theorem atoms_some {s : Txt} {l : List Txt} (h : atomsOf s = some l) : l ≠ [] ∧ (∀ x ∈ l, x.length ≤ 12000) ∧ l.length ≤ 12000 := by
  unfold atomsOf at h
  cases hp : parse s with
  | none => rw [hp] at h; cases h
  | some t =>
    rw [hp] at h
    simp only [Option.map_some, Option.some.injEq] at h
    subst h
    have h1 := (parse_len hp).2
    have h2 := parse_size hp
    refine ⟨addAll_ne (atomL_ne t), fun x hx => ?_, ?_⟩
    · rcases addAll_mem.1 hx with h3 | h3
      · cases h3
      · have := t.atom_len x h3; omega
    · have := addAll_len [] t.atomL
      rw [t.atomL_len] at this
      simp only [List.length_nil, Nat.zero_add] at this
      exact Nat.le_trans this h2
theorem g_l91Odd {I : Heap} {oa : Option Addr} {l : List UInt8} {c : Nat} (h : Bytes I oa l c) (hl : l.length ≤ 2000) (b p : Nat) (hp : p + 8000 ≤ 1099511627776) (L : Own) :
    Fun Tryz.prog 26 [.pointer (some ⟨b, 0, none⟩)] I (rd b oa l c p :: L) (DT b oa l c p 8000 400001 L) := by
  refine fun_intro (by simp) ?_
  refine s_seq ?_
  refine o_enter rfl ?_
  refine o_assign rfl .free rfl ?_
  refine o_done ?_
  refine s_seq ?_
  refine o_enter rfl ?_
  refine o_move rfl .free rfl ?_
  refine o_call rfl .free rfl (g_l91Good h hl b _ (by omega) _) ?_
  rintro _ J1 _ e1 ⟨s, p1, rfl, hs, hp1, hp2, rfl⟩
  have h := h.mono e1
  refine o_assign rfl .free rfl ?_
  refine o_done ?_
  refine s_seq ?_
  refine s_seq ?_
  refine o_enter rfl ?_
  refine o_move rfl .free rfl ?_
  refine o_call rfl .free rfl (g_l6Rd_pick h hl b _ 4 (by omega) (by decide) _) ?_
  rintro _ _ _ _ ⟨r, rfl, rfl, rfl, hr⟩
  refine o_cmp rfl rfl rfl .free rfl ?_
  refine o_done ?_
  refine s_cond rfl ?_ ?_
  · intro c0
    try simp only [nb] at c0
    refine s_seq ?_
    refine o_enter rfl ?_
    refine o_move rfl .free rfl ?_
    refine o_assign rfl .free rfl ?_
    refine o_done ?_
    refine s_ret (.tmp rfl .nil) ?_
    exact ⟨J1, _, e1, fun _ h => h, s, _, rfl, by omega, by omega, by omega, rfl⟩
  intro c0
  try simp only [nb] at c0
  refine s_skip ?_
  refine s_seq ?_
  refine o_enter rfl ?_
  refine o_move rfl .free rfl ?_
  refine o_call rfl .free rfl (g_FormAtoms s (by unfold maxL; omega) _ _) ?_
  rintro _ J2 _ e2 ⟨o1, k1, rfl, hat, rfl⟩
  have h := h.mono e2
  have hle := e1.trans e2
  refine o_move rfl .free rfl ?_
  refine o_extract rfl rfl .free rfl ?_
  refine o_extract rfl rfl .free rfl ?_
  refine o_assign rfl .free rfl ?_
  refine o_assign rfl .free rfl ?_
  refine o_done ?_
  refine s_seq ?_
  refine s_seq ?_
  refine o_enter rfl ?_
  refine o_move rfl .free rfl ?_
  refine o_not rfl .free rfl ?_
  refine o_done ?_
  refine s_cond rfl ?_ ?_
  · intro c1
    try simp only [nb] at c1
    refine s_seq ?_
    refine o_enter rfl ?_
    refine o_move rfl .free rfl ?_
    refine o_assign rfl .free rfl ?_
    refine o_done ?_
    refine s_ret (.tmp rfl .nil) ?_
    exact ⟨J2, _, hle, fun _ h => h, s, _, rfl, by omega, by omega, by omega, rfl⟩
  intro c1
  try simp only [nb] at c1
  obtain ⟨al, hal⟩ : ∃ al, atomsOf s = some al := Option.isSome_iff_exists.1 c1
  rw [hal] at hat ⊢
  simp only [Option.getD_some] at hat ⊢
  obtain ⟨ha1, ha2, ha3⟩ := atoms_some hal
  have hapos := List.length_pos_iff.2 ha1
  have hanil := hat.nil'
  refine s_skip ?_
  refine s_seq ?_
  refine s_here fun hlr => ?_
  refine d_tl 17 rfl rfl ?_
  refine d_takeA 0 rfl (by kernel_rfl) rfl (.inr heldx) (y_move rfl) .free rfl ?_
  refine d_takeA 1 rfl (by kernel_rfl) rfl (.inr heldx) (y_move rfl) .free rfl ?_
  refine d_takeA 2 rfl (by kernel_rfl) rfl (.inr heldx) (y_move rfl) .free rfl ?_
  refine d_takeA 3 rfl (by kernel_rfl) rfl (.inr heldx) (y_move rfl) .free rfl ?_
  refine d_takeA 4 rfl (by kernel_rfl) rfl (.inr heldx) (y_len_slice rfl) .free rfl ?_
  refine d_takeA 8 rfl (by kernel_rfl) rfl (.inr heldx) (y_move rfl) .free rfl ?_
  refine d_two 5 9 (by kernel_rfl) ?_ ?_
  · skip
    refine i_call 5 rfl rfl rfl .free rfl (g_l6Rd_pick h hl b _ al.length (by omega) (by omega) _) ?_
    rintro _ _ _ _ ⟨r2, rfl, rfl, rfl, hr2⟩
    have hr3 : r2 < al.length := by omega
    have hst := hat.st r2 hr3
    have hel : (al.getD r2 []).length ≤ 12000 := ha2 _ (by rw [show al.getD r2 [] = al[r2] by simp [hr3]]; exact List.getElem_mem _)
    refine ⟨(.inr heldx), ?_⟩
    first | refine d_takeA 6 rfl (by kernel_rfl) rfl (.inr heldx) (y_ixD rfl rfl _ rfl) .free rfl ?_ | refine d_takeA 6 rfl (by kernel_rfl) rfl (.inr heldx) (y_ixP rfl rfl _ rfl) .free rfl ?_
    refine d_take 7 [17] rfl (by kernel_rfl) rfl heldx (y_lI1 rfl) .free rfl ?_
    refine d_lits 9 rfl (by kernel_rfl) rfl rfl rfl (by rfl) (by rfl) (by rfl) (by decide) (by decide) (by rfl) .free rfl (.inr heldx) ?_
    intro b32
    refine d_freeze ?_
    intro hz
    have hk := strs_lit (I := J2) (b := b32) (e := 9) (l := [[97], [120], [49], [112, 97, 105, 114], [99, 97, 108, 108], [102, 115, 116], [105], [43], [40, 102, 115, 116, 32, 49, 41], [98, 55]]) (by decide) (by decide)
    have hlr := hlr.trans hz
    have h := h.mono hz
    have hat := hat.mono hz
    try have hst := hst.mono hz
    refine d_call 10 rfl (by kernel_rfl) rfl rfl .free rfl (g_l6Rd_of h hl b _ (by omega) hk (by simp) _) ?_
    rintro _ _ _ _ ⟨y, rfl, hy, rfl, rfl⟩
    have hyl : y.length ≤ 10 := by revert y; decide
    refine ⟨(.inr heldx), ?_⟩
    refine d_call 11 rfl (by kernel_rfl) rfl rfl .free rfl (g_FormReplace s (al.getD r2 []) y (by unfold maxL; omega) (by unfold maxL; omega) (by omega) _ _) ?_
    rintro _ J3 _ e3 ⟨rfl, rfl⟩
    have h := h.mono e3
    have hlr := hlr.trans e3
    have hol : ((replOf s (al.getD r2 []) y).getD []).length ≤ 12000 := by
      cases ho : replOf s (al.getD r2 []) y with
      | none => decide
      | some o => exact repl_out ho
    refine ⟨(.inr heldx), ?_⟩
    refine d_takeA 12 rfl (by kernel_rfl) rfl (.inr heldx) (y_move rfl) .free rfl ?_
    refine d_takeA 13 rfl (by kernel_rfl) rfl (.inr heldx) (y_extract rfl rfl) .free rfl ?_
    refine d_takeA 14 rfl (by kernel_rfl) rfl (.inr heldx) (y_extract rfl rfl) .free rfl ?_
    refine d_takeA 15 rfl (by kernel_rfl) rfl (.inr heldx) (y_assign rfl) .free rfl ?_
    refine d_takeA 16 rfl (by kernel_rfl) rfl (.inr heldx) (y_assign rfl) .free rfl ?_
    refine d_done (by kernel_rfl) ?_
    refine s_seq ?_
    refine s_seq ?_
    refine o_enter rfl ?_
    refine o_move rfl .free rfl ?_
    refine o_move rfl .free rfl ?_
    first | refine g_if rfl rfl ?_ ?_ | refine g_ifn rfl rfl ?_ ?_ | refine g_b rfl rfl ?_ ?_
    · intro g8_2
      refine o_move rfl (.met rfl rfl) rfl ?_
      refine o_call rfl (.met rfl rfl) rfl (g_l6Rd_pick h hl b _ 8 (by omega) (by decide) _) ?_
      rintro _ _ _ _ ⟨r4, rfl, rfl, rfl, hr4⟩
      refine o_cmp rfl rfl rfl (.met rfl rfl) rfl ?_
      refine o_pick_true rfl rfl .free rfl ?_
      refine o_done ?_
      refine s_cond rfl ?_ ?_
      · intro c2
        try simp only [nb] at c2
        refine s_seq ?_
        refine o_enter rfl ?_
        refine o_move rfl .free rfl ?_
        refine o_assign rfl .free rfl ?_
        refine o_done ?_
        refine s_ret (.tmp rfl .nil) ?_
        exact ⟨J3, _, hle.trans hlr, fun _ h => h, _, _, rfl, by omega, by omega, by omega, rfl⟩
      intro c2
      try simp only [nb] at c2
      refine s_skip ?_
      refine s_seq ?_
      refine o_enter rfl ?_
      refine o_move rfl .free rfl ?_
      refine o_move rfl .free rfl ?_
      refine o_lits rfl rfl (by rfl) (by rfl) (by rfl) (by decide) (by decide) (by rfl) .free rfl ?_
      intro b46
      refine o_freezeLit [[], [32], [41]] (by decide) (by decide) ?_
      intro J5 e5 k5
      refine o_call rfl .free rfl (g_l6Rd_of (h.mono e5) hl b _ (by omega) k5 (by simp) _) ?_
      rintro _ _ _ _ ⟨z, rfl, hz, rfl, rfl⟩
      have hzl : z.length ≤ 1 := by revert z; decide
      refine o_concat rfl rfl (by first | omega | (simp only [List.length_append, List.length_cons, List.length_nil]; omega) | (simp; omega)) .free rfl ?_
      refine o_assign rfl .free rfl ?_
      refine o_done ?_
      refine s_ret (.tmp rfl .nil) ?_
      exact ⟨J5, _, (hle.trans hlr).trans e5, fun _ h => h, _, _, rfl, (by first | omega | (simp only [List.length_append, List.length_cons, List.length_nil]; omega) | (simp; omega)), by omega, by omega, rfl⟩
    intro g8_2
    iterate 3 refine o_skip rfl rfl rfl ?_
    refine o_pick_false rfl rfl .free rfl ?_
    refine o_done ?_
    refine s_false rfl ?_
    refine s_skip ?_
    refine s_seq ?_
    refine o_enter rfl ?_
    refine o_move rfl .free rfl ?_
    refine o_move rfl .free rfl ?_
    refine o_lits rfl rfl (by rfl) (by rfl) (by rfl) (by decide) (by decide) (by rfl) .free rfl ?_
    intro b46
    refine o_freezeLit [[], [32], [41]] (by decide) (by decide) ?_
    intro J5 e5 k5
    refine o_call rfl .free rfl (g_l6Rd_of (h.mono e5) hl b _ (by omega) k5 (by simp) _) ?_
    rintro _ _ _ _ ⟨z, rfl, hz, rfl, rfl⟩
    have hzl : z.length ≤ 1 := by revert z; decide
    refine o_concat rfl rfl (by first | omega | (simp only [List.length_append, List.length_cons, List.length_nil]; omega) | (simp; omega)) .free rfl ?_
    refine o_assign rfl .free rfl ?_
    refine o_done ?_
    refine s_ret (.tmp rfl .nil) ?_
    exact ⟨J5, _, (hle.trans hlr).trans e5, fun _ h => h, _, _, rfl, (by first | omega | (simp only [List.length_append, List.length_cons, List.length_nil]; omega) | (simp; omega)), by omega, by omega, rfl⟩
  · skip
    refine i_lits 9 rfl rfl rfl rfl (by rfl) (by rfl) (by rfl) (by decide) (by decide) (by rfl) .free rfl (.inr heldx) ?_
    intro b32
    refine d_freeze ?_
    intro hz
    have hk := strs_lit (I := J2) (b := b32) (e := 9) (l := [[97], [120], [49], [112, 97, 105, 114], [99, 97, 108, 108], [102, 115, 116], [105], [43], [40, 102, 115, 116, 32, 49, 41], [98, 55]]) (by decide) (by decide)
    have hlr := hlr.trans hz
    have h := h.mono hz
    have hat := hat.mono hz
    try have hst := hst.mono hz
    refine d_call 5 rfl (by kernel_rfl) rfl rfl .free rfl (g_l6Rd_pick h hl b _ al.length (by omega) (by omega) _) ?_
    rintro _ _ _ _ ⟨r2, rfl, rfl, rfl, hr2⟩
    have hr3 : r2 < al.length := by omega
    have hst := hat.st r2 hr3
    have hel : (al.getD r2 []).length ≤ 12000 := ha2 _ (by rw [show al.getD r2 [] = al[r2] by simp [hr3]]; exact List.getElem_mem _)
    refine ⟨(.inr heldx), ?_⟩
    first | refine d_takeA 6 rfl (by kernel_rfl) rfl (.inr heldx) (y_ixD rfl rfl _ rfl) .free rfl ?_ | refine d_takeA 6 rfl (by kernel_rfl) rfl (.inr heldx) (y_ixP rfl rfl _ rfl) .free rfl ?_
    refine d_take 7 [17] rfl (by kernel_rfl) rfl heldx (y_lI1 rfl) .free rfl ?_
    refine d_call 10 rfl (by kernel_rfl) rfl rfl .free rfl (g_l6Rd_of h hl b _ (by omega) hk (by simp) _) ?_
    rintro _ _ _ _ ⟨y, rfl, hy, rfl, rfl⟩
    have hyl : y.length ≤ 10 := by revert y; decide
    refine ⟨(.inr heldx), ?_⟩
    refine d_call 11 rfl (by kernel_rfl) rfl rfl .free rfl (g_FormReplace s (al.getD r2 []) y (by unfold maxL; omega) (by unfold maxL; omega) (by omega) _ _) ?_
    rintro _ J3 _ e3 ⟨rfl, rfl⟩
    have h := h.mono e3
    have hlr := hlr.trans e3
    have hol : ((replOf s (al.getD r2 []) y).getD []).length ≤ 12000 := by
      cases ho : replOf s (al.getD r2 []) y with
      | none => decide
      | some o => exact repl_out ho
    refine ⟨(.inr heldx), ?_⟩
    refine d_takeA 12 rfl (by kernel_rfl) rfl (.inr heldx) (y_move rfl) .free rfl ?_
    refine d_takeA 13 rfl (by kernel_rfl) rfl (.inr heldx) (y_extract rfl rfl) .free rfl ?_
    refine d_takeA 14 rfl (by kernel_rfl) rfl (.inr heldx) (y_extract rfl rfl) .free rfl ?_
    refine d_takeA 15 rfl (by kernel_rfl) rfl (.inr heldx) (y_assign rfl) .free rfl ?_
    refine d_takeA 16 rfl (by kernel_rfl) rfl (.inr heldx) (y_assign rfl) .free rfl ?_
    refine d_done (by kernel_rfl) ?_
    refine s_seq ?_
    refine s_seq ?_
    refine o_enter rfl ?_
    refine o_move rfl .free rfl ?_
    refine o_move rfl .free rfl ?_
    first | refine g_if rfl rfl ?_ ?_ | refine g_ifn rfl rfl ?_ ?_ | refine g_b rfl rfl ?_ ?_
    · intro g8_2
      refine o_move rfl (.met rfl rfl) rfl ?_
      refine o_call rfl (.met rfl rfl) rfl (g_l6Rd_pick h hl b _ 8 (by omega) (by decide) _) ?_
      rintro _ _ _ _ ⟨r4, rfl, rfl, rfl, hr4⟩
      refine o_cmp rfl rfl rfl (.met rfl rfl) rfl ?_
      refine o_pick_true rfl rfl .free rfl ?_
      refine o_done ?_
      refine s_cond rfl ?_ ?_
      · intro c2
        try simp only [nb] at c2
        refine s_seq ?_
        refine o_enter rfl ?_
        refine o_move rfl .free rfl ?_
        refine o_assign rfl .free rfl ?_
        refine o_done ?_
        refine s_ret (.tmp rfl .nil) ?_
        exact ⟨J3, _, hle.trans hlr, fun _ h => h, _, _, rfl, by omega, by omega, by omega, rfl⟩
      intro c2
      try simp only [nb] at c2
      refine s_skip ?_
      refine s_seq ?_
      refine o_enter rfl ?_
      refine o_move rfl .free rfl ?_
      refine o_move rfl .free rfl ?_
      refine o_lits rfl rfl (by rfl) (by rfl) (by rfl) (by decide) (by decide) (by rfl) .free rfl ?_
      intro b46
      refine o_freezeLit [[], [32], [41]] (by decide) (by decide) ?_
      intro J5 e5 k5
      refine o_call rfl .free rfl (g_l6Rd_of (h.mono e5) hl b _ (by omega) k5 (by simp) _) ?_
      rintro _ _ _ _ ⟨z, rfl, hz, rfl, rfl⟩
      have hzl : z.length ≤ 1 := by revert z; decide
      refine o_concat rfl rfl (by first | omega | (simp only [List.length_append, List.length_cons, List.length_nil]; omega) | (simp; omega)) .free rfl ?_
      refine o_assign rfl .free rfl ?_
      refine o_done ?_
      refine s_ret (.tmp rfl .nil) ?_
      exact ⟨J5, _, (hle.trans hlr).trans e5, fun _ h => h, _, _, rfl, (by first | omega | (simp only [List.length_append, List.length_cons, List.length_nil]; omega) | (simp; omega)), by omega, by omega, rfl⟩
    intro g8_2
    iterate 3 refine o_skip rfl rfl rfl ?_
    refine o_pick_false rfl rfl .free rfl ?_
    refine o_done ?_
    refine s_false rfl ?_
    refine s_skip ?_
    refine s_seq ?_
    refine o_enter rfl ?_
    refine o_move rfl .free rfl ?_
    refine o_move rfl .free rfl ?_
    refine o_lits rfl rfl (by rfl) (by rfl) (by rfl) (by decide) (by decide) (by rfl) .free rfl ?_
    intro b46
    refine o_freezeLit [[], [32], [41]] (by decide) (by decide) ?_
    intro J5 e5 k5
    refine o_call rfl .free rfl (g_l6Rd_of (h.mono e5) hl b _ (by omega) k5 (by simp) _) ?_
    rintro _ _ _ _ ⟨z, rfl, hz, rfl, rfl⟩
    have hzl : z.length ≤ 1 := by revert z; decide
    refine o_concat rfl rfl (by first | omega | (simp only [List.length_append, List.length_cons, List.length_nil]; omega) | (simp; omega)) .free rfl ?_
    refine o_assign rfl .free rfl ?_
    refine o_done ?_
    refine s_ret (.tmp rfl .nil) ?_
    exact ⟨J5, _, (hle.trans hlr).trans e5, fun _ h => h, _, _, rfl, (by first | omega | (simp only [List.length_append, List.length_cons, List.length_nil]; omega) | (simp; omega)), by omega, by omega, rfl⟩
end Go.Proofs.YtdnmhgiaebbppaaGreat


/- Parts of expressions are expressions; what is counted and put. No conditions. -/
namespace Go.Proofs.YtdnmhgiaebbppaaGreat
set_option maxRecDepth 100000
set_option linter.unusedVariables false
set_option linter.unusedSimpArgs false

theorem depthL_mem : ∀ {ps : List Tree} {p : Tree}, p ∈ ps → p.depth ≤ depthL ps
  | q :: ps, p, h => by
    simp only [depthL]
    rcases List.mem_cons.1 h with rfl | h
    · omega
    · have := depthL_mem h; omega
theorem pt_depth {t : Tree} {i : Nat} (hi : i < t.parts.length) : (t.pt i).depth + 1 ≤ t.depth := by
  rw [Tree.pt_at hi, t.depth_eq (by intro e; rw [e] at hi; simp at hi)]
  have := depthL_mem (List.getElem_mem hi); omega
theorem sub_index {e a : Ex} (h : a ∈ e.sub) : ∃ i, i < e.tree.parts.length ∧ e.tree.pt i = a.tree := by
  obtain ⟨j, hj, rfl⟩ := List.mem_iff_getElem.1 h
  have hkl := sub_len e
  have hkm : (kids e.tree).getD j 0 ∈ kids e.tree := by
    rw [show (kids e.tree).getD j 0 = (kids e.tree)[j]'(by omega) by simp [show j < (kids e.tree).length by omega]]; exact List.getElem_mem _
  exact ⟨_, (kids_lt hkm).1, sub_pt e j hj⟩
theorem sub_fine {e a : Ex} (h : a ∈ e.sub) (hf : e.fine = true) : a.fine = true ∧ a.size + 1 ≤ e.size := by
  obtain ⟨i, hi, hp⟩ := sub_index h
  obtain ⟨h1, h2, h3⟩ := sub_facts h
  have h4 := pt_depth hi
  have h5 := e.tree.pt_len i hi
  rw [hp] at h4 h5
  simp only [Ex.fine, Bool.and_eq_true, decide_eq_true_eq, Tree.fits] at hf ⊢
  exact ⟨⟨⟨h3 hf.1.1, by omega⟩, by omega, by omega⟩, h2⟩
theorem exOf_fine {e : Ex} (h : e.fine = true) : exOf e.tree.text = some e := by
  have hok : e.ok = true := by simp only [Ex.fine, Bool.and_eq_true] at h; exact h.1.1
  rw [exOf_text hok, if_pos h]
theorem exOf_is {s : Txt} {e : Ex} (h : exOf s = some e) : e.fine = true ∧ e.ok = true ∧ e.size ≤ 120 ∧ e.tree.len ≤ 12000 ∧ s = e.tree.text := by
  obtain ⟨_, h2, h3⟩ := exOf_some h
  have h4 := h2
  simp only [Ex.fine, Bool.and_eq_true, Tree.fits, decide_eq_true_eq] at h4
  exact ⟨h2, h4.1.1, h4.1.2, h4.2.2, h3⟩
/-- How many expressions an expression and its parts are. -/
def Ex.many : Ex → Nat
  | .num _ => 1
  | .name _ => 1
  | .bin _ a b => 1 + a.many + b.many
  | .ite a b c => 1 + a.many + b.many + c.many
  | .lt _ a b => 1 + a.many + b.many
  | .fn _ _ _ _ b => 1 + b.many
  | .un _ a => 1 + a.many
/-- What an expression begins with. -/
def Ex.hd : Ex → Txt
  | .num _ => [110, 117, 109, 98, 101, 114]
  | .name _ => [110, 97, 109, 101]
  | e => e.tree.head
def headOf (s : Txt) : Txt := match exOf s with
  | some e => e.hd
  | none => []
def kidsOf (s : Txt) : Option (List Txt) := (exOf s).map fun e => e.sub.map fun a => a.tree.text
def manyOf (s : Txt) : Int := match exOf s with
  | some e => (e.many : Nat)
  | none => -1
def sizeOfT (s : Txt) : Int := match parse s with
  | some t => (t.size : Nat)
  | none => -1
end Go.Proofs.YtdnmhgiaebbppaaGreat


/- Plain names. No conditions. -/
namespace Go.Proofs.YtdnmhgiaebbppaaGreat
set_option maxRecDepth 100000
set_option linter.unusedVariables false
set_option linter.unusedSimpArgs false

/-- The number of decimals. -/
def numT (s : Txt) : Nat := s.foldl (fun a c => 10 * a + (c.toNat - 48)) 0
theorem numT_app (s : Txt) (c : UInt8) : numT (s ++ [c]) = 10 * numT s + (c.toNat - 48) := by simp [numT]
theorem digit_val {d : Nat} (h : d < 10) : (UInt8.ofNat (48 + d)).toNat - 48 = d := by
  have : (UInt8.ofNat (48 + d)).toNat = 48 + d := by simp [UInt8.toNat_ofNat]; omega
  omega
theorem numT_decT : ∀ n : Nat, numT (decT n) = n := by
  intro n
  induction n using Nat.strongRecOn with
  | _ n ih =>
    by_cases h : n < 10
    · rw [decT_small h]
      show 10 * 0 + ((UInt8.ofNat (48 + n)).toNat - 48) = n
      rw [digit_val h]; omega
    · rw [decT_big h, numT_app, ih (n / 10) (by omega), digit_val (Nat.mod_lt _ (by omega))]
      omega
theorem decT_inj {a b : Nat} (h : decT a = decT b) : a = b := by
  have := congrArg numT h
  rwa [numT_decT, numT_decT] at this
def nm (c : UInt8) (n : Nat) : Txt := c :: decT n
theorem nm_inj {c : UInt8} {a b : Nat} (h : nm c a = nm c b) : a = b := decT_inj (List.cons.inj h).2
/-- How many of the first 'n' names are barred. -/
def hits (c : UInt8) (av : List Txt) (n : Nat) : Nat := ((List.range n).filter fun k => decide (nm c k ∈ av)).length
theorem hits_succ (c : UInt8) (av : List Txt) (n : Nat) : hits c av (n + 1) = hits c av n + (if nm c n ∈ av then 1 else 0) := by
  unfold hits
  rw [List.range_succ, List.filter_append]
  by_cases h : nm c n ∈ av <;> simp [h]
theorem sub_length : ∀ {l m : List Txt}, l.Nodup → (∀ x ∈ l, x ∈ m) → l.length ≤ m.length
  | [], m, _, _ => Nat.zero_le _
  | x :: l, m, hn, hs => by
    obtain ⟨h1, h2⟩ := List.nodup_cons.1 hn
    have hx := hs x (.head _)
    have := sub_length (l := l) (m := m.erase x) h2 fun y hy => by
      have hne : y ≠ x := by rintro rfl; exact h1 hy
      exact (List.mem_erase_of_ne hne).2 (hs y (.tail _ hy))
    rw [List.length_erase_of_mem hx] at this
    have := List.length_pos_of_mem hx
    simp only [List.length_cons]; omega
theorem hits_le (c : UInt8) (av : List Txt) (n : Nat) : hits c av n ≤ av.length := by
  unfold hits
  rw [← List.length_map (f := nm c)]
  refine sub_length ?_ ?_
  · have h1 : ((List.range n).filter fun k => decide (nm c k ∈ av)).Nodup := List.nodup_range.filter _
    unfold List.Nodup at h1 ⊢
    rw [List.pairwise_map]
    exact h1.imp fun h e => h (nm_inj e)
  · intro x hx
    obtain ⟨k, hk, rfl⟩ := List.mem_map.1 hx
    simpa using (List.mem_filter.1 hk).2
/-- The next number whose name is not barred. -/
def frs (c : UInt8) (av : List Txt) : Nat → Nat → Nat
  | 0, n => n
  | k + 1, n => if nm c n ∈ av then frs c av k (n + 1) else n
theorem frs_hits {c : UInt8} {av : List Txt} : ∀ {k n : Nat}, av.length ≤ hits c av n + k → nm c (frs c av k n) ∉ av ∧ n ≤ frs c av k n ∧ frs c av k n + hits c av n = n + hits c av (frs c av k n)
  | 0, n, h => by
    have h1 := hits_le c av (n + 1)
    rw [hits_succ] at h1
    refine ⟨fun hm => ?_, Nat.le_refl _, rfl⟩
    simp only [frs] at hm
    rw [if_pos hm] at h1; omega
  | k + 1, n, h => by
    simp only [frs]
    by_cases hm : nm c n ∈ av
    · rw [if_pos hm]
      have h2 := hits_succ c av n
      rw [if_pos hm] at h2
      obtain ⟨h3, h4, h5⟩ := frs_hits (c := c) (av := av) (k := k) (n := n + 1) (by omega)
      exact ⟨h3, by omega, by omega⟩
    · rw [if_neg hm]; exact ⟨hm, Nat.le_refl _, rfl⟩
def fr (c : UInt8) (av : List Txt) (n : Nat) : Nat := frs c av av.length n
theorem fr_facts (c : UInt8) (av : List Txt) (n : Nat) : nm c (fr c av n) ∉ av ∧ n ≤ fr c av n ∧ fr c av n + hits c av n = n + hits c av (fr c av n) := frs_hits (by omega)
theorem fr_hits_succ (c : UInt8) (av : List Txt) (n : Nat) : fr c av n + 1 + hits c av n = n + 1 + hits c av (fr c av n + 1) := by
  obtain ⟨h1, h2, h3⟩ := fr_facts c av n
  have := hits_succ c av (fr c av n)
  rw [if_neg h1] at this; omega
theorem frs_stop {c : UInt8} {av : List Txt} : ∀ {k n m : Nat}, (∀ j, n ≤ j → j < m → nm c j ∈ av) → n ≤ m → m ≤ n + k → nm c m ∉ av → frs c av k n = m
  | 0, n, m, _, h1, h2, _ => by simp only [frs]; omega
  | k + 1, n, m, h, h1, h2, h3 => by
    simp only [frs]
    by_cases hm : nm c n ∈ av
    · rw [if_pos hm]
      have : n ≠ m := by rintro rfl; exact h3 hm
      exact frs_stop (fun j a b => h j (by omega) b) (by omega) (by omega) h3
    · rw [if_neg hm]
      by_cases he : n = m
      · exact he
      · exact absurd (h n (Nat.le_refl _) (by omega)) hm
theorem fr_stop {c : UInt8} {av : List Txt} {n m : Nat} (h : ∀ j, n ≤ j → j < m → nm c j ∈ av) (h1 : n ≤ m) (h3 : nm c m ∉ av) : fr c av n = m := by
  obtain ⟨g1, g2, g3⟩ := fr_facts c av n
  by_cases hlt : fr c av n < m
  · exact absurd (h _ g2 hlt) g1
  · have hmm : m ≤ fr c av n := by omega
    have key : ∀ d, hits c av (n + d) ≤ hits c av n + d := by
      intro d
      induction d with
      | zero => exact Nat.le_refl _
      | succ d ih => rw [← Nat.add_assoc, hits_succ]; split <;> omega
    have h5 : m ≤ n + av.length := by
      have e1 : ∀ d, n + d ≤ m → hits c av (n + d) = hits c av n + d := by
        intro d hd
        induction d with
        | zero => rfl
        | succ d ih =>
          rw [← Nat.add_assoc, hits_succ, if_pos (h (n + d) (by omega) (by omega)), ih (by omega)]; omega
      have e2 := e1 (m - n) (by omega)
      have e3 := hits_le c av (n + (m - n))
      omega
    exact frs_stop h h1 h5 h3

/-- The expression with plain names, and the next number. -/
def Ex.pl (av : List Txt) : Ex → List Txt → List Txt → Nat → Ex × Nat
  | .num s, _, _, n => (.num s, n)
  | .name s, f, t, n => (.name (match lastIdx f s with | some i => t.getD i [] | none => s), n)
  | .bin o a b, f, t, n => let p := a.pl av f t n; let q := b.pl av f t p.2; (.bin o p.1 q.1, q.2)
  | .ite a b c, f, t, n => let p := a.pl av f t n; let q := b.pl av f t p.2; let r := c.pl av f t q.2; (.ite p.1 q.1 r.1, r.2)
  | .lt x a b, f, t, n => let k := fr 120 av n; let p := a.pl av f t (k + 1); let q := b.pl av (f ++ [x]) (t ++ [nm 120 k]) p.2; (.lt (nm 120 k) p.1 q.1, q.2)
  | .fn g x s u b, f, t, n => let k := fr 120 av n; let j := fr 120 av (k + 1); let p := b.pl av (f ++ [g, x]) (t ++ [nm 120 k, nm 120 j]) (j + 1); (.fn (nm 120 k) (nm 120 j) s u p.1, p.2)
  | .un o a, f, t, n => let p := a.pl av f t n; (.un o p.1, p.2)
/-- How many names are bound. -/
def Ex.nb : Ex → Nat
  | .num _ => 0
  | .name _ => 0
  | .bin _ a b => a.nb + b.nb
  | .ite a b c => a.nb + b.nb + c.nb
  | .lt _ a b => 1 + a.nb + b.nb
  | .fn _ _ _ _ b => 2 + b.nb
  | .un _ a => a.nb
theorem Ex.pl_hits (av : List Txt) : ∀ (e : Ex) (f t : List Txt) (n : Nat), n ≤ (e.pl av f t n).2 ∧ (e.pl av f t n).2 + hits 120 av n = n + e.nb + hits 120 av (e.pl av f t n).2
  | .num s, f, t, n => ⟨Nat.le_refl _, by simp [Ex.pl, Ex.nb]⟩
  | .name s, f, t, n => ⟨Nat.le_refl _, by simp [Ex.pl, Ex.nb]⟩
  | .bin o a b, f, t, n => by
    have h1 := a.pl_hits av f t n
    have h2 := b.pl_hits av f t (a.pl av f t n).2
    simp only [Ex.pl, Ex.nb]; omega
  | .ite a b c, f, t, n => by
    have h1 := a.pl_hits av f t n
    have h2 := b.pl_hits av f t (a.pl av f t n).2
    have h3 := c.pl_hits av f t (b.pl av f t (a.pl av f t n).2).2
    simp only [Ex.pl, Ex.nb]; omega
  | .lt x a b, f, t, n => by
    have h0 := fr_hits_succ 120 av n
    have h00 := (fr_facts 120 av n).2.1
    have h1 := a.pl_hits av f t (fr 120 av n + 1)
    have h2 := b.pl_hits av (f ++ [x]) (t ++ [nm 120 (fr 120 av n)]) (a.pl av f t (fr 120 av n + 1)).2
    simp only [Ex.pl, Ex.nb]; omega
  | .fn g x s u b, f, t, n => by
    have h0 := fr_hits_succ 120 av n
    have h00 := (fr_facts 120 av n).2.1
    have h1 := fr_hits_succ 120 av (fr 120 av n + 1)
    have h11 := (fr_facts 120 av (fr 120 av n + 1)).2.1
    have h2 := b.pl_hits av (f ++ [g, x]) (t ++ [nm 120 (fr 120 av n), nm 120 (fr 120 av (fr 120 av n + 1))]) (fr 120 av (fr 120 av n + 1) + 1)
    simp only [Ex.pl, Ex.nb]; omega
  | .un o a, f, t, n => by
    have h1 := a.pl_hits av f t n
    simp only [Ex.pl, Ex.nb]; omega
theorem Ex.pl_size (av : List Txt) : ∀ (e : Ex) (f t : List Txt) (n : Nat), (e.pl av f t n).1.size = e.size ∧ (e.pl av f t n).1.tree.depth = e.tree.depth ∧ (e.pl av f t n).1.many = e.many
  | .num s, f, t, n => ⟨rfl, rfl, rfl⟩
  | .name s, f, t, n => ⟨rfl, rfl, rfl⟩
  | .bin o a b, f, t, n => by
    obtain ⟨h1, h2, h3⟩ := a.pl_size av f t n
    obtain ⟨g1, g2, g3⟩ := b.pl_size av f t (a.pl av f t n).2
    simp only [Ex.pl, Ex.size, Ex.many, Ex.tree, Tree.depth, depthL, List.isEmpty_cons, cond_false, h1, h2, h3, g1, g2, g3, and_self]
  | .ite a b c, f, t, n => by
    obtain ⟨h1, h2, h3⟩ := a.pl_size av f t n
    obtain ⟨g1, g2, g3⟩ := b.pl_size av f t (a.pl av f t n).2
    obtain ⟨k1, k2, k3⟩ := c.pl_size av f t (b.pl av f t (a.pl av f t n).2).2
    simp only [Ex.pl, Ex.size, Ex.many, Ex.tree, Tree.depth, depthL, List.isEmpty_cons, cond_false, h1, h2, h3, g1, g2, g3, k1, k2, k3, and_self]
  | .lt x a b, f, t, n => by
    obtain ⟨h1, h2, h3⟩ := a.pl_size av f t (fr 120 av n + 1)
    obtain ⟨g1, g2, g3⟩ := b.pl_size av (f ++ [x]) (t ++ [nm 120 (fr 120 av n)]) (a.pl av f t (fr 120 av n + 1)).2
    simp only [Ex.pl, Ex.size, Ex.many, Ex.tree, Tree.depth, depthL, List.isEmpty_cons, List.isEmpty_nil, cond_true, cond_false, h1, h2, h3, g1, g2, g3, and_self]
  | .fn g x s u b, f, t, n => by
    obtain ⟨g1, g2, g3⟩ := b.pl_size av (f ++ [g, x]) (t ++ [nm 120 (fr 120 av n), nm 120 (fr 120 av (fr 120 av n + 1))]) (fr 120 av (fr 120 av n + 1) + 1)
    simp only [Ex.pl, Ex.size, Ex.many, Ex.tree, Tree.depth, depthL, List.isEmpty_cons, List.isEmpty_nil, cond_true, cond_false, g1, g2, g3, and_self]
  | .un o a, f, t, n => by
    obtain ⟨h1, h2, h3⟩ := a.pl_size av f t n
    simp only [Ex.pl, Ex.size, Ex.many, Ex.tree, Tree.depth, depthL, List.isEmpty_cons, cond_false, h1, h2, h3, and_self]
/-- How many names stand in an expression. -/
theorem Ex.nb_occ : ∀ (e : Ex) (bd : List Txt), 3 * (e.nb + (e.occ bd).length) ≤ 2 * e.size + 1
  | .num s, bd => by simp [Ex.nb, Ex.occ, Ex.size]
  | .name s, bd => by simp only [Ex.nb, Ex.occ, Ex.size]; split <;> simp
  | .bin o a b, bd => by have := a.nb_occ bd; have := b.nb_occ bd; simp only [Ex.nb, Ex.occ, Ex.size, List.length_append]; omega
  | .ite a b c, bd => by have := a.nb_occ bd; have := b.nb_occ bd; have := c.nb_occ bd; simp only [Ex.nb, Ex.occ, Ex.size, List.length_append]; omega
  | .lt x a b, bd => by have := a.nb_occ bd; have := b.nb_occ (bd ++ [x]); simp only [Ex.nb, Ex.occ, Ex.size, List.length_append]; omega
  | .fn f x s t b, bd => by have := b.nb_occ (bd ++ [f, x]); have := s.size_pos; have := t.size_pos; simp only [Ex.nb, Ex.occ, Ex.size]; omega
  | .un o a, bd => by have := a.nb_occ bd; simp only [Ex.nb, Ex.occ, Ex.size]; omega
end Go.Proofs.YtdnmhgiaebbppaaGreat


/- Expressions with plain names are expressions. No conditions. -/
namespace Go.Proofs.YtdnmhgiaebbppaaGreat
set_option maxRecDepth 100000
set_option linter.unusedVariables false
set_option linter.unusedSimpArgs false

theorem digit_of {d : Nat} (h : d < 10) : digit (UInt8.ofNat (48 + d)) = true := by
  have : (UInt8.ofNat (48 + d)).toNat = 48 + d := by simp [UInt8.toNat_ofNat]; omega
  simp only [digit, this, Bool.and_eq_true, decide_eq_true_eq]; omega
theorem decT_digits : ∀ n : Nat, (decT n).all digit = true := by
  intro n
  induction n using Nat.strongRecOn with
  | _ n ih =>
    by_cases h : n < 10
    · rw [decT_small h]; simp only [List.all_cons, List.all_nil, Bool.and_true]; exact digit_of h
    · rw [decT_big h, List.all_append, ih (n / 10) (by omega)]
      simp only [List.all_cons, List.all_nil, Bool.and_true, Bool.true_and]; exact digit_of (Nat.mod_lt n (by omega))
theorem decT_len {n : Nat} (h : n < 1000) : (decT n).length ≤ 3 := by
  by_cases h1 : n < 10
  · rw [decT_small h1]; simp
  · rw [decT_big h1, List.length_append]
    by_cases h2 : n / 10 < 10
    · rw [decT_small h2]; simp
    · rw [decT_big h2, List.length_append, decT_small (show n / 10 / 10 < 10 by omega)]; simp
theorem nm_name {c : UInt8} {n : Nat} (hc : lower c = true) (h : n < 1000) : isName (nm c n) = true := by
  have := decT_len h
  simp [nm, isName, hc, decT_digits n, this]
def namesL (l : List Txt) : Prop := ∀ s ∈ l, isName s = true
theorem namesL.add {l m : List Txt} (h : namesL l) (h' : namesL m) : namesL (l ++ m) := by
  intro s hs
  rcases List.mem_append.1 hs with hs | hs
  · exact h s hs
  · exact h' s hs
theorem Ex.pl_ok {av : List Txt} : ∀ {e : Ex} {f t : List Txt} {n : Nat}, e.ok = true → namesL t → f.length = t.length → n + e.nb + av.length ≤ 900 + hits 120 av n → (e.pl av f t n).1.ok = true
  | .num s, f, t, n, h, _, _, _ => h
  | .name s, f, t, n, h, ht, hl, _ => by
    simp only [Ex.pl, Ex.ok]
    cases hi : lastIdx f s with
    | none => exact h
    | some i =>
      have h1 := (lastAt_lt (show lastAt f s f.length = some i from hi)).1
      have h2 : i < t.length := by omega
      show isName (t.getD i []) = true
      rw [show t.getD i [] = t[i] by simp [h2]]
      exact ht _ (List.getElem_mem h2)
  | .bin o a b, f, t, n, h, ht, hl, hn => by
    simp only [Ex.ok, Bool.and_eq_true] at h
    simp only [Ex.nb] at hn
    have h1 := a.pl_hits av f t n
    have h2 := hits_le 120 av (a.pl av f t n).2
    simp only [Ex.pl, Ex.ok, Bool.and_eq_true]
    exact ⟨Ex.pl_ok h.1 ht hl (by omega), Ex.pl_ok h.2 ht hl (by omega)⟩
  | .ite a b c, f, t, n, h, ht, hl, hn => by
    simp only [Ex.ok, Bool.and_eq_true] at h
    simp only [Ex.nb] at hn
    have h1 := a.pl_hits av f t n
    have h2 := b.pl_hits av f t (a.pl av f t n).2
    have h3 := hits_le 120 av (a.pl av f t n).2
    have h4 := hits_le 120 av (b.pl av f t (a.pl av f t n).2).2
    simp only [Ex.pl, Ex.ok, Bool.and_eq_true]
    exact ⟨⟨Ex.pl_ok h.1.1 ht hl (by omega), Ex.pl_ok h.1.2 ht hl (by omega)⟩, Ex.pl_ok h.2 ht hl (by omega)⟩
  | .lt x a b, f, t, n, h, ht, hl, hn => by
    simp only [Ex.ok, Bool.and_eq_true] at h
    simp only [Ex.nb] at hn
    have h0 := fr_hits_succ 120 av n
    have h1 := a.pl_hits av f t (fr 120 av n + 1)
    have h2 := hits_le 120 av (fr 120 av n + 1)
    have h3 := hits_le 120 av (a.pl av f t (fr 120 av n + 1)).2
    have h4 := hits_le 120 av n
    have hz : isName (nm 120 (fr 120 av n)) = true := nm_name (by decide) (by omega)
    simp only [Ex.pl, Ex.ok, Bool.and_eq_true]
    exact ⟨⟨hz, Ex.pl_ok h.1.2 ht hl (by omega)⟩, Ex.pl_ok h.2 (ht.add fun s hs => by rw [List.mem_singleton.1 hs]; exact hz) (by simp [hl]) (by omega)⟩
  | .fn g x s u b, f, t, n, h, ht, hl, hn => by
    simp only [Ex.ok, Bool.and_eq_true, decide_eq_true_eq] at h
    obtain ⟨⟨⟨⟨⟨h1, h2⟩, h3⟩, h4⟩, h5⟩, h6⟩ := h
    simp only [Ex.nb] at hn
    have k0 := fr_hits_succ 120 av n
    have k1 := fr_hits_succ 120 av (fr 120 av n + 1)
    have k2 := hits_le 120 av (fr 120 av n + 1)
    have k3 := hits_le 120 av (fr 120 av (fr 120 av n + 1) + 1)
    have k5 := hits_le 120 av n
    have k4 := (fr_facts 120 av (fr 120 av n + 1)).2.1
    have hz1 : isName (nm 120 (fr 120 av n)) = true := nm_name (by decide) (by omega)
    have hz2 : isName (nm 120 (fr 120 av (fr 120 av n + 1))) = true := nm_name (by decide) (by omega)
    simp only [Ex.pl, Ex.ok, Bool.and_eq_true, decide_eq_true_eq]
    refine ⟨⟨⟨⟨⟨hz1, hz2⟩, fun e => ?_⟩, h4⟩, h5⟩, Ex.pl_ok h6 (ht.add fun s hs => ?_) (by simp [hl]) (by omega)⟩
    · have := nm_inj e; omega
    · simp only [List.mem_cons, List.not_mem_nil, or_false] at hs
      rcases hs with rfl | rfl
      · exact hz1
      · exact hz2
  | .un o a, f, t, n, h, ht, hl, hn => by
    simp only [Ex.pl, Ex.ok]
    exact Ex.pl_ok (e := a) h ht hl (by simpa [Ex.nb] using hn)
theorem B5.txt_len (o : B5) : o.txt.length ≤ 4 := by cases o <;> decide
theorem U2.txt_len (o : U2) : o.txt.length ≤ 3 := by cases o <;> decide
/-- An expression's text is short. -/
theorem Ex.len_size : ∀ {e : Ex}, e.ok = true → e.tree.len + 1 ≤ 8 * e.size
  | .num s, h => by
    have h : isNum s = true := h
    have : s.length ≤ 4 := by
      simp only [isNum, Bool.or_eq_true, Bool.and_eq_true, decide_eq_true_eq] at h
      rcases h with h | h
      · rw [h]; decide
      · have h1 := h.1.1.2
        unfold unsign at h1
        split at h1
        · simp only [List.length_drop] at h1; omega
        · omega
    simp only [Ex.tree, Tree.len, List.isEmpty_nil, cond_true, Ex.size]; omega
  | .name s, h => by
    have := isName_len (show isName s = true from h)
    simp only [Ex.tree, Tree.len, List.isEmpty_nil, cond_true, Ex.size]; omega
  | .bin o a b, h => by
    simp only [Ex.ok, Bool.and_eq_true] at h
    have h1 := Ex.len_size h.1; have h2 := Ex.len_size h.2; have h3 := o.txt_len
    simp only [Ex.tree, Tree.len, lenL, List.isEmpty_nil, List.isEmpty_cons, cond_true, cond_false, Ex.size]; omega
  | .ite a b c, h => by
    simp only [Ex.ok, Bool.and_eq_true] at h
    have h1 := Ex.len_size h.1.1; have h2 := Ex.len_size h.1.2; have h3 := Ex.len_size h.2
    simp only [Ex.tree, Tree.len, lenL, List.isEmpty_nil, List.isEmpty_cons, cond_true, cond_false, Ex.size, tIf, List.length_cons, List.length_nil]; omega
  | .lt x a b, h => by
    simp only [Ex.ok, Bool.and_eq_true] at h
    have h1 := Ex.len_size h.1.2; have h2 := Ex.len_size h.2; have h3 := isName_len h.1.1
    simp only [Ex.tree, Tree.len, lenL, List.isEmpty_nil, List.isEmpty_cons, cond_true, cond_false, Ex.size, tLet, List.length_cons, List.length_nil]; omega
  | .fn f x s t b, h => by
    simp only [Ex.ok, Bool.and_eq_true, decide_eq_true_eq] at h
    obtain ⟨⟨⟨⟨⟨h1, h2⟩, h3⟩, h4⟩, h5⟩, h6⟩ := h
    have k1 := Ex.len_size h6; have k2 := isName_len h1; have k3 := isName_len h2
    have k4 := s.tree_small; have k5 := t.tree_small; have k6 := s.size_pos; have k7 := t.size_pos
    simp only [Ex.tree, Tree.len, lenL, List.isEmpty_nil, List.isEmpty_cons, cond_true, cond_false, Ex.size, tFun, List.length_cons, List.length_nil]; omega
  | .un o a, h => by
    have h1 := Ex.len_size (e := a) h; have h3 := o.txt_len
    simp only [Ex.tree, Tree.len, lenL, List.isEmpty_nil, List.isEmpty_cons, cond_true, cond_false, Ex.size]; omega
/-- The plain one of an expression. -/
def Ex.plain (e : Ex) : Ex := (e.pl e.free [] [] 0).1
theorem addAll_len' (l m : List Txt) : (addAll l m).length ≤ l.length + m.length := by
  induction m generalizing l with
  | nil => exact Nat.le_refl _
  | cons s m ih =>
    have h1 : (addOnce l s).length ≤ l.length + 1 := by unfold addOnce; split <;> simp
    have h2 := ih (addOnce l s)
    simp only [addAll, List.foldl_cons, List.length_cons] at *
    omega
theorem plain_room {e : Ex} (h : e.size ≤ 120) : e.nb + e.free.length ≤ 80 := by
  have h1 := e.nb_occ []
  have h2 := addAll_len' [] (e.occ [])
  simp only [List.length_nil, Nat.zero_add] at h2
  have h3 : e.free.length ≤ (e.occ []).length := h2
  omega
theorem plain_fine {e : Ex} (h : e.fine = true) : e.plain.fine = true := by
  simp only [Ex.fine, Bool.and_eq_true, decide_eq_true_eq, Tree.fits] at h
  obtain ⟨h1, h2, h3⟩ := e.pl_size e.free [] [] 0
  have hr := plain_room h.1.2
  have hok : e.plain.ok = true := Ex.pl_ok h.1.1 (fun s hs => by cases hs) rfl (by omega)
  have hl := Ex.len_size hok
  have h4 : e.plain.size = e.size := h1
  have h5 : e.plain.tree.depth = e.tree.depth := h2
  simp only [Ex.fine, Bool.and_eq_true, decide_eq_true_eq, Tree.fits]
  exact ⟨⟨hok, by omega⟩, by omega, by omega⟩
def plainOf (s : Txt) : Option Txt := (exOf s).map fun e => e.plain.tree.text
end Go.Proofs.YtdnmhgiaebbppaaGreat


/- Fresh plain names, by the reference. No conditions. -/
namespace Go.Proofs.YtdnmhgiaebbppaaGreat
set_option maxRecDepth 100000
set_option linter.unusedVariables false
set_option linter.unusedSimpArgs false

def lookOr (l m : List Txt) (s : Txt) : Txt := match lastIdx l s with
  | some i => m.getD i []
  | none => s
theorem g_l2Look {I : Heap} {oa ob : Option Addr} {l m : List Txt} {c c' : Nat} (h : Strs I oa l c) (h' : Strs I ob m c') (hlm : l.length = m.length) (s : Txt) (L : Own) :
    Fun Tryz.prog 101 [.slice oa l.length c, .slice ob m.length c', .string (str s)] I L (Only (.string (str (lookOr l m s))) I L) := by
  have hlen := h.len
  unfold maxN at hlen
  refine fun_intro (by simp) ?_
  refine s_seq ?_
  refine o_enter rfl ?_
  refine o_assign rfl .free rfl ?_
  refine o_done ?_
  refine s_seq ?_
  refine s_seq ?_
  refine o_enter rfl ?_
  refine o_move rfl .free rfl ?_
  refine o_len_slice rfl .free rfl ?_
  refine o_arith rfl rfl rfl (by omega) .free rfl ?_
  refine o_assign rfl .free rfl ?_
  refine o_done ?_
  refine s_block ?_
  refine s_while (X := Nat) (fun n => n) (fun n => [(0, .slice oa l.length c), (1, .slice ob m.length c'), (2, .string (str s)), (7, .int .i64 ((n : Int) - 1))]) (fun _ => I) (fun _ => L) (fun n => n ≤ l.length ∧ lastIdx l s = lastAt l s n) l.length ⟨Nat.le_refl _, rfl⟩ ⟨rfl, rfl, rfl, rfl, trivial⟩ drops ?_
  rintro n ⟨hn, hl⟩ ih
  refine s_seq ?_
  refine s_seq ?_
  refine o_enter rfl ?_
  refine o_move rfl .free rfl ?_
  refine o_cmp rfl rfl rfl .free rfl ?_
  refine o_done ?_
  first | refine s_if rfl ?_ ?_ | refine s_ifn rfl ?_ ?_ | refine s_cond rfl ?_ ?_
  · intro c0
    obtain ⟨k, rfl⟩ : ∃ k, n = k + 1 := ⟨n - 1, by omega⟩
    obtain ⟨x, hx, hst⟩ := h.at k (by omega)
    obtain ⟨y, hy, hst'⟩ := h'.at k (by omega)
    refine s_put (t := 7) (v' := .int .i64 (k : Nat)) rfl (by congr 1; omega) ?_
    simp only [lastAt, List.getD_eq_getElem?_getD, List.getElem?_eq_getElem (show k < l.length by omega), Option.getD_some] at hl
    refine s_skip ?_
    refine s_seq ?_
    refine s_block ?_
    refine s_seq ?_
    refine o_enter rfl ?_
    refine o_move rfl .free rfl ?_
    refine o_move rfl .free rfl ?_
    refine o_indexAddr' rfl rfl _ rfl (by first | omega | exact lt_of (by assumption) (by decide) | (simp; done) | (simp; omega) | decide | (simp at *; omega)) (by first | rfl | assumption) .free rfl ?_
    refine o_lS rfl .free rfl ?_
    refine o_move rfl .free rfl ?_
    refine o_cmps rfl rfl rfl .free rfl ?_
    refine o_done ?_
    first | refine s_if rfl ?_ ?_ | refine s_ifn rfl ?_ ?_ | refine s_cond rfl ?_ ?_
    · intro c1
      refine s_seq ?_
      refine o_enter rfl ?_
      refine o_move rfl .free rfl ?_
      refine o_move rfl .free rfl ?_
      refine o_indexAddr' rfl rfl _ rfl (by first | omega | exact lt_of (by assumption) (by decide) | (simp; done) | (simp; omega) | decide | (simp at *; omega)) (by first | rfl | assumption) .free rfl ?_
      refine o_lS rfl .free rfl ?_
      refine o_assign rfl .free rfl ?_
      refine o_done ?_
      refine s_ret (.tmp rfl .nil) ?_
      refine only rfl ?_
      rw [if_pos (by assumption)] at hl
      simp only [lookOr, hl]; simp [retOne, show k < m.length by omega]
    intro c1
    refine s_skip ?_
    refine s_inBlock ?_
    refine o_enter rfl ?_
    refine o_move rfl .free rfl ?_
    refine o_arith rfl rfl rfl (by omega) .free rfl ?_
    refine o_assign rfl .free rfl ?_
    refine o_done ?_
    refine s_env (E' := [(0, .slice oa l.length c), (1, .slice ob m.length c'), (2, .string (str s)), (7, .int .i64 ((k : Int) - 1))]) ⟨rfl, rfl, rfl, rfl, trivial⟩ (ih k ⟨by omega, ?_⟩ (by omega))
    rw [hl, if_neg (by assumption)]
  intro c0
  refine s_exit rfl ?_
  refine s_seq ?_
  refine o_enter rfl ?_
  refine o_move rfl .free rfl ?_
  refine o_assign rfl .free rfl ?_
  refine o_done ?_
  refine s_ret (.tmp rfl .nil) ?_
  refine only rfl ?_
  obtain rfl : n = 0 := by omega
  simp only [lookOr, hl, lastAt]; rfl
theorem g_l1Atom (s : Txt) (I : Heap) (L : Own) : Fun Tryz.prog 87 [.string (str s)] I L (Only (.agg [.string (str s), .slice none 0 0].toArray) I L) := by
  refine fun_intro (by simp) ?_
  refine s_seq ?_
  refine o_enter rfl ?_
  refine o_alloc .free rfl ?_
  intro b2
  refine o_done ?_
  refine s_seq ?_
  refine o_enter rfl ?_
  refine o_move rfl .free rfl ?_
  refine o_struct rfl rfl rfl .free rfl ?_
  refine o_st rfl rfl rfl rfl .free ?_
  refine o_done ?_
  refine s_ret (.c rfl .nil) ?_
  refine only rfl ?_
  rfl
theorem fr_le (c : UInt8) (av : List Txt) (n : Nat) : fr c av n ≤ n + av.length := by
  have h1 := (fr_facts c av n).2.2
  have h2 := hits_le c av (fr c av n)
  omega
/-- The reference's namer. -/
def rn (b : Nat) (oa : Option Addr) (av : List Txt) (c n : Nat) : Nat × Obj := (b, .cells [.slice oa av.length c, .int .i64 (n : Nat)].toArray 107 (0, 0))
theorem g_l2Fresh {I : Heap} {oa : Option Addr} {av : List Txt} {c : Nat} (hav : Strs I oa av c) (b n : Nat) (hn : n + av.length ≤ 900) (L : Own) :
    Fun Tryz.prog 102 [.pointer (some ⟨b, 0, none⟩)] I (rn b oa av c n :: L) (fun v I' L' => v = .string (str (nm 120 (fr 120 av n))) ∧ I = I' ∧ L' = rn b oa av c (fr 120 av n + 1) :: L) := by
  obtain ⟨f1, f2, f3⟩ := fr_facts 120 av n
  have f4 := fr_le 120 av n
  refine fun_intro (by simp) ?_
  refine s_seq ?_
  refine o_enter rfl ?_
  refine o_assign rfl .free rfl ?_
  refine o_done ?_
  refine s_block ?_
  refine s_while (X := Nat) (fun m => fr 120 av n + 1 - m) (fun m => [(0, .pointer (some ⟨b, 0, none⟩))]) (fun _ => I) (fun m => rn b oa av c m :: L) (fun m => n ≤ m ∧ m ≤ fr 120 av n ∧ ∀ j, n ≤ j → j < m → nm 120 j ∈ av) n ⟨Nat.le_refl _, f2, fun j h1 h2 => absurd h2 (by omega)⟩ ⟨rfl, trivial⟩ (fun _ h => h) ?_
  rintro m ⟨hm1, hm2, hm3⟩ ih
  unfold rn
  have hdl := decT_len (n := m) (by omega)
  refine s_block ?_
  refine s_seq ?_
  refine o_enter rfl ?_
  refine o_move rfl .free rfl ?_
  refine o_nilCheck rfl .free rfl ?_
  first | refine o_fieldAddr rfl .free rfl ?_ | refine o_fieldAddr' rfl .free rfl ?_
  refine o_lJ rfl .free rfl ?_
  refine o_call rfl .free rfl (g_l6Dec _ m (Nat.lt_succ_self _) (by omega) _ _) ?_
  rintro _ _ _ _ ⟨rfl, rfl, rfl⟩
  refine o_concat rfl rfl (by first | omega | (simp only [List.length_append, List.length_cons, List.length_nil]; omega) | (simp; omega)) .free rfl ?_
  refine o_assign rfl .free rfl ?_
  refine o_done ?_
  refine s_seq ?_
  refine o_enter rfl ?_
  refine o_move rfl .free rfl ?_
  refine o_move rfl .free rfl ?_
  refine o_nilCheck rfl .free rfl ?_
  first | refine o_fieldAddr rfl .free rfl ?_ | refine o_fieldAddr' rfl .free rfl ?_
  refine o_lJ rfl .free rfl ?_
  refine o_arith rfl rfl rfl (by omega) .free rfl ?_
  refine o_nilCheck rfl .free rfl ?_
  first | refine o_fieldAddr rfl .free rfl ?_ | refine o_fieldAddr' rfl .free rfl ?_
  refine o_st rfl rfl rfl rfl .free ?_
  refine o_done ?_
  refine s_seq ?_
  refine o_enter rfl ?_
  refine o_move rfl .free rfl ?_
  refine o_nilCheck rfl .free rfl ?_
  first | refine o_fieldAddr rfl .free rfl ?_ | refine o_fieldAddr' rfl .free rfl ?_
  refine o_lJ rfl .free rfl ?_
  refine o_move rfl .free rfl ?_
  refine o_call rfl .free rfl (g_l1Has (hav.rd _) c (nm 120 m)) ?_
  rintro _ _ _ _ ⟨rfl, rfl, rfl⟩
  refine o_not rfl .free rfl ?_
  refine o_done ?_
  refine s_cond rfl ?_ ?_
  · intro c0
    try simp only [nb] at c0
    refine s_seq ?_
    refine o_enter rfl ?_
    refine o_move rfl .free rfl ?_
    refine o_assign rfl .free rfl ?_
    refine o_done ?_
    refine s_ret (.tmp rfl .nil) ?_
    have hfm : fr 120 av n = m := fr_stop hm3 hm1 c0
    exact ⟨I, _, .refl _, fun _ h => h, by rw [hfm]; rfl, rfl, by rw [hfm]; rfl⟩
  intro c0
  try simp only [nb] at c0
  refine s_skip ?_
  refine s_inBlock ?_
  have hne : m ≠ fr 120 av n := fun e => f1 (e ▸ c0)
  refine s_env (E' := [(0, .pointer (some ⟨b, 0, none⟩))]) ⟨rfl, trivial⟩ (ih (m + 1) ⟨by omega, by omega, fun j h1 h2 => ?_⟩ (by omega))
  by_cases hj : j = m
  · subst hj; exact c0
  · exact hm3 j h1 (by omega)
theorem nm_len {n : Nat} (h : n < 1000) : (nm 120 n).length ≤ maxN := Ex.name_len (nm_name (by decide) h)
end Go.Proofs.YtdnmhgiaebbppaaGreat


/- An expression put for a name. No conditions. -/
namespace Go.Proofs.YtdnmhgiaebbppaaGreat
set_option maxRecDepth 100000
set_option linter.unusedVariables false
set_option linter.unusedSimpArgs false

end Go.Proofs.YtdnmhgiaebbppaaGreat


/- Regions that draw their order: a state that several orders come to, told once. No conditions. -/
namespace Go.Proofs.YtdnmhgiaebbppaaGreat
set_option maxRecDepth 100000
set_option linter.unusedVariables false
set_option linter.unusedSimpArgs false

theorem d_state {P : Program} {f : FuncId} {n : Nat} {I₀ : Heap} {Q : Post} {k : List Item} {E : Env} {I : Heap} {L : Own} {ops : Array Oper} {S : World → Prop} {fuel : Nat} {listed : Array Bool} {X : Type} (fu : Nat) (ls : Array Bool) (E' : X → Env) (L' : X → Own → Own) (R : X → Prop)
    (hk : ∀ x, R x → RunW P f n I₀ Q ops S fu ls k (E' x ++ E) I (L' x L)) (h : (∀ x, R x → RunW P f n I₀ Q ops S fu ls k (E' x ++ E) I (L' x L)) → RunW P f n I₀ Q ops S fuel listed k E I L) : RunW P f n I₀ Q ops S fuel listed k E I L := h hk
section
variable {I : Heap} {A B C D L : Own} {w : World}
theorem Mem.seg2 (h : Mem I (A ++ (B ++ L)) w) : Mem I (B ++ (A ++ L)) w := h.perm (List.perm_append_comm_assoc _ _ _)
theorem Mem.seg3 (h : Mem I (A ++ (B ++ (C ++ L))) w) : Mem I (C ++ (A ++ (B ++ L))) w := h.perm ((List.Perm.append_left A (List.perm_append_comm_assoc _ _ _)).trans (List.perm_append_comm_assoc _ _ _))
theorem Mem.ins3 (h : Mem I (A ++ (B ++ (C ++ L))) w) : Mem I (B ++ (C ++ (A ++ L))) w := h.perm ((List.perm_append_comm_assoc _ _ _).trans (List.Perm.append_left B (List.perm_append_comm_assoc _ _ _)))
theorem Mem.ins4 (h : Mem I (A ++ (B ++ (C ++ (D ++ L)))) w) : Mem I (B ++ (C ++ (D ++ (A ++ L)))) w := h.perm (((List.perm_append_comm_assoc _ _ _).trans (List.Perm.append_left B (List.perm_append_comm_assoc _ _ _))).trans (List.Perm.append_left B (List.Perm.append_left C (List.perm_append_comm_assoc _ _ _))))
end
end Go.Proofs.YtdnmhgiaebbppaaGreat
