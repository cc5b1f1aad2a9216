/- Drawn expressions, well and odd ones. No conditions. -/
import Derived.Test.YtocjeehkahjmdaaGreatDoorG12
namespace Go.Proofs.YtocjeehkahjmdaaGreatDoor
set_option maxRecDepth 100000
set_option linter.unusedVariables false
set_option linter.unusedSimpArgs false

theorem replOf_some {s a b : Txt} {t x y : Tree} (h1 : parse s = some t) (h2 : parse a = some x) (h3 : parse b = some y) : replOf s a b = if x.atom ≠ [] ∧ (parse (t.repl a y).text).isSome = true then some (t.repl a y).text else none := by
  unfold replOf; rw [h1, h2, h3]
theorem replOf_none {s a b : Txt} (h : parse s = none ∨ parse a = none ∨ parse b = none) : replOf s a b = none := by
  unfold replOf
  rcases h with h | h | h
  · rw [h]
  · rw [h]; cases parse s <;> rfl
  · rw [h]; cases parse s <;> cases parse a <;> rfl
theorem RD_get {p : Option Tree} {t : Tree} {ok : Bool} (hpf : match p with | some t0 => ok = true ∧ t = t0 | none => ok = false) : (ok = false → p = none) ∧ (ok = true → p = some t) := by
  cases p with
  | none => exact ⟨fun _ => rfl, fun h => (by rw [hpf] at h; cases h)⟩
  | some t0 => exact ⟨fun h => (by rw [hpf.1] at h; cases h), fun _ => (by rw [hpf.2])⟩
theorem parse_len {s : Txt} {t : Tree} (h : parse s = some t) : s.length ≤ 12000 ∧ t.len ≤ 12000 := by
  have h1 := (parse_fits h).1
  simp only [Tree.fits, Bool.and_eq_true, decide_eq_true_eq] at h1
  exact ⟨by rw [← parse_text h, Tree.text_len]; exact h1.2, h1.2⟩
theorem repl_out {s a b o : Txt} (h : replOf s a b = some o) : o.length ≤ 12000 := by
  unfold replOf at h
  cases h1 : parse s with
  | none => rw [h1] at h; cases h
  | some t =>
    cases h2 : parse a with
    | none => rw [h1, h2] at h; cases h
    | some x =>
      cases h3 : parse b with
      | none => rw [h1, h2, h3] at h; cases h
      | some y =>
        rw [h1, h2, h3] at h
        simp only at h
        split at h
        · rename_i hh
          cases h
          obtain ⟨z, hz⟩ := Option.isSome_iff_exists.1 hh.2
          exact (parse_len hz).1
        · cases h
theorem g_FormReplace (s a b : Txt) (hs : s.length ≤ maxL) (ha : a.length ≤ maxL) (hb : b.length ≤ 900) (I : Heap) (L : Own) : Fun Tryz.prog 24 [.string (str s), .string (str a), .string (str b)] I L (EL (replOf s a b) L) := by
  refine fun_intro (by simp) ?_
  refine s_seq ?_
  refine o_enter rfl ?_
  refine o_assign rfl .free rfl ?_
  refine o_assign rfl .free rfl ?_
  refine o_done ?_
  refine s_seq ?_
  refine o_enter rfl ?_
  refine o_move rfl .free rfl ?_
  refine o_call rfl .free rfl (g_l1Parse' s hs _ _) ?_
  rintro _ J1 _ e1 ⟨t, cs1, ok1, rfl, hr1, rfl, hp1⟩
  obtain ⟨o1, k1, _, rfl, -⟩ := hr1.open
  refine o_move rfl .free rfl ?_
  refine o_extract rfl rfl .free rfl ?_
  refine o_extract rfl rfl .free rfl ?_
  refine o_alloc .free rfl ?_
  intro b8
  refine o_st rfl rfl rfl rfl .free ?_
  refine o_assign rfl .free rfl ?_
  refine o_done ?_
  refine s_seq ?_
  refine o_enter rfl ?_
  refine o_move rfl .free rfl ?_
  refine o_call rfl .free rfl (g_l1Parse' a ha _ _) ?_
  rintro _ J2 _ e2 ⟨x, cs2, ok2, rfl, hr2, rfl, hp2⟩
  obtain ⟨o2, k2, _, rfl, -⟩ := hr2.open
  refine o_move rfl .free rfl ?_
  refine o_extract rfl rfl .free rfl ?_
  refine o_extract rfl rfl .free rfl ?_
  refine o_alloc .free rfl ?_
  intro b10
  refine o_st rfl rfl rfl rfl .free ?_
  refine o_assign rfl .free rfl ?_
  refine o_done ?_
  refine s_seq ?_
  refine o_enter rfl ?_
  refine o_move rfl .free rfl ?_
  refine o_call rfl .free rfl (g_l1Parse' b (by unfold maxL; omega) _ _) ?_
  rintro _ J3 _ e3 ⟨y, cs3, ok3, rfl, hr3, rfl, hp3⟩
  obtain ⟨o3, k3, _, rfl, -⟩ := hr3.open
  have q1 := RD_get hp1
  have q2 := RD_get hp2
  have q3 := RD_get hp3
  have hle := (e1.trans e2).trans e3
  refine o_move rfl .free rfl ?_
  refine o_extract rfl rfl .free rfl ?_
  refine o_extract rfl rfl .free rfl ?_
  refine o_alloc .free rfl ?_
  intro b12
  refine o_st rfl rfl rfl rfl .free ?_
  refine o_assign rfl .free rfl ?_
  refine o_done ?_
  refine s_seq ?_
  refine s_seq ?_
  refine o_enter rfl ?_
  refine o_move rfl .free rfl ?_
  refine o_not rfl .free rfl ?_
  refine o_move rfl .free rfl ?_
  apply o_or 32 35 rfl
  · intro g4_3 hk
    try simp only [nb] at g4_3
    refine o_move rfl (.met rfl rfl) rfl ?_
    refine o_not rfl (.met rfl rfl) rfl ?_
    refine o_pick_false rfl rfl .free rfl ?_
    exact o_fin 2 rfl rfl hk
  · intro _ hk
    refine o_skips 2 rfl ?_
    refine o_pick_true rfl rfl .free rfl ?_
    exact o_fin 2 rfl rfl hk
  refine o_move rfl .free rfl ?_
  apply o_or 36 39 rfl
  · intro g4_7 hk
    try simp only [nb] at g4_7
    refine o_move rfl (.met rfl rfl) rfl ?_
    refine o_not rfl (.met rfl rfl) rfl ?_
    refine o_pick_false rfl rfl .free rfl ?_
    exact o_fin 2 rfl rfl hk
  · intro _ hk
    refine o_skips 2 rfl ?_
    refine o_pick_true rfl rfl .free rfl ?_
    exact o_fin 2 rfl rfl hk
  refine o_move rfl .free rfl ?_
  apply o_or 40 44 rfl
  · intro g4_11 hk
    try simp only [nb] at g4_11
    refine o_fieldAddr rfl (.met rfl rfl) rfl ?_
    refine o_lO1 rfl (.met rfl rfl) rfl ?_
    refine o_cmps rfl rfl rfl (.met rfl rfl) rfl ?_
    refine o_pick_false rfl rfl .free rfl ?_
    exact o_fin 3 rfl rfl hk
  · intro _ hk
    refine o_skips 3 rfl ?_
    refine o_pick_true rfl rfl .free rfl ?_
    exact o_fin 3 rfl rfl hk
  refine o_done ?_
  refine s_cond rfl ?_ ?_
  · intro c0
    try simp only [nb] at c0
    refine s_seq ?_
    refine o_enter rfl ?_
    refine o_assign rfl .free rfl ?_
    refine o_assign rfl .free rfl ?_
    refine o_done ?_
    refine s_ret (.tmp rfl (.tmp rfl .nil)) ?_
    refine ⟨J3, L, hle, drops, ?_, rfl⟩
    have hz : replOf s a b = none := by
      rcases c0 with ((h | h) | h) | h
      · exact replOf_none (.inl (q1.1 h))
      · exact replOf_none (.inr (.inl (q2.1 h)))
      · exact replOf_none (.inr (.inr (q3.1 h)))
      · cases hh1 : parse s with
        | none => exact replOf_none (.inl hh1)
        | some t1 =>
          cases hh2 : parse a with
          | none => exact replOf_none (.inr (.inl hh2))
          | some x1 =>
            cases hh3 : parse b with
            | none => exact replOf_none (.inr (.inr hh3))
            | some y1 =>
              rw [hh2] at hp2
              rw [replOf_some hh1 hh2 hh3, if_neg (by rw [← hp2.2]; exact fun e => e.1 h)]
    rw [hz]; rfl
  intro c0
  try simp only [nb] at c0
  obtain ⟨⟨⟨h1, h2⟩, h3⟩, h4⟩ := c0
  have p1 := q1.2 h1
  have p2 := q2.2 h2
  have p3 := q3.2 h3
  have f1 := parse_fits p1
  have f2 := parse_fits p2
  have f3 := parse_fits p3
  have l1 := (parse_len p1).2
  have l3 : y.len ≤ 900 := by rw [← Tree.text_len, parse_text p3]; exact hb
  have z1 := parse_size p1
  have hrl := t.repl_len a y
  have hmul : t.size * y.len ≤ 12000 * 900 := Nat.mul_le_mul z1 l3
  have hrg := Tree.repl_good (a := a) f1.2.1 f3.2.1
  have ha0 : a ≠ [] := by
    intro e
    have h5 := parse_text p2
    have h6 := good_nil f2.2.1 h4
    cases x with
    | node n ps =>
      simp only [Tree.parts] at h6
      subst h6
      simp only [Tree.text, List.isEmpty_nil, cond_true] at h5
      exact h4 (h5.trans e)
  have hro := replOf_some p1 p2 p3
  refine s_skip ?_
  refine s_seq ?_
  refine o_enter rfl ?_
  refine o_lOS rfl .free rfl ?_
  refine o_move rfl .free rfl ?_
  refine o_lOS rfl .free rfl ?_
  refine o_call rfl .free rfl (g_l1Replace _ (Nat.lt_succ_self _) ((hr1.mono e2).mono e3) f1.2.1 a ha0 hr3 _) ?_
  rintro _ J4 _ e4 ⟨cs4, rfl, hr4, rfl⟩
  refine o_call rfl .free rfl (g_l1Text _ (Nat.lt_succ_self _) hr4 hrg (by omega) _) ?_
  rintro _ _ _ _ ⟨rfl, rfl, rfl⟩
  refine o_assign rfl .free rfl ?_
  refine o_done ?_
  refine s_seq ?_
  refine s_seq ?_
  refine o_enter rfl ?_
  refine o_move rfl .free rfl ?_
  refine o_call rfl .free rfl (g_FormValid _ (by rw [Tree.text_len]; unfold maxL; omega) _ _) ?_
  rintro _ J5 _ e5 ⟨rfl, rfl⟩
  have hle := (hle.trans e4).trans e5
  refine o_not rfl .free rfl ?_
  refine o_done ?_
  refine s_cond rfl ?_ ?_
  · intro c1
    try simp only [nb] at c1
    refine s_seq ?_
    refine o_enter rfl ?_
    refine o_assign rfl .free rfl ?_
    refine o_assign rfl .free rfl ?_
    refine o_done ?_
    refine s_ret (.tmp rfl (.tmp rfl .nil)) ?_
    refine ⟨J5, L, hle, drops, ?_, rfl⟩
    rw [hro, if_neg (by rintro ⟨-, h⟩; rw [c1] at h; cases h)]; rfl
  intro c1
  try simp only [nb] at c1
  refine s_skip ?_
  refine s_seq ?_
  refine o_enter rfl ?_
  refine o_move rfl .free rfl ?_
  refine o_assign rfl .free rfl ?_
  refine o_assign rfl .free rfl ?_
  refine o_done ?_
  refine s_ret (.tmp rfl (.tmp rfl .nil)) ?_
  refine ⟨J5, L, hle, drops, ?_, rfl⟩
  rw [hro, if_pos ⟨h4, c1⟩]; rfl
theorem sc_nil (I : Heap) (oa ob : Option Addr) : ScAt I [] [] oa 0 ob 0 := ⟨strs_empty _ _, strs_empty _ _, rfl, (fun _ h => by cases h), (fun _ h => by cases h)⟩
theorem g_l91Good {I : Heap} {oa : Option Addr} {l : List UInt8} {c : Nat} (h : Bytes I oa l c) (hl : l.length ≤ 2000) (b p : Nat) (hp : p + 7000 ≤ 1099511627776) (L : Own) :
    Fun Tryz.prog 21 [.pointer (some ⟨b, 0, none⟩)] I (rd b oa l c p :: L) (DT b oa l c p 7000 400000 L) := by
  have hle : HLe I I := .refl _
  have hk2 : kT 2 = 6 := rfl
  have hb2 : bT 2 = 19 := rfl
  refine fun_intro (by simp) ?_
  refine s_seq ?_
  refine o_enter rfl ?_
  refine o_assign rfl .free rfl ?_
  refine o_done ?_
  refine s_seq ?_
  refine o_enter rfl ?_
  refine o_assign rfl .free rfl ?_
  refine o_done ?_
  refine s_seq ?_
  refine s_seq ?_
  refine o_enter rfl ?_
  refine o_move rfl .free rfl ?_
  refine o_call rfl .free rfl (g_l6Rd_pick h hl b _ 3 (by omega) (by decide) _) ?_
  rintro _ _ _ _ ⟨r, rfl, rfl, rfl, hr⟩
  refine o_cmp rfl rfl rfl .free rfl ?_
  refine o_done ?_
  refine s_cond rfl ?_ ?_
  · intro c0
    try simp only [nb] at c0
    refine o_enter rfl ?_
    refine o_move rfl .free rfl ?_
    refine o_call rfl .free rfl (g_l91Type 2 h hl b _ (by omega) (by decide) (by decide) _) ?_
    rintro _ J _ e ⟨w, pw, rfl, hw, hp1, hp2, rfl⟩
    have h := h.mono e
    have hle := hle.trans e
    refine o_assign rfl .free rfl ?_
    refine o_done ?_
    refine s_seq ?_
    try have hw := hw
    refine o_enter rfl ?_
    refine o_move rfl .free rfl ?_
    refine o_lits0 .free rfl ?_
    intro b11
    refine o_lits0 .free rfl ?_
    intro b12
    refine o_struct rfl rfl rfl .free rfl ?_
    refine o_move rfl .free rfl ?_
    refine o_move rfl .free rfl ?_
    refine o_mem (fun w h => Mem.sub (L' := rd b oa l c _ :: L) (by repeat (first | exact List.Sublist.refl _ | apply List.Sublist.cons_cons | apply List.Sublist.cons)) h) ?_
    refine o_call rfl .free rfl (g_l6Rd_pick h hl b _ 3 (by omega) (by decide) _) ?_
    rintro _ _ _ _ ⟨r2, rfl, rfl, rfl, hr2⟩
    have hr3 : r2 < 3 := by omega
    have hdd : ∃ d : Nat, (2 : Int) + (r2 : Nat) = (d : Nat) ∧ d ≤ 4 := ⟨2 + r2, by omega, by omega⟩
    obtain ⟨d, hd1, hd2⟩ := hdd
    refine o_arith rfl rfl rfl (by omega) .free rfl ?_
    refine o_put (t := 17) (v' := .int .i64 (d : Nat)) rfl (by rw [← hd1]) ?_
    refine o_call rfl .free rfl (g_l91Expr hd2 h hl b _ (by omega) (sc_nil _ _ _) (by simp) _ (by first | omega | (simp; done) | decide) _) ?_
    rintro _ J1 _ e1 ⟨s1, p1, rfl, hs1, hp3, hp4, rfl⟩
    have h := h.mono e1
    have hle := hle.trans e1
    refine o_assign rfl .free rfl ?_
    refine o_done ?_
    refine s_seq ?_
    refine s_seq ?_
    refine o_enter rfl ?_
    refine o_move rfl .free rfl ?_
    refine o_call rfl .free rfl (g_ExprValid s1 (by unfold maxN; omega) _ _) ?_
    rintro _ _ _ _ ⟨rfl, rfl, rfl⟩
    refine o_done ?_
    refine s_cond rfl ?_ ?_
    · intro c1
      try simp only [nb] at c1
      refine s_seq ?_
      refine o_enter rfl ?_
      refine o_move rfl .free rfl ?_
      refine o_assign rfl .free rfl ?_
      refine o_done ?_
      refine s_ret (.tmp rfl .nil) ?_
      exact ⟨_, _, hle, fun w h => Mem.sub (L' := rd b oa l c _ :: L) (by repeat (first | exact List.Sublist.refl _ | apply List.Sublist.cons_cons | apply List.Sublist.cons)) h, _, _, rfl, by omega, by omega, by omega, rfl⟩
    intro c1
    try simp only [nb] at c1
    refine s_skip ?_
    refine s_seq ?_
    refine o_enter rfl ?_
    refine o_move rfl .free rfl ?_
    refine o_lits0 .free rfl ?_
    intro b23
    refine o_lits0 .free rfl ?_
    intro b24
    refine o_struct rfl rfl rfl .free rfl ?_
    refine o_move rfl .free rfl ?_
    refine o_mem (fun w h => Mem.sub (L' := rd b oa l c _ :: L) (by repeat (first | exact List.Sublist.refl _ | apply List.Sublist.cons_cons | apply List.Sublist.cons)) h) ?_
    refine o_call rfl .free rfl (g_l91Expr (d := 2) (by decide) h hl b _ (by omega) (sc_nil _ _ _) (by simp) _ (by first | omega | (simp; done) | decide) _) ?_
    rintro _ J2 _ e2 ⟨s2, p2, rfl, hs2, hp5, hp6, rfl⟩
    have hle := hle.trans e2
    refine o_assign rfl .free rfl ?_
    refine o_done ?_
    refine s_ret (.tmp rfl .nil) ?_
    exact ⟨_, _, hle, fun w h => Mem.sub (L' := rd b oa l c _ :: L) (by repeat (first | exact List.Sublist.refl _ | apply List.Sublist.cons_cons | apply List.Sublist.cons)) h, _, _, rfl, by omega, by omega, by omega, rfl⟩
  intro c0
  try simp only [nb] at c0
  refine s_skip ?_
  refine s_seq ?_
  try have hw := hw
  refine o_enter rfl ?_
  refine o_move rfl .free rfl ?_
  refine o_lits0 .free rfl ?_
  intro b11
  refine o_lits0 .free rfl ?_
  intro b12
  refine o_struct rfl rfl rfl .free rfl ?_
  refine o_move rfl .free rfl ?_
  refine o_move rfl .free rfl ?_
  refine o_mem (fun w h => Mem.sub (L' := rd b oa l c _ :: L) (by repeat (first | exact List.Sublist.refl _ | apply List.Sublist.cons_cons | apply List.Sublist.cons)) h) ?_
  refine o_call rfl .free rfl (g_l6Rd_pick h hl b _ 3 (by omega) (by decide) _) ?_
  rintro _ _ _ _ ⟨r2, rfl, rfl, rfl, hr2⟩
  have hr3 : r2 < 3 := by omega
  have hdd : ∃ d : Nat, (2 : Int) + (r2 : Nat) = (d : Nat) ∧ d ≤ 4 := ⟨2 + r2, by omega, by omega⟩
  obtain ⟨d, hd1, hd2⟩ := hdd
  refine o_arith rfl rfl rfl (by omega) .free rfl ?_
  refine o_put (t := 17) (v' := .int .i64 (d : Nat)) rfl (by rw [← hd1]) ?_
  refine o_call rfl .free rfl (g_l91Expr hd2 h hl b _ (by omega) (sc_nil _ _ _) (by simp) _ (by first | omega | (simp; done) | decide) _) ?_
  rintro _ J1 _ e1 ⟨s1, p1, rfl, hs1, hp3, hp4, rfl⟩
  have h := h.mono e1
  have hle := hle.trans e1
  refine o_assign rfl .free rfl ?_
  refine o_done ?_
  refine s_seq ?_
  refine s_seq ?_
  refine o_enter rfl ?_
  refine o_move rfl .free rfl ?_
  refine o_call rfl .free rfl (g_ExprValid s1 (by unfold maxN; omega) _ _) ?_
  rintro _ _ _ _ ⟨rfl, rfl, rfl⟩
  refine o_done ?_
  refine s_cond rfl ?_ ?_
  · intro c1
    try simp only [nb] at c1
    refine s_seq ?_
    refine o_enter rfl ?_
    refine o_move rfl .free rfl ?_
    refine o_assign rfl .free rfl ?_
    refine o_done ?_
    refine s_ret (.tmp rfl .nil) ?_
    exact ⟨_, _, hle, fun w h => Mem.sub (L' := rd b oa l c _ :: L) (by repeat (first | exact List.Sublist.refl _ | apply List.Sublist.cons_cons | apply List.Sublist.cons)) h, _, _, rfl, by omega, by omega, by omega, rfl⟩
  intro c1
  try simp only [nb] at c1
  refine s_skip ?_
  refine s_seq ?_
  refine o_enter rfl ?_
  refine o_move rfl .free rfl ?_
  refine o_lits0 .free rfl ?_
  intro b23
  refine o_lits0 .free rfl ?_
  intro b24
  refine o_struct rfl rfl rfl .free rfl ?_
  refine o_move rfl .free rfl ?_
  refine o_mem (fun w h => Mem.sub (L' := rd b oa l c _ :: L) (by repeat (first | exact List.Sublist.refl _ | apply List.Sublist.cons_cons | apply List.Sublist.cons)) h) ?_
  refine o_call rfl .free rfl (g_l91Expr (d := 2) (by decide) h hl b _ (by omega) (sc_nil _ _ _) (by simp) _ (by first | omega | (simp; done) | decide) _) ?_
  rintro _ J2 _ e2 ⟨s2, p2, rfl, hs2, hp5, hp6, rfl⟩
  have hle := hle.trans e2
  refine o_assign rfl .free rfl ?_
  refine o_done ?_
  refine s_ret (.tmp rfl .nil) ?_
  exact ⟨_, _, hle, fun w h => Mem.sub (L' := rd b oa l c _ :: L) (by repeat (first | exact List.Sublist.refl _ | apply List.Sublist.cons_cons | apply List.Sublist.cons)) h, _, _, rfl, by omega, by omega, by omega, rfl⟩
theorem atoms_some {s : Txt} {l : List Txt} (h : atomsOf s = some l) : l ≠ [] ∧ (∀ x ∈ l, x.length ≤ 12000) ∧ l.length ≤ 12000 := by
  unfold atomsOf at h
  cases hp : parse s with
  | none => rw [hp] at h; cases h
  | some t =>
    rw [hp] at h
    simp only [Option.map_some, Option.some.injEq] at h
    subst h
    have h1 := (parse_len hp).2
    have h2 := parse_size hp
    refine ⟨addAll_ne (atomL_ne t), fun x hx => ?_, ?_⟩
    · rcases addAll_mem.1 hx with h3 | h3
      · cases h3
      · have := t.atom_len x h3; omega
    · have := addAll_len [] t.atomL
      rw [t.atomL_len] at this
      simp only [List.length_nil, Nat.zero_add] at this
      exact Nat.le_trans this h2
theorem g_l91Odd {I : Heap} {oa : Option Addr} {l : List UInt8} {c : Nat} (h : Bytes I oa l c) (hl : l.length ≤ 2000) (b p : Nat) (hp : p + 8000 ≤ 1099511627776) (L : Own) :
    Fun Tryz.prog 10 [.pointer (some ⟨b, 0, none⟩)] I (rd b oa l c p :: L) (DT b oa l c p 8000 400001 L) := by
  refine fun_intro (by simp) ?_
  refine s_seq ?_
  refine o_enter rfl ?_
  refine o_assign rfl .free rfl ?_
  refine o_done ?_
  refine s_seq ?_
  refine o_enter rfl ?_
  refine o_move rfl .free rfl ?_
  refine o_call rfl .free rfl (g_l91Good h hl b _ (by omega) _) ?_
  rintro _ J1 _ e1 ⟨s, p1, rfl, hs, hp1, hp2, rfl⟩
  have h := h.mono e1
  refine o_assign rfl .free rfl ?_
  refine o_done ?_
  refine s_seq ?_
  refine s_seq ?_
  refine o_enter rfl ?_
  refine o_move rfl .free rfl ?_
  refine o_call rfl .free rfl (g_l6Rd_pick h hl b _ 4 (by omega) (by decide) _) ?_
  rintro _ _ _ _ ⟨r, rfl, rfl, rfl, hr⟩
  refine o_cmp rfl rfl rfl .free rfl ?_
  refine o_done ?_
  refine s_cond rfl ?_ ?_
  · intro c0
    try simp only [nb] at c0
    refine s_seq ?_
    refine o_enter rfl ?_
    refine o_move rfl .free rfl ?_
    refine o_assign rfl .free rfl ?_
    refine o_done ?_
    refine s_ret (.tmp rfl .nil) ?_
    exact ⟨J1, _, e1, fun _ h => h, s, _, rfl, by omega, by omega, by omega, rfl⟩
  intro c0
  try simp only [nb] at c0
  refine s_skip ?_
  refine s_seq ?_
  refine o_enter rfl ?_
  refine o_move rfl .free rfl ?_
  refine o_call rfl .free rfl (g_FormAtoms s (by unfold maxL; omega) _ _) ?_
  rintro _ J2 _ e2 ⟨o1, k1, rfl, hat, rfl⟩
  have h := h.mono e2
  have hle := e1.trans e2
  refine o_move rfl .free rfl ?_
  refine o_extract rfl rfl .free rfl ?_
  refine o_extract rfl rfl .free rfl ?_
  refine o_assign rfl .free rfl ?_
  refine o_assign rfl .free rfl ?_
  refine o_done ?_
  refine s_seq ?_
  refine s_seq ?_
  refine o_enter rfl ?_
  refine o_move rfl .free rfl ?_
  refine o_not rfl .free rfl ?_
  refine o_done ?_
  refine s_cond rfl ?_ ?_
  · intro c1
    try simp only [nb] at c1
    refine s_seq ?_
    refine o_enter rfl ?_
    refine o_move rfl .free rfl ?_
    refine o_assign rfl .free rfl ?_
    refine o_done ?_
    refine s_ret (.tmp rfl .nil) ?_
    exact ⟨J2, _, hle, fun _ h => h, s, _, rfl, by omega, by omega, by omega, rfl⟩
  intro c1
  try simp only [nb] at c1
  obtain ⟨al, hal⟩ : ∃ al, atomsOf s = some al := Option.isSome_iff_exists.1 c1
  rw [hal] at hat ⊢
  simp only [Option.getD_some] at hat ⊢
  obtain ⟨ha1, ha2, ha3⟩ := atoms_some hal
  have hapos := List.length_pos_iff.2 ha1
  have hanil := hat.nil'
  refine s_skip ?_
  refine s_seq ?_
  refine s_here fun hlr => ?_
  refine d_tl 17 rfl rfl ?_
  refine d_takeA 0 rfl (by kernel_rfl) rfl (.inr heldx) (y_move rfl) .free rfl ?_
  refine d_takeA 1 rfl (by kernel_rfl) rfl (.inr heldx) (y_move rfl) .free rfl ?_
  refine d_takeA 2 rfl (by kernel_rfl) rfl (.inr heldx) (y_move rfl) .free rfl ?_
  refine d_takeA 3 rfl (by kernel_rfl) rfl (.inr heldx) (y_move rfl) .free rfl ?_
  refine d_takeA 4 rfl (by kernel_rfl) rfl (.inr heldx) (y_len_slice rfl) .free rfl ?_
  refine d_takeA 8 rfl (by kernel_rfl) rfl (.inr heldx) (y_move rfl) .free rfl ?_
  refine d_two 5 9 (by kernel_rfl) ?_ ?_
  · skip
    refine i_call 5 rfl rfl rfl .free rfl (g_l6Rd_pick h hl b _ al.length (by omega) (by omega) _) ?_
    rintro _ _ _ _ ⟨r2, rfl, rfl, rfl, hr2⟩
    have hr3 : r2 < al.length := by omega
    have hst := hat.st r2 hr3
    have hel : (al.getD r2 []).length ≤ 12000 := ha2 _ (by rw [show al.getD r2 [] = al[r2] by simp [hr3]]; exact List.getElem_mem _)
    refine ⟨(.inr heldx), ?_⟩
    first | refine d_takeA 6 rfl (by kernel_rfl) rfl (.inr heldx) (y_ixD rfl rfl _ rfl) .free rfl ?_ | refine d_takeA 6 rfl (by kernel_rfl) rfl (.inr heldx) (y_ixP rfl rfl _ rfl) .free rfl ?_
    refine d_take 7 [17] rfl (by kernel_rfl) rfl heldx (y_lI1 rfl) .free rfl ?_
    refine d_lits 9 rfl (by kernel_rfl) rfl rfl rfl (by rfl) (by rfl) (by rfl) (by decide) (by decide) (by rfl) .free rfl (.inr heldx) ?_
    intro b32
    refine d_freeze ?_
    intro hz
    have hk := strs_lit (I := J2) (b := b32) (e := 9) (l := [[97], [120], [49], [112, 97, 105, 114], [99, 97, 108, 108], [102, 115, 116], [105], [43], [40, 102, 115, 116, 32, 49, 41], [98, 55]]) (by decide) (by decide)
    have hlr := hlr.trans hz
    have h := h.mono hz
    have hat := hat.mono hz
    try have hst := hst.mono hz
    refine d_call 10 rfl (by kernel_rfl) rfl rfl .free rfl (g_l6Rd_of h hl b _ (by omega) hk (by simp) _) ?_
    rintro _ _ _ _ ⟨y, rfl, hy, rfl, rfl⟩
    have hyl : y.length ≤ 10 := by revert y; decide
    refine ⟨(.inr heldx), ?_⟩
    refine d_call 11 rfl (by kernel_rfl) rfl rfl .free rfl (g_FormReplace s (al.getD r2 []) y (by unfold maxL; omega) (by unfold maxL; omega) (by omega) _ _) ?_
    rintro _ J3 _ e3 ⟨rfl, rfl⟩
    have h := h.mono e3
    have hlr := hlr.trans e3
    have hol : ((replOf s (al.getD r2 []) y).getD []).length ≤ 12000 := by
      cases ho : replOf s (al.getD r2 []) y with
      | none => decide
      | some o => exact repl_out ho
    refine ⟨(.inr heldx), ?_⟩
    refine d_takeA 12 rfl (by kernel_rfl) rfl (.inr heldx) (y_move rfl) .free rfl ?_
    refine d_takeA 13 rfl (by kernel_rfl) rfl (.inr heldx) (y_extract rfl rfl) .free rfl ?_
    refine d_takeA 14 rfl (by kernel_rfl) rfl (.inr heldx) (y_extract rfl rfl) .free rfl ?_
    refine d_takeA 15 rfl (by kernel_rfl) rfl (.inr heldx) (y_assign rfl) .free rfl ?_
    refine d_takeA 16 rfl (by kernel_rfl) rfl (.inr heldx) (y_assign rfl) .free rfl ?_
    refine d_done (by kernel_rfl) ?_
    refine s_seq ?_
    refine s_seq ?_
    refine o_enter rfl ?_
    refine o_move rfl .free rfl ?_
    refine o_move rfl .free rfl ?_
    first | refine g_if rfl rfl ?_ ?_ | refine g_ifn rfl rfl ?_ ?_ | refine g_b rfl rfl ?_ ?_
    · intro g8_2
      refine o_move rfl (.met rfl rfl) rfl ?_
      refine o_call rfl (.met rfl rfl) rfl (g_l6Rd_pick h hl b _ 8 (by omega) (by decide) _) ?_
      rintro _ _ _ _ ⟨r4, rfl, rfl, rfl, hr4⟩
      refine o_cmp rfl rfl rfl (.met rfl rfl) rfl ?_
      refine o_pick_true rfl rfl .free rfl ?_
      refine o_done ?_
      refine s_cond rfl ?_ ?_
      · intro c2
        try simp only [nb] at c2
        refine s_seq ?_
        refine o_enter rfl ?_
        refine o_move rfl .free rfl ?_
        refine o_assign rfl .free rfl ?_
        refine o_done ?_
        refine s_ret (.tmp rfl .nil) ?_
        exact ⟨J3, _, hle.trans hlr, fun _ h => h, _, _, rfl, by omega, by omega, by omega, rfl⟩
      intro c2
      try simp only [nb] at c2
      refine s_skip ?_
      refine s_seq ?_
      refine o_enter rfl ?_
      refine o_move rfl .free rfl ?_
      refine o_move rfl .free rfl ?_
      refine o_lits rfl rfl (by rfl) (by rfl) (by rfl) (by decide) (by decide) (by rfl) .free rfl ?_
      intro b46
      refine o_freezeLit [[], [32], [41]] (by decide) (by decide) ?_
      intro J5 e5 k5
      refine o_call rfl .free rfl (g_l6Rd_of (h.mono e5) hl b _ (by omega) k5 (by simp) _) ?_
      rintro _ _ _ _ ⟨z, rfl, hz, rfl, rfl⟩
      have hzl : z.length ≤ 1 := by revert z; decide
      refine o_concat rfl rfl (by first | omega | (simp only [List.length_append, List.length_cons, List.length_nil]; omega) | (simp; omega)) .free rfl ?_
      refine o_assign rfl .free rfl ?_
      refine o_done ?_
      refine s_ret (.tmp rfl .nil) ?_
      exact ⟨J5, _, (hle.trans hlr).trans e5, fun _ h => h, _, _, rfl, (by first | omega | (simp only [List.length_append, List.length_cons, List.length_nil]; omega) | (simp; omega)), by omega, by omega, rfl⟩
    intro g8_2
    iterate 3 refine o_skip rfl rfl rfl ?_
    refine o_pick_false rfl rfl .free rfl ?_
    refine o_done ?_
    refine s_false rfl ?_
    refine s_skip ?_
    refine s_seq ?_
    refine o_enter rfl ?_
    refine o_move rfl .free rfl ?_
    refine o_move rfl .free rfl ?_
    refine o_lits rfl rfl (by rfl) (by rfl) (by rfl) (by decide) (by decide) (by rfl) .free rfl ?_
    intro b46
    refine o_freezeLit [[], [32], [41]] (by decide) (by decide) ?_
    intro J5 e5 k5
    refine o_call rfl .free rfl (g_l6Rd_of (h.mono e5) hl b _ (by omega) k5 (by simp) _) ?_
    rintro _ _ _ _ ⟨z, rfl, hz, rfl, rfl⟩
    have hzl : z.length ≤ 1 := by revert z; decide
    refine o_concat rfl rfl (by first | omega | (simp only [List.length_append, List.length_cons, List.length_nil]; omega) | (simp; omega)) .free rfl ?_
    refine o_assign rfl .free rfl ?_
    refine o_done ?_
    refine s_ret (.tmp rfl .nil) ?_
    exact ⟨J5, _, (hle.trans hlr).trans e5, fun _ h => h, _, _, rfl, (by first | omega | (simp only [List.length_append, List.length_cons, List.length_nil]; omega) | (simp; omega)), by omega, by omega, rfl⟩
  · skip
    refine i_lits 9 rfl rfl rfl rfl (by rfl) (by rfl) (by rfl) (by decide) (by decide) (by rfl) .free rfl (.inr heldx) ?_
    intro b32
    refine d_freeze ?_
    intro hz
    have hk := strs_lit (I := J2) (b := b32) (e := 9) (l := [[97], [120], [49], [112, 97, 105, 114], [99, 97, 108, 108], [102, 115, 116], [105], [43], [40, 102, 115, 116, 32, 49, 41], [98, 55]]) (by decide) (by decide)
    have hlr := hlr.trans hz
    have h := h.mono hz
    have hat := hat.mono hz
    try have hst := hst.mono hz
    refine d_call 5 rfl (by kernel_rfl) rfl rfl .free rfl (g_l6Rd_pick h hl b _ al.length (by omega) (by omega) _) ?_
    rintro _ _ _ _ ⟨r2, rfl, rfl, rfl, hr2⟩
    have hr3 : r2 < al.length := by omega
    have hst := hat.st r2 hr3
    have hel : (al.getD r2 []).length ≤ 12000 := ha2 _ (by rw [show al.getD r2 [] = al[r2] by simp [hr3]]; exact List.getElem_mem _)
    refine ⟨(.inr heldx), ?_⟩
    first | refine d_takeA 6 rfl (by kernel_rfl) rfl (.inr heldx) (y_ixD rfl rfl _ rfl) .free rfl ?_ | refine d_takeA 6 rfl (by kernel_rfl) rfl (.inr heldx) (y_ixP rfl rfl _ rfl) .free rfl ?_
    refine d_take 7 [17] rfl (by kernel_rfl) rfl heldx (y_lI1 rfl) .free rfl ?_
    refine d_call 10 rfl (by kernel_rfl) rfl rfl .free rfl (g_l6Rd_of h hl b _ (by omega) hk (by simp) _) ?_
    rintro _ _ _ _ ⟨y, rfl, hy, rfl, rfl⟩
    have hyl : y.length ≤ 10 := by revert y; decide
    refine ⟨(.inr heldx), ?_⟩
    refine d_call 11 rfl (by kernel_rfl) rfl rfl .free rfl (g_FormReplace s (al.getD r2 []) y (by unfold maxL; omega) (by unfold maxL; omega) (by omega) _ _) ?_
    rintro _ J3 _ e3 ⟨rfl, rfl⟩
    have h := h.mono e3
    have hlr := hlr.trans e3
    have hol : ((replOf s (al.getD r2 []) y).getD []).length ≤ 12000 := by
      cases ho : replOf s (al.getD r2 []) y with
      | none => decide
      | some o => exact repl_out ho
    refine ⟨(.inr heldx), ?_⟩
    refine d_takeA 12 rfl (by kernel_rfl) rfl (.inr heldx) (y_move rfl) .free rfl ?_
    refine d_takeA 13 rfl (by kernel_rfl) rfl (.inr heldx) (y_extract rfl rfl) .free rfl ?_
    refine d_takeA 14 rfl (by kernel_rfl) rfl (.inr heldx) (y_extract rfl rfl) .free rfl ?_
    refine d_takeA 15 rfl (by kernel_rfl) rfl (.inr heldx) (y_assign rfl) .free rfl ?_
    refine d_takeA 16 rfl (by kernel_rfl) rfl (.inr heldx) (y_assign rfl) .free rfl ?_
    refine d_done (by kernel_rfl) ?_
    refine s_seq ?_
    refine s_seq ?_
    refine o_enter rfl ?_
    refine o_move rfl .free rfl ?_
    refine o_move rfl .free rfl ?_
    first | refine g_if rfl rfl ?_ ?_ | refine g_ifn rfl rfl ?_ ?_ | refine g_b rfl rfl ?_ ?_
    · intro g8_2
      refine o_move rfl (.met rfl rfl) rfl ?_
      refine o_call rfl (.met rfl rfl) rfl (g_l6Rd_pick h hl b _ 8 (by omega) (by decide) _) ?_
      rintro _ _ _ _ ⟨r4, rfl, rfl, rfl, hr4⟩
      refine o_cmp rfl rfl rfl (.met rfl rfl) rfl ?_
      refine o_pick_true rfl rfl .free rfl ?_
      refine o_done ?_
      refine s_cond rfl ?_ ?_
      · intro c2
        try simp only [nb] at c2
        refine s_seq ?_
        refine o_enter rfl ?_
        refine o_move rfl .free rfl ?_
        refine o_assign rfl .free rfl ?_
        refine o_done ?_
        refine s_ret (.tmp rfl .nil) ?_
        exact ⟨J3, _, hle.trans hlr, fun _ h => h, _, _, rfl, by omega, by omega, by omega, rfl⟩
      intro c2
      try simp only [nb] at c2
      refine s_skip ?_
      refine s_seq ?_
      refine o_enter rfl ?_
      refine o_move rfl .free rfl ?_
      refine o_move rfl .free rfl ?_
      refine o_lits rfl rfl (by rfl) (by rfl) (by rfl) (by decide) (by decide) (by rfl) .free rfl ?_
      intro b46
      refine o_freezeLit [[], [32], [41]] (by decide) (by decide) ?_
      intro J5 e5 k5
      refine o_call rfl .free rfl (g_l6Rd_of (h.mono e5) hl b _ (by omega) k5 (by simp) _) ?_
      rintro _ _ _ _ ⟨z, rfl, hz, rfl, rfl⟩
      have hzl : z.length ≤ 1 := by revert z; decide
      refine o_concat rfl rfl (by first | omega | (simp only [List.length_append, List.length_cons, List.length_nil]; omega) | (simp; omega)) .free rfl ?_
      refine o_assign rfl .free rfl ?_
      refine o_done ?_
      refine s_ret (.tmp rfl .nil) ?_
      exact ⟨J5, _, (hle.trans hlr).trans e5, fun _ h => h, _, _, rfl, (by first | omega | (simp only [List.length_append, List.length_cons, List.length_nil]; omega) | (simp; omega)), by omega, by omega, rfl⟩
    intro g8_2
    iterate 3 refine o_skip rfl rfl rfl ?_
    refine o_pick_false rfl rfl .free rfl ?_
    refine o_done ?_
    refine s_false rfl ?_
    refine s_skip ?_
    refine s_seq ?_
    refine o_enter rfl ?_
    refine o_move rfl .free rfl ?_
    refine o_move rfl .free rfl ?_
    refine o_lits rfl rfl (by rfl) (by rfl) (by rfl) (by decide) (by decide) (by rfl) .free rfl ?_
    intro b46
    refine o_freezeLit [[], [32], [41]] (by decide) (by decide) ?_
    intro J5 e5 k5
    refine o_call rfl .free rfl (g_l6Rd_of (h.mono e5) hl b _ (by omega) k5 (by simp) _) ?_
    rintro _ _ _ _ ⟨z, rfl, hz, rfl, rfl⟩
    have hzl : z.length ≤ 1 := by revert z; decide
    refine o_concat rfl rfl (by first | omega | (simp only [List.length_append, List.length_cons, List.length_nil]; omega) | (simp; omega)) .free rfl ?_
    refine o_assign rfl .free rfl ?_
    refine o_done ?_
    refine s_ret (.tmp rfl .nil) ?_
    exact ⟨J5, _, (hle.trans hlr).trans e5, fun _ h => h, _, _, rfl, (by first | omega | (simp only [List.length_append, List.length_cons, List.length_nil]; omega) | (simp; omega)), by omega, by omega, rfl⟩
end Go.Proofs.YtocjeehkahjmdaaGreatDoor


/- Drawn expressions of the statements. No conditions. -/
namespace Go.Proofs.YtocjeehkahjmdaaGreatDoor
set_option maxRecDepth 100000
set_option linter.unusedVariables false
set_option linter.unusedSimpArgs false

def DX (L : Own) : Post := fun v I' L' => ∃ s, v = .string (str s) ∧ List.length s ≤ 400001 ∧ L = L'
end Go.Proofs.YtocjeehkahjmdaaGreatDoor


/- How many parts an expression has, by the reference; the draw. No conditions. -/
namespace Go.Proofs.YtocjeehkahjmdaaGreatDoor
set_option maxRecDepth 100000
set_option linter.unusedVariables false
set_option linter.unusedSimpArgs false

theorem g_l3Many : ∀ (n : Nat) {I : Heap} {e : Ex} {cs : List Value} (_ : SizeOf.sizeOf e < n) (_ : Rep I e.tree cs) (_ : e.ok = true) (_ : e.size ≤ maxN) (L : Own),
    Fun Tryz.prog 15 [.agg cs.toArray] I L (Only (.int .i64 (e.many : Nat)) I L) := by
  intro n
  induction n with
  | zero => intro I e cs h; omega
  | succ n ihn =>
    intro I e cs hlt h hok hz L
    unfold maxN at hz
    obtain ⟨oc, cc, oaf, cf, rfl, hf⟩ := h.at'
    have hn3 : e.sub.length ≤ 3 := by cases e <;> simp [Ex.sub]
    have hms := e.many_size
    have hmb := e.many_sub
    have hpp := hf.len
    unfold maxN at hpp
    refine fun_intro (by simp) ?_
    refine s_seq ?_
    refine o_enter rfl ?_
    refine o_box rfl rfl .free rfl ?_
    intro b1
    refine o_assign rfl .free rfl ?_
    refine o_done ?_
    refine s_seq ?_
    refine s_seq ?_
    refine o_enter rfl ?_
    refine o_fieldAddr rfl .free rfl ?_
    refine o_lO1 rfl .free rfl ?_
    refine o_cmps rfl rfl rfl .free rfl ?_
    refine o_done ?_
    refine s_cond rfl ?_ ?_
    · intro c0
      try simp only [nb] at c0
      refine s_seq ?_
      refine o_enter rfl ?_
      refine o_assign rfl .free rfl ?_
      refine o_done ?_
      refine s_ret (.tmp rfl .nil) ?_
      refine only rfl ?_
      have hb : e.bare = true := by
        cases hb : e.bare with
        | true => rfl
        | false => exact absurd ((Ex.atom_iff hok).2 hb) c0
      cases e <;> first | rfl | cases hb
    intro c0
    try simp only [nb] at c0
    have hb : e.bare = false := (Ex.atom_iff hok).1 (by simpa using c0)
    have hpos : 0 < e.tree.parts.length := by
      rw [Ex.bare_parts] at hb
      have : e.tree.parts ≠ [] := by intro hh; rw [hh] at hb; cases hb
      exact List.length_pos_iff.2 this
    have hhd := head_at hpos
    obtain ⟨hfrom, hkj⟩ := kids_from e hb
    refine s_skip ?_
    refine s_seq ?_
    refine o_enter rfl ?_
    refine o_assign rfl .free rfl ?_
    refine o_done ?_
    refine s_seq ?_
    refine o_enter rfl ?_
    refine o_fieldAddr rfl .free rfl ?_
    refine o_lO1 rfl .free rfl ?_
    first | refine o_ixD rfl rfl 0 rfl .free rfl ?_ | refine o_ixP rfl rfl 0 rfl .free rfl ?_
    refine o_fieldAddr' rfl .free rfl ?_
    refine o_lIF rfl .free rfl ?_
    refine o_call rfl .free rfl (g_l2Kids (e.tree.pt 0).atom _ _) ?_
    rw [← hhd]; rintro _ _ _ _ ⟨rfl, rfl, rfl⟩
    refine o_move rfl .free rfl ?_
    refine o_extract rfl rfl .free rfl ?_
    refine o_extract rfl rfl .free rfl ?_
    refine o_assign rfl .free rfl ?_
    refine o_assign rfl .free rfl ?_
    refine o_done ?_
    refine s_seq ?_
    refine s_seq ?_
    refine o_enter rfl ?_
    refine o_move rfl .free rfl ?_
    refine o_assign rfl .free rfl ?_
    refine o_done ?_
    refine s_block ?_
    refine s_while (X := Nat) (fun i => e.sub.length - i) (fun i => [(1, .pointer (some ⟨b1, 0, none⟩)), (3, .int .i64 ((1 + ((e.sub.take i).map Ex.many).sum : Nat))), (5, .int .i64 ((kidRange e.tree.head).2 : Nat)), (6, .int .i64 (((kidRange e.tree.head).1 + i : Nat)))]) (fun _ => I) (fun _ => (b1, .cells [.string (str e.tree.atom), .slice oc e.tree.parts.length cc].toArray 42 (0, 0)) :: L) (fun i => i ≤ e.sub.length) 0 (Nat.zero_le _) ⟨rfl, rfl, rfl, rfl, trivial⟩ (by intro _ h; exact h) ?_
    rintro i hi ih
    refine s_seq ?_
    refine s_seq ?_
    refine o_enter rfl ?_
    refine o_move rfl .free rfl ?_
    refine o_move rfl .free rfl ?_
    refine o_cmp rfl rfl rfl .free rfl ?_
    refine o_done ?_
    refine s_cond rfl ?_ ?_
    · intro c1
      try simp only [nb] at c1
      have hi1 : i < e.sub.length := by omega
      have hkm := kid_mem hi1
      have hkt := (kids_lt hkm).1
      have hspt := sub_pt e i hi1
      have hkj1 := hkj i hi1
      rw [← hkj1]
      obtain ⟨hs1, hs2, hs3⟩ := sub_facts (List.getElem_mem hi1)
      obtain ⟨hst1, hst2⟩ := sum_take hi1
      refine s_skip ?_
      refine s_seq ?_
      refine s_block ?_
      refine o_enter rfl ?_
      refine o_move rfl .free rfl ?_
      refine o_fieldAddr rfl .free rfl ?_
      refine o_lO1 rfl .free rfl ?_
      refine o_move rfl .free rfl ?_
      first | refine o_ixD rfl rfl _ rfl .free rfl ?_ | refine o_ixP rfl rfl _ rfl .free rfl ?_
      refine o_lIS rfl .free rfl ?_
      refine o_call rfl .free rfl (ihn (by omega) (rep_is (hf.rp _ hkt) hspt) (hs3 hok) (by unfold maxN; omega) _) ?_
      rintro _ _ _ _ ⟨rfl, rfl, rfl⟩
      refine o_arith rfl rfl rfl (by omega) .free rfl ?_
      refine o_assign rfl .free rfl ?_
      refine o_done ?_
      refine s_inBlock ?_
      refine o_enter rfl ?_
      refine o_move rfl .free rfl ?_
      refine o_arith rfl rfl rfl (by omega) .free rfl ?_
      refine o_assign rfl .free rfl ?_
      refine o_done ?_
      refine s_env (E' := [(1, .pointer (some ⟨b1, 0, none⟩)), (3, .int .i64 ((1 + ((e.sub.take (i + 1)).map Ex.many).sum : Nat))), (5, .int .i64 ((kidRange e.tree.head).2 : Nat)), (6, .int .i64 (((kidRange e.tree.head).1 + (i + 1) : Nat)))]) ⟨rfl, ?_, rfl, by rw [hkj1]; rfl, trivial⟩ (ih (i + 1) (by omega) (by omega))
      rw [hst1, ← Nat.add_assoc]; rfl
    intro c1
    try simp only [nb] at c1
    refine s_exit rfl ?_
    refine s_seq ?_
    refine o_enter rfl ?_
    refine o_move rfl .free rfl ?_
    refine o_assign rfl .free rfl ?_
    refine o_done ?_
    refine s_ret (.tmp rfl .nil) ?_
    refine only rfl ?_
    obtain rfl : i = e.sub.length := by omega
    rw [List.take_length, ← hmb]; rfl
theorem g_ExprMany (s : Txt) (hs : s.length ≤ maxL) (I : Heap) (L : Own) : Fun Tryz.prog 6 [.string (str s)] I L (fun v I' L' => v = .int .i64 (manyOf s) ∧ L = L') := by
  refine fun_intro (by simp) ?_
  refine s_seq ?_
  refine o_enter rfl ?_
  refine o_assign rfl .free rfl ?_
  refine o_done ?_
  refine s_seq ?_
  refine o_enter rfl ?_
  refine o_move rfl .free rfl ?_
  refine o_call rfl .free rfl (g_l2Parse' s hs _ _) ?_
  rintro _ J _ hleJ ⟨t, cs, ok, rfl, hrep, rfl, hpf⟩
  obtain ⟨oc, cc, oaf, cf, rfl, hf⟩ := hrep.at'
  refine o_move rfl .free rfl ?_
  refine o_extract rfl rfl .free rfl ?_
  refine o_extract rfl rfl .free rfl ?_
  refine o_alloc .free rfl ?_
  intro b3
  refine o_st rfl rfl rfl rfl .free ?_
  refine o_assign rfl .free rfl ?_
  refine o_done ?_
  refine s_seq ?_
  refine s_seq ?_
  refine o_enter rfl ?_
  refine o_move rfl .free rfl ?_
  refine o_not rfl .free rfl ?_
  refine o_done ?_
  refine s_cond rfl ?_ ?_
  · intro c0
    try simp only [nb] at c0
    refine s_seq ?_
    refine o_enter rfl ?_
    refine o_assign rfl .free rfl ?_
    refine o_done ?_
    refine s_ret (.tmp rfl .nil) ?_
    refine ⟨J, L, hleJ, drops, ?_, rfl⟩
    have : exOf s = none := RX_none hpf c0
    rw [manyOf, this]; rfl
  intro c0
  try simp only [nb] at c0
  obtain ⟨e, he, rfl, hok, hlen, hfine, htxt⟩ := RX_some hpf c0
  have hsz := (exOf_is he).2.2.1
  refine s_skip ?_
  refine s_seq ?_
  refine o_enter rfl ?_
  refine o_lOS rfl .free rfl ?_
  refine o_call rfl .free rfl (g_l3Many _ (Nat.lt_succ_self _) hf.rep hok (by unfold maxN; omega) _) ?_
  rintro _ _ _ _ ⟨rfl, rfl, rfl⟩
  refine o_assign rfl .free rfl ?_
  refine o_done ?_
  refine s_ret (.tmp rfl .nil) ?_
  refine ⟨J, L, hleJ, drops, ?_, rfl⟩
  rw [manyOf_some he]; rfl
theorem g_DrawExprMany {I : Heap} {oa : Option Addr} {l : List UInt8} {c : Nat} (h : Bytes I oa l c) (L : Own) : Fun Tryz.prog 4 [.slice oa l.length c] I L (DX L) := by
  refine fun_intro (by simp) ?_
  refine s_seq ?_
  refine o_enter rfl ?_
  refine o_assign rfl .free rfl ?_
  refine o_done ?_
  refine s_seq ?_
  refine o_enter rfl ?_
  refine o_move rfl .free rfl ?_
  refine o_call rfl .free rfl (g_l6Open h _) ?_
  rintro _ J1 _ e1 ⟨b, oa1, l1, c1, rfl, h1, hl1, rfl⟩
  refine o_call rfl .free rfl (g_l91Odd h1 hl1 b 0 (by decide) L) ?_
  rintro _ J2 _ e2 ⟨s, p', rfl, hs, hp1, hp2, rfl⟩
  refine o_assign rfl .free rfl ?_
  refine o_done ?_
  refine s_ret (.tmp rfl .nil) ?_
  exact ⟨J2, L, e1.trans e2, fun _ h => h.drop, s, rfl, hs, rfl⟩
end Go.Proofs.YtocjeehkahjmdaaGreatDoor


/- The walk of the statement 'FnMany'. No conditions. -/
namespace Go.Proofs.YtocjeehkahjmdaaGreatDoor
set_option maxRecDepth 100000
set_option linter.unusedVariables false
set_option linter.unusedSimpArgs false

theorem plain_many {e : Ex} : e.plain.many = e.many := (e.pl_size e.free [] [] 0).2.2
theorem law_FnMany {I : Heap} {oa : Option Addr} {code : List UInt8} {c : Nat} (h : Bytes I oa code c) (L : Own) : Fun Tryz.prog 3 [.slice oa code.length c] I L (YES L) := by
  have hlen := h.len
  refine fun_intro (by simp) ?_
  refine s_seq ?_
  refine o_enter rfl ?_
  refine o_assign rfl .free rfl ?_
  refine o_done ?_
  refine s_seq ?_
  refine s_seq ?_
  refine o_enter rfl ?_
  refine o_move rfl .free rfl ?_
  refine o_len_slice rfl .free rfl ?_
  refine o_cmp rfl rfl rfl .free rfl ?_
  refine o_done ?_
  refine s_cond rfl ?_ ?_
  · intro c0
    try simp only [nb] at c0
    refine s_seq ?_
    refine o_enter rfl ?_
    refine o_assign rfl .free rfl ?_
    refine o_done ?_
    refine s_ret (.tmp rfl .nil) ?_
    exact ⟨I, L, .refl _, fun _ h => h, rfl, rfl⟩
  intro c0
  try simp only [nb] at c0
  refine s_skip ?_
  refine s_seq ?_
  refine o_enter rfl ?_
  refine o_move rfl .free rfl ?_
  refine o_call rfl .free rfl (g_DrawExprMany h _) ?_
  rintro _ J1 _ e1 ⟨s, rfl, hsl, rfl⟩
  have hs : s.length ≤ maxN := by unfold maxN; omega
  refine o_assign rfl .free rfl ?_
  refine o_done ?_
  refine s_seq ?_
  refine o_enter rfl ?_
  refine o_move rfl .free rfl ?_
  refine o_call rfl .free rfl (f_ExprMany s hs _ _) ?_
  rintro _ J2 _ e2 ⟨rfl, rfl⟩
  refine o_assign rfl .free rfl ?_
  refine o_done ?_
  refine s_seq ?_
  refine o_enter rfl ?_
  refine o_move rfl .free rfl ?_
  refine o_call rfl .free rfl (g_ExprMany s (maxN_maxL hs) _ _) ?_
  rintro _ J3 _ e3 ⟨rfl, rfl⟩
  have hle := (e1.trans e2).trans e3
  refine o_assign rfl .free rfl ?_
  refine o_done ?_
  refine s_seq ?_
  refine s_seq ?_
  refine o_enter rfl ?_
  refine o_move rfl .free rfl ?_
  refine o_move rfl .free rfl ?_
  refine o_cmp rfl rfl rfl .free rfl ?_
  refine o_move rfl .free rfl ?_
  apply o_or 24 27 rfl
  · intro g6_4 hk
    try simp only [nb] at g6_4
    refine o_move rfl (.met rfl rfl) rfl ?_
    refine o_cmp rfl rfl rfl (.met rfl rfl) rfl ?_
    refine o_pick_false rfl rfl .free rfl ?_
    exact o_fin 2 rfl rfl hk
  · intro _ hk
    refine o_skips 2 rfl ?_
    refine o_pick_true rfl rfl .free rfl ?_
    exact o_fin 2 rfl rfl hk
  refine o_done ?_
  refine s_cond rfl ?_ ?_
  · intro c1
    try simp only [nb] at c1
    refine s_seq ?_
    refine o_enter rfl ?_
    refine o_move rfl .free rfl ?_
    refine o_move rfl .free rfl ?_
    refine o_cmp rfl rfl rfl .free rfl ?_
    refine o_assign rfl .free rfl ?_
    refine o_done ?_
    refine s_ret (.tmp rfl .nil) ?_
    refine ⟨J3, L, hle, drops, ?_, rfl⟩
    simp [retOne]
  intro c1
  try simp only [nb] at c1
  obtain ⟨e, he⟩ : ∃ e, exOf s = some e := by
    cases he : exOf s with
    | none => unfold manyOf at c1; rw [he] at c1; simp at c1
    | some e => exact ⟨e, rfl⟩
  obtain ⟨hfine, hok, hsz, hln, -⟩ := exOf_is he
  have hko := kidsOf_some he
  clear c1
  rw [manyOf_some he]
  have hn3 : e.sub.length ≤ 3 := by cases e <;> simp [Ex.sub]
  have hkl : (e.sub.map fun a => a.tree.text).length = e.sub.length := by simp
  have hms := e.many_size
  have hmb := e.many_sub
  have hpf := plain_fine hfine
  have hpx := exOf_fine hpf
  have hplen : e.plain.tree.text.length ≤ maxN := by
    have := (exOf_is hpx).2.2.2.1
    rw [Tree.text_len]; unfold maxN; omega
  refine s_skip ?_
  refine s_seq ?_
  refine o_enter rfl ?_
  refine o_move rfl .free rfl ?_
  refine o_call rfl .free rfl (f_ExprKids s hs _ _) ?_
  rintro _ J4 _ e4 ⟨ok, ck, rfl, hkS, rfl⟩
  rw [hko] at hkS
  rw [hko]
  simp only [Option.getD_some, Option.isSome_some] at hkS ⊢
  refine o_move rfl .free rfl ?_
  refine o_extract rfl rfl .free rfl ?_
  refine o_extract rfl rfl .free rfl ?_
  refine o_assign rfl .free rfl ?_
  refine o_assign rfl .free rfl ?_
  refine o_done ?_
  refine s_seq ?_
  refine o_enter rfl ?_
  refine o_move rfl .free rfl ?_
  refine o_call rfl .free rfl (f_ExprPlain s hs _ _) ?_
  rintro _ J5 _ e5 ⟨rfl, rfl⟩
  rw [plainOf_some he]
  simp only [Option.getD_some, Option.isSome_some]
  have hkS := hkS.mono e5
  have hle := (hle.trans e4).trans e5
  refine o_move rfl .free rfl ?_
  refine o_extract rfl rfl .free rfl ?_
  refine o_extract rfl rfl .free rfl ?_
  refine o_assign rfl .free rfl ?_
  refine o_assign rfl .free rfl ?_
  refine o_done ?_
  refine s_seq ?_
  refine o_enter rfl ?_
  refine o_assign rfl .free rfl ?_
  refine o_done ?_
  refine s_seq ?_
  refine s_seq ?_
  refine o_enter rfl ?_
  refine o_assign rfl .free rfl ?_
  refine o_done ?_
  refine s_block ?_
  refine s_while (X := GM) (fun x => e.sub.length - x.i) (fun x => [(3, .string (str s)), (4, .int .i64 (e.many : Nat)), (6, .slice ok (e.sub.map fun a => a.tree.text).length ck), (7, .bool true), (8, .string (str e.plain.tree.text)), (9, .bool true), (10, .int .i64 ((1 + ((e.sub.take x.i).map Ex.many).sum : Nat))), (11, .int .i64 (x.i : Nat))]) (fun x => x.J) (fun _ => L) (fun x => x.i ≤ e.sub.length ∧ HLe J5 x.J) ⟨0, J5⟩ ⟨Nat.zero_le _, .refl _⟩ ⟨rfl, rfl, rfl, rfl, rfl, rfl, rfl, rfl, trivial⟩ (by intro _ h; exact h) ?_
  rintro ⟨i, J⟩ ⟨hi, ez⟩ ih
  simp only at hi ez ih ⊢
  have hkS := hkS.mono ez
  have hle := hle.trans ez
  refine s_seq ?_
  refine s_seq ?_
  refine o_enter rfl ?_
  refine o_move rfl .free rfl ?_
  refine o_move rfl .free rfl ?_
  refine o_len_slice rfl .free rfl ?_
  refine o_cmp rfl rfl rfl .free rfl ?_
  refine o_done ?_
  refine s_cond rfl ?_ ?_
  · intro c2
    try simp only [nb] at c2
    have hi1 : i < (e.sub.map fun a => a.tree.text).length := by omega
    have hi2 : i < e.sub.length := by omega
    have hst := hkS.st i hi1
    have hgd : (e.sub.map fun a => a.tree.text).getD i [] = e.sub[i].tree.text := by simp [hi2]
    have hel := hkS.each _ (List.getElem_mem hi1)
    rw [show (e.sub.map fun a => a.tree.text)[i] = (e.sub.map fun a => a.tree.text).getD i [] by simp [hi2]] at hel
    have hae := exOf_fine (sub_fine (List.getElem_mem hi2) hfine).1
    rw [← hgd] at hae
    obtain ⟨hst1, hst2⟩ := sum_take hi2
    refine s_skip ?_
    refine s_seq ?_
    refine s_block ?_
    refine o_enter rfl ?_
    iterate 3 refine o_move rfl .free rfl ?_
    first | refine o_ixD rfl rfl _ rfl .free rfl ?_ | refine o_ixP rfl rfl _ rfl .free rfl ?_
    refine o_lI1 rfl .free rfl ?_
    refine o_call rfl .free rfl (f_ExprMany ((e.sub.map fun a => a.tree.text).getD i []) hel _ _) ?_
    rintro _ J6 _ e6 ⟨rfl, rfl⟩
    rw [manyOf_some hae]
    refine o_arith rfl rfl rfl (by omega) .free rfl ?_
    refine o_assign rfl .free rfl ?_
    refine o_done ?_
    refine s_inBlock ?_
    refine o_enter rfl ?_
    refine o_move rfl .free rfl ?_
    refine o_arith rfl rfl rfl (by omega) .free rfl ?_
    refine o_assign rfl .free rfl ?_
    refine o_done ?_
    refine s_env (E' := [(3, .string (str s)), (4, .int .i64 (e.many : Nat)), (6, .slice ok (e.sub.map fun a => a.tree.text).length ck), (7, .bool true), (8, .string (str e.plain.tree.text)), (9, .bool true), (10, .int .i64 ((1 + ((e.sub.take (i + 1)).map Ex.many).sum : Nat))), (11, .int .i64 ((i + 1 : Nat)))]) ⟨rfl, rfl, rfl, rfl, rfl, rfl, ?_, rfl, trivial⟩ (ih ⟨i + 1, J6⟩ ⟨by simp only; omega, ez.trans e6⟩ (by simp only; omega))
    rw [hst1, ← Nat.add_assoc]; rfl
  intro c2
  try simp only [nb] at c2
  obtain rfl : i = e.sub.length := by omega
  rw [List.take_length, ← hmb]
  refine s_exit rfl ?_
  refine s_seq ?_
  refine o_enter rfl ?_
  refine o_move rfl .free rfl ?_
  refine o_move rfl .free rfl ?_
  apply o_and 55 59 rfl
  · intro g15_2 hk
    try simp only [nb] at g15_2
    refine o_move rfl (.met rfl rfl) rfl ?_
    refine o_move rfl (.met rfl rfl) rfl ?_
    refine o_cmp rfl rfl rfl (.met rfl rfl) rfl ?_
    refine o_pick_true rfl rfl .free rfl ?_
    exact o_fin 3 rfl rfl hk
  · intro _ hk
    refine o_skips 3 rfl ?_
    refine o_pick_false rfl rfl .free rfl ?_
    exact o_fin 3 rfl rfl hk
  refine o_move rfl .free rfl ?_
  apply o_and 60 65 rfl
  · intro g15_7 hk
    try simp only [nb] at g15_7
    refine o_move rfl (.met rfl rfl) rfl ?_
    refine o_move rfl (.met rfl rfl) rfl ?_
    refine o_call rfl (.met rfl rfl) rfl (f_FormSize s hs _ _) ?_
    rintro _ J7 _ e7 ⟨rfl, rfl⟩
    rw [sizeOfT_ex he]
    refine o_mem (fun w h => Mem.le e7 h) ?_
    refine o_cmp rfl rfl rfl (.met rfl rfl) rfl ?_
    refine o_pick_true rfl rfl .free rfl ?_
    exact o_fin 4 rfl rfl hk
  · intro _ hk
    refine o_skips 4 rfl ?_
    refine o_pick_false rfl rfl .free rfl ?_
    exact o_fin 4 rfl rfl hk
  refine o_move rfl .free rfl ?_
  apply o_and 66 75 rfl
  · intro g15_13 hk
    try simp only [nb] at g15_13
    refine o_move rfl (.met rfl rfl) rfl ?_
    refine o_not rfl (.met rfl rfl) rfl ?_
    refine o_move rfl (.met rfl rfl) rfl ?_
    apply o_or 69 74 rfl
    · intro g15_16 hk
      try simp only [nb] at g15_16
      refine o_move rfl (.met rfl rfl) rfl ?_
      refine o_call rfl (.met rfl rfl) rfl (f_ExprMany e.plain.tree.text hplen _ _) ?_
      rintro _ J8 _ e8 ⟨rfl, rfl⟩
      rw [manyOf_some hpx, plain_many]
      refine o_mem (fun w h => Mem.le e8 h) ?_
      refine o_move rfl (.met rfl rfl) rfl ?_
      refine o_cmp rfl rfl rfl (.met rfl rfl) rfl ?_
      refine o_pick_false rfl rfl (.met rfl rfl) rfl ?_
      exact o_fin 4 rfl rfl hk
    · intro _ hk
      refine o_skips 4 rfl ?_
      refine o_pick_true rfl rfl (.met rfl rfl) rfl ?_
      exact o_fin 4 rfl rfl hk
    refine o_pick_true rfl rfl .free rfl ?_
    exact o_fin 4 rfl rfl hk
  · intro _ hk
    refine o_skips 8 rfl ?_
    refine o_pick_false rfl rfl .free rfl ?_
    exact o_fin 8 rfl rfl hk
  refine o_assign rfl .free rfl ?_
  refine o_done ?_
  refine s_ret (.tmp rfl .nil) ?_
  refine ⟨J, L, hle, drops, ?_, rfl⟩
  simp [retOne, hms]
end Go.Proofs.YtocjeehkahjmdaaGreatDoor
