/- Atoms of forms, by the program; how often a name stands free. No conditions. -/
import Derived.Test.YtpbnimmbenagpaaGreatG14
namespace Go.Proofs.YtpbnimmbenagpaaGreat
set_option maxRecDepth 100000
set_option linter.unusedVariables false
set_option linter.unusedSimpArgs false

/-- A function value that is told of atoms. -/
structure ATeller (P : Program) (kf : FuncId) (cap : List Value) (X : Type) (own : X → Own) (R : X → List Txt → Heap → Prop) : Prop where
  tell : ∀ x seen s I L, R x seen I → s.length ≤ maxN → seen.length < 4294967296 → Fun P kf (.string (str s) :: cap) I (own x ++ L) (fun v I' L' => v = .tuple #[] ∧ ∃ y, R y (seen ++ [s]) I' ∧ L' = own y ++ L)
  mono : ∀ x seen I I', HLe I I' → R x seen I → R x seen I'
/-- How far a walk over the parts has come. -/
structure GX (X : Type) where
  i : Nat
  x : X
  J : Heap
theorem f_form_atoms {kf : FuncId} {cap : List Value} {X : Type} {own : X → Own} {R : X → List Txt → Heap → Prop} {c0 : Code} {m0' : Nat} {rs0 : List ResultVar} [hfi : FnIs Tryz.prog kf c0 m0' rs0] (T : ATeller Tryz.prog kf cap X own R) :
    ∀ (n : Nat) {I : Heap} {t : Tree} {cs : List Value} (_ : SizeOf.sizeOf t < n) (_ : Rep I t cs) (x : X) (seen : List Txt) (_ : seen.length + t.size ≤ 4294967296) (_ : R x seen I) (L : Own),
    Fun Tryz.prog 38 [.agg cs.toArray, .func (.func kf) #[] cap.toArray] I (own x ++ L) (TP own R (seen ++ t.atomL) L) := by
  intro n
  induction n with
  | zero => intro I t cs h; omega
  | succ n ihn =>
    intro I t cs hlt h x seen hsl hx L
    obtain ⟨oa, c, oaf, cf, rfl, hf⟩ := h.at'
    have ha := hf.alen
    have hp := hf.len
    unfold maxN at hp
    refine fun_intro (by simp) ?_
    refine s_seq ?_
    refine o_enter rfl ?_
    refine o_box rfl rfl .free rfl ?_
    intro b2
    refine o_done ?_
    refine s_seq ?_
    refine s_seq ?_
    refine o_enter rfl ?_
    refine o_lOS rfl .free rfl ?_
    refine o_call rfl .free rfl (f_form_isAtom hf.rep _) ?_
    rintro _ _ _ _ ⟨rfl, rfl, rfl⟩
    refine o_done ?_
    refine s_cond rfl ?_ ?_
    · intro c0
      try simp only [nb] at c0
      have hps : t.parts = [] := by simpa using c0
      refine o_enter rfl ?_
      refine o_move rfl .free rfl ?_
      refine o_fieldAddr rfl .free rfl ?_
      refine o_lO1 rfl .free rfl ?_
      refine o_mem (fun w h => h.u1) ?_
      refine o_callv rfl rfl .free rfl (T.tell x seen t.atom _ _ hx ha (by have := t.size_one; omega)) ?_
      rintro _ J _ e1 ⟨rfl, x, hx, rfl⟩
      refine o_mem (fun w h => h.w1) ?_
      obtain ⟨s0, hs0, hx⟩ : ∃ s0, s0 ++ atomsL t.parts = t.atomL ∧ R x (seen ++ s0) J := ⟨[t.atom], by rw [hps, atomL_atom t hps]; rfl, hx⟩
      have hf := hf.mono e1
      have hle := e1
      refine o_done ?_
      refine s_seq ?_
      have hsz : s0.length + (atomsL t.parts).length = t.size := by rw [← t.atomL_len, ← hs0, List.length_append]
      refine o_enter rfl ?_
      refine o_fieldAddr rfl .free rfl ?_
      refine o_lO1 rfl .free rfl ?_
      refine o_len_slice rfl .free rfl ?_
      refine o_move rfl .free rfl ?_
      refine o_done ?_
      refine s_block ?_
      refine s_while (X := GX X) (fun y => t.parts.length - y.i) (fun y => [(1, .func (.func kf) #[] cap.toArray), (13, .slice oa t.parts.length c), (14, .int .i64 (t.parts.length : Nat)), (15, .int .i64 (y.i : Nat))]) (fun y => y.J) (fun y => (b2, .cells [.string (str t.atom), .slice oa t.parts.length c].toArray 43 (0, 0)) :: (own y.x ++ L)) (fun y => y.i ≤ t.parts.length ∧ HLe I y.J ∧ R y.x (seen ++ s0 ++ atomsL (t.parts.take y.i)) y.J) ⟨0, x, _⟩ ⟨Nat.zero_le _, hle, by simpa [atomsL] using hx⟩ ⟨rfl, rfl, rfl, rfl, trivial⟩ (by intro _ h; exact h) ?_
      rintro ⟨i, x1, J1⟩ ⟨hi, hle1, hx1⟩ ih
      simp only at hi hle1 hx1 ih ⊢
      have hf1 := h.mono hle1
      refine s_seq ?_
      refine o_enter rfl ?_
      refine o_cmp rfl rfl rfl .free rfl ?_
      refine o_done ?_
      refine s_seq ?_
      refine s_cond rfl ?_ ?_
      · intro c1
        try simp only [nb] at c1
        have hi1 : i < t.parts.length := by omega
        have hall := atomsL_take t.parts i hi1
        have hle3 : (atomsL (t.parts.take i)).length + (t.pt i).size ≤ (atomsL t.parts).length := by
          rw [Tree.pt_at hi1]
          have h1 := sizeL_append (t.parts.take i) (t.parts.drop i)
          rw [List.take_append_drop, List.drop_eq_getElem_cons hi1] at h1
          simp only [sizeL] at h1
          rw [atomsL_len, atomsL_len]; omega
        obtain ⟨oa2, c2, oaf2, cf2, he2, hf2⟩ := hf1.at'
        simp only [List.cons.injEq, Value.slice.injEq, and_true, true_and] at he2
        obtain ⟨rfl, rfl⟩ := he2
        refine s_skip ?_
        refine s_seq ?_
        refine s_block ?_
        refine s_seq ?_
        refine o_enter rfl ?_
        first | refine o_ixD rfl rfl _ rfl .free rfl ?_ | refine o_ixP rfl rfl _ rfl .free rfl ?_
        refine o_lIS rfl .free rfl ?_
        refine o_alloc .free rfl ?_
        intro b5
        refine o_st rfl rfl rfl rfl .free ?_
        refine o_done ?_
        refine o_enter rfl ?_
        refine o_lOS rfl .free rfl ?_
        refine o_move rfl .free rfl ?_
        refine o_mem (fun w h => h.u2) ?_
        refine o_call rfl .free rfl (ihn (t := t.pt i) (by have := t.pt_lt i hi1; omega) (hf2.rp i hi1) x1 _ (by simp only [List.length_append]; omega) hx1 _) ?_
        rintro _ J2 _ e2 ⟨rfl, x2, hx2, rfl⟩
        refine o_mem (fun w h => h.w1.drop.w1) ?_
        refine o_done ?_
        refine s_inBlock ?_
        refine o_enter rfl ?_
        refine o_arith rfl rfl rfl (by omega) .free rfl ?_
        refine o_move rfl .free rfl ?_
        refine o_done ?_
        refine s_env (E' := [(1, .func (.func kf) #[] cap.toArray), (13, .slice oa t.parts.length c), (14, .int .i64 (t.parts.length : Nat)), (15, .int .i64 ((i + 1 : Nat)))]) ⟨rfl, rfl, rfl, rfl, trivial⟩ (ih ⟨i + 1, x2, J2⟩ ⟨by simp only; omega, hle1.trans e2, by simp only; rw [hall, ← List.append_assoc, ← Tree.pt_at hi1]; exact hx2⟩ (by simp only; omega))
      intro c1
      try simp only [nb] at c1
      refine s_exit rfl ?_
      refine s_end .nil ?_
      have hi0 : i = t.parts.length := by omega
      subst hi0
      rw [List.take_length, List.append_assoc, hs0] at hx1
      exact ⟨J1, _, hle1, fun w h => h.drop, rfl, x1, hx1, rfl⟩
    intro c0
    try simp only [nb] at c0
    have hne : t.parts ≠ [] := by simpa using c0
    obtain ⟨s0, hs0, hx⟩ : ∃ s0, s0 ++ atomsL t.parts = t.atomL ∧ R x (seen ++ s0) I := ⟨[], by rw [atomsL_eq t hne]; rfl, by rw [List.append_nil]; exact hx⟩
    have hle : HLe I I := .refl _
    refine s_skip ?_
    refine s_seq ?_
    have hsz : s0.length + (atomsL t.parts).length = t.size := by rw [← t.atomL_len, ← hs0, List.length_append]
    refine o_enter rfl ?_
    refine o_fieldAddr rfl .free rfl ?_
    refine o_lO1 rfl .free rfl ?_
    refine o_len_slice rfl .free rfl ?_
    refine o_move rfl .free rfl ?_
    refine o_done ?_
    refine s_block ?_
    refine s_while (X := GX X) (fun y => t.parts.length - y.i) (fun y => [(1, .func (.func kf) #[] cap.toArray), (13, .slice oa t.parts.length c), (14, .int .i64 (t.parts.length : Nat)), (15, .int .i64 (y.i : Nat))]) (fun y => y.J) (fun y => (b2, .cells [.string (str t.atom), .slice oa t.parts.length c].toArray 43 (0, 0)) :: (own y.x ++ L)) (fun y => y.i ≤ t.parts.length ∧ HLe I y.J ∧ R y.x (seen ++ s0 ++ atomsL (t.parts.take y.i)) y.J) ⟨0, x, _⟩ ⟨Nat.zero_le _, hle, by simpa [atomsL] using hx⟩ ⟨rfl, rfl, rfl, rfl, trivial⟩ (by intro _ h; exact h) ?_
    rintro ⟨i, x1, J1⟩ ⟨hi, hle1, hx1⟩ ih
    simp only at hi hle1 hx1 ih ⊢
    have hf1 := h.mono hle1
    refine s_seq ?_
    refine o_enter rfl ?_
    refine o_cmp rfl rfl rfl .free rfl ?_
    refine o_done ?_
    refine s_seq ?_
    refine s_cond rfl ?_ ?_
    · intro c1
      try simp only [nb] at c1
      have hi1 : i < t.parts.length := by omega
      have hall := atomsL_take t.parts i hi1
      have hle3 : (atomsL (t.parts.take i)).length + (t.pt i).size ≤ (atomsL t.parts).length := by
        rw [Tree.pt_at hi1]
        have h1 := sizeL_append (t.parts.take i) (t.parts.drop i)
        rw [List.take_append_drop, List.drop_eq_getElem_cons hi1] at h1
        simp only [sizeL] at h1
        rw [atomsL_len, atomsL_len]; omega
      obtain ⟨oa2, c2, oaf2, cf2, he2, hf2⟩ := hf1.at'
      simp only [List.cons.injEq, Value.slice.injEq, and_true, true_and] at he2
      obtain ⟨rfl, rfl⟩ := he2
      refine s_skip ?_
      refine s_seq ?_
      refine s_block ?_
      refine s_seq ?_
      refine o_enter rfl ?_
      first | refine o_ixD rfl rfl _ rfl .free rfl ?_ | refine o_ixP rfl rfl _ rfl .free rfl ?_
      refine o_lIS rfl .free rfl ?_
      refine o_alloc .free rfl ?_
      intro b5
      refine o_st rfl rfl rfl rfl .free ?_
      refine o_done ?_
      refine o_enter rfl ?_
      refine o_lOS rfl .free rfl ?_
      refine o_move rfl .free rfl ?_
      refine o_mem (fun w h => h.u2) ?_
      refine o_call rfl .free rfl (ihn (t := t.pt i) (by have := t.pt_lt i hi1; omega) (hf2.rp i hi1) x1 _ (by simp only [List.length_append]; omega) hx1 _) ?_
      rintro _ J2 _ e2 ⟨rfl, x2, hx2, rfl⟩
      refine o_mem (fun w h => h.w1.drop.w1) ?_
      refine o_done ?_
      refine s_inBlock ?_
      refine o_enter rfl ?_
      refine o_arith rfl rfl rfl (by omega) .free rfl ?_
      refine o_move rfl .free rfl ?_
      refine o_done ?_
      refine s_env (E' := [(1, .func (.func kf) #[] cap.toArray), (13, .slice oa t.parts.length c), (14, .int .i64 (t.parts.length : Nat)), (15, .int .i64 ((i + 1 : Nat)))]) ⟨rfl, rfl, rfl, rfl, trivial⟩ (ih ⟨i + 1, x2, J2⟩ ⟨by simp only; omega, hle1.trans e2, by simp only; rw [hall, ← List.append_assoc, ← Tree.pt_at hi1]; exact hx2⟩ (by simp only; omega))
    intro c1
    try simp only [nb] at c1
    refine s_exit rfl ?_
    refine s_end .nil ?_
    have hi0 : i = t.parts.length := by omega
    subst hi0
    rw [List.take_length, List.append_assoc, hs0] at hx1
    exact ⟨J1, _, hle1, fun w h => h.drop, rfl, x1, hx1, rfl⟩
/-- The atoms that 'FormAtoms' has met, and the list of them. -/
def FB.met (bm bq bo : Nat) (x : FB) : Own := (bm, .cells [.map (some bq)].toArray 60 (0, 0)) :: (bq, metObj x.l) :: (bo, .cells [bufVal x.l.length x.c x.B].toArray 25 (0, 0)) :: bufOwn 9 (x.l.map sv) x.B
def FB.ats (x : FB) (seen : List Txt) (I : Heap) : Prop := x.l = addAll [] seen ∧ BufOk 1 x.l.length x.c (x.l.map sv) x.B ∧ ∀ s ∈ x.l, s.length ≤ maxN
theorem f_FormAtoms_1 (bm bq bo : Nat) (x : FB) (seen : List Txt) (s : Txt) (I : Heap) (L : Own) (hx : x.ats seen I) (hs : s.length ≤ maxN) (hl : seen.length < 4294967296) :
    Fun Tryz.prog 39 [.string (str s), .pointer (some ⟨bm, 0, none⟩), .pointer (some ⟨bo, 0, none⟩)] I (FB.met bm bq bo x ++ L) (fun v I' L' => v = .tuple #[] ∧ ∃ y : FB, y.ats (seen ++ [s]) I' ∧ L' = FB.met bm bq bo y ++ L) := by
  obtain ⟨l, B, c⟩ := x
  obtain ⟨hl1, hB, hn⟩ := hx
  simp only at hl1 hB hn
  have hll := addAll_len [] seen
  rw [← hl1] at hll
  simp only [List.length_nil, Nat.zero_add] at hll
  unfold FB.met
  simp only [List.cons_append]
  refine fun_intro (by simp) ?_
  refine s_seq ?_
  refine o_enter rfl ?_
  refine o_load rfl (loads_own1 (cs := [.map (some bq)]) m0 (by rfl) (by rfl)) .free rfl ?_
  refine o_move rfl .free rfl ?_
  refine o_lookup rfl rfl ⟨_, rfl, rfl⟩ (fun w h => (h.2.1 _ m1).1) .free rfl ?_
  refine o_not rfl .free rfl ?_
  refine o_done ?_
  refine s_cond rfl ?_ ?_
  · intro c0
    try simp only [nb] at c0
    have hadd : addAll [] (seen ++ [s]) = l ++ [s] := by rw [addAll_append, ← hl1]; simp [addAll, addOnce, c0]
    refine s_seq ?_
    refine o_enter rfl ?_
    refine o_load rfl (loads_own1 (cs := [.map (some bq)]) m0 (by rfl) (by rfl)) .free rfl ?_
    refine o_move rfl .free rfl ?_
    refine o_mapUpdate rfl rfl rfl c0 u1 .free ?_
    refine o_done ?_
    refine o_enter rfl ?_
    refine o_load rfl (loads_own1 (cs := [bufVal l.length c B]) m2 (by rfl) (by cases B <;> rfl)) .free rfl ?_
    refine o_move rfl .free rfl ?_
    refine o_lits rfl rfl (by rfl) (by rfl) (by rfl) (by decide) (by decide) (by rfl) .free rfl ?_
    intro b12
    refine o_append (B := B) (xs := l.map sv) (ys := [sv s]) (m := l.length) (c := c) (by intro kk; simp) (by rfl) rfl rfl hB (fun _ h => h.u4) (by rfl) (fun a ha => by cases ha; exact reads_ownL (.head _) (by rfl)) (by simp) (by rfl) (by decide) (by decide) (by omega) (by decide) .free rfl ?_
    intro bb sp c2 hB'
    refine o_store rfl rfl rfl rfl (by rfl) u4 (by rfl) .free ?_
    refine o_done ?_
    refine s_end .nil ?_
    first
      | exact ⟨I, _, .refl _, fun w h => h, rfl, ⟨l, B, c⟩, ⟨hadd.symm, hB, hn⟩, rfl⟩
      | exact ⟨I, _, .refl _, fun w h => Mem.drop (Mem.u1 (X := [_, _, _, _]) h), rfl, ⟨l ++ [s], some (bb, sp), c2⟩, ⟨hadd.symm, by simpa using hB', by intro z hz; rcases List.mem_append.1 hz with h | h; exact hn z h; rw [List.mem_singleton.1 h]; exact hs⟩, by simp [bufOwn, bufVal]⟩
  intro c0
  try simp only [nb] at c0
  have hadd : addAll [] (seen ++ [s]) = l := by rw [addAll_append, ← hl1]; simp [addAll, addOnce, c0]
  refine s_skip ?_
  refine s_end .nil ?_
  first
    | exact ⟨I, _, .refl _, fun w h => h, rfl, ⟨l, B, c⟩, ⟨hadd.symm, hB, hn⟩, rfl⟩
    | exact ⟨I, _, .refl _, fun w h => Mem.drop (Mem.u1 (X := [_, _, _, _]) h), rfl, ⟨l ++ [s], some (bb, sp), c2⟩, ⟨hadd.symm, by simpa using hB', by intro z hz; rcases List.mem_append.1 hz with h | h; exact hn z h; rw [List.mem_singleton.1 h]; exact hs⟩, by simp [bufOwn, bufVal]⟩
theorem atoms_teller (bm bq bo : Nat) : ATeller Tryz.prog 39 [.pointer (some ⟨bm, 0, none⟩), .pointer (some ⟨bo, 0, none⟩)] FB (FB.met bm bq bo) FB.ats :=
  ⟨fun x seen s I L hx hs hl => f_FormAtoms_1 bm bq bo x seen s I L hx hs hl, fun x seen I I' _ h => h⟩
theorem f_FormAtoms (s : Txt) (hs : s.length ≤ maxN) (I : Heap) (L : Own) : Fun Tryz.prog 14 [.string (str s)] I L (EF (atomsOf s) L) := by
  have hT := fun bm bq bo => atoms_teller bm bq bo
  refine fun_intro (by simp) ?_
  refine s_seq ?_
  refine o_enter rfl ?_
  refine o_assign rfl .free rfl ?_
  refine o_assign rfl .free rfl ?_
  refine o_done ?_
  refine s_seq ?_
  refine o_enter rfl ?_
  refine o_move rfl .free rfl ?_
  refine o_call rfl .free rfl (f_read s hs _ _) ?_
  rintro _ J _ e1 ⟨t, cs, ok, rfl, hrep, rfl, hpf⟩
  obtain ⟨o1, k1, _, rfl, -⟩ := hrep.open
  refine o_move rfl .free rfl ?_
  refine o_extract rfl rfl .free rfl ?_
  refine o_extract rfl rfl .free rfl ?_
  refine o_alloc .free rfl ?_
  intro b4
  refine o_st rfl rfl rfl rfl .free ?_
  refine o_assign rfl .free rfl ?_
  refine o_done ?_
  refine s_seq ?_
  refine s_seq ?_
  refine o_enter rfl ?_
  refine o_move rfl .free rfl ?_
  refine o_not rfl .free rfl ?_
  refine o_done ?_
  refine s_cond rfl ?_ ?_
  · intro c0
    try simp only [nb] at c0
    refine s_seq ?_
    refine o_enter rfl ?_
    refine o_assign rfl .free rfl ?_
    refine o_assign rfl .free rfl ?_
    refine o_done ?_
    refine s_ret (.tmp rfl (.tmp rfl .nil)) ?_
    have : atomsOf s = none := by
        unfold atomsOf
        cases hp : parse s with
        | none => rfl
        | some t0 => rw [hp] at hpf; rw [hpf.1] at c0; cases c0
    exact ⟨J, L, e1, drops, none, 0, by rw [this]; rfl, by rw [this]; exact strs_nil _, rfl⟩
  intro c0
  try simp only [nb] at c0
  have hps := RD_some hpf c0
  have hpg := parse_good hps
  have hpz := parse_size hps
  have hat : atomsOf s = some (addAll [] t.atomL) := by unfold atomsOf; rw [hps]; rfl
  refine s_skip ?_
  refine s_seq ?_
  refine o_enter rfl ?_
  refine o_alloc .free rfl ?_
  intro b6
  refine o_done ?_
  refine s_seq ?_
  refine o_enter rfl ?_
  refine o_makeMap .free rfl ?_
  intro bq
  refine o_alloc .free rfl ?_
  intro b7
  refine o_st rfl rfl rfl rfl .free ?_
  refine o_done ?_
  refine s_seq ?_
  refine o_enter rfl ?_
  refine o_lOS rfl .free rfl ?_
  refine o_makeFunc rfl rfl .free rfl ?_
  refine o_mem (L' := FB.met b7 bq b6 ⟨[], none, 0⟩ ++ _) (fun w h => h) ?_
  refine o_call rfl .free rfl (f_form_atoms (hT b7 bq b6) _ (Nat.lt_succ_self _) hrep ⟨[], none, 0⟩ [] (by simp; omega) ⟨rfl, ⟨rfl, rfl, rfl⟩, by simp⟩ _) ?_
  rintro _ J1 _ e2 ⟨rfl, ⟨l, B, c2⟩, ⟨hl, hB, hn⟩, rfl⟩
  simp only at hl hB hn
  simp only [FB.met, List.cons_append]
  refine o_done ?_
  refine s_seq ?_
  refine o_enter rfl ?_
  refine o_load rfl (loads_own1 (cs := [bufVal l.length c2 B]) m2 (by rfl) (by cases B <;> rfl)) .free rfl ?_
  refine o_assign rfl .free rfl ?_
  refine o_assign rfl .free rfl ?_
  refine o_done ?_
  have hll := addAll_len [] t.atomL
  simp only [List.nil_append] at hl
  rw [← hl, Tree.atomL_len] at hll
  simp only [List.length_nil, Nat.zero_add] at hll
  refine s_mem (fun w h => h.u3) (s_freezeStrs hB rfl (by unfold maxN; omega) hn ?_)
  intro J2 oz cz ez hbv hst
  refine s_put (t := 2) rfl hbv ?_
  refine s_ret (.tmp rfl (.tmp rfl .nil)) ?_
  exact ⟨J2, L, (e1.trans e2).trans ez, drops, oz, cz, by rw [hat, ← hl]; rfl, by rw [hat, ← hl]; exact hst, rfl⟩
end Go.Proofs.YtpbnimmbenagpaaGreat


/- A list's text, a valid environment by the program. No conditions. -/
namespace Go.Proofs.YtpbnimmbenagpaaGreat
set_option maxRecDepth 100000
set_option linter.unusedVariables false
set_option linter.unusedSimpArgs false

theorem x_hasText {I : Heap} {oa : Option Addr} {l : List Txt} {c : Nat} (h : Strs I oa l c) (s : Txt) (L : Own) :
    Fun Tryz.prog 15 [.slice oa l.length c, .string (str s)] I L (Only (.bool (decide (s ∈ l))) I L) := by
  have hlen := h.len
  unfold maxN at hlen
  refine fun_intro (by simp) ?_
  refine s_seq ?_
  refine o_enter rfl ?_
  refine o_assign rfl .free rfl ?_
  refine o_done ?_
  refine s_seq ?_
  refine s_seq ?_
  refine o_enter rfl ?_
  refine o_assign rfl .free rfl ?_
  refine o_done ?_
  refine s_block ?_
  refine s_while (X := Nat) (fun i => l.length - i) (fun i => [(0, .slice oa l.length c), (1, .string (str s)), (5, .int .i64 (i : Nat))]) (fun _ => I) (fun _ => L) (fun i => i ≤ l.length ∧ s ∉ l.take i) 0 ⟨by simp, by simp⟩ ⟨rfl, rfl, rfl, trivial⟩ (fun _ h => h) ?_
  rintro i ⟨hi, hs⟩ ih
  refine s_seq ?_
  refine s_seq ?_
  refine o_enter rfl ?_
  refine o_move rfl .free rfl ?_
  refine o_move rfl .free rfl ?_
  refine o_len_slice rfl .free rfl ?_
  refine o_cmp rfl rfl rfl .free rfl ?_
  refine o_done ?_
  first | refine s_if rfl ?_ ?_ | refine s_ifn rfl ?_ ?_ | refine s_cond rfl ?_ ?_
  · intro c0
    obtain ⟨x, hx, hst⟩ := h.at i (by omega)
    refine s_skip ?_
    refine s_seq ?_
    refine s_block ?_
    refine s_seq ?_
    refine o_enter rfl ?_
    refine o_move rfl .free rfl ?_
    refine o_move rfl .free rfl ?_
    refine o_indexAddr' rfl rfl _ rfl (by first | omega | exact lt_of (by assumption) (by decide) | (simp; done) | (simp; omega) | decide | (simp at *; omega)) (by first | rfl | assumption) .free rfl ?_
    refine o_lS rfl .free rfl ?_
    refine o_move rfl .free rfl ?_
    refine o_cmps rfl rfl rfl .free rfl ?_
    refine o_done ?_
    first | refine s_if rfl ?_ ?_ | refine s_ifn rfl ?_ ?_ | refine s_cond rfl ?_ ?_
    · intro c1
      refine s_seq ?_
      refine o_enter rfl ?_
      refine o_assign rfl .free rfl ?_
      refine o_done ?_
      refine s_ret (.tmp rfl .nil) ?_
      refine only rfl ?_
      have : s ∈ l := by have h2 := List.getElem_mem (show i < l.length by omega); rwa [c1] at h2
      simp [retOne, this]
    intro c1
    refine s_skip ?_
    refine s_inBlock ?_
    refine o_enter rfl ?_
    refine o_move rfl .free rfl ?_
    refine o_arith rfl rfl rfl (by omega) .free rfl ?_
    refine o_assign rfl .free rfl ?_
    refine o_done ?_
    refine s_env (E' := [(0, .slice oa l.length c), (1, .string (str s)), (5, .int .i64 ((i + 1 : Nat)))]) ⟨rfl, rfl, rfl, trivial⟩ (ih (i + 1) ⟨by omega, ?_⟩ (by omega))
    rw [List.take_succ_eq_append_getElem (by omega), List.mem_append]
    rintro (h1 | h1)
    · exact hs h1
    · exact c1 (List.mem_singleton.1 h1).symm
  intro c0
  refine s_exit rfl ?_
  refine s_seq ?_
  refine o_enter rfl ?_
  refine o_assign rfl .free rfl ?_
  refine o_done ?_
  refine s_ret (.tmp rfl .nil) ?_
  refine only rfl ?_
  have : s ∉ l := by rwa [List.take_of_length_le (by omega)] at hs
  simp [retOne, this]

end Go.Proofs.YtpbnimmbenagpaaGreat


/- The walk of the statement 'FnPath'. No conditions. -/
namespace Go.Proofs.YtpbnimmbenagpaaGreat
set_option maxRecDepth 100000
set_option linter.unusedVariables false
set_option linter.unusedSimpArgs false

theorem path_atoms : ∀ {e : Ex} {s : Txt}, s ∈ e.path → s ∈ e.tree.atomL
  | .num _, s, h => by cases h
  | .name _, s, h => by cases h
  | .bin _ _ _, s, h => by cases h
  | .ite _ _ _, s, h => by cases h
  | .fn _ _ _ _ _, s, h => by cases h
  | .un _ _, s, h => by cases h
  | .lt x a b, s, h => by
    simp only [Ex.tree, Tree.atomL, atomsL, List.mem_append, List.mem_singleton, List.append_nil]
    rcases List.mem_cons.1 h with rfl | h
    · exact .inr (.inl rfl)
    · exact .inr (.inr (.inr (path_atoms (e := b) h)))
theorem atomsOf_ex {s : Txt} {e : Ex} (h : exOf s = some e) : atomsOf s = some (addAll [] e.tree.atomL) := by unfold atomsOf; rw [parse_ex h]; rfl
theorem law_FnPath {I : Heap} {oa : Option Addr} {code : List UInt8} {c : Nat} (h : Bytes I oa code c) (L : Own) : Fun Tryz.prog 4 [.slice oa code.length c] I L (YES L) := by
  have hlen := h.len
  refine fun_intro (by simp) ?_
  refine s_seq ?_
  refine o_enter rfl ?_
  refine o_assign rfl .free rfl ?_
  refine o_done ?_
  refine s_seq ?_
  refine s_seq ?_
  refine o_enter rfl ?_
  refine o_move rfl .free rfl ?_
  refine o_len_slice rfl .free rfl ?_
  refine o_cmp rfl rfl rfl .free rfl ?_
  refine o_done ?_
  refine s_cond rfl ?_ ?_
  · intro c0
    try simp only [nb] at c0
    refine s_seq ?_
    refine o_enter rfl ?_
    refine o_assign rfl .free rfl ?_
    refine o_done ?_
    refine s_ret (.tmp rfl .nil) ?_
    exact ⟨I, L, .refl _, fun _ h => h, rfl, rfl⟩
  intro c0
  try simp only [nb] at c0
  refine s_skip ?_
  refine s_seq ?_
  refine o_enter rfl ?_
  refine o_move rfl .free rfl ?_
  refine o_call rfl .free rfl (g_DrawNormalPath h _) ?_
  rintro _ J1 _ e1 ⟨s, rfl, hsl, rfl⟩
  have hs : s.length ≤ maxN := by unfold maxN; omega
  refine o_assign rfl .free rfl ?_
  refine o_done ?_
  refine s_seq ?_
  refine o_enter rfl ?_
  refine o_move rfl .free rfl ?_
  refine o_call rfl .free rfl (f_NormalPath s hs _ _) ?_
  rintro _ J2 _ e2 ⟨oo, co, rfl, ho, rfl⟩
  refine o_move rfl .free rfl ?_
  iterate 3 refine o_extract rfl rfl .free rfl ?_
  iterate 3 refine o_assign rfl .free rfl ?_
  refine o_done ?_
  refine s_seq ?_
  refine o_enter rfl ?_
  refine o_move rfl .free rfl ?_
  refine o_call rfl .free rfl (g_NormalPath s (maxN_maxL hs) _ _) ?_
  rintro _ J3 _ e3 ⟨ow, cw, rfl, hw, rfl⟩
  have hle := (e1.trans e2).trans e3
  have ho := ho.mono e3
  refine o_move rfl .free rfl ?_
  iterate 3 refine o_extract rfl rfl .free rfl ?_
  iterate 3 refine o_assign rfl .free rfl ?_
  refine o_done ?_
  refine s_seq ?_
  refine s_seq ?_
  refine o_enter rfl ?_
  refine o_move rfl .free rfl ?_
  refine o_move rfl .free rfl ?_
  refine o_cmpb rfl rfl rfl .free rfl ?_
  refine o_move rfl .free rfl ?_
  apply o_or 33 38 rfl
  · intro g6_4 hk
    try simp only [nb] at g6_4
    refine o_move rfl (.met rfl rfl) rfl ?_
    refine o_move rfl (.met rfl rfl) rfl ?_
    refine o_call rfl (.met rfl rfl) rfl (x_sameTexts ho hw _) ?_
    rintro _ _ _ _ ⟨rfl, rfl, rfl⟩
    refine o_not rfl (.met rfl rfl) rfl ?_
    refine o_pick_false rfl rfl .free rfl ?_
    exact o_fin 4 rfl rfl hk
  · intro _ hk
    refine o_skips 4 rfl ?_
    refine o_pick_true rfl rfl .free rfl ?_
    exact o_fin 4 rfl rfl hk
  refine o_move rfl .free rfl ?_
  apply o_or 39 43 rfl
  · intro g6_10 hk
    try simp only [nb] at g6_10
    refine o_move rfl (.met rfl rfl) rfl ?_
    refine o_move rfl (.met rfl rfl) rfl ?_
    refine o_cmps rfl rfl rfl (.met rfl rfl) rfl ?_
    refine o_pick_false rfl rfl .free rfl ?_
    exact o_fin 3 rfl rfl hk
  · intro _ hk
    refine o_skips 3 rfl ?_
    refine o_pick_true rfl rfl .free rfl ?_
    exact o_fin 3 rfl rfl hk
  refine o_move rfl .free rfl ?_
  apply o_or 44 47 rfl
  · intro g6_15 hk
    try simp only [nb] at g6_15
    refine o_move rfl (.met rfl rfl) rfl ?_
    refine o_not rfl (.met rfl rfl) rfl ?_
    refine o_pick_false rfl rfl .free rfl ?_
    exact o_fin 2 rfl rfl hk
  · intro _ hk
    refine o_skips 2 rfl ?_
    refine o_pick_true rfl rfl .free rfl ?_
    exact o_fin 2 rfl rfl hk
  refine o_done ?_
  refine s_cond rfl ?_ ?_
  · intro c1
    try simp only [nb] at c1
    refine s_seq ?_
    refine o_enter rfl ?_
    refine o_move rfl .free rfl ?_
    refine o_move rfl .free rfl ?_
    refine o_cmpb rfl rfl rfl .free rfl ?_
    refine o_move rfl .free rfl ?_
    apply o_and 51 55 rfl
    · intro g7_4 hk
      try simp only [nb] at g7_4
      refine o_move rfl (.met rfl rfl) rfl ?_
      refine o_move rfl (.met rfl rfl) rfl ?_
      refine o_call rfl (.met rfl rfl) rfl (x_sameTexts ho hw _) ?_
      rintro _ _ _ _ ⟨rfl, rfl, rfl⟩
      refine o_pick_true rfl rfl .free rfl ?_
      exact o_fin 3 rfl rfl hk
    · intro _ hk
      refine o_skips 3 rfl ?_
      refine o_pick_false rfl rfl .free rfl ?_
      exact o_fin 3 rfl rfl hk
    refine o_move rfl .free rfl ?_
    apply o_and 56 60 rfl
    · intro g7_9 hk
      try simp only [nb] at g7_9
      refine o_move rfl (.met rfl rfl) rfl ?_
      refine o_move rfl (.met rfl rfl) rfl ?_
      refine o_cmps rfl rfl rfl (.met rfl rfl) rfl ?_
      refine o_pick_true rfl rfl .free rfl ?_
      exact o_fin 3 rfl rfl hk
    · intro _ hk
      refine o_skips 3 rfl ?_
      refine o_pick_false rfl rfl .free rfl ?_
      exact o_fin 3 rfl rfl hk
    refine o_assign rfl .free rfl ?_
    refine o_done ?_
    refine s_ret (.tmp rfl .nil) ?_
    refine ⟨J3, L, hle, drops, ?_, rfl⟩
    simp [retOne]
  intro c1
  try simp only [nb] at c1
  obtain ⟨e, hne⟩ : ∃ e, normOf true s = some e := by
    cases hx : normOf true s with
    | none => rw [pathOf_none hx] at c1; simp at c1
    | some e => exact ⟨e, rfl⟩
  have hx := normOf_some hne
  have hpz := e.path_size
  have hsz := (exOf_is hx.1).2.2.1
  clear c1
  rw [pathOf_some hne] at ho
  rw [pathOf_some hne]
  simp only [Option.getD_some, Option.isSome_some] at ho ⊢
  have hlf := Ex.last_fine (exOf_is hx.1).1
  have hlx := exOf_fine hlf
  have hll : e.last.tree.text.length ≤ maxN := by have := (exOf_is hlx).2.2.2.1; rw [Tree.text_len]; unfold maxN; omega
  have hln : exNorm false e.last.tree.text = true := by rw [exNorm_some hlx]; exact (Ex.last_norm hx.2.1).1
  refine s_skip ?_
  refine s_seq ?_
  refine o_enter rfl ?_
  refine o_move rfl .free rfl ?_
  refine o_call rfl .free rfl (f_FormAtoms s hs _ _) ?_
  rintro _ J4 _ e4 ⟨oa4, ca4, rfl, hat, rfl⟩
  rw [atomsOf_ex hx.1] at hat
  rw [atomsOf_ex hx.1]
  simp only [Option.getD_some, Option.isSome_some] at hat ⊢
  have ho := ho.mono e4
  have hle := hle.trans e4
  refine o_move rfl .free rfl ?_
  refine o_extract rfl rfl .free rfl ?_
  refine o_extract rfl rfl .free rfl ?_
  refine o_assign rfl .free rfl ?_
  refine o_assign rfl .free rfl ?_
  refine o_done ?_
  refine s_seq ?_
  refine s_seq ?_
  refine o_enter rfl ?_
  refine o_assign rfl .free rfl ?_
  refine o_done ?_
  refine s_block ?_
  refine s_while (X := Nat) (fun i => e.path.length - i) (fun i => [(3, .string (str s)), (4, .slice oo e.path.length co), (5, .string (str e.last.tree.text)), (10, .slice oa4 (addAll [] e.tree.atomL).length ca4), (11, .bool true), (12, .int .i64 (i : Nat))]) (fun _ => J4) (fun _ => L) (fun i => i ≤ e.path.length) 0 (Nat.zero_le _) ⟨rfl, rfl, rfl, rfl, rfl, rfl, trivial⟩ (fun _ h => h) ?_
  rintro i hi ih
  refine s_seq ?_
  refine s_seq ?_
  refine o_enter rfl ?_
  refine o_move rfl .free rfl ?_
  refine o_move rfl .free rfl ?_
  refine o_len_slice rfl .free rfl ?_
  refine o_cmp rfl rfl rfl .free rfl ?_
  refine o_done ?_
  refine s_cond rfl ?_ ?_
  · intro c2
    try simp only [nb] at c2
    have hi1 : i < e.path.length := by omega
    have hst := ho.st i hi1
    have hmem : e.path.getD i [] ∈ addAll [] e.tree.atomL := by
      rw [addAll_mem]; exact .inr (path_atoms (by rw [show e.path.getD i [] = e.path[i] by simp [hi1]]; exact List.getElem_mem _))
    refine s_skip ?_
    refine s_seq ?_
    refine s_block ?_
    refine s_seq ?_
    refine o_enter rfl ?_
    iterate 3 refine o_move rfl .free rfl ?_
    first | refine o_ixD rfl rfl _ rfl .free rfl ?_ | refine o_ixP rfl rfl _ rfl .free rfl ?_
    refine o_lI1 rfl .free rfl ?_
    refine o_call rfl .free rfl (x_hasText hat _ _) ?_
    rintro _ _ _ _ ⟨rfl, rfl, rfl⟩
    refine o_not rfl .free rfl ?_
    refine o_done ?_
    first | refine s_fp rfl hmem ?_ | refine s_fn rfl hmem ?_ | refine s_false (by simp [look, opd, *]) ?_
    refine s_skip ?_
    refine s_inBlock ?_
    refine o_enter rfl ?_
    refine o_move rfl .free rfl ?_
    refine o_arith rfl rfl rfl (by omega) .free rfl ?_
    refine o_assign rfl .free rfl ?_
    refine o_done ?_
    exact s_env (E' := [(3, .string (str s)), (4, .slice oo e.path.length co), (5, .string (str e.last.tree.text)), (10, .slice oa4 (addAll [] e.tree.atomL).length ca4), (11, .bool true), (12, .int .i64 ((i + 1 : Nat)))]) ⟨rfl, rfl, rfl, rfl, rfl, rfl, trivial⟩ (ih (i + 1) (by omega) (by omega))
  intro c2
  try simp only [nb] at c2
  refine s_exit rfl ?_
  refine s_seq ?_
  refine o_enter rfl ?_
  refine o_move rfl .free rfl ?_
  refine o_move rfl .free rfl ?_
  apply o_and 80 83 rfl
  · intro g14_2 hk
    try simp only [nb] at g14_2
    refine o_move rfl (.met rfl rfl) rfl ?_
    refine o_call rfl (.met rfl rfl) rfl (f_SimpleIs _ hll _ _) ?_
    rintro _ J5 _ e5 ⟨rfl, rfl⟩
    refine o_mem (fun w h => Mem.le e5 h) ?_
    refine o_pick_true rfl rfl .free rfl ?_
    exact o_fin 2 rfl rfl hk
  · intro _ hk
    refine o_skips 2 rfl ?_
    refine o_pick_false rfl rfl .free rfl ?_
    exact o_fin 2 rfl rfl hk
  refine o_move rfl .free rfl ?_
  apply o_and 84 94 rfl
  · intro g14_6 hk
    try simp only [nb] at g14_6
    refine o_move rfl (.met rfl rfl) rfl ?_
    refine o_call rfl (.met rfl rfl) rfl (f_FormSize _ hll _ _) ?_
    rintro _ J6 _ e6 ⟨rfl, rfl⟩
    rw [sizeOfT_ex hlx]
    refine o_mem (fun w h => Mem.le e6 h) ?_
    refine o_move rfl (.met rfl rfl) rfl ?_
    refine o_len_slice rfl (.met rfl rfl) rfl ?_
    refine o_arith rfl rfl rfl (by omega) (.met rfl rfl) rfl ?_
    refine o_arith rfl rfl rfl (by omega) (.met rfl rfl) rfl ?_
    refine o_move rfl (.met rfl rfl) rfl ?_
    refine o_call rfl (.met rfl rfl) rfl (f_FormSize s hs _ _) ?_
    rintro _ J7 _ e7 ⟨rfl, rfl⟩
    rw [sizeOfT_ex hx.1]
    refine o_mem (fun w h => Mem.le e7 h) ?_
    refine o_cmp rfl rfl rfl (.met rfl rfl) rfl ?_
    refine o_pick_true rfl rfl .free rfl ?_
    exact o_fin 9 rfl rfl hk
  · intro _ hk
    refine o_skips 9 rfl ?_
    refine o_pick_false rfl rfl .free rfl ?_
    exact o_fin 9 rfl rfl hk
  refine o_assign rfl .free rfl ?_
  refine o_done ?_
  refine s_ret (.tmp rfl .nil) ?_
  refine ⟨J4, L, hle, drops, ?_, rfl⟩
  have h3 : (e.last.size : Int) + (e.path.length : Int) * 3 ≤ (e.size : Int) := by omega
  simp [retOne, hln, h3]
end Go.Proofs.YtpbnimmbenagpaaGreat
