/- 'NormalJoin', by the program and by the reference. No conditions. -/
import Derived.Test.YtdnmhgiaebbppaaGreatG14
namespace Go.Proofs.YtdnmhgiaebbppaaGreat
set_option maxRecDepth 100000
set_option linter.unusedVariables false
set_option linter.unusedSimpArgs false

structure NS where
  I : Heap
  i : Nat
  B : Buf
  c : Nat
  xs : List Value
theorem exNorm_of {b : Bool} {s : Txt} {e : Ex} (h : exOf s = some e) : exNorm b s = e.norm b := by
  unfold exNorm normOf; rw [h]; cases hn : e.norm b <;> simp [hn]
theorem normOf_of {b : Bool} {s : Txt} {e : Ex} (h : exOf s = some e) (hn : e.norm b = true) : normOf b s = some e := by
  unfold normOf; rw [h]; simp [hn]
theorem joinOf_none {l m : List Txt} {s : Txt} (h : normOf true s = none) : joinOf l m s = none := by unfold joinOf; rw [h]
theorem joinOf_some {l m : List Txt} {s : Txt} {f : Ex} (h : normOf true s = some f) : joinOf l m s = if l.length = m.length ∧ l.all isName = true ∧ m.all (exNorm false) = true ∧ (lets (pairsOf l m) f).fine = true then some (lets (pairsOf l m) f).tree.text else none := by unfold joinOf; rw [h]
theorem joinOf_bad {l m : List Txt} {s : Txt} (h : ¬ (l.length = m.length ∧ l.all isName = true ∧ m.all (exNorm false) = true)) : joinOf l m s = none := by
  unfold joinOf
  cases normOf true s with
  | none => rfl
  | some f => exact if_neg fun hh => h ⟨hh.1, hh.2.1, hh.2.2.1⟩
theorem not_all_name {l : List Txt} {i : Nat} (hi : i < l.length) (h : isName (l.getD i []) = false) : ¬ l.all isName = true := by
  intro hh
  have := List.all_eq_true.1 hh _ (List.getElem_mem hi)
  simp [hi] at h; rw [h] at this; cases this
theorem not_all_simple {l : List Txt} {i : Nat} (hi : i < l.length) (h : exNorm false (l.getD i []) = false) : ¬ l.all (exNorm false) = true := by
  intro hh
  have := List.all_eq_true.1 hh _ (List.getElem_mem hi)
  simp [hi] at h; rw [h] at this; cases this
theorem pairs_take {l m : List Txt} {i : Nat} (hl : i < l.length) (hm : i < m.length) : (pairsOf l m).take (i + 1) = (pairsOf l m).take i ++ [pairOf (l.getD i []) (m.getD i [])] := by
  have hi : i < (pairsOf l m).length := by simp [pairsOf]; omega
  rw [List.take_succ_eq_append_getElem hi, pairsOf_at hl hm hi]
theorem take_all_at {l : List Txt} {p : Txt → Bool} {i : Nat} (hi : i < l.length) (h : (l.take i).all p = true) (hp : p (l.getD i []) = true) : (l.take (i + 1)).all p = true := by
  rw [List.take_succ_eq_append_getElem hi, List.all_append, h]
  simp [hi] at hp; simp [hp]

theorem f_NormalJoin {I : Heap} {oa ob : Option Addr} {l m : List Txt} {c c' : Nat} (h : Strs I oa l c) (h' : Strs I ob m c') (s : Txt) (hs : s.length ≤ maxN) (L : Own) :
    Fun Tryz.prog 5 [.slice oa l.length c, .slice ob m.length c', .string (str s)] I L (EL (joinOf l m s) L) := by
  have hlen := h.len
  have hlen' := h'.len
  unfold maxN at hlen hlen'
  refine fun_intro (by simp) ?_
  refine s_seq ?_
  refine o_enter rfl ?_
  refine o_assign rfl .free rfl ?_
  refine o_assign rfl .free rfl ?_
  refine o_done ?_
  refine s_seq ?_
  refine o_enter rfl ?_
  refine o_move rfl .free rfl ?_
  refine o_call rfl .free rfl (f_readNormal s hs _ _) ?_
  rintro _ J0 _ e0 ⟨t, cs, ok, rfl, hrep, rfl, hpf⟩
  obtain ⟨of, cf, vs, rfl, -⟩ := hrep.open
  refine o_move rfl .free rfl ?_
  refine o_extract rfl rfl .free rfl ?_
  refine o_extract rfl rfl .free rfl ?_
  refine o_alloc .free rfl ?_
  intro b8
  refine o_st rfl rfl rfl rfl .free ?_
  refine o_assign rfl .free rfl ?_
  refine o_done ?_
  refine s_seq ?_
  refine s_seq ?_
  refine o_enter rfl ?_
  refine o_move rfl .free rfl ?_
  refine o_not rfl .free rfl ?_
  refine o_move rfl .free rfl ?_
  apply o_or 23 29 rfl
  · intro g2_3 hk
    try simp only [nb] at g2_3
    refine o_move rfl (.met rfl rfl) rfl ?_
    refine o_len_slice rfl (.met rfl rfl) rfl ?_
    refine o_move rfl (.met rfl rfl) rfl ?_
    refine o_len_slice rfl (.met rfl rfl) rfl ?_
    refine o_cmp rfl rfl rfl (.met rfl rfl) rfl ?_
    refine o_pick_false rfl rfl .free rfl ?_
    exact o_fin 5 rfl rfl hk
  · intro _ hk
    refine o_skips 5 rfl ?_
    refine o_pick_true rfl rfl .free rfl ?_
    exact o_fin 5 rfl rfl hk
  refine o_move rfl .free rfl ?_
  apply o_or 30 34 rfl
  · intro g2_10 hk
    try simp only [nb] at g2_10
    refine o_move rfl (.met rfl rfl) rfl ?_
    refine o_len_slice rfl (.met rfl rfl) rfl ?_
    refine o_cmp rfl rfl rfl (.met rfl rfl) rfl ?_
    refine o_pick_false rfl rfl .free rfl ?_
    exact o_fin 3 rfl rfl hk
  · intro _ hk
    refine o_skips 3 rfl ?_
    refine o_pick_true rfl rfl .free rfl ?_
    exact o_fin 3 rfl rfl hk
  refine o_done ?_
  refine s_cond rfl ?_ ?_
  · intro c0
    try simp only [nb] at c0
    refine s_seq ?_
    refine o_enter rfl ?_
    refine o_assign rfl .free rfl ?_
    refine o_assign rfl .free rfl ?_
    refine o_done ?_
    refine s_ret (.tmp rfl (.tmp rfl .nil)) ?_
    refine ⟨J0, L, e0, drops, ?_, rfl⟩
    have : joinOf l m s = none := by
      cases hn : normOf true s with
      | none => exact joinOf_none hn
      | some f =>
        rw [hn] at hpf
        have hlm : ¬ l.length = m.length ∨ 120 < l.length := by
          rcases c0 with (h1 | h1) | h1
          · rw [hpf.1] at h1; cases h1
          · exact .inl (by omega)
          · exact .inr (by omega)
        rcases hlm with h1 | h1
        · exact joinOf_bad fun hh => h1 hh.1
        · by_cases hl : l.length = m.length
          · rw [joinOf_some hn, if_neg]
            rintro ⟨_, _, _, hf⟩
            simp only [Ex.fine, Bool.and_eq_true, decide_eq_true_eq] at hf
            have h2 := lets_size (pairsOf l m) f
            rw [pairsOf_length hl] at h2
            omega
          · exact joinOf_bad fun hh => hl hh.1
    rw [this]; rfl
  intro c0
  try simp only [nb] at c0
  obtain ⟨⟨hok, hlm⟩, hl120⟩ := c0
  have hlm : l.length = m.length := by omega
  obtain ⟨f, hn, rfl⟩ : ∃ f, normOf true s = some f ∧ t = f.tree := by
    cases hn : normOf true s with
    | none => rw [hn] at hpf; rw [hpf] at hok; cases hok
    | some f => rw [hn] at hpf; exact ⟨f, rfl, hpf.2⟩
  obtain ⟨hfx, hfn, hfok, hft, hflen⟩ := normOf_some hn
  refine s_skip ?_
  refine s_seq ?_
  refine o_enter rfl ?_
  refine o_assign rfl .free rfl ?_
  refine o_done ?_
  refine s_seq ?_
  refine s_seq ?_
  refine o_enter rfl ?_
  refine o_move rfl .free rfl ?_
  refine o_len_slice rfl .free rfl ?_
  refine o_move rfl .free rfl ?_
  refine o_done ?_
  refine s_block ?_
  refine s_while (X := NS) (fun x => l.length - x.i) (fun x => [(0, .slice oa l.length c), (1, .slice ob m.length c'), (8, .pointer (some ⟨b8, 0, none⟩)), (10, bufVal x.i x.c x.B), (35, .slice oa l.length c), (36, .int .i64 (l.length : Nat)), (37, .int .i64 (x.i : Nat))]) (fun x => x.I)
      (fun x => (b8, .cells [.string (str f.tree.atom), .slice of f.tree.parts.length cf].toArray 40 (0, 0)) :: (bufOwn 46 x.xs x.B ++ L))
      (fun x => HLe J0 x.I ∧ x.i ≤ l.length ∧ BufOk 3 x.i x.c x.xs x.B ∧ BindL x.I ((pairsOf l m).take x.i) x.xs ∧ (l.take x.i).all isName = true ∧ (m.take x.i).all (exNorm false) = true) ⟨J0, 0, none, 0, []⟩ ⟨.refl _, by simp, ⟨rfl, rfl, rfl⟩, .nil, rfl, rfl⟩ ⟨rfl, rfl, rfl, rfl, rfl, rfl, rfl, trivial⟩ (fun _ h => h) ?_
  rintro ⟨J, i, B, cb, xs⟩ ⟨hle, hi, hB, hbl, hal, ham⟩ ih
  simp only at hle hi hB hbl hal ham ih
  dsimp only
  refine s_seq ?_
  refine o_enter rfl ?_
  refine o_cmp rfl rfl rfl .free rfl ?_
  refine o_done ?_
  refine s_seq ?_
  refine s_cond rfl ?_ ?_
  · intro c1
    try simp only [nb] at c1
    have hl1 := (h.mono (e0.trans hle))
    have hm1 := (h'.mono (e0.trans hle))
    have hex := h.each _ (List.getElem_mem (show i < l.length by omega))
    have hey := h'.each _ (List.getElem_mem (show i < m.length by omega))
    have hgx : l.getD i [] = l[i] := by simp [show i < l.length by omega]
    have hgy : m.getD i [] = m[i] := by simp [show i < m.length by omega]
    refine s_skip ?_
    refine s_seq ?_
    refine s_block ?_
    refine s_seq ?_
    refine o_enter rfl ?_
    refine o_move rfl .free rfl ?_
    first | refine o_ixD rfl rfl _ rfl .free rfl ?_ | refine o_ixP rfl rfl _ rfl .free rfl ?_
    refine o_lI1 rfl .free rfl ?_
    refine o_assign rfl .free rfl ?_
    refine o_assign rfl .free rfl ?_
    refine o_done ?_
    refine s_seq ?_
    refine o_enter rfl ?_
    refine o_move rfl .free rfl ?_
    refine o_move rfl .free rfl ?_
    first | refine o_ixD rfl rfl _ rfl .free rfl ?_ | refine o_ixP rfl rfl _ rfl .free rfl ?_
    refine o_lI1 rfl .free rfl ?_
    refine o_call rfl .free rfl (f_readExpr (m.getD i []) (by rw [hgy]; exact hey) _ _) ?_
    rintro _ J2 _ e2 ⟨t2, cs2, ok2, rfl, hrep2, rfl, hpf2⟩
    obtain ⟨oe, ce, vs2, rfl, -⟩ := hrep2.open
    refine o_move rfl .free rfl ?_
    refine o_extract rfl rfl .free rfl ?_
    refine o_extract rfl rfl .free rfl ?_
    refine o_alloc .free rfl ?_
    intro b13
    refine o_st rfl rfl rfl rfl .free ?_
    refine o_assign rfl .free rfl ?_
    refine o_done ?_
    refine s_seq ?_
    refine s_seq ?_
    refine o_enter rfl ?_
    refine o_move rfl .free rfl ?_
    refine o_not rfl .free rfl ?_
    refine o_move rfl .free rfl ?_
    apply o_or 52 56 rfl
    · intro g9_3 hk
      try simp only [nb] at g9_3
      refine o_move rfl (.met rfl rfl) rfl ?_
      refine o_call rfl (.met rfl rfl) rfl (f_isName (l.getD i []) (by rw [hgx]; exact hex) _ _) ?_
      rintro _ _ _ _ ⟨rfl, rfl, rfl⟩
      refine o_not rfl (.met rfl rfl) rfl ?_
      refine o_pick_false rfl rfl .free rfl ?_
      exact o_fin 3 rfl rfl hk
    · intro _ hk
      refine o_skips 3 rfl ?_
      refine o_pick_true rfl rfl .free rfl ?_
      exact o_fin 3 rfl rfl hk
    refine o_move rfl .free rfl ?_
    apply o_or 57 61 rfl
    · intro g9_8 hk
      try simp only [nb] at g9_8
      refine o_lOS rfl (.met rfl rfl) rfl ?_
      refine o_call rfl (.met rfl rfl) rfl (f_simple_rx hrep2 hpf2 g9_8.1 _) ?_
      rintro _ _ _ _ ⟨rfl, rfl, rfl⟩
      refine o_not rfl (.met rfl rfl) rfl ?_
      refine o_pick_false rfl rfl .free rfl ?_
      exact o_fin 3 rfl rfl hk
    · intro _ hk
      refine o_skips 3 rfl ?_
      refine o_pick_true rfl rfl .free rfl ?_
      exact o_fin 3 rfl rfl hk
    refine o_done ?_
    refine s_cond rfl ?_ ?_
    · intro c2
      try simp only [nb] at c2
      refine s_seq ?_
      refine o_enter rfl ?_
      refine o_assign rfl .free rfl ?_
      refine o_assign rfl .free rfl ?_
      refine o_done ?_
      refine s_ret (.tmp rfl (.tmp rfl .nil)) ?_
      refine ⟨J2, L, (e0.trans hle).trans e2, fun w hw => hw.drop.drop.sub (List.sublist_append_right _ _), ?_, rfl⟩
      have : joinOf l m s = none := by
        refine joinOf_bad fun hh => ?_
        rcases c2 with (h1 | h1) | h1
        · refine not_all_simple (show i < m.length by omega) ?_ hh.2.2
          rw [exNorm, normOf, RX_none hpf2 h1]; rfl
        · exact not_all_name (by omega) h1 hh.2.1
        · exact not_all_simple (show i < m.length by omega) h1 hh.2.2
      rw [this]; rfl
    intro c2
    try simp only [nb] at c2
    obtain ⟨⟨hok2, hnm⟩, hsm⟩ := c2
    obtain ⟨e, hex2, rfl, heok, helen, hefine, hetxt⟩ := RX_some hpf2 hok2
    have hen : e.norm false = true := by rw [← exNorm_of hex2]; exact hsm
    have hpair : pairOf (l.getD i []) (m.getD i []) = (l.getD i [], e) := by simp only [pairOf]; rw [normOf_of hex2 hen]; rfl
    refine s_skip ?_
    refine o_enter rfl ?_
    refine o_move rfl .free rfl ?_
    refine o_move rfl .free rfl ?_
    refine o_lOS rfl .free rfl ?_
    refine o_struct rfl rfl rfl .free rfl ?_
    refine o_lits rfl rfl (by rfl) (by rfl) (by rfl) (by decide) (by decide) (by rfl) .free rfl ?_
    intro b66
    refine o_append (B := B) (xs := xs) (ys := [.string (str (l.getD i [])), .string (str e.tree.atom), .slice oe e.tree.parts.length ce]) (m := i) (c := cb) (by intro kk; simp) (by rfl) rfl rfl hB (fun _ h => h.u3) (by rfl) (fun a ha => by cases ha; exact reads_ownL (.head _) (by rfl)) (by simp) (by rfl) (by decide) (by decide) (by omega) (by decide) .free rfl ?_
    intro bb sp c2' hB'
    refine o_assign rfl .free rfl ?_
    refine o_done ?_
    refine s_inBlock ?_
    refine o_enter rfl ?_
    refine o_arith rfl rfl rfl (by omega) .free rfl ?_
    refine o_move rfl .free rfl ?_
    refine o_done ?_
    refine s_mem (fun w hw => Mem.sub (L' := (b8, _) :: (bb, _) :: L) (by repeat (first | exact List.Sublist.refl _ | apply List.Sublist.cons_cons | apply List.Sublist.cons)) hw.f3) (s_env (E' := [(0, .slice oa l.length c), (1, .slice ob m.length c'), (8, .pointer (some ⟨b8, 0, none⟩)), (10, bufVal (i + 1) c2' (some (bb, sp))), (35, .slice oa l.length c), (36, .int .i64 (l.length : Nat)), (37, .int .i64 ((i + 1 : Nat)))]) ⟨rfl, rfl, rfl, rfl, rfl, rfl, rfl, trivial⟩ (ih ⟨J2, i + 1, some (bb, sp), c2', _⟩ ⟨hle.trans e2, by simp only; omega, hB', ?_, take_all_at (by omega) hal hnm, take_all_at (by omega) ham hsm⟩ (by simp only; omega)))
    simp only
    rw [pairs_take (by omega) (by omega), hpair]
    exact (hbl.mono e2).append (.cons (by rw [hgx]; exact hex) hrep2 .nil)
  intro c1
  try simp only [nb] at c1
  obtain rfl : i = l.length := by omega
  rw [List.take_length] at hal
  rw [hlm, List.take_length] at ham
  rw [List.take_of_length_le (by rw [pairsOf_length hlm]; exact Nat.le_refl _)] at hbl
  have hpl := pairsOf_length hlm
  have hpo := pairs_ok hal ham
  refine s_exit rfl ?_
  refine s_seq ?_
  refine s_mem (fun w hw => hw.u1) (s_freezeBinds hbl hB hpl.symm (by unfold maxN; omega) ?_)
  intro J3 on cn e3 hbv hbs
  refine s_put (t := 10) (v' := .slice on (pairsOf l m).length cn) rfl hbv ?_
  refine o_enter rfl ?_
  refine o_move rfl .free rfl ?_
  refine o_lOS rfl .free rfl ?_
  refine o_call rfl .free rfl (f_bindAll hbs (hrep.mono (hle.trans e3)) _) ?_
  rintro _ J4 _ e4 ⟨cs4, rfl, hr4, rfl⟩
  have hlok := lets_ok hpo hfok
  have hll := lets_len (f := f) hpo
  rw [hpl] at hll
  have hgood := (Ex.tree_good hlok).1
  obtain ⟨o4, c4', vs4, rfl, -⟩ := hr4.open
  refine o_alloc .free rfl ?_
  intro b15
  refine o_st rfl rfl rfl rfl .free ?_
  refine o_done ?_
  refine s_seq ?_
  refine s_seq ?_
  refine o_enter rfl ?_
  refine o_lOS rfl .free rfl ?_
  refine o_call rfl .free rfl (f_form_isExpression hr4 hgood (by omega) _) ?_
  rintro _ _ _ _ ⟨rfl, rfl, rfl⟩
  refine o_not rfl .free rfl ?_
  refine o_done ?_
  refine s_cond rfl ?_ ?_
  · intro c3
    try simp only [nb] at c3
    have hfine : (lets (pairsOf l m) f).fine = false := by
      simp only [Ex.tree_size, Ex.tree_ex hlok, Option.isSome_some, Bool.and_true] at c3
      simp only [Ex.fine, hlok, Bool.true_and]
      rw [Bool.and_eq_false_iff, decide_eq_false_iff_not]; simpa using c3
    refine s_seq ?_
    refine o_enter rfl ?_
    refine o_assign rfl .free rfl ?_
    refine o_assign rfl .free rfl ?_
    refine o_done ?_
    refine s_ret (.tmp rfl (.tmp rfl .nil)) ?_
    refine ⟨J4, L, ((e0.trans hle).trans e3).trans e4, drops, ?_, rfl⟩
    rw [joinOf_some hn, if_neg (by rw [hfine]; simp)]; rfl
  intro c3
  try simp only [nb] at c3
  have hfine : (lets (pairsOf l m) f).fine = true := by
    simp only [Ex.tree_size, Ex.tree_ex hlok, Option.isSome_some, Bool.and_true] at c3
    simp only [Ex.fine, hlok, Bool.true_and]
    simpa using c3
  refine s_skip ?_
  refine s_seq ?_
  refine o_enter rfl ?_
  refine o_lOS rfl .free rfl ?_
  refine o_call rfl .free rfl (f_form_text hr4 (by rw [Tree.text_len]; unfold maxN; omega) _) ?_
  rintro _ _ _ _ ⟨rfl, rfl, rfl⟩
  refine o_assign rfl .free rfl ?_
  refine o_assign rfl .free rfl ?_
  refine o_done ?_
  refine s_ret (.tmp rfl (.tmp rfl .nil)) ?_
  refine ⟨J4, L, ((e0.trans hle).trans e3).trans e4, drops, ?_, rfl⟩
  rw [joinOf_some hn, if_pos ⟨hlm, hal, ham, hfine⟩]; rfl

theorem drop_all_at {l : List Txt} {p : Txt → Bool} {i : Nat} (hi : i < l.length) (h : (l.drop (i + 1)).all p = true) (hp : p (l.getD i []) = true) : (l.drop i).all p = true := by
  rw [List.drop_eq_getElem_cons hi, List.all_cons, h]
  simp [hi] at hp; simp [hp]
/-- What the reference has made when 'k' are left. -/
structure KS where
  k : Nat
  s : Txt
theorem g_NormalJoin {I : Heap} {oa ob : Option Addr} {l m : List Txt} {c c' : Nat} (h : Strs I oa l c) (h' : Strs I ob m c') (s : Txt) (hs : s.length ≤ maxN) (L : Own) :
    Fun Tryz.prog 6 [.slice oa l.length c, .slice ob m.length c', .string (str s)] I L (EL (joinOf l m s) L) := by
  have hlen := h.len
  have hlen' := h'.len
  unfold maxN at hlen hlen'
  refine fun_intro (by simp) ?_
  refine s_seq ?_
  refine o_enter rfl ?_
  refine o_assign rfl .free rfl ?_
  refine o_assign rfl .free rfl ?_
  refine o_done ?_
  refine s_seq ?_
  refine s_seq ?_
  refine o_enter rfl ?_
  refine o_move rfl .free rfl ?_
  refine o_len_slice rfl .free rfl ?_
  refine o_move rfl .free rfl ?_
  refine o_len_slice rfl .free rfl ?_
  refine o_cmp rfl rfl rfl .free rfl ?_
  refine o_move rfl .free rfl ?_
  apply o_or 14 18 rfl
  · intro g1_6 hk
    try simp only [nb] at g1_6
    refine o_move rfl (.met rfl rfl) rfl ?_
    refine o_call rfl (.met rfl rfl) rfl (g_NormalIs s (maxN_maxL hs) _ _) ?_
    rintro _ _ _ _ ⟨rfl, rfl, rfl⟩
    refine o_not rfl (.met rfl rfl) rfl ?_
    refine o_pick_false rfl rfl .free rfl ?_
    exact o_fin 3 rfl rfl hk
  · intro _ hk
    refine o_skips 3 rfl ?_
    refine o_pick_true rfl rfl .free rfl ?_
    exact o_fin 3 rfl rfl hk
  refine o_done ?_
  refine s_cond rfl ?_ ?_
  · intro c0
    try simp only [nb] at c0
    refine s_seq ?_
    refine o_enter rfl ?_
    refine o_assign rfl .free rfl ?_
    refine o_assign rfl .free rfl ?_
    refine o_done ?_
    refine s_ret (.tmp rfl (.tmp rfl .nil)) ?_
    refine ⟨I, L, .refl _, drops, ?_, rfl⟩
    have : joinOf l m s = none := by
      rcases c0 with h1 | h1
      · exact joinOf_bad fun hh => h1 (by omega)
      · refine joinOf_none ?_
        cases hn : normOf true s with
        | none => rfl
        | some f => rw [exNorm, hn] at h1; cases h1
    rw [this]; rfl
  intro c0
  try simp only [nb] at c0
  have hlm : l.length = m.length := by omega
  obtain ⟨f, hn⟩ : ∃ f, normOf true s = some f := by
    cases hn : normOf true s with
    | none => have := c0.2; rw [exNorm, hn] at this; cases this
    | some f => exact ⟨f, rfl⟩
  obtain ⟨hfx, hfn, hfok, hft, hflen⟩ := normOf_some hn
  have hpl := pairsOf_length hlm
  refine s_skip ?_
  refine s_seq ?_
  refine s_seq ?_
  refine o_enter rfl ?_
  refine o_move rfl .free rfl ?_
  refine o_len_slice rfl .free rfl ?_
  refine o_arith rfl rfl rfl (by omega) .free rfl ?_
  refine o_assign rfl .free rfl ?_
  refine o_done ?_
  refine s_block ?_
  refine s_while (X := KS) (fun x => x.k) (fun x => [(0, .slice oa l.length c), (1, .slice ob m.length c'), (2, .string (str x.s)), (8, .int .i64 ((x.k : Int) - 1))]) (fun _ => I) (fun _ => L)
      (fun x => x.k ≤ l.length ∧ x.s = (lets ((pairsOf l m).drop x.k) f).tree.text ∧ (l.drop x.k).all isName = true ∧ (m.drop x.k).all (exNorm false) = true ∧ x.s.length ≤ 12000 + 12020 * (l.length - x.k)) ⟨l.length, s⟩ ⟨Nat.le_refl _, ?_, by simp, by simp [hlm], by rw [hft, Tree.text_len]; simp only; omega⟩ ⟨rfl, rfl, rfl, rfl, trivial⟩ (fun _ h => h) ?_
  · simp only
    rw [List.drop_eq_nil_of_le (by omega)]; exact hft
  rintro ⟨k, z⟩ ⟨hk, hz, hal, ham, hzl⟩ ih
  simp only at hk hz hal ham hzl ih
  dsimp only
  refine s_seq ?_
  refine s_seq ?_
  refine o_enter rfl ?_
  refine o_move rfl .free rfl ?_
  refine o_cmp rfl rfl rfl .free rfl ?_
  refine o_done ?_
  refine s_cond rfl ?_ ?_
  · intro c1
    try simp only [nb] at c1
    obtain ⟨k, rfl⟩ : ∃ j, k = j + 1 := ⟨k - 1, by omega⟩
    refine s_put (t := 8) (v' := .int .i64 (k : Nat)) rfl (by congr 1; omega) ?_
    have hex := h.each _ (List.getElem_mem (show k < l.length by omega))
    have hey := h'.each _ (List.getElem_mem (show k < m.length by omega))
    have hgx : l.getD k [] = l[k] := by simp [show k < l.length by omega]
    have hgy : m.getD k [] = m[k] := by simp [show k < m.length by omega]
    refine s_skip ?_
    refine s_seq ?_
    refine s_block ?_
    refine s_seq ?_
    refine s_seq ?_
    refine o_enter rfl ?_
    refine o_move rfl .free rfl ?_
    refine o_move rfl .free rfl ?_
    first | refine o_ixD rfl rfl _ rfl .free rfl ?_ | refine o_ixP rfl rfl _ rfl .free rfl ?_
    refine o_lI1 rfl .free rfl ?_
    refine o_call rfl .free rfl (g_l2Name (l.getD k []) (by rw [hgx]; exact hex) _ _) ?_
    rintro _ _ _ _ ⟨rfl, rfl, rfl⟩
    refine o_not rfl .free rfl ?_
    refine o_move rfl .free rfl ?_
    apply o_or 32 39 rfl
    · intro g6_7 hk
      try simp only [nb] at g6_7
      refine o_move rfl (.met rfl rfl) rfl ?_
      refine o_move rfl (.met rfl rfl) rfl ?_
      first | refine o_ixD rfl rfl _ rfl (.met rfl rfl) rfl ?_ | refine o_ixP rfl rfl _ rfl (.met rfl rfl) rfl ?_
      refine o_lI1 rfl (.met rfl rfl) rfl ?_
      refine o_call rfl (.met rfl rfl) rfl (g_SimpleIs (m.getD k []) (by rw [hgy]; exact hey) _ _) ?_
      rintro _ _ _ _ ⟨rfl, rfl, rfl⟩
      refine o_not rfl (.met rfl rfl) rfl ?_
      refine o_pick_false rfl rfl .free rfl ?_
      exact o_fin 6 rfl rfl hk
    · intro _ hk
      refine o_skips 6 rfl ?_
      refine o_pick_true rfl rfl .free rfl ?_
      exact o_fin 6 rfl rfl hk
    refine o_done ?_
    refine s_cond rfl ?_ ?_
    · intro c2
      try simp only [nb] at c2
      refine s_seq ?_
      refine o_enter rfl ?_
      refine o_assign rfl .free rfl ?_
      refine o_assign rfl .free rfl ?_
      refine o_done ?_
      refine s_ret (.tmp rfl (.tmp rfl .nil)) ?_
      refine ⟨I, L, .refl _, drops, ?_, rfl⟩
      have : joinOf l m s = none := by
        refine joinOf_bad fun hh => ?_
        rcases c2 with h1 | h1
        · exact not_all_name (by omega) h1 hh.2.1
        · exact not_all_simple (show k < m.length by omega) h1 hh.2.2
      rw [this]; rfl
    intro c2
    try simp only [nb] at c2
    obtain ⟨hnm, hsm⟩ := c2
    obtain ⟨e, hes⟩ : ∃ e, normOf false (m.getD k []) = some e := by
      cases hq : normOf false (m.getD k []) with
      | none => rw [exNorm, hq] at hsm; cases hsm
      | some e => exact ⟨e, rfl⟩
    obtain ⟨hex2, hen, heok, hetxt, helen⟩ := normOf_some hes
    have hpair : pairOf (l.getD k []) (m.getD k []) = (l.getD k [], e) := by simp only [pairOf, hes]; rfl
    have hnl := isName_len hnm
    have htl := e.tree.text_len
    have hml : (m.getD k []).length ≤ 12000 := by rw [hetxt, htl]; exact helen
    refine s_skip ?_
    refine d_all 16 rfl rfl ?_
    refine d_takeA 0 rfl (by kernel_rfl) rfl (.inr heldx) (y_move rfl) .free rfl ?_
    refine d_takeA 1 rfl (by kernel_rfl) rfl (.inr heldx) (y_move rfl) .free rfl ?_
    first | refine d_takeA 2 rfl (by kernel_rfl) rfl (.inr heldx) (y_ixD rfl rfl _ rfl) .free rfl ?_ | refine d_takeA 2 rfl (by kernel_rfl) rfl (.inr heldx) (y_ixP rfl rfl _ rfl) .free rfl ?_
    refine d_take 3 [16] rfl (by kernel_rfl) rfl heldx (y_lI1 rfl) .free rfl ?_
    refine d_takeA 4 rfl (by kernel_rfl) rfl (.inr heldx) (y_concat rfl rfl (by first | omega | (simp only [List.length_append, List.length_cons, List.length_nil]; omega) | (simp; omega))) .free rfl ?_
    refine d_takeA 5 rfl (by kernel_rfl) rfl (.inr heldx) (y_concat rfl rfl (by first | omega | (simp only [List.length_append, List.length_cons, List.length_nil]; omega) | (simp; omega))) .free rfl ?_
    refine d_takeA 6 rfl (by kernel_rfl) rfl (.inr heldx) (y_move rfl) .free rfl ?_
    refine d_takeA 7 rfl (by kernel_rfl) rfl (.inr heldx) (y_move rfl) .free rfl ?_
    first | refine d_takeA 8 rfl (by kernel_rfl) rfl (.inr heldx) (y_ixD rfl rfl _ rfl) .free rfl ?_ | refine d_takeA 8 rfl (by kernel_rfl) rfl (.inr heldx) (y_ixP rfl rfl _ rfl) .free rfl ?_
    refine d_take 9 [16] rfl (by kernel_rfl) rfl heldx (y_lI1 rfl) .free rfl ?_
    refine d_takeA 10 rfl (by kernel_rfl) rfl (.inr heldx) (y_concat rfl rfl (by first | omega | (simp only [List.length_append, List.length_cons, List.length_nil]; omega) | (simp; omega))) .free rfl ?_
    refine d_takeA 11 rfl (by kernel_rfl) rfl (.inr heldx) (y_concat rfl rfl (by first | omega | (simp only [List.length_append, List.length_cons, List.length_nil]; omega) | (simp; omega))) .free rfl ?_
    refine d_takeA 12 rfl (by kernel_rfl) rfl (.inr heldx) (y_move rfl) .free rfl ?_
    refine d_takeA 13 rfl (by kernel_rfl) rfl (.inr heldx) (y_concat rfl rfl (by first | omega | (simp only [List.length_append, List.length_cons, List.length_nil]; omega) | (simp; omega))) .free rfl ?_
    refine d_takeA 14 rfl (by kernel_rfl) rfl (.inr heldx) (y_concat rfl rfl (by first | omega | (simp only [List.length_append, List.length_cons, List.length_nil]; omega) | (simp; omega))) .free rfl ?_
    refine d_takeA 15 rfl (by kernel_rfl) rfl (.inr heldx) (y_assign rfl) .free rfl ?_
    refine d_done (by kernel_rfl) ?_
    refine s_inBlock ?_
    refine o_enter rfl ?_
    refine o_move rfl .free rfl ?_
    refine o_arith rfl rfl rfl (by omega) .free rfl ?_
    refine o_assign rfl .free rfl ?_
    refine o_done ?_
    refine s_env (E' := [(0, .slice oa l.length c), (1, .slice ob m.length c'), (2, .string (str ([40, 108, 101, 116, 32] ++ l.getD k [] ++ [32] ++ m.getD k [] ++ [32] ++ z ++ [41]))), (8, .int .i64 ((k : Int) - 1))]) ⟨rfl, rfl, rfl, rfl, trivial⟩ (ih ⟨k, [40, 108, 101, 116, 32] ++ l.getD k [] ++ [32] ++ m.getD k [] ++ [32] ++ z ++ [41]⟩ ⟨by simp only; omega, ?_, drop_all_at (i := k) (by omega) hal hnm, drop_all_at (i := k) (by omega) ham hsm, ?_⟩ (by simp only; omega))
    · simp only
      rw [lets_drop (show k < (pairsOf l m).length by omega), pairsOf_at (by omega) (by omega), hpair, lt_text, hz, ← hetxt]
    · simp only [List.length_append, List.length_cons, List.length_nil]; omega
  intro c1
  try simp only [nb] at c1
  obtain rfl : k = 0 := by omega
  rw [List.drop_zero] at hz hal ham
  have hpo := pairs_ok hal ham
  have hlok := lets_ok hpo hfok
  have hln := lets_norm hpo hfn
  have hx := exOf_text hlok
  rw [← hz] at hx
  have hxn : exNorm true z = (lets (pairsOf l m) f).fine := by
    cases hf : (lets (pairsOf l m) f).fine with
    | true => rw [hf] at hx; rw [exNorm_of hx, hln]
    | false => rw [hf] at hx; unfold exNorm normOf; rw [hx]; rfl
  refine s_exit rfl ?_
  refine s_seq ?_
  refine s_seq ?_
  refine o_enter rfl ?_
  refine o_move rfl .free rfl ?_
  refine o_call rfl .free rfl (g_NormalIs z (by unfold maxL; omega) _ _) ?_
  rintro _ _ _ _ ⟨rfl, rfl, rfl⟩
  refine o_not rfl .free rfl ?_
  refine o_done ?_
  refine s_cond rfl ?_ ?_
  · intro c3
    try simp only [nb] at c3
    refine s_seq ?_
    refine o_enter rfl ?_
    refine o_assign rfl .free rfl ?_
    refine o_assign rfl .free rfl ?_
    refine o_done ?_
    refine s_ret (.tmp rfl (.tmp rfl .nil)) ?_
    refine ⟨I, L, .refl _, drops, ?_, rfl⟩
    rw [hxn] at c3
    rw [joinOf_some hn, if_neg (by rw [c3]; simp)]; rfl
  intro c3
  try simp only [nb] at c3
  refine s_skip ?_
  refine s_seq ?_
  refine o_enter rfl ?_
  refine o_move rfl .free rfl ?_
  refine o_assign rfl .free rfl ?_
  refine o_assign rfl .free rfl ?_
  refine o_done ?_
  refine s_ret (.tmp rfl (.tmp rfl .nil)) ?_
  refine ⟨I, L, .refl _, drops, ?_, rfl⟩
  rw [hxn] at c3
  rw [joinOf_some hn, if_pos ⟨hlm, hal, ham, c3⟩, ← hz]; rfl
end Go.Proofs.YtdnmhgiaebbppaaGreat


/- What stands free is put, each name once; what is counted. No conditions. -/
namespace Go.Proofs.YtdnmhgiaebbppaaGreat
set_option maxRecDepth 100000
set_option linter.unusedVariables false
set_option linter.unusedSimpArgs false

def nul : Ex := .num [48]
/-- Nought put for each of these names. -/
def Ex.puts (e : Ex) (l : List Txt) : Ex := l.foldl (fun e n => e.put n nul) e
/-- How often a name stands free. -/
def countOf (s n : Txt) : Int := match exOf s with
  | some e => if isName n = true then (((e.occ []).count n : Nat) : Int) else -1
  | none => -1
end Go.Proofs.YtdnmhgiaebbppaaGreat


/- The walk of the statement 'FnLets'. No conditions. -/
namespace Go.Proofs.YtdnmhgiaebbppaaGreat
set_option maxRecDepth 100000
set_option linter.unusedVariables false
set_option linter.unusedSimpArgs false

theorem join_facts {l m : List Txt} {s o : Txt} (h : joinOf l m s = some o) : ∃ e, normOf true s = some e ∧ normOf true o = some (lets (pairsOf l m) e) ∧ o.length ≤ 12000 ∧ l.length = m.length := by
  unfold joinOf at h
  split at h
  · cases h
  · rename_i e he
    split at h
    · rename_i hc
      cases h
      obtain ⟨h1, h2, h3, h4⟩ := hc
      have hx := normOf_some he
      refine ⟨e, he, ?_, ?_, h1⟩
      · have hn := lets_norm (pairs_ok h2 h3) hx.2.1
        unfold normOf
        rw [exOf_fine h4]
        simp [hn]
      · simp only [Ex.fine, Bool.and_eq_true, decide_eq_true_eq, Tree.fits] at h4
        rw [Tree.text_len]; exact h4.2.2
    · cases h
end Go.Proofs.YtdnmhgiaebbppaaGreat


/- The walk of the statement 'FnJoin'. No conditions. -/
namespace Go.Proofs.YtdnmhgiaebbppaaGreat
set_option maxRecDepth 100000
set_option linter.unusedVariables false
set_option linter.unusedSimpArgs false

theorem pairs_fst : ∀ {l m : List Txt}, l.length = m.length → (pairsOf l m).map (·.1) = l
  | [], m, _ => by simp [pairsOf]
  | x :: l, [], h => by cases h
  | x :: l, y :: m, h => by
    have := pairs_fst (l := l) (m := m) (by simpa using h)
    simp only [pairsOf, List.zipWith_cons_cons, List.map_cons] at this ⊢
    rw [this]; rfl
theorem path_short {e : Ex} (h : e.ok = true) : ∀ s ∈ e.path, s.length ≤ maxN := names_strs (Ex.path_names h)
theorem law_FnJoin {I : Heap} {oa : Option Addr} {code : List UInt8} {c : Nat} (h : Bytes I oa code c) (L : Own) : Fun Tryz.prog 3 [.slice oa code.length c] I L (YES L) := by
  have hlen := h.len
  refine fun_intro (by simp) ?_
  refine s_seq ?_
  refine o_enter rfl ?_
  refine o_assign rfl .free rfl ?_
  refine o_done ?_
  refine s_seq ?_
  refine s_seq ?_
  refine o_enter rfl ?_
  refine o_move rfl .free rfl ?_
  refine o_len_slice rfl .free rfl ?_
  refine o_cmp rfl rfl rfl .free rfl ?_
  refine o_done ?_
  refine s_cond rfl ?_ ?_
  · intro c0
    try simp only [nb] at c0
    refine s_seq ?_
    refine o_enter rfl ?_
    refine o_assign rfl .free rfl ?_
    refine o_done ?_
    refine s_ret (.tmp rfl .nil) ?_
    exact ⟨I, L, .refl _, fun _ h => h, rfl, rfl⟩
  intro c0
  try simp only [nb] at c0
  refine s_skip ?_
  refine s_seq ?_
  refine o_enter rfl ?_
  refine o_move rfl .free rfl ?_
  refine o_call rfl .free rfl (g_DrawNormalJoin h _) ?_
  rintro _ J1 _ e1 ⟨o1, l, ca, o2, m, cb, s, rfl, k1, k2, hl3, hm3, hsl, hsm, hsz, rfl⟩
  have hs : s.length ≤ maxN := by unfold maxN; omega
  refine o_move rfl .free rfl ?_
  iterate 3 refine o_extract rfl rfl .free rfl ?_
  iterate 3 refine o_assign rfl .free rfl ?_
  refine o_done ?_
  refine s_seq ?_
  refine o_enter rfl ?_
  iterate 3 refine o_move rfl .free rfl ?_
  refine o_call rfl .free rfl (f_NormalJoin k1 k2 s hs _) ?_
  rintro _ J2 _ e2 ⟨rfl, rfl⟩
  have k1 := k1.mono e2
  have k2 := k2.mono e2
  refine o_move rfl .free rfl ?_
  refine o_extract rfl rfl .free rfl ?_
  refine o_extract rfl rfl .free rfl ?_
  refine o_assign rfl .free rfl ?_
  refine o_assign rfl .free rfl ?_
  refine o_done ?_
  refine s_seq ?_
  refine o_enter rfl ?_
  iterate 3 refine o_move rfl .free rfl ?_
  refine o_call rfl .free rfl (g_NormalJoin k1 k2 s hs _) ?_
  rintro _ J3 _ e3 ⟨rfl, rfl⟩
  have k1 := k1.mono e3
  have hle := (e1.trans e2).trans e3
  refine o_move rfl .free rfl ?_
  refine o_extract rfl rfl .free rfl ?_
  refine o_extract rfl rfl .free rfl ?_
  refine o_assign rfl .free rfl ?_
  refine o_assign rfl .free rfl ?_
  refine o_done ?_
  refine s_seq ?_
  refine s_seq ?_
  refine o_enter rfl ?_
  refine o_move rfl .free rfl ?_
  refine o_move rfl .free rfl ?_
  refine o_cmpb rfl rfl rfl .free rfl ?_
  refine o_move rfl .free rfl ?_
  apply o_or 42 46 rfl
  · intro g6_4 hk
    try simp only [nb] at g6_4
    refine o_move rfl (.met rfl rfl) rfl ?_
    refine o_move rfl (.met rfl rfl) rfl ?_
    refine o_cmps rfl rfl rfl (.met rfl rfl) rfl ?_
    refine o_pick_false rfl rfl .free rfl ?_
    exact o_fin 3 rfl rfl hk
  · intro _ hk
    refine o_skips 3 rfl ?_
    refine o_pick_true rfl rfl .free rfl ?_
    exact o_fin 3 rfl rfl hk
  refine o_move rfl .free rfl ?_
  apply o_or 47 50 rfl
  · intro g6_9 hk
    try simp only [nb] at g6_9
    refine o_move rfl (.met rfl rfl) rfl ?_
    refine o_not rfl (.met rfl rfl) rfl ?_
    refine o_pick_false rfl rfl .free rfl ?_
    exact o_fin 2 rfl rfl hk
  · intro _ hk
    refine o_skips 2 rfl ?_
    refine o_pick_true rfl rfl .free rfl ?_
    exact o_fin 2 rfl rfl hk
  refine o_done ?_
  refine s_cond rfl ?_ ?_
  · intro c1
    try simp only [nb] at c1
    refine s_seq ?_
    refine o_enter rfl ?_
    refine o_move rfl .free rfl ?_
    refine o_move rfl .free rfl ?_
    refine o_cmpb rfl rfl rfl .free rfl ?_
    refine o_move rfl .free rfl ?_
    apply o_and 54 58 rfl
    · intro g7_4 hk
      try simp only [nb] at g7_4
      refine o_move rfl (.met rfl rfl) rfl ?_
      refine o_move rfl (.met rfl rfl) rfl ?_
      refine o_cmps rfl rfl rfl (.met rfl rfl) rfl ?_
      refine o_pick_true rfl rfl .free rfl ?_
      exact o_fin 3 rfl rfl hk
    · intro _ hk
      refine o_skips 3 rfl ?_
      refine o_pick_false rfl rfl .free rfl ?_
      exact o_fin 3 rfl rfl hk
    refine o_assign rfl .free rfl ?_
    refine o_done ?_
    refine s_ret (.tmp rfl .nil) ?_
    refine ⟨J3, L, hle, drops, ?_, rfl⟩
    simp [retOne]
  intro c1
  try simp only [nb] at c1
  obtain ⟨o, ho⟩ : ∃ o, joinOf l m s = some o := Option.isSome_iff_exists.1 (by simpa using c1)
  obtain ⟨e, hne, hno, hol, hlm⟩ := join_facts ho
  have hx := normOf_some hne
  have hy := normOf_some hno
  obtain ⟨q1, q2⟩ := path_lets (pairsOf l m) e
  rw [pairs_fst hlm] at q1
  have hpz := e.path_size
  have hez := (exOf_is hx.1).2.2.1
  have hoN : o.length ≤ maxN := by unfold maxN; omega
  clear c1
  rw [ho]
  simp only [Option.getD_some, Option.isSome_some]
  refine s_skip ?_
  refine s_seq ?_
  refine o_enter rfl ?_
  refine o_move rfl .free rfl ?_
  refine o_call rfl .free rfl (f_NormalPath o hoN _ _) ?_
  rintro _ J4 _ e4 ⟨ox, cx, rfl, hox, rfl⟩
  rw [pathOf_some hno, q1, q2] at hox
  rw [pathOf_some hno, q1, q2]
  simp only [Option.getD_some, Option.isSome_some] at hox ⊢
  refine o_move rfl .free rfl ?_
  iterate 3 refine o_extract rfl rfl .free rfl ?_
  iterate 3 refine o_assign rfl .free rfl ?_
  refine o_done ?_
  refine s_seq ?_
  refine o_enter rfl ?_
  refine o_move rfl .free rfl ?_
  refine o_call rfl .free rfl (f_NormalPath s hs _ _) ?_
  rintro _ J5 _ e5 ⟨oy, cy, rfl, hoy, rfl⟩
  rw [pathOf_some hne] at hoy
  rw [pathOf_some hne]
  simp only [Option.getD_some, Option.isSome_some] at hoy ⊢
  have hox := hox.mono e5
  have k1 := (k1.mono e4).mono e5
  have hle := (hle.trans e4).trans e5
  refine o_move rfl .free rfl ?_
  iterate 3 refine o_extract rfl rfl .free rfl ?_
  iterate 3 refine o_assign rfl .free rfl ?_
  refine o_done ?_
  refine s_seq ?_
  refine o_enter rfl ?_
  refine o_move rfl .free rfl ?_
  refine o_move rfl .free rfl ?_
  refine o_put (t := 72) (v' := .bool (decide True)) rfl rfl ?_
  first | refine g_tp rfl rfl trivial ?_ | refine g_tn rfl rfl trivial ?_
  refine o_move rfl (.met rfl rfl) rfl ?_
  refine o_pick_true rfl rfl .free rfl ?_
  refine o_move rfl .free rfl ?_
  refine o_put (t := 75) (v' := .bool (decide True)) rfl rfl ?_
  first | refine g_tp rfl rfl trivial ?_ | refine g_tn rfl rfl trivial ?_
  refine o_move rfl (.met rfl rfl) rfl ?_
  refine o_move rfl (.met rfl rfl) rfl ?_
  refine o_cmps rfl rfl rfl (.met rfl rfl) rfl ?_
  refine o_pick_true rfl rfl .free rfl ?_
  refine o_move rfl .free rfl ?_
  first | refine g_tp rfl rfl rfl ?_ | refine g_tn rfl rfl rfl ?_
  refine o_move rfl (.met rfl rfl) rfl ?_
  refine o_lits0 (.met rfl rfl) rfl ?_
  intro b82
  refine o_move rfl (.met rfl rfl) rfl ?_
  refine o_appendB (B := some (b82, [])) (xs := []) (ys := l.map sv) (m := 0) (c := 0) (by intro kk; simp) (by rfl) rfl rfl ⟨rfl, Nat.le_refl _, rfl⟩ (fun _ h => h) (by simp) k1.reads k1.none (sv_plain l) (by decide) (by omega) (by decide) (.met rfl rfl) rfl ?_
  intro B1 c8 hB1
  refine o_move rfl (.met rfl rfl) rfl ?_
  refine o_appendB (B := B1) (xs := [] ++ l.map sv) (ys := e.path.map sv) (m := 0 + l.length) (c := c8) (by intro kk; simp) (by rfl) rfl rfl hB1 (fun _ h => h) (by simp) hoy.reads hoy.none (sv_plain e.path) (by decide) (by omega) (by decide) (.met rfl rfl) rfl ?_
  intro B2 c9 hB2
  rw [show [] ++ l.map sv ++ e.path.map sv = (l ++ e.path).map sv by simp] at hB2
  refine o_mem (L' := bufOwn 9 ((l ++ e.path).map sv) B2 ++ L) (fun w h => by rw [show (l ++ e.path).map sv = [] ++ l.map sv ++ e.path.map sv by simp]; exact h) ?_
  refine o_freezeStrs hB2 (by simp) (by simp; unfold maxN; omega) (by intro z hz; rcases List.mem_append.1 hz with hz | hz; exact hsl.maxN z hz; exact path_short hx.2.2.1 z hz) ?_
  intro J6 oz cz ez hbv hst
  refine o_put (t := 86) rfl hbv ?_
  have hox := hox.mono ez
  have hle := hle.trans ez
  refine o_call rfl (.met rfl rfl) rfl (x_sameTexts hox hst _) ?_
  rintro _ _ _ _ ⟨rfl, rfl, rfl⟩
  refine o_pick_true rfl rfl .free rfl ?_
  refine o_move rfl .free rfl ?_
  first | refine g_tp rfl rfl rfl ?_ | refine g_tn rfl rfl rfl ?_
  refine o_move rfl (.met rfl rfl) rfl ?_
  refine o_call rfl (.met rfl rfl) rfl (f_NormalIs o hoN _ _) ?_
  rintro _ J7 _ e7 ⟨rfl, rfl⟩
  rw [exNorm_some hy.1, hy.2.1]
  have hle := hle.trans e7
  refine o_pick_true rfl rfl .free rfl ?_
  refine o_assign rfl .free rfl ?_
  refine o_done ?_
  refine s_ret (.tmp rfl .nil) ?_
  exact ⟨J7, L, hle, drops, rfl, rfl⟩
end Go.Proofs.YtdnmhgiaebbppaaGreat
