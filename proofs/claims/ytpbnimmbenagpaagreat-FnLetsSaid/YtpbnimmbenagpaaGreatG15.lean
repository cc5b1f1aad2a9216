/- 'NormalJoin', by the program and by the reference. No conditions. -/
import Derived.Test.YtpbnimmbenagpaaGreatG14
namespace Go.Proofs.YtpbnimmbenagpaaGreat
set_option maxRecDepth 100000
set_option linter.unusedVariables false
set_option linter.unusedSimpArgs false

structure NS where
  I : Heap
  i : Nat
  B : Buf
  c : Nat
  xs : List Value
theorem exNorm_of {b : Bool} {s : Txt} {e : Ex} (h : exOf s = some e) : exNorm b s = e.norm b := by
  unfold exNorm normOf; rw [h]; cases hn : e.norm b <;> simp [hn]
theorem normOf_of {b : Bool} {s : Txt} {e : Ex} (h : exOf s = some e) (hn : e.norm b = true) : normOf b s = some e := by
  unfold normOf; rw [h]; simp [hn]
theorem joinOf_none {l m : List Txt} {s : Txt} (h : normOf true s = none) : joinOf l m s = none := by unfold joinOf; rw [h]
theorem joinOf_some {l m : List Txt} {s : Txt} {f : Ex} (h : normOf true s = some f) : joinOf l m s = if l.length = m.length ∧ l.all isName = true ∧ m.all (exNorm false) = true ∧ (lets (pairsOf l m) f).fine = true then some (lets (pairsOf l m) f).tree.text else none := by unfold joinOf; rw [h]
theorem joinOf_bad {l m : List Txt} {s : Txt} (h : ¬ (l.length = m.length ∧ l.all isName = true ∧ m.all (exNorm false) = true)) : joinOf l m s = none := by
  unfold joinOf
  cases normOf true s with
  | none => rfl
  | some f => exact if_neg fun hh => h ⟨hh.1, hh.2.1, hh.2.2.1⟩
theorem not_all_name {l : List Txt} {i : Nat} (hi : i < l.length) (h : isName (l.getD i []) = false) : ¬ l.all isName = true := by
  intro hh
  have := List.all_eq_true.1 hh _ (List.getElem_mem hi)
  simp [hi] at h; rw [h] at this; cases this
theorem not_all_simple {l : List Txt} {i : Nat} (hi : i < l.length) (h : exNorm false (l.getD i []) = false) : ¬ l.all (exNorm false) = true := by
  intro hh
  have := List.all_eq_true.1 hh _ (List.getElem_mem hi)
  simp [hi] at h; rw [h] at this; cases this
theorem pairs_take {l m : List Txt} {i : Nat} (hl : i < l.length) (hm : i < m.length) : (pairsOf l m).take (i + 1) = (pairsOf l m).take i ++ [pairOf (l.getD i []) (m.getD i [])] := by
  have hi : i < (pairsOf l m).length := by simp [pairsOf]; omega
  rw [List.take_succ_eq_append_getElem hi, pairsOf_at hl hm hi]
theorem take_all_at {l : List Txt} {p : Txt → Bool} {i : Nat} (hi : i < l.length) (h : (l.take i).all p = true) (hp : p (l.getD i []) = true) : (l.take (i + 1)).all p = true := by
  rw [List.take_succ_eq_append_getElem hi, List.all_append, h]
  simp [hi] at hp; simp [hp]

theorem f_NormalJoin {I : Heap} {oa ob : Option Addr} {l m : List Txt} {c c' : Nat} (h : Strs I oa l c) (h' : Strs I ob m c') (s : Txt) (hs : s.length ≤ maxN) (L : Own) :
    Fun Tryz.prog 10 [.slice oa l.length c, .slice ob m.length c', .string (str s)] I L (EL (joinOf l m s) L) := by
  have hlen := h.len
  have hlen' := h'.len
  unfold maxN at hlen hlen'
  refine fun_intro (by simp) ?_
  refine s_seq ?_
  refine o_enter rfl ?_
  refine o_assign rfl .free rfl ?_
  refine o_assign rfl .free rfl ?_
  refine o_done ?_
  refine s_seq ?_
  refine o_enter rfl ?_
  refine o_move rfl .free rfl ?_
  refine o_call rfl .free rfl (f_readNormal s hs _ _) ?_
  rintro _ J0 _ e0 ⟨t, cs, ok, rfl, hrep, rfl, hpf⟩
  obtain ⟨of, cf, vs, rfl, -⟩ := hrep.open
  refine o_move rfl .free rfl ?_
  refine o_extract rfl rfl .free rfl ?_
  refine o_extract rfl rfl .free rfl ?_
  refine o_alloc .free rfl ?_
  intro b8
  refine o_st rfl rfl rfl rfl .free ?_
  refine o_assign rfl .free rfl ?_
  refine o_done ?_
  refine s_seq ?_
  refine s_seq ?_
  refine o_enter rfl ?_
  refine o_move rfl .free rfl ?_
  refine o_not rfl .free rfl ?_
  refine o_move rfl .free rfl ?_
  apply o_or 23 29 rfl
  · intro g2_3 hk
    try simp only [nb] at g2_3
    refine o_move rfl (.met rfl rfl) rfl ?_
    refine o_len_slice rfl (.met rfl rfl) rfl ?_
    refine o_move rfl (.met rfl rfl) rfl ?_
    refine o_len_slice rfl (.met rfl rfl) rfl ?_
    refine o_cmp rfl rfl rfl (.met rfl rfl) rfl ?_
    refine o_pick_false rfl rfl .free rfl ?_
    exact o_fin 5 rfl rfl hk
  · intro _ hk
    refine o_skips 5 rfl ?_
    refine o_pick_true rfl rfl .free rfl ?_
    exact o_fin 5 rfl rfl hk
  refine o_move rfl .free rfl ?_
  apply o_or 30 34 rfl
  · intro g2_10 hk
    try simp only [nb] at g2_10
    refine o_move rfl (.met rfl rfl) rfl ?_
    refine o_len_slice rfl (.met rfl rfl) rfl ?_
    refine o_cmp rfl rfl rfl (.met rfl rfl) rfl ?_
    refine o_pick_false rfl rfl .free rfl ?_
    exact o_fin 3 rfl rfl hk
  · intro _ hk
    refine o_skips 3 rfl ?_
    refine o_pick_true rfl rfl .free rfl ?_
    exact o_fin 3 rfl rfl hk
  refine o_done ?_
  refine s_cond rfl ?_ ?_
  · intro c0
    try simp only [nb] at c0
    refine s_seq ?_
    refine o_enter rfl ?_
    refine o_assign rfl .free rfl ?_
    refine o_assign rfl .free rfl ?_
    refine o_done ?_
    refine s_ret (.tmp rfl (.tmp rfl .nil)) ?_
    refine ⟨J0, L, e0, drops, ?_, rfl⟩
    have : joinOf l m s = none := by
      cases hn : normOf true s with
      | none => exact joinOf_none hn
      | some f =>
        rw [hn] at hpf
        have hlm : ¬ l.length = m.length ∨ 120 < l.length := by
          rcases c0 with (h1 | h1) | h1
          · rw [hpf.1] at h1; cases h1
          · exact .inl (by omega)
          · exact .inr (by omega)
        rcases hlm with h1 | h1
        · exact joinOf_bad fun hh => h1 hh.1
        · by_cases hl : l.length = m.length
          · rw [joinOf_some hn, if_neg]
            rintro ⟨_, _, _, hf⟩
            simp only [Ex.fine, Bool.and_eq_true, decide_eq_true_eq] at hf
            have h2 := lets_size (pairsOf l m) f
            rw [pairsOf_length hl] at h2
            omega
          · exact joinOf_bad fun hh => hl hh.1
    rw [this]; rfl
  intro c0
  try simp only [nb] at c0
  obtain ⟨⟨hok, hlm⟩, hl120⟩ := c0
  have hlm : l.length = m.length := by omega
  obtain ⟨f, hn, rfl⟩ : ∃ f, normOf true s = some f ∧ t = f.tree := by
    cases hn : normOf true s with
    | none => rw [hn] at hpf; rw [hpf] at hok; cases hok
    | some f => rw [hn] at hpf; exact ⟨f, rfl, hpf.2⟩
  obtain ⟨hfx, hfn, hfok, hft, hflen⟩ := normOf_some hn
  refine s_skip ?_
  refine s_seq ?_
  refine o_enter rfl ?_
  refine o_assign rfl .free rfl ?_
  refine o_done ?_
  refine s_seq ?_
  refine s_seq ?_
  refine o_enter rfl ?_
  refine o_move rfl .free rfl ?_
  refine o_len_slice rfl .free rfl ?_
  refine o_move rfl .free rfl ?_
  refine o_done ?_
  refine s_block ?_
  refine s_while (X := NS) (fun x => l.length - x.i) (fun x => [(0, .slice oa l.length c), (1, .slice ob m.length c'), (8, .pointer (some ⟨b8, 0, none⟩)), (10, bufVal x.i x.c x.B), (35, .slice oa l.length c), (36, .int .i64 (l.length : Nat)), (37, .int .i64 (x.i : Nat))]) (fun x => x.I)
      (fun x => (b8, .cells [.string (str f.tree.atom), .slice of f.tree.parts.length cf].toArray 43 (0, 0)) :: (bufOwn 57 x.xs x.B ++ L))
      (fun x => HLe J0 x.I ∧ x.i ≤ l.length ∧ BufOk 3 x.i x.c x.xs x.B ∧ BindL x.I ((pairsOf l m).take x.i) x.xs ∧ (l.take x.i).all isName = true ∧ (m.take x.i).all (exNorm false) = true) ⟨J0, 0, none, 0, []⟩ ⟨.refl _, by simp, ⟨rfl, rfl, rfl⟩, .nil, rfl, rfl⟩ ⟨rfl, rfl, rfl, rfl, rfl, rfl, rfl, trivial⟩ (fun _ h => h) ?_
  rintro ⟨J, i, B, cb, xs⟩ ⟨hle, hi, hB, hbl, hal, ham⟩ ih
  simp only at hle hi hB hbl hal ham ih
  dsimp only
  refine s_seq ?_
  refine o_enter rfl ?_
  refine o_cmp rfl rfl rfl .free rfl ?_
  refine o_done ?_
  refine s_seq ?_
  refine s_cond rfl ?_ ?_
  · intro c1
    try simp only [nb] at c1
    have hl1 := (h.mono (e0.trans hle))
    have hm1 := (h'.mono (e0.trans hle))
    have hex := h.each _ (List.getElem_mem (show i < l.length by omega))
    have hey := h'.each _ (List.getElem_mem (show i < m.length by omega))
    have hgx : l.getD i [] = l[i] := by simp [show i < l.length by omega]
    have hgy : m.getD i [] = m[i] := by simp [show i < m.length by omega]
    refine s_skip ?_
    refine s_seq ?_
    refine s_block ?_
    refine s_seq ?_
    refine o_enter rfl ?_
    refine o_move rfl .free rfl ?_
    first | refine o_ixD rfl rfl _ rfl .free rfl ?_ | refine o_ixP rfl rfl _ rfl .free rfl ?_
    refine o_lI1 rfl .free rfl ?_
    refine o_assign rfl .free rfl ?_
    refine o_assign rfl .free rfl ?_
    refine o_done ?_
    refine s_seq ?_
    refine o_enter rfl ?_
    refine o_move rfl .free rfl ?_
    refine o_move rfl .free rfl ?_
    first | refine o_ixD rfl rfl _ rfl .free rfl ?_ | refine o_ixP rfl rfl _ rfl .free rfl ?_
    refine o_lI1 rfl .free rfl ?_
    refine o_call rfl .free rfl (f_readExpr (m.getD i []) (by rw [hgy]; exact hey) _ _) ?_
    rintro _ J2 _ e2 ⟨t2, cs2, ok2, rfl, hrep2, rfl, hpf2⟩
    obtain ⟨oe, ce, vs2, rfl, -⟩ := hrep2.open
    refine o_move rfl .free rfl ?_
    refine o_extract rfl rfl .free rfl ?_
    refine o_extract rfl rfl .free rfl ?_
    refine o_alloc .free rfl ?_
    intro b13
    refine o_st rfl rfl rfl rfl .free ?_
    refine o_assign rfl .free rfl ?_
    refine o_done ?_
    refine s_seq ?_
    refine s_seq ?_
    refine o_enter rfl ?_
    refine o_move rfl .free rfl ?_
    refine o_not rfl .free rfl ?_
    refine o_move rfl .free rfl ?_
    apply o_or 52 56 rfl
    · intro g9_3 hk
      try simp only [nb] at g9_3
      refine o_move rfl (.met rfl rfl) rfl ?_
      refine o_call rfl (.met rfl rfl) rfl (f_isName (l.getD i []) (by rw [hgx]; exact hex) _ _) ?_
      rintro _ _ _ _ ⟨rfl, rfl, rfl⟩
      refine o_not rfl (.met rfl rfl) rfl ?_
      refine o_pick_false rfl rfl .free rfl ?_
      exact o_fin 3 rfl rfl hk
    · intro _ hk
      refine o_skips 3 rfl ?_
      refine o_pick_true rfl rfl .free rfl ?_
      exact o_fin 3 rfl rfl hk
    refine o_move rfl .free rfl ?_
    apply o_or 57 61 rfl
    · intro g9_8 hk
      try simp only [nb] at g9_8
      refine o_lOS rfl (.met rfl rfl) rfl ?_
      refine o_call rfl (.met rfl rfl) rfl (f_simple_rx hrep2 hpf2 g9_8.1 _) ?_
      rintro _ _ _ _ ⟨rfl, rfl, rfl⟩
      refine o_not rfl (.met rfl rfl) rfl ?_
      refine o_pick_false rfl rfl .free rfl ?_
      exact o_fin 3 rfl rfl hk
    · intro _ hk
      refine o_skips 3 rfl ?_
      refine o_pick_true rfl rfl .free rfl ?_
      exact o_fin 3 rfl rfl hk
    refine o_done ?_
    refine s_cond rfl ?_ ?_
    · intro c2
      try simp only [nb] at c2
      refine s_seq ?_
      refine o_enter rfl ?_
      refine o_assign rfl .free rfl ?_
      refine o_assign rfl .free rfl ?_
      refine o_done ?_
      refine s_ret (.tmp rfl (.tmp rfl .nil)) ?_
      refine ⟨J2, L, (e0.trans hle).trans e2, fun w hw => hw.drop.drop.sub (List.sublist_append_right _ _), ?_, rfl⟩
      have : joinOf l m s = none := by
        refine joinOf_bad fun hh => ?_
        rcases c2 with (h1 | h1) | h1
        · refine not_all_simple (show i < m.length by omega) ?_ hh.2.2
          rw [exNorm, normOf, RX_none hpf2 h1]; rfl
        · exact not_all_name (by omega) h1 hh.2.1
        · exact not_all_simple (show i < m.length by omega) h1 hh.2.2
      rw [this]; rfl
    intro c2
    try simp only [nb] at c2
    obtain ⟨⟨hok2, hnm⟩, hsm⟩ := c2
    obtain ⟨e, hex2, rfl, heok, helen, hefine, hetxt⟩ := RX_some hpf2 hok2
    have hen : e.norm false = true := by rw [← exNorm_of hex2]; exact hsm
    have hpair : pairOf (l.getD i []) (m.getD i []) = (l.getD i [], e) := by simp only [pairOf]; rw [normOf_of hex2 hen]; rfl
    refine s_skip ?_
    refine o_enter rfl ?_
    refine o_move rfl .free rfl ?_
    refine o_move rfl .free rfl ?_
    refine o_lOS rfl .free rfl ?_
    refine o_struct rfl rfl rfl .free rfl ?_
    refine o_lits rfl rfl (by rfl) (by rfl) (by rfl) (by decide) (by decide) (by rfl) .free rfl ?_
    intro b66
    refine o_append (B := B) (xs := xs) (ys := [.string (str (l.getD i [])), .string (str e.tree.atom), .slice oe e.tree.parts.length ce]) (m := i) (c := cb) (by intro kk; simp) (by rfl) rfl rfl hB (fun _ h => h.u3) (by rfl) (fun a ha => by cases ha; exact reads_ownL (.head _) (by rfl)) (by simp) (by rfl) (by decide) (by decide) (by omega) (by decide) .free rfl ?_
    intro bb sp c2' hB'
    refine o_assign rfl .free rfl ?_
    refine o_done ?_
    refine s_inBlock ?_
    refine o_enter rfl ?_
    refine o_arith rfl rfl rfl (by omega) .free rfl ?_
    refine o_move rfl .free rfl ?_
    refine o_done ?_
    refine s_mem (fun w hw => Mem.sub (L' := (b8, _) :: (bb, _) :: L) (by repeat (first | exact List.Sublist.refl _ | apply List.Sublist.cons_cons | apply List.Sublist.cons)) hw.f3) (s_env (E' := [(0, .slice oa l.length c), (1, .slice ob m.length c'), (8, .pointer (some ⟨b8, 0, none⟩)), (10, bufVal (i + 1) c2' (some (bb, sp))), (35, .slice oa l.length c), (36, .int .i64 (l.length : Nat)), (37, .int .i64 ((i + 1 : Nat)))]) ⟨rfl, rfl, rfl, rfl, rfl, rfl, rfl, trivial⟩ (ih ⟨J2, i + 1, some (bb, sp), c2', _⟩ ⟨hle.trans e2, by simp only; omega, hB', ?_, take_all_at (by omega) hal hnm, take_all_at (by omega) ham hsm⟩ (by simp only; omega)))
    simp only
    rw [pairs_take (by omega) (by omega), hpair]
    exact (hbl.mono e2).append (.cons (by rw [hgx]; exact hex) hrep2 .nil)
  intro c1
  try simp only [nb] at c1
  obtain rfl : i = l.length := by omega
  rw [List.take_length] at hal
  rw [hlm, List.take_length] at ham
  rw [List.take_of_length_le (by rw [pairsOf_length hlm]; exact Nat.le_refl _)] at hbl
  have hpl := pairsOf_length hlm
  have hpo := pairs_ok hal ham
  refine s_exit rfl ?_
  refine s_seq ?_
  refine s_mem (fun w hw => hw.u1) (s_freezeBinds hbl hB hpl.symm (by unfold maxN; omega) ?_)
  intro J3 on cn e3 hbv hbs
  refine s_put (t := 10) (v' := .slice on (pairsOf l m).length cn) rfl hbv ?_
  refine o_enter rfl ?_
  refine o_move rfl .free rfl ?_
  refine o_lOS rfl .free rfl ?_
  refine o_call rfl .free rfl (f_bindAll hbs (hrep.mono (hle.trans e3)) _) ?_
  rintro _ J4 _ e4 ⟨cs4, rfl, hr4, rfl⟩
  have hlok := lets_ok hpo hfok
  have hll := lets_len (f := f) hpo
  rw [hpl] at hll
  have hgood := (Ex.tree_good hlok).1
  obtain ⟨o4, c4', vs4, rfl, -⟩ := hr4.open
  refine o_alloc .free rfl ?_
  intro b15
  refine o_st rfl rfl rfl rfl .free ?_
  refine o_done ?_
  refine s_seq ?_
  refine s_seq ?_
  refine o_enter rfl ?_
  refine o_lOS rfl .free rfl ?_
  refine o_call rfl .free rfl (f_form_isExpression hr4 hgood (by omega) _) ?_
  rintro _ _ _ _ ⟨rfl, rfl, rfl⟩
  refine o_not rfl .free rfl ?_
  refine o_done ?_
  refine s_cond rfl ?_ ?_
  · intro c3
    try simp only [nb] at c3
    have hfine : (lets (pairsOf l m) f).fine = false := by
      simp only [Ex.tree_size, Ex.tree_ex hlok, Option.isSome_some, Bool.and_true] at c3
      simp only [Ex.fine, hlok, Bool.true_and]
      rw [Bool.and_eq_false_iff, decide_eq_false_iff_not]; simpa using c3
    refine s_seq ?_
    refine o_enter rfl ?_
    refine o_assign rfl .free rfl ?_
    refine o_assign rfl .free rfl ?_
    refine o_done ?_
    refine s_ret (.tmp rfl (.tmp rfl .nil)) ?_
    refine ⟨J4, L, ((e0.trans hle).trans e3).trans e4, drops, ?_, rfl⟩
    rw [joinOf_some hn, if_neg (by rw [hfine]; simp)]; rfl
  intro c3
  try simp only [nb] at c3
  have hfine : (lets (pairsOf l m) f).fine = true := by
    simp only [Ex.tree_size, Ex.tree_ex hlok, Option.isSome_some, Bool.and_true] at c3
    simp only [Ex.fine, hlok, Bool.true_and]
    simpa using c3
  refine s_skip ?_
  refine s_seq ?_
  refine o_enter rfl ?_
  refine o_lOS rfl .free rfl ?_
  refine o_call rfl .free rfl (f_form_text hr4 (by rw [Tree.text_len]; unfold maxN; omega) _) ?_
  rintro _ _ _ _ ⟨rfl, rfl, rfl⟩
  refine o_assign rfl .free rfl ?_
  refine o_assign rfl .free rfl ?_
  refine o_done ?_
  refine s_ret (.tmp rfl (.tmp rfl .nil)) ?_
  refine ⟨J4, L, ((e0.trans hle).trans e3).trans e4, drops, ?_, rfl⟩
  rw [joinOf_some hn, if_pos ⟨hlm, hal, ham, hfine⟩]; rfl

/-- What the reference has made when 'k' are left. -/
structure KS where
  k : Nat
  s : Txt
end Go.Proofs.YtpbnimmbenagpaaGreat


/- What stands free is put, each name once; what is counted. No conditions. -/
namespace Go.Proofs.YtpbnimmbenagpaaGreat
set_option maxRecDepth 100000
set_option linter.unusedVariables false
set_option linter.unusedSimpArgs false

def nul : Ex := .num [48]
/-- Nought put for each of these names. -/
def Ex.puts (e : Ex) (l : List Txt) : Ex := l.foldl (fun e n => e.put n nul) e
theorem nul_closed : closedOf [48] = some nul := by
  have h1 : exOf [48] = some nul := exOf_fine (e := nul) (by decide)
  unfold closedOf
  rw [h1]; rfl
/-- How often a name stands free. -/
def countOf (s n : Txt) : Int := match exOf s with
  | some e => if isName n = true then (((e.occ []).count n : Nat) : Int) else -1
  | none => -1
end Go.Proofs.YtpbnimmbenagpaaGreat


/- The walk of the statement 'FnLets'. No conditions. -/
namespace Go.Proofs.YtpbnimmbenagpaaGreat
set_option maxRecDepth 100000
set_option linter.unusedVariables false
set_option linter.unusedSimpArgs false

theorem join_facts {l m : List Txt} {s o : Txt} (h : joinOf l m s = some o) : ∃ e, normOf true s = some e ∧ normOf true o = some (lets (pairsOf l m) e) ∧ o.length ≤ 12000 ∧ l.length = m.length := by
  unfold joinOf at h
  split at h
  · cases h
  · rename_i e he
    split at h
    · rename_i hc
      cases h
      obtain ⟨h1, h2, h3, h4⟩ := hc
      have hx := normOf_some he
      refine ⟨e, he, ?_, ?_, h1⟩
      · have hn := lets_norm (pairs_ok h2 h3) hx.2.1
        unfold normOf
        rw [exOf_fine h4]
        simp [hn]
      · simp only [Ex.fine, Bool.and_eq_true, decide_eq_true_eq, Tree.fits] at h4
        rw [Tree.text_len]; exact h4.2.2
    · cases h
theorem one_zero (e : Ex) : (lets (pairsOf [[97]] [[48]]) e).nl = e.nl + 1 := by
  have h0 : exOf [48] = some nul := (closedOf_some nul_closed).1
  have h1 : normOf false [48] = some nul := by unfold normOf; rw [h0]; rfl
  rw [nl_lets]
  show (((1 : Nat) + ((normOf false [48]).getD (.num [])).nl) + 0) + e.nl = e.nl + 1
  rw [h1]
  simp only [Option.getD_some, nul, Ex.nl]; omega
theorem law_FnLets {I : Heap} {oa : Option Addr} {code : List UInt8} {c : Nat} (h : Bytes I oa code c) (L : Own) : Fun Tryz.prog 3 [.slice oa code.length c] I L (YES L) := by
  have hlen := h.len
  refine fun_intro (by simp) ?_
  refine s_seq ?_
  refine o_enter rfl ?_
  refine o_assign rfl .free rfl ?_
  refine o_done ?_
  refine s_seq ?_
  refine s_seq ?_
  refine o_enter rfl ?_
  refine o_move rfl .free rfl ?_
  refine o_len_slice rfl .free rfl ?_
  refine o_cmp rfl rfl rfl .free rfl ?_
  refine o_done ?_
  refine s_cond rfl ?_ ?_
  · intro c0
    try simp only [nb] at c0
    refine s_seq ?_
    refine o_enter rfl ?_
    refine o_assign rfl .free rfl ?_
    refine o_done ?_
    refine s_ret (.tmp rfl .nil) ?_
    exact ⟨I, L, .refl _, fun _ h => h, rfl, rfl⟩
  intro c0
  try simp only [nb] at c0
  refine s_skip ?_
  refine s_seq ?_
  refine o_enter rfl ?_
  refine o_move rfl .free rfl ?_
  refine o_call rfl .free rfl (g_DrawNormalLets h _) ?_
  rintro _ J1 _ e1 ⟨s, rfl, hsl, rfl⟩
  have hs : s.length ≤ maxN := by unfold maxN; omega
  refine o_assign rfl .free rfl ?_
  refine o_done ?_
  refine s_seq ?_
  refine o_enter rfl ?_
  refine o_move rfl .free rfl ?_
  refine o_call rfl .free rfl (f_NormalLets s hs _ _) ?_
  rintro _ J2 _ e2 ⟨rfl, rfl⟩
  refine o_assign rfl .free rfl ?_
  refine o_done ?_
  refine s_seq ?_
  refine o_enter rfl ?_
  refine o_move rfl .free rfl ?_
  refine o_call rfl .free rfl (g_NormalLets s (maxN_maxL hs) _ _) ?_
  rintro _ J3 _ e3 ⟨rfl, rfl⟩
  have hle := (e1.trans e2).trans e3
  refine o_assign rfl .free rfl ?_
  refine o_done ?_
  refine s_seq ?_
  refine s_seq ?_
  refine o_enter rfl ?_
  refine o_move rfl .free rfl ?_
  refine o_move rfl .free rfl ?_
  refine o_cmp rfl rfl rfl .free rfl ?_
  refine o_move rfl .free rfl ?_
  apply o_or 23 26 rfl
  · intro g6_4 hk
    try simp only [nb] at g6_4
    refine o_move rfl (.met rfl rfl) rfl ?_
    refine o_cmp rfl rfl rfl (.met rfl rfl) rfl ?_
    refine o_pick_false rfl rfl .free rfl ?_
    exact o_fin 2 rfl rfl hk
  · intro _ hk
    refine o_skips 2 rfl ?_
    refine o_pick_true rfl rfl .free rfl ?_
    exact o_fin 2 rfl rfl hk
  refine o_done ?_
  refine s_cond rfl ?_ ?_
  · intro c1
    try simp only [nb] at c1
    refine s_seq ?_
    refine o_enter rfl ?_
    refine o_move rfl .free rfl ?_
    refine o_move rfl .free rfl ?_
    refine o_cmp rfl rfl rfl .free rfl ?_
    refine o_assign rfl .free rfl ?_
    refine o_done ?_
    refine s_ret (.tmp rfl .nil) ?_
    refine ⟨J3, L, hle, drops, ?_, rfl⟩
    simp [retOne]
  intro c1
  try simp only [nb] at c1
  obtain ⟨e, hne⟩ : ∃ e, normOf true s = some e := by
    cases hx : normOf true s with
    | none => rw [netsOf_none hx] at c1; simp at c1
    | some e => exact ⟨e, rfl⟩
  have hnp := e.path_nl
  have hnz := e.nl_size
  have hsz := (exOf_is (normOf_some hne).1).2.2.1
  clear c1
  rw [netsOf_some hne]
  refine s_skip ?_
  refine s_seq ?_
  refine o_enter rfl ?_
  refine o_move rfl .free rfl ?_
  refine o_call rfl .free rfl (f_NormalPath s hs _ _) ?_
  rintro _ J4 _ e4 ⟨on, cn, rfl, hst, rfl⟩
  rw [pathOf_some hne] at hst
  rw [pathOf_some hne]
  simp only [Option.getD_some, Option.isSome_some] at hst ⊢
  have hle := hle.trans e4
  refine o_move rfl .free rfl ?_
  iterate 3 refine o_extract rfl rfl .free rfl ?_
  iterate 3 refine o_assign rfl .free rfl ?_
  refine o_done ?_
  refine s_seq ?_
  refine o_enter rfl ?_
  refine o_lits rfl rfl (by rfl) (by rfl) (by rfl) (by decide) (by decide) (by rfl) .free rfl ?_
  intro b37
  refine o_freezeLit [[97]] (by decide) (by decide) ?_
  intro J5 e5 k1
  refine o_lits rfl rfl (by rfl) (by rfl) (by rfl) (by decide) (by decide) (by rfl) .free rfl ?_
  intro b38
  refine o_freezeLit [[48]] (by decide) (by decide) ?_
  intro J6 e6 k2
  have k1 := k1.mono e6
  have hle := (hle.trans e5).trans e6
  refine o_move rfl .free rfl ?_
  refine o_call rfl .free rfl (f_NormalJoin k1 k2 s hs _) ?_
  rintro _ J7 _ e7 ⟨rfl, rfl⟩
  have hle := hle.trans e7
  have hxl : ((joinOf [[97]] [[48]] s).getD []).length ≤ maxN := by
    cases hj : joinOf [[97]] [[48]] s with
    | none => decide
    | some o => obtain ⟨e', he1, he2, he3, -⟩ := join_facts hj; simp only [Option.getD_some]; unfold maxN; omega
  have hfin : joinOf [[97]] [[48]] s = none ∨ netsOf ((joinOf [[97]] [[48]] s).getD []) = (e.nl : Int) + 1 := by
    cases hj : joinOf [[97]] [[48]] s with
    | none => exact .inl rfl
    | some o =>
      obtain ⟨e', he1, he2, he3, -⟩ := join_facts hj
      rw [hne] at he1; cases he1
      simp only [Option.getD_some]
      rw [netsOf_some he2, one_zero]; exact .inr (by omega)
  refine o_move rfl .free rfl ?_
  refine o_extract rfl rfl .free rfl ?_
  refine o_extract rfl rfl .free rfl ?_
  refine o_assign rfl .free rfl ?_
  refine o_assign rfl .free rfl ?_
  refine o_done ?_
  refine s_seq ?_
  refine o_enter rfl ?_
  refine o_move rfl .free rfl ?_
  refine o_move rfl .free rfl ?_
  apply o_and 44 49 rfl
  · intro g10_2 hk
    try simp only [nb] at g10_2
    refine o_move rfl (.met rfl rfl) rfl ?_
    refine o_move rfl (.met rfl rfl) rfl ?_
    refine o_len_slice rfl (.met rfl rfl) rfl ?_
    refine o_cmp rfl rfl rfl (.met rfl rfl) rfl ?_
    refine o_pick_true rfl rfl .free rfl ?_
    exact o_fin 4 rfl rfl hk
  · intro _ hk
    refine o_skips 4 rfl ?_
    refine o_pick_false rfl rfl .free rfl ?_
    exact o_fin 4 rfl rfl hk
  refine o_move rfl .free rfl ?_
  apply o_and 50 60 rfl
  · intro g10_8 hk
    try simp only [nb] at g10_8
    refine o_move rfl (.met rfl rfl) rfl ?_
    refine o_not rfl (.met rfl rfl) rfl ?_
    refine o_move rfl (.met rfl rfl) rfl ?_
    apply o_or 53 59 rfl
    · intro g10_11 hk
      try simp only [nb] at g10_11
      refine o_move rfl (.met rfl rfl) rfl ?_
      refine o_call rfl (.met rfl rfl) rfl (f_NormalLets _ hxl _ _) ?_
      rintro _ J8 _ e8 ⟨rfl, rfl⟩
      refine o_mem (fun w h => Mem.le e8 h) ?_
      refine o_move rfl (.met rfl rfl) rfl ?_
      refine o_arith rfl rfl rfl (by omega) (.met rfl rfl) rfl ?_
      refine o_cmp rfl rfl rfl (.met rfl rfl) rfl ?_
      refine o_pick_false rfl rfl (.met rfl rfl) rfl ?_
      exact o_fin 5 rfl rfl hk
    · intro _ hk
      refine o_skips 5 rfl ?_
      refine o_pick_true rfl rfl (.met rfl rfl) rfl ?_
      exact o_fin 5 rfl rfl hk
    refine o_pick_true rfl rfl .free rfl ?_
    exact o_fin 4 rfl rfl hk
  · intro _ hk
    refine o_skips 9 rfl ?_
    refine o_pick_false rfl rfl .free rfl ?_
    exact o_fin 9 rfl rfl hk
  refine o_assign rfl .free rfl ?_
  refine o_done ?_
  refine s_ret (.tmp rfl .nil) ?_
  refine ⟨J7, L, hle, drops, ?_, rfl⟩
  have h3 : (e.path.length : Int) ≤ (e.nl : Int) := by omega
  simp only [retOne]
  rcases hfin with hj | hj
  · simp [hj, hnp]
  · simp [hj, hnp]
end Go.Proofs.YtpbnimmbenagpaaGreat
