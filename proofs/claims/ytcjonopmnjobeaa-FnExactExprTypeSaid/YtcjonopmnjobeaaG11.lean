/- Lists of texts that come with the call. No conditions. -/
import Derived.Test.YtcjonopmnjobeaaG10
namespace Go.Proofs.Ytcjonopmnjobeaa
set_option maxRecDepth 100000
set_option linter.unusedVariables false
set_option linter.unusedSimpArgs false

theorem Raw.strs {I : Heap} {oa : Option Addr} {l : List Txt} {c : Nat} (h : Raw I oa l c) (h1 : l.length ≤ maxN) (h2 : ∀ s ∈ l, s.length ≤ maxN) : Strs I oa l c := ⟨h.still, h.nil, h.cap, h1, h2⟩
theorem Raw.mono {I I' : Heap} {oa : Option Addr} {l : List Txt} {c : Nat} (hle : HLe I I') (h : Raw I oa l c) : Raw I' oa l c :=
  ⟨fun x hx => (h.still x hx).mono hle, h.nil, h.cap, h.len, h.each⟩

end Go.Proofs.Ytcjonopmnjobeaa


/- The walk of the statement 'FnExactExprType'. No conditions. -/
namespace Go.Proofs.Ytcjonopmnjobeaa
set_option maxRecDepth 100000
set_option linter.unusedVariables false
set_option linter.unusedSimpArgs false

theorem law_FnExactExprType {I : Heap} {oa ob : Option Addr} {l m : List Txt} {c c' : Nat} (h : Raw I oa l c) (h' : Raw I ob m c') (s : Txt) (hs : s.length ≤ 9223372036854775807) (L : Own) :
    Fun Try.prog 3 [.slice oa l.length c, .slice ob m.length c', .string (str s)] I L (YES L) := by
  refine fun_intro (by simp) ?_
  refine s_seq ?_
  refine o_enter rfl ?_
  refine o_assign rfl .free rfl ?_
  refine o_done ?_
  refine s_seq ?_
  refine s_seq ?_
  refine o_enter rfl ?_
  refine o_move rfl .free rfl ?_
  refine o_len_str rfl .free rfl ?_
  refine o_cmp rfl rfl rfl .free rfl ?_
  refine o_done ?_
  first | refine s_if rfl ?_ ?_ | refine s_ifn rfl ?_ ?_ | refine s_cond rfl ?_ ?_
  · intro c0
    refine s_seq ?_
    refine o_enter rfl ?_
    refine o_assign rfl .free rfl ?_
    refine o_done ?_
    refine s_ret (.tmp rfl .nil) ?_
    exact ⟨I, L, .refl _, fun _ h => h, rfl, rfl⟩
  intro c0
  have hs := (show s.length ≤ maxN by unfold maxN; omega)
  refine s_skip ?_
  refine s_seq ?_
  refine o_enter rfl ?_
  refine o_assign rfl .free rfl ?_
  refine o_done ?_
  refine s_seq ?_
  refine o_enter rfl ?_
  refine o_move rfl .free rfl ?_
  refine o_move rfl .free rfl ?_
  refine o_call rfl .free rfl (x_szStringS h 1048576 (by omega) _) ?_
  rintro _ _ _ _ ⟨r, rfl, rfl, rfl, hr1, hr2⟩
  refine o_assign rfl .free rfl ?_
  refine o_done ?_
  refine s_seq ?_
  refine s_seq ?_
  refine o_enter rfl ?_
  refine o_move rfl .free rfl ?_
  refine o_cmp rfl rfl rfl .free rfl ?_
  refine o_done ?_
  first | refine s_if rfl ?_ ?_ | refine s_ifn rfl ?_ ?_ | refine s_cond rfl ?_ ?_
  · intro c1
    refine s_seq ?_
    refine o_enter rfl ?_
    refine o_assign rfl .free rfl ?_
    refine o_done ?_
    refine s_ret (.tmp rfl .nil) ?_
    exact ⟨I, L, .refl _, fun _ h => h, rfl, rfl⟩
  intro c1
  obtain ⟨k, rfl⟩ : ∃ k : Nat, r = k := ⟨r.toNat, by omega⟩
  obtain ⟨hl1, hl2⟩ := hr2 (by omega)
  have hl := h.strs (by unfold maxN; omega) (fun s hs => by have := hl2 s hs; unfold maxN; omega)
  refine s_skip ?_
  refine s_seq ?_
  refine o_enter rfl ?_
  refine o_move rfl .free rfl ?_
  refine o_move rfl .free rfl ?_
  refine o_call rfl .free rfl (x_szStringS h' k (by omega) _) ?_
  rintro _ _ _ _ ⟨r', rfl, rfl, rfl, hr3, hr4⟩
  refine o_assign rfl .free rfl ?_
  refine o_done ?_
  refine s_seq ?_
  refine s_seq ?_
  refine o_enter rfl ?_
  refine o_move rfl .free rfl ?_
  refine o_cmp rfl rfl rfl .free rfl ?_
  refine o_done ?_
  first | refine s_if rfl ?_ ?_ | refine s_ifn rfl ?_ ?_ | refine s_cond rfl ?_ ?_
  · intro c2
    refine s_seq ?_
    refine o_enter rfl ?_
    refine o_assign rfl .free rfl ?_
    refine o_done ?_
    refine s_ret (.tmp rfl .nil) ?_
    exact ⟨I, L, .refl _, fun _ h => h, rfl, rfl⟩
  intro c2
  obtain ⟨hm1, hm2⟩ := hr4 (by omega)
  have hm := h'.strs (by unfold maxN; omega) (fun s hs => by have := hm2 s hs; unfold maxN; omega)
  refine s_skip ?_
  refine s_seq ?_
  refine o_enter rfl ?_
  refine o_move rfl .free rfl ?_
  refine o_call rfl .free rfl (x_toStringS hl _) ?_
  rintro _ I1 _ e1 ⟨x1, rfl, k1, rfl⟩
  refine o_move rfl .free rfl ?_
  refine o_call rfl .free rfl (x_toStringS (hm.mono e1) _) ?_
  rintro _ I2 _ e2 ⟨x2, rfl, k2, rfl⟩
  refine o_move rfl .free rfl ?_
  refine o_call rfl .free rfl (g_ExprType (k1.mono e2) k2 s (maxN_maxL hs) _) ?_
  rintro _ I3 _ e3 ⟨rfl, rfl⟩
  refine o_move rfl .free rfl ?_
  refine o_extract rfl rfl .free rfl ?_
  refine o_extract rfl rfl .free rfl ?_
  refine o_assign rfl .free rfl ?_
  refine o_assign rfl .free rfl ?_
  refine o_done ?_
  refine s_seq ?_
  refine o_enter rfl ?_
  refine o_move rfl .free rfl ?_
  refine o_call rfl .free rfl (x_toStringS (hl.mono ((e1.trans e2).trans e3)) _) ?_
  rintro _ I4 _ e4 ⟨x3, rfl, k3, rfl⟩
  refine o_assign rfl .free rfl ?_
  refine o_done ?_
  refine s_seq ?_
  refine o_enter rfl ?_
  refine o_move rfl .free rfl ?_
  refine o_call rfl .free rfl (x_toStringS (hm.mono (((e1.trans e2).trans e3).trans e4)) _) ?_
  rintro _ I5 _ e5 ⟨x4, rfl, k4, rfl⟩
  refine o_assign rfl .free rfl ?_
  refine o_done ?_
  refine s_seq ?_
  refine o_enter rfl ?_
  iterate 3 refine o_move rfl .free rfl ?_
  refine o_call rfl .free rfl (f_ExprType (k3.mono e5) k4 s hs _) ?_
  rintro _ I6 _ e6 ⟨rfl, rfl⟩
  refine o_move rfl .free rfl ?_
  refine o_extract rfl rfl .free rfl ?_
  refine o_extract rfl rfl .free rfl ?_
  refine o_assign rfl .free rfl ?_
  refine o_assign rfl .free rfl ?_
  refine o_done ?_
  refine s_seq ?_
  refine s_seq ?_
  refine o_enter rfl ?_
  refine o_move rfl .free rfl ?_
  refine o_move rfl .free rfl ?_
  refine o_cmps rfl rfl rfl .free rfl ?_
  refine o_move rfl .free rfl ?_
  first | refine g_fp rfl rfl (by simp) ?_ | refine g_fn rfl rfl (by simp) ?_
  refine o_move rfl (.met rfl rfl) rfl ?_
  refine o_move rfl (.met rfl rfl) rfl ?_
  refine o_cmpb rfl rfl rfl (.met rfl rfl) rfl ?_
  refine o_pick_false rfl rfl .free rfl ?_
  refine o_done ?_
  first | refine s_fp rfl (by simp) ?_ | refine s_fn rfl (by simp) ?_ | refine s_false (by simp [look, opd, *]) ?_
  refine s_skip ?_
  refine s_seq ?_
  refine s_seq ?_
  refine o_enter rfl ?_
  refine o_move rfl .free rfl ?_
  refine o_move rfl .free rfl ?_
  refine o_call rfl .free rfl (x_toStringS (hl.mono (((((e1.trans e2).trans e3).trans e4).trans e5).trans e6)) _) ?_
  rintro _ I7 _ e7 ⟨x5, rfl, k5, rfl⟩
  refine o_call rfl .free rfl (x_eqStringS (k3.mono ((e5.trans e6).trans e7)) k5 _) ?_
  rintro _ _ _ _ ⟨rfl, rfl, rfl⟩
  refine o_not rfl .free rfl ?_
  refine o_done ?_
  first | refine s_fp rfl (by simp) ?_ | refine s_fn rfl (by simp) ?_ | refine s_false (by simp [look, opd, *]) ?_
  refine s_skip ?_
  refine s_seq ?_
  refine s_seq ?_
  refine o_enter rfl ?_
  refine o_move rfl .free rfl ?_
  refine o_move rfl .free rfl ?_
  refine o_call rfl .free rfl (x_toStringS (hm.mono ((((((e1.trans e2).trans e3).trans e4).trans e5).trans e6).trans e7)) _) ?_
  rintro _ I8 _ e8 ⟨x6, rfl, k6, rfl⟩
  refine o_call rfl .free rfl (x_eqStringS (k4.mono ((e6.trans e7).trans e8)) k6 _) ?_
  rintro _ _ _ _ ⟨rfl, rfl, rfl⟩
  refine o_not rfl .free rfl ?_
  refine o_done ?_
  first | refine s_fp rfl (by simp) ?_ | refine s_fn rfl (by simp) ?_ | refine s_false (by simp [look, opd, *]) ?_
  refine s_skip ?_
  refine s_seq ?_
  refine o_enter rfl ?_
  refine o_assign rfl .free rfl ?_
  refine o_done ?_
  refine s_ret (.tmp rfl .nil) ?_
  exact ⟨I8, L, (((((((e1.trans e2).trans e3).trans e4).trans e5).trans e6).trans e7).trans e8), fun _ h => h, rfl, rfl⟩
end Go.Proofs.Ytcjonopmnjobeaa
