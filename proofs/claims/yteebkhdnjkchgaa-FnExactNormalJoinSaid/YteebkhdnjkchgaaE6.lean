
/- Simple and normal expressions, by the program and by the reference. No conditions. -/
import Derived.Test.YteebkhdnjkchgaaE5
import Derived.Test.YteebkhdnjkchgaaM5
namespace Go.Proofs.Yteebkhdnjkchgaa
set_option maxRecDepth 100000
set_option linter.unusedVariables false
set_option linter.unusedSimpArgs false

/-- A part of an expression's form, taken for what it is. -/
theorem FormAt.as {I : Heap} {t : Tree} {oa : Option Addr} {c : Nat} {oaf : Nat → Option Addr} {cf : Nat → Nat} (h : FormAt I t oa c oaf cf) (i : Nat) (u : Tree) (hi : i < t.parts.length) (hu : t.pt i = u) : Rep I u [.string (str u.atom), .slice (oaf i) u.parts.length (cf i)] := by
  subst hu; exact h.rp i hi
theorem f_bare {I : Heap} {e : Ex} {cs : List Value} (h : Rep I e.tree cs) (hok : e.ok = true) (L : Own) : Fun Try.prog 28 [.agg cs.toArray] I L (Only (.bool e.bare) I L) := by
  rw [← Ex.bare_eq hok]; exact f_form_isBare h L
theorem cond_eq {b : Bool} {p : Prop} [Decidable p] (h : b = true ↔ p) : b = decide p := by rw [Bool.eq_iff_iff]; simpa using h

def SimpleF (n : Nat) : Prop := ∀ {I : Heap} {e : Ex} {cs : List Value} (_ : SizeOf.sizeOf e < n) (_ : Rep I e.tree cs) (_ : e.ok = true) (L : Own), Fun Try.prog 15 [.agg cs.toArray] I L (Only (.bool (e.norm false)) I L)
def NormalF (n : Nat) : Prop := ∀ {I : Heap} {e : Ex} {cs : List Value} (_ : SizeOf.sizeOf e < n) (_ : Rep I e.tree cs) (_ : e.ok = true) (L : Own), Fun Try.prog 23 [.agg cs.toArray] I L (Only (.bool (e.norm true)) I L)
theorem simpleF_step {n : Nat} (ihN : NormalF n) : SimpleF (n + 1) := by
  intro I e cs hlt h hok L
  obtain ⟨oa, c, oaf, cf, rfl, hf⟩ := h.at'
  refine fun_intro (by simp) ?_
  refine s_seq ?_
  refine o_enter rfl ?_
  refine o_box rfl rfl .free rfl ?_
  intro b1
  refine o_assign rfl .free rfl ?_
  refine o_done ?_
  refine s_seq ?_
  refine s_seq ?_
  refine o_enter rfl ?_
  refine o_load rfl (loads_ownS (by first | exact m0 | exact m1 | exact m2 | exact m3 | exact m4 | exact m5 | exact m6) (by rfl)) .free rfl ?_
  refine o_call rfl .free rfl (f_form_head hf.rep _) ?_
  rintro _ _ _ _ ⟨rfl, rfl, rfl⟩
  refine o_done ?_
  refine s_block ?_
  refine s_seq ?_
  refine o_enter rfl ?_
  refine o_cmps rfl rfl rfl .free rfl ?_
  refine o_assign rfl .free rfl ?_
  refine o_done ?_
  refine s_cond rfl ?_ ?_
  · intro c0
    try simp only [Bool.and_eq_true, Bool.or_eq_true, Bool.not_eq_true', Bool.not_eq_false', Bool.and_eq_false_iff, Bool.or_eq_false_iff, decide_eq_true_eq, decide_eq_false_iff_not] at c0
    refine s_seq ?_
    refine o_enter rfl ?_
    refine o_assign rfl .free rfl ?_
    refine o_done ?_
    refine s_ret (.tmp rfl .nil) ?_
    refine done_only rfl (by intro _ h; first | exact h | exact dr1 h | exact dr2 h | exact dr3 h | exact dr4 h | exact dr5 h | exact dr6 h) ?_
    have hb := Ex.of_nil c0
    cases e <;> first | rfl | cases hb
  · intro c0
    try simp only [Bool.and_eq_true, Bool.or_eq_true, Bool.not_eq_true', Bool.not_eq_false', Bool.and_eq_false_iff, Bool.or_eq_false_iff, decide_eq_true_eq, decide_eq_false_iff_not] at c0
    refine s_seq ?_
    refine o_enter rfl ?_
    refine o_cmps rfl rfl rfl .free rfl ?_
    refine o_assign rfl .free rfl ?_
    refine o_done ?_
    refine s_cond rfl ?_ ?_
    · intro c1
      try simp only [Bool.and_eq_true, Bool.or_eq_true, Bool.not_eq_true', Bool.not_eq_false', Bool.and_eq_false_iff, Bool.or_eq_false_iff, decide_eq_true_eq, decide_eq_false_iff_not] at c1
      obtain ⟨x, a, b, rfl⟩ := Ex.of_let c1
      refine s_seq ?_
      refine o_enter rfl ?_
      refine o_assign rfl .free rfl ?_
      refine o_done ?_
      refine s_ret (.tmp rfl .nil) ?_
      refine done_only rfl (by intro _ h; first | exact h | exact dr1 h | exact dr2 h | exact dr3 h | exact dr4 h | exact dr5 h | exact dr6 h) ?_
      rfl
    · intro c1
      try simp only [Bool.and_eq_true, Bool.or_eq_true, Bool.not_eq_true', Bool.not_eq_false', Bool.and_eq_false_iff, Bool.or_eq_false_iff, decide_eq_true_eq, decide_eq_false_iff_not] at c1
      refine s_seq ?_
      refine o_enter rfl ?_
      refine o_cmps rfl rfl rfl .free rfl ?_
      refine o_assign rfl .free rfl ?_
      refine o_done ?_
      refine s_cond rfl ?_ ?_
      · intro c2
        try simp only [Bool.and_eq_true, Bool.or_eq_true, Bool.not_eq_true', Bool.not_eq_false', Bool.and_eq_false_iff, Bool.or_eq_false_iff, decide_eq_true_eq, decide_eq_false_iff_not] at c2
        obtain ⟨a, b, d, rfl⟩ := Ex.of_if c2
        simp only [Ex.ok, Bool.and_eq_true] at hok
        simp only [Ex.ite.sizeOf_spec] at hlt
        have hlen : (Ex.ite a b d).tree.parts.length = 4 := rfl
        refine s_seq ?_
        refine o_enter rfl ?_
        refine o_fieldAddr rfl .free rfl ?_
        refine o_load rfl (loads_own1 (by first | exact m0 | exact m1 | exact m2 | exact m3 | exact m4 | exact m5 | exact m6) (by rfl) rfl) .free rfl ?_
        first | refine o_indexAddrD rfl rfl 1 rfl (by first | omega | exact lt_of (by assumption) (by decide) | (simp; done) | (simp; omega) | decide | (simp at *; omega)) (by first | assumption | exact FormAt.nil (by assumption) | exact Strs.nil' (by assumption) | exact Nums.nil' (by assumption) | exact Raw.nil' (by assumption)) .free rfl ?_ | refine o_indexAddr' rfl rfl 1 rfl (by first | omega | exact lt_of (by assumption) (by decide) | (simp; done) | (simp; omega) | decide | (simp at *; omega)) (by first | rfl | assumption) .free rfl ?_
        refine o_load rfl (by first | exact loads_stillS (FormAt.st (by assumption) _ (by first | omega | decide | (simp; done) | exact lt_of (by assumption) (by decide))) (by rfl) | exact loads_stillS (by assumption) (by rfl)) .free rfl ?_
        refine o_call rfl .free rfl (f_bare (hf.as 1 a.tree (by omega) rfl) hok.1.1 _) ?_
        rintro _ _ _ _ ⟨rfl, rfl, rfl⟩
        refine o_move rfl .free rfl ?_
        apply o_and 18 24 rfl
        · intro g7_6 hk
          try simp only [Bool.and_eq_true, Bool.or_eq_true, Bool.not_eq_true', Bool.not_eq_false', Bool.and_eq_false_iff, Bool.or_eq_false_iff, decide_eq_true_eq, decide_eq_false_iff_not] at g7_6
          refine o_fieldAddr rfl (.met rfl rfl) rfl ?_
          refine o_load rfl (loads_own1 (by first | exact m0 | exact m1 | exact m2 | exact m3 | exact m4 | exact m5 | exact m6) (by rfl) rfl) (.met rfl rfl) rfl ?_
          first | refine o_indexAddrD rfl rfl 2 rfl (by first | omega | exact lt_of (by assumption) (by decide) | (simp; done) | (simp; omega) | decide | (simp at *; omega)) (by first | assumption | exact FormAt.nil (by assumption) | exact Strs.nil' (by assumption) | exact Nums.nil' (by assumption) | exact Raw.nil' (by assumption)) (.met rfl rfl) rfl ?_ | refine o_indexAddr' rfl rfl 2 rfl (by first | omega | exact lt_of (by assumption) (by decide) | (simp; done) | (simp; omega) | decide | (simp at *; omega)) (by first | rfl | assumption) (.met rfl rfl) rfl ?_
          refine o_load rfl (by first | exact loads_stillS (FormAt.st (by assumption) _ (by first | omega | decide | (simp; done) | exact lt_of (by assumption) (by decide))) (by rfl) | exact loads_stillS (by assumption) (by rfl)) (.met rfl rfl) rfl ?_
          refine o_call rfl (.met rfl rfl) rfl (ihN (by omega) (hf.as 2 b.tree (by omega) rfl) hok.1.2 _) ?_
          rintro _ _ _ _ ⟨rfl, rfl, rfl⟩
          refine o_pick_true rfl rfl .free rfl ?_
          exact o_fin 5 rfl rfl hk
        · intro _ hk
          refine o_skips 5 rfl ?_
          refine o_pick_false rfl rfl .free rfl ?_
          exact o_fin 5 rfl rfl hk
        refine o_move rfl .free rfl ?_
        apply o_and 25 31 rfl
        · intro g7_13 hk
          try simp only [Bool.and_eq_true, Bool.or_eq_true, Bool.not_eq_true', Bool.not_eq_false', Bool.and_eq_false_iff, Bool.or_eq_false_iff, decide_eq_true_eq, decide_eq_false_iff_not] at g7_13
          refine o_fieldAddr rfl (.met rfl rfl) rfl ?_
          refine o_load rfl (loads_own1 (by first | exact m0 | exact m1 | exact m2 | exact m3 | exact m4 | exact m5 | exact m6) (by rfl) rfl) (.met rfl rfl) rfl ?_
          first | refine o_indexAddrD rfl rfl 3 rfl (by first | omega | exact lt_of (by assumption) (by decide) | (simp; done) | (simp; omega) | decide | (simp at *; omega)) (by first | assumption | exact FormAt.nil (by assumption) | exact Strs.nil' (by assumption) | exact Nums.nil' (by assumption) | exact Raw.nil' (by assumption)) (.met rfl rfl) rfl ?_ | refine o_indexAddr' rfl rfl 3 rfl (by first | omega | exact lt_of (by assumption) (by decide) | (simp; done) | (simp; omega) | decide | (simp at *; omega)) (by first | rfl | assumption) (.met rfl rfl) rfl ?_
          refine o_load rfl (by first | exact loads_stillS (FormAt.st (by assumption) _ (by first | omega | decide | (simp; done) | exact lt_of (by assumption) (by decide))) (by rfl) | exact loads_stillS (by assumption) (by rfl)) (.met rfl rfl) rfl ?_
          refine o_call rfl (.met rfl rfl) rfl (ihN (by omega) (hf.as 3 d.tree (by omega) rfl) hok.2 _) ?_
          rintro _ _ _ _ ⟨rfl, rfl, rfl⟩
          refine o_pick_true rfl rfl .free rfl ?_
          exact o_fin 5 rfl rfl hk
        · intro _ hk
          refine o_skips 5 rfl ?_
          refine o_pick_false rfl rfl .free rfl ?_
          exact o_fin 5 rfl rfl hk
        refine o_assign rfl .free rfl ?_
        refine o_done ?_
        refine s_ret (.tmp rfl .nil) ?_
        refine done_only rfl (by intro _ h; first | exact h | exact dr1 h | exact dr2 h | exact dr3 h | exact dr4 h | exact dr5 h | exact dr6 h) ?_
        rfl
      · intro c2
        try simp only [Bool.and_eq_true, Bool.or_eq_true, Bool.not_eq_true', Bool.not_eq_false', Bool.and_eq_false_iff, Bool.or_eq_false_iff, decide_eq_true_eq, decide_eq_false_iff_not] at c2
        refine s_seq ?_
        refine o_enter rfl ?_
        refine o_cmps rfl rfl rfl .free rfl ?_
        refine o_assign rfl .free rfl ?_
        refine o_done ?_
        refine s_cond rfl ?_ ?_
        · intro c3
          try simp only [Bool.and_eq_true, Bool.or_eq_true, Bool.not_eq_true', Bool.not_eq_false', Bool.and_eq_false_iff, Bool.or_eq_false_iff, decide_eq_true_eq, decide_eq_false_iff_not] at c3
          obtain ⟨f, x, s, t, b, rfl⟩ := Ex.of_fun c3
          simp only [Ex.ok, Bool.and_eq_true] at hok
          simp only [Ex.fn.sizeOf_spec] at hlt
          have hlen : (Ex.fn f x s t b).tree.parts.length = 6 := rfl
          refine s_seq ?_
          refine o_enter rfl ?_
          refine o_fieldAddr rfl .free rfl ?_
          refine o_load rfl (loads_own1 (by first | exact m0 | exact m1 | exact m2 | exact m3 | exact m4 | exact m5 | exact m6) (by rfl) rfl) .free rfl ?_
          first | refine o_indexAddrD rfl rfl 5 rfl (by first | omega | exact lt_of (by assumption) (by decide) | (simp; done) | (simp; omega) | decide | (simp at *; omega)) (by first | assumption | exact FormAt.nil (by assumption) | exact Strs.nil' (by assumption) | exact Nums.nil' (by assumption) | exact Raw.nil' (by assumption)) .free rfl ?_ | refine o_indexAddr' rfl rfl 5 rfl (by first | omega | exact lt_of (by assumption) (by decide) | (simp; done) | (simp; omega) | decide | (simp at *; omega)) (by first | rfl | assumption) .free rfl ?_
          refine o_load rfl (by first | exact loads_stillS (FormAt.st (by assumption) _ (by first | omega | decide | (simp; done) | exact lt_of (by assumption) (by decide))) (by rfl) | exact loads_stillS (by assumption) (by rfl)) .free rfl ?_
          refine o_call rfl .free rfl (ihN (by omega) (hf.as 5 b.tree (by omega) rfl) hok.2 _) ?_
          rintro _ _ _ _ ⟨rfl, rfl, rfl⟩
          refine o_assign rfl .free rfl ?_
          refine o_done ?_
          refine s_ret (.tmp rfl .nil) ?_
          refine done_only rfl (by intro _ h; first | exact h | exact dr1 h | exact dr2 h | exact dr3 h | exact dr4 h | exact dr5 h | exact dr6 h) ?_
          rfl
        · intro c3
          try simp only [Bool.and_eq_true, Bool.or_eq_true, Bool.not_eq_true', Bool.not_eq_false', Bool.and_eq_false_iff, Bool.or_eq_false_iff, decide_eq_true_eq, decide_eq_false_iff_not] at c3
          have ho := Ex.of_other c0 c1 c2 c3
          refine s_skip ?_
          refine s_inBlock ?_
          refine s_seq ?_
          refine s_seq ?_
          rcases ho with ⟨o, a, b, rfl⟩ | ⟨o, a, rfl⟩
          · skip
            skip
            refine o_enter rfl ?_
            refine o_load rfl (loads_ownS (by first | exact m0 | exact m1 | exact m2 | exact m3 | exact m4 | exact m5 | exact m6) (by rfl)) .free rfl ?_
            refine o_call rfl .free rfl (f_form_kids hf.rep _) ?_
            rintro _ J _ eJ ⟨ok, ck, rfl, hk, rfl⟩
            have hf := hf.mono eJ
            clear c0 c1 c2 c3
            rw [kids_bin] at hk
            simp only [Ex.ok, Bool.and_eq_true] at hok
            have hlen : (Ex.bin o a b).tree.parts.length = 3 := rfl
            rw [kids_bin]
            have hkl : [1, 2].length = 2 := rfl
            refine o_len_slice rfl .free rfl ?_
            refine o_move rfl .free rfl ?_
            refine o_done ?_
            refine s_block ?_
            refine s_loop ?_
            refine s_seq ?_
            refine o_enter rfl ?_
            refine o_cmp rfl rfl rfl .free rfl ?_
            refine o_done ?_
            refine s_seq ?_
            refine s_condT rfl (by first | rfl | decide | (simp; done) | omega) ?_
            refine s_skip ?_
            refine s_seq ?_
            refine s_block ?_
            refine s_seq ?_
            refine o_enter rfl ?_
            first | refine o_indexAddrD rfl rfl _ rfl (by first | omega | exact lt_of (by assumption) (by decide) | (simp; done) | (simp; omega) | decide | (simp at *; omega)) (by first | assumption | exact FormAt.nil (by assumption) | exact Strs.nil' (by assumption) | exact Nums.nil' (by assumption) | exact Raw.nil' (by assumption)) .free rfl ?_ | refine o_indexAddr' rfl rfl _ rfl (by first | omega | exact lt_of (by assumption) (by decide) | (simp; done) | (simp; omega) | decide | (simp at *; omega)) (by first | rfl | assumption) .free rfl ?_
            refine o_load rfl (by first | exact loads_still1 (Nums.st (by assumption) _ (by first | omega | decide | (simp; done) | exact lt_of (by assumption) (by decide))) rfl | exact loads_still1 (Strs.st (by assumption) _ (by first | omega | decide | (simp; done) | exact lt_of (by assumption) (by decide))) rfl | exact loads_still1 (Raw.st (by assumption) _ (by first | omega | decide | (simp; done) | exact lt_of (by assumption) (by decide))) rfl | exact loads_still1 (by assumption) rfl) .free rfl ?_
            refine o_assign rfl .free rfl ?_
            refine o_done ?_
            refine s_seq ?_
            refine o_enter rfl ?_
            refine o_fieldAddr rfl .free rfl ?_
            refine o_load rfl (loads_own1 (by first | exact m0 | exact m1 | exact m2 | exact m3 | exact m4 | exact m5 | exact m6) (by rfl) rfl) .free rfl ?_
            refine o_move rfl .free rfl ?_
            first | refine o_indexAddrD rfl rfl _ rfl (by first | omega | exact lt_of (by assumption) (by decide) | (simp; done) | (simp; omega) | decide | (simp at *; omega)) (by first | assumption | exact FormAt.nil (by assumption) | exact Strs.nil' (by assumption) | exact Nums.nil' (by assumption) | exact Raw.nil' (by assumption)) .free rfl ?_ | refine o_indexAddr' rfl rfl _ rfl (by first | omega | exact lt_of (by assumption) (by decide) | (simp; done) | (simp; omega) | decide | (simp at *; omega)) (by first | rfl | assumption) .free rfl ?_
            refine o_load rfl (by first | exact loads_stillS (FormAt.st (by assumption) _ (by first | omega | decide | (simp; done) | exact lt_of (by assumption) (by decide))) (by rfl) | exact loads_stillS (by assumption) (by rfl)) .free rfl ?_
            refine o_call rfl .free rfl (f_bare (hf.as 1 a.tree (by omega) rfl) hok.1 _) ?_
            rintro _ _ _ _ ⟨rfl, rfl, rfl⟩
            refine o_not rfl .free rfl ?_
            refine o_done ?_
            refine s_cond rfl ?_ ?_
            · intro c5
              try simp only [Bool.and_eq_true, Bool.or_eq_true, Bool.not_eq_true', Bool.not_eq_false', Bool.and_eq_false_iff, Bool.or_eq_false_iff, decide_eq_true_eq, decide_eq_false_iff_not] at c5
              refine s_seq ?_
              refine o_enter rfl ?_
              refine o_assign rfl .free rfl ?_
              refine o_done ?_
              refine s_ret (.tmp rfl .nil) ?_
              refine done_fgt eJ (by intro _ h; first | exact h | exact dr1 h | exact dr2 h | exact dr3 h | exact dr4 h | exact dr5 h | exact dr6 h) ?_
              simp [Ex.norm, retOne, *]
            · intro c5
              try simp only [Bool.and_eq_true, Bool.or_eq_true, Bool.not_eq_true', Bool.not_eq_false', Bool.and_eq_false_iff, Bool.or_eq_false_iff, decide_eq_true_eq, decide_eq_false_iff_not] at c5
              refine s_skip ?_
              refine s_inBlock ?_
              refine o_enter rfl ?_
              refine o_arith rfl rfl rfl (by omega) .free rfl ?_
              refine o_move rfl .free rfl ?_
              refine o_done ?_
              refine s_round ?_
              refine s_seq ?_
              refine o_enter rfl ?_
              refine o_cmp rfl rfl rfl .free rfl ?_
              refine o_done ?_
              refine s_seq ?_
              refine s_condT rfl (by first | rfl | decide | (simp; done) | omega) ?_
              refine s_skip ?_
              refine s_seq ?_
              refine s_block ?_
              refine s_seq ?_
              refine o_enter rfl ?_
              first | refine o_indexAddrD rfl rfl _ rfl (by first | omega | exact lt_of (by assumption) (by decide) | (simp; done) | (simp; omega) | decide | (simp at *; omega)) (by first | assumption | exact FormAt.nil (by assumption) | exact Strs.nil' (by assumption) | exact Nums.nil' (by assumption) | exact Raw.nil' (by assumption)) .free rfl ?_ | refine o_indexAddr' rfl rfl _ rfl (by first | omega | exact lt_of (by assumption) (by decide) | (simp; done) | (simp; omega) | decide | (simp at *; omega)) (by first | rfl | assumption) .free rfl ?_
              refine o_load rfl (by first | exact loads_still1 (Nums.st (by assumption) _ (by first | omega | decide | (simp; done) | exact lt_of (by assumption) (by decide))) rfl | exact loads_still1 (Strs.st (by assumption) _ (by first | omega | decide | (simp; done) | exact lt_of (by assumption) (by decide))) rfl | exact loads_still1 (Raw.st (by assumption) _ (by first | omega | decide | (simp; done) | exact lt_of (by assumption) (by decide))) rfl | exact loads_still1 (by assumption) rfl) .free rfl ?_
              refine o_assign rfl .free rfl ?_
              refine o_done ?_
              refine s_seq ?_
              refine o_enter rfl ?_
              refine o_fieldAddr rfl .free rfl ?_
              refine o_load rfl (loads_own1 (by first | exact m0 | exact m1 | exact m2 | exact m3 | exact m4 | exact m5 | exact m6) (by rfl) rfl) .free rfl ?_
              refine o_move rfl .free rfl ?_
              first | refine o_indexAddrD rfl rfl _ rfl (by first | omega | exact lt_of (by assumption) (by decide) | (simp; done) | (simp; omega) | decide | (simp at *; omega)) (by first | assumption | exact FormAt.nil (by assumption) | exact Strs.nil' (by assumption) | exact Nums.nil' (by assumption) | exact Raw.nil' (by assumption)) .free rfl ?_ | refine o_indexAddr' rfl rfl _ rfl (by first | omega | exact lt_of (by assumption) (by decide) | (simp; done) | (simp; omega) | decide | (simp at *; omega)) (by first | rfl | assumption) .free rfl ?_
              refine o_load rfl (by first | exact loads_stillS (FormAt.st (by assumption) _ (by first | omega | decide | (simp; done) | exact lt_of (by assumption) (by decide))) (by rfl) | exact loads_stillS (by assumption) (by rfl)) .free rfl ?_
              refine o_call rfl .free rfl (f_bare (hf.as 2 b.tree (by omega) rfl) hok.2 _) ?_
              rintro _ _ _ _ ⟨rfl, rfl, rfl⟩
              refine o_not rfl .free rfl ?_
              refine o_done ?_
              refine s_cond rfl ?_ ?_
              · intro c5
                try simp only [Bool.and_eq_true, Bool.or_eq_true, Bool.not_eq_true', Bool.not_eq_false', Bool.and_eq_false_iff, Bool.or_eq_false_iff, decide_eq_true_eq, decide_eq_false_iff_not] at c5
                refine s_seq ?_
                refine o_enter rfl ?_
                refine o_assign rfl .free rfl ?_
                refine o_done ?_
                refine s_ret (.tmp rfl .nil) ?_
                refine done_fgt eJ (by intro _ h; first | exact h | exact dr1 h | exact dr2 h | exact dr3 h | exact dr4 h | exact dr5 h | exact dr6 h) ?_
                simp [Ex.norm, retOne, *]
              · intro c5
                try simp only [Bool.and_eq_true, Bool.or_eq_true, Bool.not_eq_true', Bool.not_eq_false', Bool.and_eq_false_iff, Bool.or_eq_false_iff, decide_eq_true_eq, decide_eq_false_iff_not] at c5
                refine s_skip ?_
                refine s_inBlock ?_
                refine o_enter rfl ?_
                refine o_arith rfl rfl rfl (by omega) .free rfl ?_
                refine o_move rfl .free rfl ?_
                refine o_done ?_
                refine s_round ?_
                refine s_seq ?_
                refine o_enter rfl ?_
                refine o_cmp rfl rfl rfl .free rfl ?_
                refine o_done ?_
                refine s_seq ?_
                refine s_condF rfl (by first | rfl | decide | (simp; done) | omega) ?_
                refine s_exit rfl ?_
                refine s_seq ?_
                refine o_enter rfl ?_
                refine o_assign rfl .free rfl ?_
                refine o_done ?_
                refine s_ret (.tmp rfl .nil) ?_
                refine done_fgt eJ (by intro _ h; first | exact h | exact dr1 h | exact dr2 h | exact dr3 h | exact dr4 h | exact dr5 h | exact dr6 h) ?_
                simp [Ex.norm, retOne, *]
          · skip
            skip
            refine o_enter rfl ?_
            refine o_load rfl (loads_ownS (by first | exact m0 | exact m1 | exact m2 | exact m3 | exact m4 | exact m5 | exact m6) (by rfl)) .free rfl ?_
            refine o_call rfl .free rfl (f_form_kids hf.rep _) ?_
            rintro _ J _ eJ ⟨ok, ck, rfl, hk, rfl⟩
            have hf := hf.mono eJ
            clear c0 c1 c2 c3
            rw [kids_un] at hk
            simp only [Ex.ok] at hok
            have hlen : (Ex.un o a).tree.parts.length = 2 := rfl
            rw [kids_un]
            have hkl : [1].length = 1 := rfl
            refine o_len_slice rfl .free rfl ?_
            refine o_move rfl .free rfl ?_
            refine o_done ?_
            refine s_block ?_
            refine s_loop ?_
            refine s_seq ?_
            refine o_enter rfl ?_
            refine o_cmp rfl rfl rfl .free rfl ?_
            refine o_done ?_
            refine s_seq ?_
            refine s_condT rfl (by first | rfl | decide | (simp; done) | omega) ?_
            refine s_skip ?_
            refine s_seq ?_
            refine s_block ?_
            refine s_seq ?_
            refine o_enter rfl ?_
            first | refine o_indexAddrD rfl rfl _ rfl (by first | omega | exact lt_of (by assumption) (by decide) | (simp; done) | (simp; omega) | decide | (simp at *; omega)) (by first | assumption | exact FormAt.nil (by assumption) | exact Strs.nil' (by assumption) | exact Nums.nil' (by assumption) | exact Raw.nil' (by assumption)) .free rfl ?_ | refine o_indexAddr' rfl rfl _ rfl (by first | omega | exact lt_of (by assumption) (by decide) | (simp; done) | (simp; omega) | decide | (simp at *; omega)) (by first | rfl | assumption) .free rfl ?_
            refine o_load rfl (by first | exact loads_still1 (Nums.st (by assumption) _ (by first | omega | decide | (simp; done) | exact lt_of (by assumption) (by decide))) rfl | exact loads_still1 (Strs.st (by assumption) _ (by first | omega | decide | (simp; done) | exact lt_of (by assumption) (by decide))) rfl | exact loads_still1 (Raw.st (by assumption) _ (by first | omega | decide | (simp; done) | exact lt_of (by assumption) (by decide))) rfl | exact loads_still1 (by assumption) rfl) .free rfl ?_
            refine o_assign rfl .free rfl ?_
            refine o_done ?_
            refine s_seq ?_
            refine o_enter rfl ?_
            refine o_fieldAddr rfl .free rfl ?_
            refine o_load rfl (loads_own1 (by first | exact m0 | exact m1 | exact m2 | exact m3 | exact m4 | exact m5 | exact m6) (by rfl) rfl) .free rfl ?_
            refine o_move rfl .free rfl ?_
            first | refine o_indexAddrD rfl rfl _ rfl (by first | omega | exact lt_of (by assumption) (by decide) | (simp; done) | (simp; omega) | decide | (simp at *; omega)) (by first | assumption | exact FormAt.nil (by assumption) | exact Strs.nil' (by assumption) | exact Nums.nil' (by assumption) | exact Raw.nil' (by assumption)) .free rfl ?_ | refine o_indexAddr' rfl rfl _ rfl (by first | omega | exact lt_of (by assumption) (by decide) | (simp; done) | (simp; omega) | decide | (simp at *; omega)) (by first | rfl | assumption) .free rfl ?_
            refine o_load rfl (by first | exact loads_stillS (FormAt.st (by assumption) _ (by first | omega | decide | (simp; done) | exact lt_of (by assumption) (by decide))) (by rfl) | exact loads_stillS (by assumption) (by rfl)) .free rfl ?_
            refine o_call rfl .free rfl (f_bare (hf.as 1 a.tree (by omega) rfl) hok _) ?_
            rintro _ _ _ _ ⟨rfl, rfl, rfl⟩
            refine o_not rfl .free rfl ?_
            refine o_done ?_
            refine s_cond rfl ?_ ?_
            · intro c5
              try simp only [Bool.and_eq_true, Bool.or_eq_true, Bool.not_eq_true', Bool.not_eq_false', Bool.and_eq_false_iff, Bool.or_eq_false_iff, decide_eq_true_eq, decide_eq_false_iff_not] at c5
              refine s_seq ?_
              refine o_enter rfl ?_
              refine o_assign rfl .free rfl ?_
              refine o_done ?_
              refine s_ret (.tmp rfl .nil) ?_
              refine done_fgt eJ (by intro _ h; first | exact h | exact dr1 h | exact dr2 h | exact dr3 h | exact dr4 h | exact dr5 h | exact dr6 h) ?_
              simp [Ex.norm, retOne, *]
            · intro c5
              try simp only [Bool.and_eq_true, Bool.or_eq_true, Bool.not_eq_true', Bool.not_eq_false', Bool.and_eq_false_iff, Bool.or_eq_false_iff, decide_eq_true_eq, decide_eq_false_iff_not] at c5
              refine s_skip ?_
              refine s_inBlock ?_
              refine o_enter rfl ?_
              refine o_arith rfl rfl rfl (by omega) .free rfl ?_
              refine o_move rfl .free rfl ?_
              refine o_done ?_
              refine s_round ?_
              refine s_seq ?_
              refine o_enter rfl ?_
              refine o_cmp rfl rfl rfl .free rfl ?_
              refine o_done ?_
              refine s_seq ?_
              refine s_condF rfl (by first | rfl | decide | (simp; done) | omega) ?_
              refine s_exit rfl ?_
              refine s_seq ?_
              refine o_enter rfl ?_
              refine o_assign rfl .free rfl ?_
              refine o_done ?_
              refine s_ret (.tmp rfl .nil) ?_
              refine done_fgt eJ (by intro _ h; first | exact h | exact dr1 h | exact dr2 h | exact dr3 h | exact dr4 h | exact dr5 h | exact dr6 h) ?_
              simp [Ex.norm, retOne, *]

/-- An expression that a loop goes on with, and where it lies. -/
structure XS where
  e : Ex
  oa : Option Addr
  c : Nat
theorem normalF_step {n : Nat} (ihS : SimpleF n) : NormalF n := by
  intro I e cs hlt h hok L
  obtain ⟨oa, c, oaf, cf, rfl, hf⟩ := h.at'
  refine fun_intro (by simp) ?_
  refine s_seq ?_
  refine o_enter rfl ?_
  refine o_box rfl rfl .free rfl ?_
  intro b1
  refine o_assign rfl .free rfl ?_
  refine o_done ?_
  refine s_seq ?_
  refine s_block ?_
  refine s_while (X := XS) (fun x => SizeOf.sizeOf x.e) (fun x => [(1, .pointer (some ⟨b1, 0, none⟩))]) (fun _ => I) (fun x => (b1, .cells [.string (str x.e.tree.atom), .slice x.oa x.e.tree.parts.length x.c].toArray 32 (0, 0)) :: L) (fun x => SizeOf.sizeOf x.e < n ∧ x.e.ok = true ∧ x.e.norm true = e.norm true ∧ Rep I x.e.tree [.string (str x.e.tree.atom), .slice x.oa x.e.tree.parts.length x.c]) ⟨e, oa, c⟩ ⟨hlt, hok, rfl, hf.rep⟩ ⟨rfl, trivial⟩ (fun _ h => h) ?_
  rintro ⟨e1, oa1, c1⟩ ⟨hlt1, hok1, hn1, h1⟩ ih
  simp only at hlt1 hok1 hn1 h1 ih
  obtain ⟨oa2, c2, oaf, cf, he, hf⟩ := h1.at'
  simp only [List.cons.injEq, Value.slice.injEq, and_true, true_and] at he
  obtain ⟨rfl, rfl⟩ := he
  refine s_seq ?_
  refine s_seq ?_
  refine o_enter rfl ?_
  refine o_load rfl (loads_ownS (by first | exact m0 | exact m1 | exact m2 | exact m3 | exact m4 | exact m5 | exact m6) (by rfl)) .free rfl ?_
  refine o_call rfl .free rfl (f_form_head hf.rep _) ?_
  rintro _ _ _ _ ⟨rfl, rfl, rfl⟩
  refine o_cmps rfl rfl rfl .free rfl ?_
  refine o_done ?_
  refine s_cond rfl ?_ ?_
  · intro c0
    try simp only [Bool.and_eq_true, Bool.or_eq_true, Bool.not_eq_true', Bool.not_eq_false', Bool.and_eq_false_iff, Bool.or_eq_false_iff, decide_eq_true_eq, decide_eq_false_iff_not] at c0
    obtain ⟨x, a, b, rfl⟩ := Ex.of_let c0
    simp only [Ex.ok, Bool.and_eq_true] at hok1
    simp only [Ex.lt.sizeOf_spec] at hlt1 ih
    have hlen : (Ex.lt x a b).tree.parts.length = 4 := rfl
    simp only [Ex.norm, Bool.true_and] at hn1
    refine s_skip ?_
    refine s_block ?_
    refine s_seq ?_
    refine s_seq ?_
    refine o_enter rfl ?_
    refine o_fieldAddr rfl .free rfl ?_
    refine o_load rfl (loads_own1 (by first | exact m0 | exact m1 | exact m2 | exact m3 | exact m4 | exact m5 | exact m6) (by rfl) rfl) .free rfl ?_
    first | refine o_indexAddrD rfl rfl 2 rfl (by first | omega | exact lt_of (by assumption) (by decide) | (simp; done) | (simp; omega) | decide | (simp at *; omega)) (by first | assumption | exact FormAt.nil (by assumption) | exact Strs.nil' (by assumption) | exact Nums.nil' (by assumption) | exact Raw.nil' (by assumption)) .free rfl ?_ | refine o_indexAddr' rfl rfl 2 rfl (by first | omega | exact lt_of (by assumption) (by decide) | (simp; done) | (simp; omega) | decide | (simp at *; omega)) (by first | rfl | assumption) .free rfl ?_
    refine o_load rfl (by first | exact loads_stillS (FormAt.st (by assumption) _ (by first | omega | decide | (simp; done) | exact lt_of (by assumption) (by decide))) (by rfl) | exact loads_stillS (by assumption) (by rfl)) .free rfl ?_
    refine o_call rfl .free rfl (ihS (by omega) (hf.as 2 a.tree (by omega) rfl) hok1.1.2 _) ?_
    rintro _ _ _ _ ⟨rfl, rfl, rfl⟩
    refine o_not rfl .free rfl ?_
    refine o_done ?_
    refine s_cond rfl ?_ ?_
    · intro c1
      try simp only [Bool.and_eq_true, Bool.or_eq_true, Bool.not_eq_true', Bool.not_eq_false', Bool.and_eq_false_iff, Bool.or_eq_false_iff, decide_eq_true_eq, decide_eq_false_iff_not] at c1
      refine s_seq ?_
      refine o_enter rfl ?_
      refine o_assign rfl .free rfl ?_
      refine o_done ?_
      refine s_ret (.tmp rfl .nil) ?_
      refine done_only rfl (by intro _ h; first | exact h | exact dr1 h | exact dr2 h | exact dr3 h | exact dr4 h | exact dr5 h | exact dr6 h) ?_
      rw [← hn1, c1]; rfl
    · intro c1
      try simp only [Bool.and_eq_true, Bool.or_eq_true, Bool.not_eq_true', Bool.not_eq_false', Bool.and_eq_false_iff, Bool.or_eq_false_iff, decide_eq_true_eq, decide_eq_false_iff_not] at c1
      refine s_skip ?_
      refine o_enter rfl ?_
      refine o_fieldAddr rfl .free rfl ?_
      refine o_load rfl (loads_own1 (by first | exact m0 | exact m1 | exact m2 | exact m3 | exact m4 | exact m5 | exact m6) (by rfl) rfl) .free rfl ?_
      first | refine o_indexAddrD rfl rfl 3 rfl (by first | omega | exact lt_of (by assumption) (by decide) | (simp; done) | (simp; omega) | decide | (simp at *; omega)) (by first | assumption | exact FormAt.nil (by assumption) | exact Strs.nil' (by assumption) | exact Nums.nil' (by assumption) | exact Raw.nil' (by assumption)) .free rfl ?_ | refine o_indexAddr' rfl rfl 3 rfl (by first | omega | exact lt_of (by assumption) (by decide) | (simp; done) | (simp; omega) | decide | (simp at *; omega)) (by first | rfl | assumption) .free rfl ?_
      refine o_load rfl (by first | exact loads_stillS (FormAt.st (by assumption) _ (by first | omega | decide | (simp; done) | exact lt_of (by assumption) (by decide))) (by rfl) | exact loads_stillS (by assumption) (by rfl)) .free rfl ?_
      refine o_store rfl rfl rfl rfl (by first | rfl | (simp only [List.toList_toArray, List.all_cons, List.all_nil, plainCell_buf, Bool.and_true, Bool.true_and] <;> rfl)) (by first | exact u0 | exact u1 | exact u2 | exact u3 | exact u4 | exact u5 | exact u6) (by rfl) .free ?_
      refine o_done ?_
      refine s_inBlock ?_
      refine s_env (E' := [(1, .pointer (some ⟨b1, 0, none⟩))]) ⟨rfl, trivial⟩ (ih ⟨b, oaf 3, cf 3⟩ ⟨by simp only; omega, hok1.2, by simp only; rw [← hn1, c1]; rfl, hf.as 3 b.tree (by omega) rfl⟩ (by simp only; omega))
  · intro c0
    try simp only [Bool.and_eq_true, Bool.or_eq_true, Bool.not_eq_true', Bool.not_eq_false', Bool.and_eq_false_iff, Bool.or_eq_false_iff, decide_eq_true_eq, decide_eq_false_iff_not] at c0
    refine s_exit rfl ?_
    refine s_seq ?_
    refine o_enter rfl ?_
    refine o_load rfl (loads_ownS (by first | exact m0 | exact m1 | exact m2 | exact m3 | exact m4 | exact m5 | exact m6) (by rfl)) .free rfl ?_
    refine o_call rfl .free rfl (ihS hlt1 hf.rep hok1 _) ?_
    rintro _ _ _ _ ⟨rfl, rfl, rfl⟩
    refine o_assign rfl .free rfl ?_
    refine o_done ?_
    refine s_ret (.tmp rfl .nil) ?_
    refine done_only rfl (by intro _ h; first | exact h | exact dr1 h | exact dr2 h | exact dr3 h | exact dr4 h | exact dr5 h | exact dr6 h) ?_
    rw [← hn1]
    have : e1.norm false = e1.norm true := by
      cases e1 with
      | lt x a b => exact absurd rfl c0
      | _ => rfl
    rw [this]; rfl
theorem simple_normal (n : Nat) : SimpleF n ∧ NormalF n := by
  induction n with
  | zero => exact ⟨by intro I e cs h; omega, by intro I e cs h; omega⟩
  | succ n ih =>
    exact ⟨@simpleF_step n ih.2, @normalF_step _ (@simpleF_step n ih.2)⟩
theorem f_form_isSimple {I : Heap} {e : Ex} {cs : List Value} (h : Rep I e.tree cs) (hok : e.ok = true) (L : Own) : Fun Try.prog 15 [.agg cs.toArray] I L (Only (.bool (e.norm false)) I L) := (simple_normal _).1 (Nat.lt_succ_self _) h hok L
theorem f_form_isNormal {I : Heap} {e : Ex} {cs : List Value} (h : Rep I e.tree cs) (hok : e.ok = true) (L : Own) : Fun Try.prog 23 [.agg cs.toArray] I L (Only (.bool (e.norm true)) I L) := (simple_normal _).2 (Nat.lt_succ_self _) h hok L

theorem g_l4Head {I : Heap} {t : Tree} {cs : List Value} (h : Rep I t cs) (hg : t.good = true) (L : Own) : Fun Try.prog 40 [.agg cs.toArray] I L (Only (.string (str t.head)) I L) := by
  obtain ⟨oa, c, oaf, cf, rfl, hf⟩ := h.at'
  refine fun_intro (by simp) ?_
  refine s_seq ?_
  refine o_enter rfl ?_
  refine o_box rfl rfl .free rfl ?_
  intro b1
  refine o_assign rfl .free rfl ?_
  refine o_done ?_
  refine s_seq ?_
  refine s_seq ?_
  refine o_enter rfl ?_
  refine o_fieldAddr rfl .free rfl ?_
  refine o_load rfl (loads_own1 (by first | exact m0 | exact m1 | exact m2 | exact m3 | exact m4 | exact m5 | exact m6) (by rfl) rfl) .free rfl ?_
  refine o_cmps rfl rfl rfl .free rfl ?_
  refine o_move rfl .free rfl ?_
  apply o_or 6 11 rfl
  · intro g1_4 hk
    try simp only [Bool.and_eq_true, Bool.or_eq_true, Bool.not_eq_true', Bool.not_eq_false', Bool.and_eq_false_iff, Bool.or_eq_false_iff, decide_eq_true_eq, decide_eq_false_iff_not] at g1_4
    refine o_fieldAddr rfl (.met rfl rfl) rfl ?_
    refine o_load rfl (loads_own1 (by first | exact m0 | exact m1 | exact m2 | exact m3 | exact m4 | exact m5 | exact m6) (by rfl) rfl) (.met rfl rfl) rfl ?_
    refine o_len_slice rfl (.met rfl rfl) rfl ?_
    refine o_cmp rfl rfl rfl (.met rfl rfl) rfl ?_
    refine o_pick_false rfl rfl .free rfl ?_
    exact o_fin 4 rfl rfl hk
  · intro _ hk
    refine o_skips 4 rfl ?_
    refine o_pick_true rfl rfl .free rfl ?_
    exact o_fin 4 rfl rfl hk
  refine o_done ?_
  refine s_cond rfl ?_ ?_
  · intro c0
    try simp only [Bool.and_eq_true, Bool.or_eq_true, Bool.not_eq_true', Bool.not_eq_false', Bool.and_eq_false_iff, Bool.or_eq_false_iff, decide_eq_true_eq, decide_eq_false_iff_not] at c0
    refine s_seq ?_
    refine o_enter rfl ?_
    refine o_assign rfl .free rfl ?_
    refine o_done ?_
    refine s_ret (.tmp rfl .nil) ?_
    refine done_only rfl (by intro _ h; first | exact h | exact dr1 h | exact dr2 h | exact dr3 h | exact dr4 h | exact dr5 h | exact dr6 h) ?_
    have : t.parts = [] := by
      rcases t.good_cases hg with hh | hh
      · exact hh.1
      · rcases c0 with h | h
        · exact absurd hh.2 h
        · exact List.length_eq_zero_iff.1 (by omega)
    simp [retOne, Tree.head, this]
  · intro c0
    try simp only [Bool.and_eq_true, Bool.or_eq_true, Bool.not_eq_true', Bool.not_eq_false', Bool.and_eq_false_iff, Bool.or_eq_false_iff, decide_eq_true_eq, decide_eq_false_iff_not] at c0
    have h0 : 0 < t.parts.length := by omega
    refine s_skip ?_
    refine s_seq ?_
    refine o_enter rfl ?_
    refine o_fieldAddr rfl .free rfl ?_
    refine o_load rfl (loads_own1 (by first | exact m0 | exact m1 | exact m2 | exact m3 | exact m4 | exact m5 | exact m6) (by rfl) rfl) .free rfl ?_
    first | refine o_indexAddrD rfl rfl 0 rfl (by first | omega | exact lt_of (by assumption) (by decide) | (simp; done) | (simp; omega) | decide | (simp at *; omega)) (by first | assumption | exact FormAt.nil (by assumption) | exact Strs.nil' (by assumption) | exact Nums.nil' (by assumption) | exact Raw.nil' (by assumption)) .free rfl ?_ | refine o_indexAddr' rfl rfl 0 rfl (by first | omega | exact lt_of (by assumption) (by decide) | (simp; done) | (simp; omega) | decide | (simp at *; omega)) (by first | rfl | assumption) .free rfl ?_
    refine o_fieldAddr' rfl .free rfl ?_
    refine o_load rfl (by first | exact loads_stillF (FormAt.st (by assumption) _ (by first | omega | decide | (simp; done) | exact lt_of (by assumption) (by decide))) (by rfl) rfl | exact loads_stillF (by assumption) (by rfl) rfl) .free rfl ?_
    refine o_assign rfl .free rfl ?_
    refine o_done ?_
    refine s_ret (.tmp rfl .nil) ?_
    refine done_only rfl (by intro _ h; first | exact h | exact dr1 h | exact dr2 h | exact dr3 h | exact dr4 h | exact dr5 h | exact dr6 h) ?_
    rw [head_at h0]; rfl
def SimpleG (n : Nat) : Prop := ∀ {I : Heap} {e : Ex} {cs : List Value} (_ : SizeOf.sizeOf e < n) (_ : Rep I e.tree cs) (_ : e.ok = true) (L : Own), Fun Try.prog 22 [.agg cs.toArray] I L (Only (.bool (e.norm false)) I L)
def NormalG (n : Nat) : Prop := ∀ {I : Heap} {e : Ex} {cs : List Value} (_ : SizeOf.sizeOf e < n) (_ : Rep I e.tree cs) (_ : e.ok = true) (L : Own), Fun Try.prog 20 [.agg cs.toArray] I L (Only (.bool (e.norm true)) I L)
theorem Ex.atom_iff {e : Ex} (h : e.ok = true) : e.tree.atom = [] ↔ e.bare = false := by
  have := Ex.bare_atom h
  cases hb : e.bare <;> simp_all
theorem simpleG_step {n : Nat} (ihN : NormalG n) : SimpleG (n + 1) := by
  intro I e cs hlt h hok L
  obtain ⟨oa, c, oaf, cf, rfl, hf⟩ := h.at'
  refine fun_intro (by simp) ?_
  refine s_seq ?_
  refine o_enter rfl ?_
  refine o_box rfl rfl .free rfl ?_
  intro b1
  refine o_assign rfl .free rfl ?_
  refine o_done ?_
  refine s_seq ?_
  refine s_seq ?_
  refine o_enter rfl ?_
  refine o_fieldAddr rfl .free rfl ?_
  refine o_load rfl (loads_own1 (by first | exact m0 | exact m1 | exact m2 | exact m3 | exact m4 | exact m5 | exact m6) (by rfl) rfl) .free rfl ?_
  refine o_cmps rfl rfl rfl .free rfl ?_
  refine o_done ?_
  refine s_cond rfl ?_ ?_
  · intro c0
    try simp only [Bool.and_eq_true, Bool.or_eq_true, Bool.not_eq_true', Bool.not_eq_false', Bool.and_eq_false_iff, Bool.or_eq_false_iff, decide_eq_true_eq, decide_eq_false_iff_not] at c0
    refine s_seq ?_
    refine o_enter rfl ?_
    refine o_assign rfl .free rfl ?_
    refine o_done ?_
    refine s_ret (.tmp rfl .nil) ?_
    refine done_only rfl (by intro _ h; first | exact h | exact dr1 h | exact dr2 h | exact dr3 h | exact dr4 h | exact dr5 h | exact dr6 h) ?_
    have hb : e.bare = true := by
      cases hb : e.bare with
      | true => rfl
      | false => exact absurd ((Ex.atom_iff hok).2 hb) c0
    cases e <;> first | rfl | cases hb
  · intro c0
    try simp only [Bool.and_eq_true, Bool.or_eq_true, Bool.not_eq_true', Bool.not_eq_false', Bool.and_eq_false_iff, Bool.or_eq_false_iff, decide_eq_true_eq, decide_eq_false_iff_not] at c0
    have hg := (Ex.tree_good hok).1
    obtain ⟨hne, h0⟩ := good_ne hg (by simpa using c0)
    have hhd := head_at h0
    refine s_skip ?_
    refine s_seq ?_
    refine o_enter rfl ?_
    refine o_fieldAddr rfl .free rfl ?_
    refine o_load rfl (loads_own1 (by first | exact m0 | exact m1 | exact m2 | exact m3 | exact m4 | exact m5 | exact m6) (by rfl) rfl) .free rfl ?_
    refine o_assign rfl .free rfl ?_
    refine o_done ?_
    refine s_seq ?_
    refine s_seq ?_
    refine o_enter rfl ?_
    refine o_move rfl .free rfl ?_
    first | refine o_indexAddrD rfl rfl 0 rfl (by first | omega | exact lt_of (by assumption) (by decide) | (simp; done) | (simp; omega) | decide | (simp at *; omega)) (by first | assumption | exact FormAt.nil (by assumption) | exact Strs.nil' (by assumption) | exact Nums.nil' (by assumption) | exact Raw.nil' (by assumption)) .free rfl ?_ | refine o_indexAddr' rfl rfl 0 rfl (by first | omega | exact lt_of (by assumption) (by decide) | (simp; done) | (simp; omega) | decide | (simp at *; omega)) (by first | rfl | assumption) .free rfl ?_
    refine o_fieldAddr' rfl .free rfl ?_
    refine o_load rfl (by first | exact loads_stillF (FormAt.st (by assumption) _ (by first | omega | decide | (simp; done) | exact lt_of (by assumption) (by decide))) (by rfl) rfl | exact loads_stillF (by assumption) (by rfl) rfl) .free rfl ?_
    refine o_done ?_
    refine s_block ?_
    refine s_seq ?_
    refine o_enter rfl ?_
    refine o_cmps rfl rfl rfl .free rfl ?_
    refine o_assign rfl .free rfl ?_
    refine o_done ?_
    refine s_cond rfl ?_ ?_
    · intro c1
      try simp only [Bool.and_eq_true, Bool.or_eq_true, Bool.not_eq_true', Bool.not_eq_false', Bool.and_eq_false_iff, Bool.or_eq_false_iff, decide_eq_true_eq, decide_eq_false_iff_not] at c1
      obtain ⟨x, a, b, rfl⟩ := Ex.of_let (hhd.trans c1)
      refine s_seq ?_
      refine o_enter rfl ?_
      refine o_assign rfl .free rfl ?_
      refine o_done ?_
      refine s_ret (.tmp rfl .nil) ?_
      refine done_only rfl (by intro _ h; first | exact h | exact dr1 h | exact dr2 h | exact dr3 h | exact dr4 h | exact dr5 h | exact dr6 h) ?_
      rfl
    · intro c1
      try simp only [Bool.and_eq_true, Bool.or_eq_true, Bool.not_eq_true', Bool.not_eq_false', Bool.and_eq_false_iff, Bool.or_eq_false_iff, decide_eq_true_eq, decide_eq_false_iff_not] at c1
      refine s_seq ?_
      refine o_enter rfl ?_
      refine o_cmps rfl rfl rfl .free rfl ?_
      refine o_assign rfl .free rfl ?_
      refine o_done ?_
      refine s_cond rfl ?_ ?_
      · intro c2
        try simp only [Bool.and_eq_true, Bool.or_eq_true, Bool.not_eq_true', Bool.not_eq_false', Bool.and_eq_false_iff, Bool.or_eq_false_iff, decide_eq_true_eq, decide_eq_false_iff_not] at c2
        obtain ⟨f, x, s, t, b, rfl⟩ := Ex.of_fun (hhd.trans c2)
        simp only [Ex.ok, Bool.and_eq_true] at hok
        simp only [Ex.fn.sizeOf_spec] at hlt
        have hlen : (Ex.fn f x s t b).tree.parts.length = 6 := rfl
        refine s_seq ?_
        refine o_enter rfl ?_
        refine o_move rfl .free rfl ?_
        first | refine o_indexAddrD rfl rfl 5 rfl (by first | omega | exact lt_of (by assumption) (by decide) | (simp; done) | (simp; omega) | decide | (simp at *; omega)) (by first | assumption | exact FormAt.nil (by assumption) | exact Strs.nil' (by assumption) | exact Nums.nil' (by assumption) | exact Raw.nil' (by assumption)) .free rfl ?_ | refine o_indexAddr' rfl rfl 5 rfl (by first | omega | exact lt_of (by assumption) (by decide) | (simp; done) | (simp; omega) | decide | (simp at *; omega)) (by first | rfl | assumption) .free rfl ?_
        refine o_load rfl (by first | exact loads_stillS (FormAt.st (by assumption) _ (by first | omega | decide | (simp; done) | exact lt_of (by assumption) (by decide))) (by rfl) | exact loads_stillS (by assumption) (by rfl)) .free rfl ?_
        refine o_call rfl .free rfl (ihN (by omega) (hf.as 5 b.tree (by omega) rfl) hok.2 _) ?_
        rintro _ _ _ _ ⟨rfl, rfl, rfl⟩
        refine o_assign rfl .free rfl ?_
        refine o_done ?_
        refine s_ret (.tmp rfl .nil) ?_
        refine done_only rfl (by intro _ h; first | exact h | exact dr1 h | exact dr2 h | exact dr3 h | exact dr4 h | exact dr5 h | exact dr6 h) ?_
        rfl
      · intro c2
        try simp only [Bool.and_eq_true, Bool.or_eq_true, Bool.not_eq_true', Bool.not_eq_false', Bool.and_eq_false_iff, Bool.or_eq_false_iff, decide_eq_true_eq, decide_eq_false_iff_not] at c2
        refine s_seq ?_
        refine o_enter rfl ?_
        refine o_cmps rfl rfl rfl .free rfl ?_
        refine o_assign rfl .free rfl ?_
        refine o_done ?_
        refine s_cond rfl ?_ ?_
        · intro c3
          try simp only [Bool.and_eq_true, Bool.or_eq_true, Bool.not_eq_true', Bool.not_eq_false', Bool.and_eq_false_iff, Bool.or_eq_false_iff, decide_eq_true_eq, decide_eq_false_iff_not] at c3
          obtain ⟨a, b, d, rfl⟩ := Ex.of_if (hhd.trans c3)
          simp only [Ex.ok, Bool.and_eq_true] at hok
          simp only [Ex.ite.sizeOf_spec] at hlt
          have hlen : (Ex.ite a b d).tree.parts.length = 4 := rfl
          refine s_seq ?_
          refine o_enter rfl ?_
          refine o_move rfl .free rfl ?_
          first | refine o_indexAddrD rfl rfl 1 rfl (by first | omega | exact lt_of (by assumption) (by decide) | (simp; done) | (simp; omega) | decide | (simp at *; omega)) (by first | assumption | exact FormAt.nil (by assumption) | exact Strs.nil' (by assumption) | exact Nums.nil' (by assumption) | exact Raw.nil' (by assumption)) .free rfl ?_ | refine o_indexAddr' rfl rfl 1 rfl (by first | omega | exact lt_of (by assumption) (by decide) | (simp; done) | (simp; omega) | decide | (simp at *; omega)) (by first | rfl | assumption) .free rfl ?_
          refine o_fieldAddr' rfl .free rfl ?_
          refine o_load rfl (by first | exact loads_stillF (FormAt.st (by assumption) _ (by first | omega | decide | (simp; done) | exact lt_of (by assumption) (by decide))) (by rfl) rfl | exact loads_stillF (by assumption) (by rfl) rfl) .free rfl ?_
          refine o_cmps rfl rfl rfl .free rfl ?_
          refine o_move rfl .free rfl ?_
          apply o_and 29 34 rfl
          · intro g10_6 hk
            try simp only [Bool.and_eq_true, Bool.or_eq_true, Bool.not_eq_true', Bool.not_eq_false', Bool.and_eq_false_iff, Bool.or_eq_false_iff, decide_eq_true_eq, decide_eq_false_iff_not] at g10_6
            refine o_move rfl (.met rfl rfl) rfl ?_
            first | refine o_indexAddrD rfl rfl 2 rfl (by first | omega | exact lt_of (by assumption) (by decide) | (simp; done) | (simp; omega) | decide | (simp at *; omega)) (by first | assumption | exact FormAt.nil (by assumption) | exact Strs.nil' (by assumption) | exact Nums.nil' (by assumption) | exact Raw.nil' (by assumption)) (.met rfl rfl) rfl ?_ | refine o_indexAddr' rfl rfl 2 rfl (by first | omega | exact lt_of (by assumption) (by decide) | (simp; done) | (simp; omega) | decide | (simp at *; omega)) (by first | rfl | assumption) (.met rfl rfl) rfl ?_
            refine o_load rfl (by first | exact loads_stillS (FormAt.st (by assumption) _ (by first | omega | decide | (simp; done) | exact lt_of (by assumption) (by decide))) (by rfl) | exact loads_stillS (by assumption) (by rfl)) (.met rfl rfl) rfl ?_
            refine o_call rfl (.met rfl rfl) rfl (ihN (by omega) (hf.as 2 b.tree (by omega) rfl) hok.1.2 _) ?_
            rintro _ _ _ _ ⟨rfl, rfl, rfl⟩
            refine o_pick_true rfl rfl .free rfl ?_
            exact o_fin 4 rfl rfl hk
          · intro _ hk
            refine o_skips 4 rfl ?_
            refine o_pick_false rfl rfl .free rfl ?_
            exact o_fin 4 rfl rfl hk
          refine o_move rfl .free rfl ?_
          apply o_and 35 40 rfl
          · intro g10_12 hk
            try simp only [Bool.and_eq_true, Bool.or_eq_true, Bool.not_eq_true', Bool.not_eq_false', Bool.and_eq_false_iff, Bool.or_eq_false_iff, decide_eq_true_eq, decide_eq_false_iff_not] at g10_12
            refine o_move rfl (.met rfl rfl) rfl ?_
            first | refine o_indexAddrD rfl rfl 3 rfl (by first | omega | exact lt_of (by assumption) (by decide) | (simp; done) | (simp; omega) | decide | (simp at *; omega)) (by first | assumption | exact FormAt.nil (by assumption) | exact Strs.nil' (by assumption) | exact Nums.nil' (by assumption) | exact Raw.nil' (by assumption)) (.met rfl rfl) rfl ?_ | refine o_indexAddr' rfl rfl 3 rfl (by first | omega | exact lt_of (by assumption) (by decide) | (simp; done) | (simp; omega) | decide | (simp at *; omega)) (by first | rfl | assumption) (.met rfl rfl) rfl ?_
            refine o_load rfl (by first | exact loads_stillS (FormAt.st (by assumption) _ (by first | omega | decide | (simp; done) | exact lt_of (by assumption) (by decide))) (by rfl) | exact loads_stillS (by assumption) (by rfl)) (.met rfl rfl) rfl ?_
            refine o_call rfl (.met rfl rfl) rfl (ihN (by omega) (hf.as 3 d.tree (by omega) rfl) hok.2 _) ?_
            rintro _ _ _ _ ⟨rfl, rfl, rfl⟩
            refine o_pick_true rfl rfl .free rfl ?_
            exact o_fin 4 rfl rfl hk
          · intro _ hk
            refine o_skips 4 rfl ?_
            refine o_pick_false rfl rfl .free rfl ?_
            exact o_fin 4 rfl rfl hk
          refine o_assign rfl .free rfl ?_
          refine o_done ?_
          refine s_ret (.tmp rfl .nil) ?_
          refine done_only rfl (by intro _ h; first | exact h | exact dr1 h | exact dr2 h | exact dr3 h | exact dr4 h | exact dr5 h | exact dr6 h) ?_
          have hb := Ex.bare_atom hok.1.1
          have e1 : ((Ex.ite a b d).tree.pt 1).atom = a.tree.atom := rfl
          rw [e1]
          simp only [retOne, Ex.norm, hb, Bool.not_not]
        · intro c3
          try simp only [Bool.and_eq_true, Bool.or_eq_true, Bool.not_eq_true', Bool.not_eq_false', Bool.and_eq_false_iff, Bool.or_eq_false_iff, decide_eq_true_eq, decide_eq_false_iff_not] at c3
          have ho := Ex.of_other (fun h => by have hb := Ex.of_nil h; rw [Ex.bare_parts] at hb; exact hne (by simpa using hb)) (fun h => c1 (hhd.symm.trans h)) (fun h => c3 (hhd.symm.trans h)) (fun h => c2 (hhd.symm.trans h))
          clear c1 c2 c3 hhd
          refine s_skip ?_
          refine s_inBlock ?_
          refine s_seq ?_
          refine s_seq ?_
          rcases ho with ⟨o, a, b, rfl⟩ | ⟨o, a, rfl⟩
          · skip
            refine o_enter rfl ?_
            refine o_assign rfl .free rfl ?_
            simp only [Ex.ok, Bool.and_eq_true] at hok
            have hlen : (Ex.bin o a b).tree.parts.length = 3 := rfl
            have ha1 : ((Ex.bin o a b).tree.pt 1).atom = [] ↔ a.bare = false := Ex.atom_iff hok.1
            have ha2 : ((Ex.bin o a b).tree.pt 2).atom = [] ↔ b.bare = false := Ex.atom_iff hok.2
            refine o_done ?_
            refine s_block ?_
            refine s_loop ?_
            refine s_seq ?_
            refine s_seq ?_
            refine o_enter rfl ?_
            refine o_move rfl .free rfl ?_
            refine o_move rfl .free rfl ?_
            refine o_len_slice rfl .free rfl ?_
            refine o_cmp rfl rfl rfl .free rfl ?_
            refine o_done ?_
            refine s_condT rfl (by first | rfl | decide | (simp; done) | omega) ?_
            refine s_skip ?_
            refine s_seq ?_
            refine s_block ?_
            refine s_seq ?_
            refine o_enter rfl ?_
            refine o_move rfl .free rfl ?_
            refine o_move rfl .free rfl ?_
            first | refine o_indexAddrD rfl rfl _ rfl (by first | omega | exact lt_of (by assumption) (by decide) | (simp; done) | (simp; omega) | decide | (simp at *; omega)) (by first | assumption | exact FormAt.nil (by assumption) | exact Strs.nil' (by assumption) | exact Nums.nil' (by assumption) | exact Raw.nil' (by assumption)) .free rfl ?_ | refine o_indexAddr' rfl rfl _ rfl (by first | omega | exact lt_of (by assumption) (by decide) | (simp; done) | (simp; omega) | decide | (simp at *; omega)) (by first | rfl | assumption) .free rfl ?_
            refine o_fieldAddr' rfl .free rfl ?_
            refine o_load rfl (by first | exact loads_stillF (FormAt.st (by assumption) _ (by first | omega | decide | (simp; done) | exact lt_of (by assumption) (by decide))) (by rfl) rfl | exact loads_stillF (by assumption) (by rfl) rfl) .free rfl ?_
            refine o_cmps rfl rfl rfl .free rfl ?_
            refine o_done ?_
            refine s_cond rfl ?_ ?_
            · intro c5
              try simp only [Bool.and_eq_true, Bool.or_eq_true, Bool.not_eq_true', Bool.not_eq_false', Bool.and_eq_false_iff, Bool.or_eq_false_iff, decide_eq_true_eq, decide_eq_false_iff_not] at c5
              have hb := ha1.1 c5
              refine s_seq ?_
              refine o_enter rfl ?_
              refine o_assign rfl .free rfl ?_
              refine o_done ?_
              refine s_ret (.tmp rfl .nil) ?_
              refine done_only rfl (by intro _ h; first | exact h | exact dr1 h | exact dr2 h | exact dr3 h | exact dr4 h | exact dr5 h | exact dr6 h) ?_
              simp [Ex.norm, retOne, *]
            · intro c5
              try simp only [Bool.and_eq_true, Bool.or_eq_true, Bool.not_eq_true', Bool.not_eq_false', Bool.and_eq_false_iff, Bool.or_eq_false_iff, decide_eq_true_eq, decide_eq_false_iff_not] at c5
              have hb1 : a.bare = true := by cases hb : a.bare with
                | true => rfl
                | false => exact absurd (ha1.2 hb) c5
              refine s_skip ?_
              refine s_inBlock ?_
              refine o_enter rfl ?_
              refine o_move rfl .free rfl ?_
              refine o_arith rfl rfl rfl (by omega) .free rfl ?_
              refine o_assign rfl .free rfl ?_
              refine o_done ?_
              refine s_round ?_
              refine s_seq ?_
              refine s_seq ?_
              refine o_enter rfl ?_
              refine o_move rfl .free rfl ?_
              refine o_move rfl .free rfl ?_
              refine o_len_slice rfl .free rfl ?_
              refine o_cmp rfl rfl rfl .free rfl ?_
              refine o_done ?_
              refine s_condT rfl (by first | rfl | decide | (simp; done) | omega) ?_
              refine s_skip ?_
              refine s_seq ?_
              refine s_block ?_
              refine s_seq ?_
              refine o_enter rfl ?_
              refine o_move rfl .free rfl ?_
              refine o_move rfl .free rfl ?_
              first | refine o_indexAddrD rfl rfl _ rfl (by first | omega | exact lt_of (by assumption) (by decide) | (simp; done) | (simp; omega) | decide | (simp at *; omega)) (by first | assumption | exact FormAt.nil (by assumption) | exact Strs.nil' (by assumption) | exact Nums.nil' (by assumption) | exact Raw.nil' (by assumption)) .free rfl ?_ | refine o_indexAddr' rfl rfl _ rfl (by first | omega | exact lt_of (by assumption) (by decide) | (simp; done) | (simp; omega) | decide | (simp at *; omega)) (by first | rfl | assumption) .free rfl ?_
              refine o_fieldAddr' rfl .free rfl ?_
              refine o_load rfl (by first | exact loads_stillF (FormAt.st (by assumption) _ (by first | omega | decide | (simp; done) | exact lt_of (by assumption) (by decide))) (by rfl) rfl | exact loads_stillF (by assumption) (by rfl) rfl) .free rfl ?_
              refine o_cmps rfl rfl rfl .free rfl ?_
              refine o_done ?_
              refine s_cond rfl ?_ ?_
              · intro c5
                try simp only [Bool.and_eq_true, Bool.or_eq_true, Bool.not_eq_true', Bool.not_eq_false', Bool.and_eq_false_iff, Bool.or_eq_false_iff, decide_eq_true_eq, decide_eq_false_iff_not] at c5
                have hb := ha2.1 c5
                refine s_seq ?_
                refine o_enter rfl ?_
                refine o_assign rfl .free rfl ?_
                refine o_done ?_
                refine s_ret (.tmp rfl .nil) ?_
                refine done_only rfl (by intro _ h; first | exact h | exact dr1 h | exact dr2 h | exact dr3 h | exact dr4 h | exact dr5 h | exact dr6 h) ?_
                simp [Ex.norm, retOne, *]
              · intro c5
                try simp only [Bool.and_eq_true, Bool.or_eq_true, Bool.not_eq_true', Bool.not_eq_false', Bool.and_eq_false_iff, Bool.or_eq_false_iff, decide_eq_true_eq, decide_eq_false_iff_not] at c5
                have hb2 : b.bare = true := by cases hb : b.bare with
                  | true => rfl
                  | false => exact absurd (ha2.2 hb) c5
                refine s_skip ?_
                refine s_inBlock ?_
                refine o_enter rfl ?_
                refine o_move rfl .free rfl ?_
                refine o_arith rfl rfl rfl (by omega) .free rfl ?_
                refine o_assign rfl .free rfl ?_
                refine o_done ?_
                refine s_round ?_
                refine s_seq ?_
                refine s_seq ?_
                refine o_enter rfl ?_
                refine o_move rfl .free rfl ?_
                refine o_move rfl .free rfl ?_
                refine o_len_slice rfl .free rfl ?_
                refine o_cmp rfl rfl rfl .free rfl ?_
                refine o_done ?_
                refine s_condF rfl (by first | rfl | decide | (simp; done) | omega) ?_
                refine s_exit rfl ?_
                refine s_seq ?_
                refine o_enter rfl ?_
                refine o_assign rfl .free rfl ?_
                refine o_done ?_
                refine s_ret (.tmp rfl .nil) ?_
                refine done_only rfl (by intro _ h; first | exact h | exact dr1 h | exact dr2 h | exact dr3 h | exact dr4 h | exact dr5 h | exact dr6 h) ?_
                simp [Ex.norm, retOne, *]
          · skip
            refine o_enter rfl ?_
            refine o_assign rfl .free rfl ?_
            simp only [Ex.ok] at hok
            have hlen : (Ex.un o a).tree.parts.length = 2 := rfl
            have ha1 : ((Ex.un o a).tree.pt 1).atom = [] ↔ a.bare = false := Ex.atom_iff hok
            refine o_done ?_
            refine s_block ?_
            refine s_loop ?_
            refine s_seq ?_
            refine s_seq ?_
            refine o_enter rfl ?_
            refine o_move rfl .free rfl ?_
            refine o_move rfl .free rfl ?_
            refine o_len_slice rfl .free rfl ?_
            refine o_cmp rfl rfl rfl .free rfl ?_
            refine o_done ?_
            refine s_condT rfl (by first | rfl | decide | (simp; done) | omega) ?_
            refine s_skip ?_
            refine s_seq ?_
            refine s_block ?_
            refine s_seq ?_
            refine o_enter rfl ?_
            refine o_move rfl .free rfl ?_
            refine o_move rfl .free rfl ?_
            first | refine o_indexAddrD rfl rfl _ rfl (by first | omega | exact lt_of (by assumption) (by decide) | (simp; done) | (simp; omega) | decide | (simp at *; omega)) (by first | assumption | exact FormAt.nil (by assumption) | exact Strs.nil' (by assumption) | exact Nums.nil' (by assumption) | exact Raw.nil' (by assumption)) .free rfl ?_ | refine o_indexAddr' rfl rfl _ rfl (by first | omega | exact lt_of (by assumption) (by decide) | (simp; done) | (simp; omega) | decide | (simp at *; omega)) (by first | rfl | assumption) .free rfl ?_
            refine o_fieldAddr' rfl .free rfl ?_
            refine o_load rfl (by first | exact loads_stillF (FormAt.st (by assumption) _ (by first | omega | decide | (simp; done) | exact lt_of (by assumption) (by decide))) (by rfl) rfl | exact loads_stillF (by assumption) (by rfl) rfl) .free rfl ?_
            refine o_cmps rfl rfl rfl .free rfl ?_
            refine o_done ?_
            refine s_cond rfl ?_ ?_
            · intro c5
              try simp only [Bool.and_eq_true, Bool.or_eq_true, Bool.not_eq_true', Bool.not_eq_false', Bool.and_eq_false_iff, Bool.or_eq_false_iff, decide_eq_true_eq, decide_eq_false_iff_not] at c5
              have hb := ha1.1 c5
              refine s_seq ?_
              refine o_enter rfl ?_
              refine o_assign rfl .free rfl ?_
              refine o_done ?_
              refine s_ret (.tmp rfl .nil) ?_
              refine done_only rfl (by intro _ h; first | exact h | exact dr1 h | exact dr2 h | exact dr3 h | exact dr4 h | exact dr5 h | exact dr6 h) ?_
              simp [Ex.norm, retOne, *]
            · intro c5
              try simp only [Bool.and_eq_true, Bool.or_eq_true, Bool.not_eq_true', Bool.not_eq_false', Bool.and_eq_false_iff, Bool.or_eq_false_iff, decide_eq_true_eq, decide_eq_false_iff_not] at c5
              have hb1 : a.bare = true := by cases hb : a.bare with
                | true => rfl
                | false => exact absurd (ha1.2 hb) c5
              refine s_skip ?_
              refine s_inBlock ?_
              refine o_enter rfl ?_
              refine o_move rfl .free rfl ?_
              refine o_arith rfl rfl rfl (by omega) .free rfl ?_
              refine o_assign rfl .free rfl ?_
              refine o_done ?_
              refine s_round ?_
              refine s_seq ?_
              refine s_seq ?_
              refine o_enter rfl ?_
              refine o_move rfl .free rfl ?_
              refine o_move rfl .free rfl ?_
              refine o_len_slice rfl .free rfl ?_
              refine o_cmp rfl rfl rfl .free rfl ?_
              refine o_done ?_
              refine s_condF rfl (by first | rfl | decide | (simp; done) | omega) ?_
              refine s_exit rfl ?_
              refine s_seq ?_
              refine o_enter rfl ?_
              refine o_assign rfl .free rfl ?_
              refine o_done ?_
              refine s_ret (.tmp rfl .nil) ?_
              refine done_only rfl (by intro _ h; first | exact h | exact dr1 h | exact dr2 h | exact dr3 h | exact dr4 h | exact dr5 h | exact dr6 h) ?_
              simp [Ex.norm, retOne, *]
theorem normalG_step {n : Nat} (ihS : SimpleG n) : NormalG n := by
  intro I e cs hlt h hok L
  obtain ⟨oa, c, oaf, cf, rfl, hf⟩ := h.at'
  refine fun_intro (by simp) ?_
  refine s_seq ?_
  refine o_enter rfl ?_
  refine o_box rfl rfl .free rfl ?_
  intro b1
  refine o_assign rfl .free rfl ?_
  refine o_done ?_
  refine s_seq ?_
  refine s_block ?_
  refine s_while (X := XS) (fun x => SizeOf.sizeOf x.e) (fun x => [(1, .pointer (some ⟨b1, 0, none⟩))]) (fun _ => I) (fun x => (b1, .cells [.string (str x.e.tree.atom), .slice x.oa x.e.tree.parts.length x.c].toArray 43 (0, 0)) :: L) (fun x => SizeOf.sizeOf x.e < n ∧ x.e.ok = true ∧ x.e.norm true = e.norm true ∧ Rep I x.e.tree [.string (str x.e.tree.atom), .slice x.oa x.e.tree.parts.length x.c]) ⟨e, oa, c⟩ ⟨hlt, hok, rfl, hf.rep⟩ ⟨rfl, trivial⟩ (fun _ h => h) ?_
  rintro ⟨e1, oa1, c1⟩ ⟨hlt1, hok1, hn1, h1⟩ ih
  simp only at hlt1 hok1 hn1 h1 ih
  obtain ⟨oa2, c2, oaf, cf, he, hf⟩ := h1.at'
  simp only [List.cons.injEq, Value.slice.injEq, and_true, true_and] at he
  obtain ⟨rfl, rfl⟩ := he
  refine s_seq ?_
  refine s_seq ?_
  refine o_enter rfl ?_
  refine o_load rfl (loads_ownS (by first | exact m0 | exact m1 | exact m2 | exact m3 | exact m4 | exact m5 | exact m6) (by rfl)) .free rfl ?_
  refine o_call rfl .free rfl (g_l4Head hf.rep (Ex.tree_good hok1).1 _) ?_
  rintro _ _ _ _ ⟨rfl, rfl, rfl⟩
  refine o_cmps rfl rfl rfl .free rfl ?_
  refine o_done ?_
  refine s_cond rfl ?_ ?_
  · intro c0
    try simp only [Bool.and_eq_true, Bool.or_eq_true, Bool.not_eq_true', Bool.not_eq_false', Bool.and_eq_false_iff, Bool.or_eq_false_iff, decide_eq_true_eq, decide_eq_false_iff_not] at c0
    obtain ⟨x, a, b, rfl⟩ := Ex.of_let c0
    simp only [Ex.ok, Bool.and_eq_true] at hok1
    simp only [Ex.lt.sizeOf_spec] at hlt1 ih
    have hlen : (Ex.lt x a b).tree.parts.length = 4 := rfl
    simp only [Ex.norm, Bool.true_and] at hn1
    refine s_skip ?_
    refine s_block ?_
    refine s_seq ?_
    refine s_seq ?_
    refine o_enter rfl ?_
    refine o_fieldAddr rfl .free rfl ?_
    refine o_load rfl (loads_own1 (by first | exact m0 | exact m1 | exact m2 | exact m3 | exact m4 | exact m5 | exact m6) (by rfl) rfl) .free rfl ?_
    first | refine o_indexAddrD rfl rfl 2 rfl (by first | omega | exact lt_of (by assumption) (by decide) | (simp; done) | (simp; omega) | decide | (simp at *; omega)) (by first | assumption | exact FormAt.nil (by assumption) | exact Strs.nil' (by assumption) | exact Nums.nil' (by assumption) | exact Raw.nil' (by assumption)) .free rfl ?_ | refine o_indexAddr' rfl rfl 2 rfl (by first | omega | exact lt_of (by assumption) (by decide) | (simp; done) | (simp; omega) | decide | (simp at *; omega)) (by first | rfl | assumption) .free rfl ?_
    refine o_load rfl (by first | exact loads_stillS (FormAt.st (by assumption) _ (by first | omega | decide | (simp; done) | exact lt_of (by assumption) (by decide))) (by rfl) | exact loads_stillS (by assumption) (by rfl)) .free rfl ?_
    refine o_call rfl .free rfl (ihS (by omega) (hf.as 2 a.tree (by omega) rfl) hok1.1.2 _) ?_
    rintro _ _ _ _ ⟨rfl, rfl, rfl⟩
    refine o_not rfl .free rfl ?_
    refine o_done ?_
    refine s_cond rfl ?_ ?_
    · intro c1
      try simp only [Bool.and_eq_true, Bool.or_eq_true, Bool.not_eq_true', Bool.not_eq_false', Bool.and_eq_false_iff, Bool.or_eq_false_iff, decide_eq_true_eq, decide_eq_false_iff_not] at c1
      refine s_seq ?_
      refine o_enter rfl ?_
      refine o_assign rfl .free rfl ?_
      refine o_done ?_
      refine s_ret (.tmp rfl .nil) ?_
      refine done_only rfl (by intro _ h; first | exact h | exact dr1 h | exact dr2 h | exact dr3 h | exact dr4 h | exact dr5 h | exact dr6 h) ?_
      rw [← hn1, c1]; rfl
    · intro c1
      try simp only [Bool.and_eq_true, Bool.or_eq_true, Bool.not_eq_true', Bool.not_eq_false', Bool.and_eq_false_iff, Bool.or_eq_false_iff, decide_eq_true_eq, decide_eq_false_iff_not] at c1
      refine s_skip ?_
      refine o_enter rfl ?_
      refine o_fieldAddr rfl .free rfl ?_
      refine o_load rfl (loads_own1 (by first | exact m0 | exact m1 | exact m2 | exact m3 | exact m4 | exact m5 | exact m6) (by rfl) rfl) .free rfl ?_
      first | refine o_indexAddrD rfl rfl 3 rfl (by first | omega | exact lt_of (by assumption) (by decide) | (simp; done) | (simp; omega) | decide | (simp at *; omega)) (by first | assumption | exact FormAt.nil (by assumption) | exact Strs.nil' (by assumption) | exact Nums.nil' (by assumption) | exact Raw.nil' (by assumption)) .free rfl ?_ | refine o_indexAddr' rfl rfl 3 rfl (by first | omega | exact lt_of (by assumption) (by decide) | (simp; done) | (simp; omega) | decide | (simp at *; omega)) (by first | rfl | assumption) .free rfl ?_
      refine o_load rfl (by first | exact loads_stillS (FormAt.st (by assumption) _ (by first | omega | decide | (simp; done) | exact lt_of (by assumption) (by decide))) (by rfl) | exact loads_stillS (by assumption) (by rfl)) .free rfl ?_
      refine o_store rfl rfl rfl rfl (by first | rfl | (simp only [List.toList_toArray, List.all_cons, List.all_nil, plainCell_buf, Bool.and_true, Bool.true_and] <;> rfl)) (by first | exact u0 | exact u1 | exact u2 | exact u3 | exact u4 | exact u5 | exact u6) (by rfl) .free ?_
      refine o_done ?_
      refine s_inBlock ?_
      refine s_env (E' := [(1, .pointer (some ⟨b1, 0, none⟩))]) ⟨rfl, trivial⟩ (ih ⟨b, oaf 3, cf 3⟩ ⟨by simp only; omega, hok1.2, by simp only; rw [← hn1, c1]; rfl, hf.as 3 b.tree (by omega) rfl⟩ (by simp only; omega))
  · intro c0
    try simp only [Bool.and_eq_true, Bool.or_eq_true, Bool.not_eq_true', Bool.not_eq_false', Bool.and_eq_false_iff, Bool.or_eq_false_iff, decide_eq_true_eq, decide_eq_false_iff_not] at c0
    refine s_exit rfl ?_
    refine s_seq ?_
    refine o_enter rfl ?_
    refine o_load rfl (loads_ownS (by first | exact m0 | exact m1 | exact m2 | exact m3 | exact m4 | exact m5 | exact m6) (by rfl)) .free rfl ?_
    refine o_call rfl .free rfl (ihS hlt1 hf.rep hok1 _) ?_
    rintro _ _ _ _ ⟨rfl, rfl, rfl⟩
    refine o_assign rfl .free rfl ?_
    refine o_done ?_
    refine s_ret (.tmp rfl .nil) ?_
    refine done_only rfl (by intro _ h; first | exact h | exact dr1 h | exact dr2 h | exact dr3 h | exact dr4 h | exact dr5 h | exact dr6 h) ?_
    rw [← hn1]
    have : e1.norm false = e1.norm true := by
      cases e1 with
      | lt x a b => exact absurd rfl c0
      | _ => rfl
    rw [this]; rfl
theorem simple_normal_g (n : Nat) : SimpleG n ∧ NormalG n := by
  induction n with
  | zero => exact ⟨by intro I e cs h; omega, by intro I e cs h; omega⟩
  | succ n ih =>
    exact ⟨@simpleG_step n ih.2, @normalG_step _ (@simpleG_step n ih.2)⟩
theorem g_l5Simple {I : Heap} {e : Ex} {cs : List Value} (h : Rep I e.tree cs) (hok : e.ok = true) (L : Own) : Fun Try.prog 22 [.agg cs.toArray] I L (Only (.bool (e.norm false)) I L) := (simple_normal_g _).1 (Nat.lt_succ_self _) h hok L
theorem g_l5Normal {I : Heap} {e : Ex} {cs : List Value} (h : Rep I e.tree cs) (hok : e.ok = true) (L : Own) : Fun Try.prog 20 [.agg cs.toArray] I L (Only (.bool (e.norm true)) I L) := (simple_normal_g _).2 (Nat.lt_succ_self _) h hok L
end Go.Proofs.Yteebkhdnjkchgaa
