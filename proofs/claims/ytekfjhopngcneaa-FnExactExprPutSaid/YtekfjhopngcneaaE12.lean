
/- An expression put for a name. No conditions. -/
import Derived.Test.YtekfjhopngcneaaA4
import Derived.Test.YtekfjhopngcneaaE10
namespace Go.Proofs.Ytekfjhopngcneaa
set_option maxRecDepth 100000
set_option linter.unusedVariables false
set_option linter.unusedSimpArgs false

theorem f_form_put : ∀ (n : Nat) {I : Heap} {e : Ex} {cs : List Value} (_ : SizeOf.sizeOf e < n) (_ : Rep I e.tree cs) (_ : e.ok = true) (nm : Txt) (_ : isName nm = true) {v : Ex} {ds : List Value} (_ : Rep I v.tree ds) (L : Own),
    Fun Try.prog 15 [.agg cs.toArray, .string (str nm), .agg ds.toArray] I L (RP (e.put nm v).tree L) := by
  intro n
  induction n with
  | zero => intro I e cs h; omega
  | succ n ihn =>
    intro I e cs hlt h hok nm hnm v ds hv L
    obtain ⟨oa, c, oaf, cf, rfl, hf, hcl, hcs⟩ := h.cells
    obtain ⟨ov, cv, _, rfl, -⟩ := hv.open
    have hle : HLe I I := .refl _
    refine fun_intro (by simp) ?_
    refine s_seq ?_
    refine o_enter rfl ?_
    refine o_box rfl rfl .free rfl ?_
    intro b3
    refine o_box rfl rfl .free rfl ?_
    intro b5
    refine o_alloc .free rfl ?_
    intro b6
    refine o_done ?_
    refine s_seq ?_
    refine s_seq ?_
    refine o_enter rfl ?_
    refine o_load rfl (loads_ownS (by first | exact m0 | exact m1 | exact m2 | exact m3 | exact m4 | exact m5 | exact m6) (by rfl)) .free rfl ?_
    refine o_call rfl .free rfl (f_form_isAtom hf.rep _) ?_
    rintro _ _ _ _ ⟨rfl, rfl, rfl⟩
    refine o_done ?_
    refine s_cond rfl ?_ ?_
    · intro c0
      try simp only [Bool.and_eq_true, Bool.or_eq_true, Bool.not_eq_true', Bool.not_eq_false', Bool.and_eq_false_iff, Bool.or_eq_false_iff, decide_eq_true_eq, decide_eq_false_iff_not] at c0
      have hb : e.bare = true := by rw [Ex.bare_parts]; exact c0
      refine s_seq ?_
      refine s_seq ?_
      refine o_enter rfl ?_
      refine o_fieldAddr rfl .free rfl ?_
      refine o_load rfl (loads_own1 (by first | exact m0 | exact m1 | exact m2 | exact m3 | exact m4 | exact m5 | exact m6) (by rfl) rfl) .free rfl ?_
      refine o_move rfl .free rfl ?_
      refine o_cmps rfl rfl rfl .free rfl ?_
      refine o_done ?_
      refine s_cond rfl ?_ ?_
      · intro c1
        try simp only [Bool.and_eq_true, Bool.or_eq_true, Bool.not_eq_true', Bool.not_eq_false', Bool.and_eq_false_iff, Bool.or_eq_false_iff, decide_eq_true_eq, decide_eq_false_iff_not] at c1
        refine s_seq ?_
        refine o_enter rfl ?_
        refine o_load rfl (loads_ownS (by first | exact m0 | exact m1 | exact m2 | exact m3 | exact m4 | exact m5 | exact m6) (by rfl)) .free rfl ?_
        refine o_store rfl rfl rfl rfl (by first | rfl | (simp only [List.toList_toArray, List.all_cons, List.all_nil, plainCell_buf, Bool.and_true, Bool.true_and] <;> rfl)) (by first | exact u0 | exact u1 | exact u2 | exact u3 | exact u4 | exact u5 | exact u6) (by rfl) .free ?_
        refine o_done ?_
        refine s_ret (.cell rfl (by first | exact loads_still1 (by assumption) rfl | exact loads_ownS (by first | exact m0 | exact m1 | exact m2 | exact m3 | exact m4 | exact m5 | exact m6) (by rfl) | exact loads_own1 (by first | exact m0 | exact m1 | exact m2 | exact m3 | exact m4 | exact m5 | exact m6) (by rfl) rfl | exact loads_stillS (by assumption) (by rfl) | exact loads_stillF (by assumption) (by rfl) rfl) .nil) ?_
        refine ⟨I, L, .refl _, (by intro _ h; first | exact h | exact dr1 h | exact dr2 h | exact dr3 h | exact dr4 h | exact dr5 h | exact dr6 h), _, rfl, ?_, rfl⟩
        have : e.put nm v = v := by
          cases e with
          | num s =>
            have c1 : s = nm := c1
            subst c1
            have h2 := name_not_num hnm
            rw [show isNum s = true from hok] at h2; cases h2
          | name s => exact if_pos c1
          | _ => cases hb
        rw [this]; exact hv
      · intro c1
        try simp only [Bool.and_eq_true, Bool.or_eq_true, Bool.not_eq_true', Bool.not_eq_false', Bool.and_eq_false_iff, Bool.or_eq_false_iff, decide_eq_true_eq, decide_eq_false_iff_not] at c1
        refine s_skip ?_
        refine s_seq ?_
        refine o_enter rfl ?_
        refine o_load rfl (loads_ownS (by first | exact m0 | exact m1 | exact m2 | exact m3 | exact m4 | exact m5 | exact m6) (by rfl)) .free rfl ?_
        refine o_store rfl rfl rfl rfl (by first | rfl | (simp only [List.toList_toArray, List.all_cons, List.all_nil, plainCell_buf, Bool.and_true, Bool.true_and] <;> rfl)) (by first | exact u0 | exact u1 | exact u2 | exact u3 | exact u4 | exact u5 | exact u6) (by rfl) .free ?_
        refine o_done ?_
        refine s_ret (.cell rfl (by first | exact loads_still1 (by assumption) rfl | exact loads_ownS (by first | exact m0 | exact m1 | exact m2 | exact m3 | exact m4 | exact m5 | exact m6) (by rfl) | exact loads_own1 (by first | exact m0 | exact m1 | exact m2 | exact m3 | exact m4 | exact m5 | exact m6) (by rfl) rfl | exact loads_stillS (by assumption) (by rfl) | exact loads_stillF (by assumption) (by rfl) rfl) .nil) ?_
        refine ⟨I, L, .refl _, (by intro _ h; first | exact h | exact dr1 h | exact dr2 h | exact dr3 h | exact dr4 h | exact dr5 h | exact dr6 h), _, rfl, ?_, rfl⟩
        have : e.put nm v = e := by
          cases e with
          | num s => rfl
          | name s => exact if_neg c1
          | _ => cases hb
        rw [this]; exact hf.rep
    · intro c0
      try simp only [Bool.and_eq_true, Bool.or_eq_true, Bool.not_eq_true', Bool.not_eq_false', Bool.and_eq_false_iff, Bool.or_eq_false_iff, decide_eq_true_eq, decide_eq_false_iff_not] at c0
      have hb : e.bare = false := by rw [Ex.bare_parts]; exact c0
      have hsh := e.shapes hb
      have hok0 := hok
      have hpos : 0 < e.tree.parts.length := by
        rw [Ex.bare_parts] at hb
        have : e.tree.parts ≠ [] := by intro hh; rw [hh] at hb; cases hb
        exact List.length_pos_iff.2 this
      obtain ⟨xa, rfl⟩ : ∃ xa, oa = some xa := ⟨_, some_oad hf.nil hpos⟩
      have hp := hf.len
      refine s_skip ?_
      refine s_seq ?_
      refine o_enter rfl ?_
      refine o_fieldAddr rfl .free rfl ?_
      refine o_load rfl (loads_own1 (by first | exact m0 | exact m1 | exact m2 | exact m3 | exact m4 | exact m5 | exact m6) (by rfl) rfl) .free rfl ?_
      refine o_call rfl .free rfl (f_slices_Clone (hcs _ rfl) (by have := hcl.length; omega) hcl.plain hpos hp _) ?_
      rintro _ _ _ _ ⟨bc, sp, cc, rfl, hcc, rfl, rfl⟩
      refine o_struct rfl rfl rfl .free rfl ?_
      refine o_alloc .free rfl ?_
      intro b7
      refine o_store rfl rfl rfl rfl (by first | rfl | (simp only [List.toList_toArray, List.all_cons, List.all_nil, plainCell_buf, Bool.and_true, Bool.true_and] <;> rfl)) (by first | exact u0 | exact u1 | exact u2 | exact u3 | exact u4 | exact u5 | exact u6) (by rfl) .free ?_
      refine o_done ?_
      refine s_seq ?_
      refine s_seq ?_
      rcases hsh with ⟨o, a, b, rfl⟩ | ⟨a, b, d, rfl⟩ | ⟨z, a, b, rfl⟩ | ⟨g, z, s, t, b, rfl⟩ | ⟨o, a, rfl⟩
      · skip
        have hlen : (Ex.bin o a b).tree.parts.length = 3 := rfl
        have hki := kids_bin o a b
        simp only [Ex.bin.sizeOf_spec] at hlt
        simp only [Ex.ok, Bool.and_eq_true] at hok
        obtain ⟨_, hrl⟩ : ∃ _ : True, RepL I (Ex.bin o a b).tree.parts _ := ⟨trivial, hcl⟩
        simp only [show (Ex.bin o a b).tree.parts = [.node o.txt [], a.tree, b.tree] from rfl, cellsF, List.cons_append, List.nil_append] at hrl ⊢
        refine o_enter rfl ?_
        refine o_load rfl (loads_ownS (by first | exact m0 | exact m1 | exact m2 | exact m3 | exact m4 | exact m5 | exact m6) (by rfl)) .free rfl ?_
        refine o_call rfl .free rfl (f_form_kids hf.rep _) ?_
        rintro _ J _ e0 ⟨ok, ck, rfl, hk, rfl⟩
        have hf := hf.mono e0
        have hv := hv.mono e0
        have hle := e0
        rw [hki] at hk
        rw [hki]
        refine o_len_slice rfl .free rfl ?_
        refine o_move rfl .free rfl ?_
        refine o_done ?_
        refine s_block ?_
        refine s_loop ?_
        refine s_seq ?_
        refine o_enter rfl ?_
        refine o_cmp rfl rfl rfl .free rfl ?_
        refine o_done ?_
        refine s_seq ?_
        refine s_condT rfl (by first | rfl | decide | (simp; done) | omega) ?_
        refine s_skip ?_
        refine s_seq ?_
        refine s_block ?_
        refine s_seq ?_
        refine o_enter rfl ?_
        first | refine o_indexAddrD rfl rfl _ rfl (by first | omega | exact lt_of (by assumption) (by decide) | (simp; done) | (simp; omega) | decide | (simp at *; omega)) (by first | assumption | exact FormAt.nil (by assumption) | exact Strs.nil' (by assumption) | exact Nums.nil' (by assumption) | exact Raw.nil' (by assumption)) .free rfl ?_ | refine o_indexAddr' rfl rfl _ rfl (by first | omega | exact lt_of (by assumption) (by decide) | (simp; done) | (simp; omega) | decide | (simp at *; omega)) (by first | rfl | assumption) .free rfl ?_
        refine o_load rfl (by first | exact loads_still1 (Nums.st (by assumption) _ (by first | omega | decide | (simp; done) | exact lt_of (by assumption) (by decide))) rfl | exact loads_still1 (Strs.st (by assumption) _ (by first | omega | decide | (simp; done) | exact lt_of (by assumption) (by decide))) rfl | exact loads_still1 (Raw.st (by assumption) _ (by first | omega | decide | (simp; done) | exact lt_of (by assumption) (by decide))) rfl | exact loads_still1 (by assumption) rfl | exact loads_scalar rfl (by assumption)) .free rfl ?_
        refine o_assign rfl .free rfl ?_
        refine o_done ?_
        refine s_seq ?_
        refine o_enter rfl ?_
        refine o_load rfl (loads_ownS (by first | exact m0 | exact m1 | exact m2 | exact m3 | exact m4 | exact m5 | exact m6) (by rfl)) .free rfl ?_
        refine o_move rfl .free rfl ?_
        refine o_call rfl .free rfl (f_form_bound hf.rep hok0 _ _) ?_
        rintro _ J1 _ e1 ⟨o1, k1, rfl, hs1, rfl⟩
        refine o_move rfl .free rfl ?_
        refine o_call rfl .free rfl (f_slices_Contains (hs1.rd _) k1 nm) ?_
        rintro _ _ _ _ ⟨rfl, rfl, rfl⟩
        refine o_not rfl .free rfl ?_
        refine o_mem (fun w h => Mem.le e1 h) ?_
        refine o_done ?_
        first | refine s_tp rfl (by simp [Ex.binds]) ?_ | refine s_tn rfl (by simp [Ex.binds]) ?_ | refine s_true (by simp [look, opd, *]) ?_
        refine d_all 13 rfl rfl ?_
        refine d_takeA 0 rfl (by kernel_rfl) rfl (.inr heldx) (y_fieldAddr rfl) .free rfl ?_
        refine d_take 1 [12] rfl (by kernel_rfl) rfl heldx (y_load rfl (loads_own1 (by first | exact m0 | exact m1 | exact m2 | exact m3 | exact m4 | exact m5 | exact m6) (by rfl) rfl)) .free rfl ?_
        refine d_takeA 2 rfl (by kernel_rfl) rfl (.inr heldx) (y_move rfl) .free rfl ?_
        refine d_takeA 3 rfl (by kernel_rfl) rfl (.inr heldx) (y_fieldAddr rfl) .free rfl ?_
        refine d_take 4 [12] rfl (by kernel_rfl) rfl heldx (y_load rfl (loads_own1 (by first | exact m0 | exact m1 | exact m2 | exact m3 | exact m4 | exact m5 | exact m6) (by rfl) rfl)) .free rfl ?_
        refine d_takeA 5 rfl (by kernel_rfl) rfl (.inr heldx) (y_move rfl) .free rfl ?_
        first | refine d_takeA 6 rfl (by kernel_rfl) rfl (.inr heldx) (y_indexAddrD rfl rfl _ rfl (by first | omega | exact lt_of (by assumption) (by decide) | (simp; done) | (simp; omega) | decide | (simp at *; omega)) (by first | assumption | exact FormAt.nil (by assumption) | exact Strs.nil' (by assumption) | exact Nums.nil' (by assumption) | exact Raw.nil' (by assumption))) .free rfl ?_ | refine d_takeA 6 rfl (by kernel_rfl) rfl (.inr heldx) (y_indexAddr' rfl rfl _ rfl (by first | omega | exact lt_of (by assumption) (by decide) | (simp; done) | (simp; omega) | decide | (simp at *; omega)) (by first | rfl | assumption)) .free rfl ?_
        refine d_take 7 [12] rfl (by kernel_rfl) rfl heldx (y_load rfl (by first | exact loads_stillS (FormAt.st (by assumption) _ (by first | omega | decide | (simp; done) | exact lt_of (by assumption) (by decide))) (by rfl) | exact loads_stillS (by assumption) (by rfl) | exact loads_rd (reads_sub (by assumption) (by intro _ h; first | exact h | exact dr1 h | exact dr2 h | exact dr3 h | exact dr4 h | exact dr5 h | exact dr6 h)) (by rfl))) .free rfl ?_
        refine d_takeA 8 rfl (by kernel_rfl) rfl (.inr heldx) (y_move rfl) .free rfl ?_
        refine d_take 9 [12] rfl (by kernel_rfl) rfl heldx (y_load rfl (loads_ownS (by first | exact m0 | exact m1 | exact m2 | exact m3 | exact m4 | exact m5 | exact m6) (by rfl))) .free rfl ?_
        refine d_call 10 rfl (by kernel_rfl) rfl rfl .free rfl (ihn (by omega) (hf.as 1 a.tree (by omega) rfl) hok.1 nm hnm hv _) ?_
        rintro _ J2 _ e2 ⟨cs2, rfl, hr_0, rfl⟩
        obtain ⟨o2, k2, _, rfl, -⟩ := hr_0.open
        have hf := hf.mono e2
        have hv := hv.mono e2
        have hle := hle.trans e2
        have hk := hk.mono e2
        refine ⟨(.inr heldx), ?_⟩
        first | refine d_takeA 11 rfl (by kernel_rfl) rfl (.inr heldx) (y_indexAddrD rfl rfl _ rfl (by first | omega | exact lt_of (by assumption) (by decide) | (simp; done) | (simp; omega) | decide | (simp at *; omega)) (by first | assumption | exact FormAt.nil (by assumption) | exact Strs.nil' (by assumption) | exact Nums.nil' (by assumption) | exact Raw.nil' (by assumption))) .free rfl ?_ | refine d_takeA 11 rfl (by kernel_rfl) rfl (.inr heldx) (y_indexAddr' rfl rfl _ rfl (by first | omega | exact lt_of (by assumption) (by decide) | (simp; done) | (simp; omega) | decide | (simp at *; omega)) (by first | rfl | assumption)) .free rfl ?_
        refine d_store 12 rfl (by kernel_rfl) rfl rfl rfl rfl rfl (by first | rfl | (simp only [List.toList_toArray, List.all_cons, List.all_nil, plainCell_buf, Bool.and_true, Bool.true_and] <;> rfl)) (by first | exact u0 | exact u1 | exact u2 | exact u3 | exact u4 | exact u5 | exact u6) (by rfl) .free (.inl (by kernel_rfl)) ?_
        refine d_done (by kernel_rfl) ?_
        refine s_inBlock ?_
        refine o_enter rfl ?_
        refine o_arith rfl rfl rfl (by omega) .free rfl ?_
        refine o_move rfl .free rfl ?_
        refine o_done ?_
        refine s_round ?_
        refine s_seq ?_
        refine o_enter rfl ?_
        refine o_cmp rfl rfl rfl .free rfl ?_
        refine o_done ?_
        refine s_seq ?_
        refine s_condT rfl (by first | rfl | decide | (simp; done) | omega) ?_
        refine s_skip ?_
        refine s_seq ?_
        refine s_block ?_
        refine s_seq ?_
        refine o_enter rfl ?_
        first | refine o_indexAddrD rfl rfl _ rfl (by first | omega | exact lt_of (by assumption) (by decide) | (simp; done) | (simp; omega) | decide | (simp at *; omega)) (by first | assumption | exact FormAt.nil (by assumption) | exact Strs.nil' (by assumption) | exact Nums.nil' (by assumption) | exact Raw.nil' (by assumption)) .free rfl ?_ | refine o_indexAddr' rfl rfl _ rfl (by first | omega | exact lt_of (by assumption) (by decide) | (simp; done) | (simp; omega) | decide | (simp at *; omega)) (by first | rfl | assumption) .free rfl ?_
        refine o_load rfl (by first | exact loads_still1 (Nums.st (by assumption) _ (by first | omega | decide | (simp; done) | exact lt_of (by assumption) (by decide))) rfl | exact loads_still1 (Strs.st (by assumption) _ (by first | omega | decide | (simp; done) | exact lt_of (by assumption) (by decide))) rfl | exact loads_still1 (Raw.st (by assumption) _ (by first | omega | decide | (simp; done) | exact lt_of (by assumption) (by decide))) rfl | exact loads_still1 (by assumption) rfl | exact loads_scalar rfl (by assumption)) .free rfl ?_
        refine o_assign rfl .free rfl ?_
        refine o_done ?_
        refine s_seq ?_
        refine o_enter rfl ?_
        refine o_load rfl (loads_ownS (by first | exact m0 | exact m1 | exact m2 | exact m3 | exact m4 | exact m5 | exact m6) (by rfl)) .free rfl ?_
        refine o_move rfl .free rfl ?_
        refine o_call rfl .free rfl (f_form_bound hf.rep hok0 _ _) ?_
        rintro _ J1 _ e1 ⟨o1, k1, rfl, hs1, rfl⟩
        refine o_move rfl .free rfl ?_
        refine o_call rfl .free rfl (f_slices_Contains (hs1.rd _) k1 nm) ?_
        rintro _ _ _ _ ⟨rfl, rfl, rfl⟩
        refine o_not rfl .free rfl ?_
        refine o_mem (fun w h => Mem.le e1 h) ?_
        refine o_done ?_
        first | refine s_tp rfl (by simp [Ex.binds]) ?_ | refine s_tn rfl (by simp [Ex.binds]) ?_ | refine s_true (by simp [look, opd, *]) ?_
        refine d_all 13 rfl rfl ?_
        refine d_takeA 0 rfl (by kernel_rfl) rfl (.inr heldx) (y_fieldAddr rfl) .free rfl ?_
        refine d_take 1 [12] rfl (by kernel_rfl) rfl heldx (y_load rfl (loads_own1 (by first | exact m0 | exact m1 | exact m2 | exact m3 | exact m4 | exact m5 | exact m6) (by rfl) rfl)) .free rfl ?_
        refine d_takeA 2 rfl (by kernel_rfl) rfl (.inr heldx) (y_move rfl) .free rfl ?_
        refine d_takeA 3 rfl (by kernel_rfl) rfl (.inr heldx) (y_fieldAddr rfl) .free rfl ?_
        refine d_take 4 [12] rfl (by kernel_rfl) rfl heldx (y_load rfl (loads_own1 (by first | exact m0 | exact m1 | exact m2 | exact m3 | exact m4 | exact m5 | exact m6) (by rfl) rfl)) .free rfl ?_
        refine d_takeA 5 rfl (by kernel_rfl) rfl (.inr heldx) (y_move rfl) .free rfl ?_
        first | refine d_takeA 6 rfl (by kernel_rfl) rfl (.inr heldx) (y_indexAddrD rfl rfl _ rfl (by first | omega | exact lt_of (by assumption) (by decide) | (simp; done) | (simp; omega) | decide | (simp at *; omega)) (by first | assumption | exact FormAt.nil (by assumption) | exact Strs.nil' (by assumption) | exact Nums.nil' (by assumption) | exact Raw.nil' (by assumption))) .free rfl ?_ | refine d_takeA 6 rfl (by kernel_rfl) rfl (.inr heldx) (y_indexAddr' rfl rfl _ rfl (by first | omega | exact lt_of (by assumption) (by decide) | (simp; done) | (simp; omega) | decide | (simp at *; omega)) (by first | rfl | assumption)) .free rfl ?_
        refine d_take 7 [12] rfl (by kernel_rfl) rfl heldx (y_load rfl (by first | exact loads_stillS (FormAt.st (by assumption) _ (by first | omega | decide | (simp; done) | exact lt_of (by assumption) (by decide))) (by rfl) | exact loads_stillS (by assumption) (by rfl) | exact loads_rd (reads_sub (by assumption) (by intro _ h; first | exact h | exact dr1 h | exact dr2 h | exact dr3 h | exact dr4 h | exact dr5 h | exact dr6 h)) (by rfl))) .free rfl ?_
        refine d_takeA 8 rfl (by kernel_rfl) rfl (.inr heldx) (y_move rfl) .free rfl ?_
        refine d_take 9 [12] rfl (by kernel_rfl) rfl heldx (y_load rfl (loads_ownS (by first | exact m0 | exact m1 | exact m2 | exact m3 | exact m4 | exact m5 | exact m6) (by rfl))) .free rfl ?_
        refine d_call 10 rfl (by kernel_rfl) rfl rfl .free rfl (ihn (by omega) (hf.as 2 b.tree (by omega) rfl) hok.2 nm hnm hv _) ?_
        rintro _ J2 _ e2 ⟨cs2, rfl, hr_1, rfl⟩
        obtain ⟨o2, k2, _, rfl, -⟩ := hr_1.open
        have hf := hf.mono e2
        have hv := hv.mono e2
        have hle := hle.trans e2
        have hk := hk.mono e2
        have hr_0 := hr_0.mono e2
        refine ⟨(.inr heldx), ?_⟩
        first | refine d_takeA 11 rfl (by kernel_rfl) rfl (.inr heldx) (y_indexAddrD rfl rfl _ rfl (by first | omega | exact lt_of (by assumption) (by decide) | (simp; done) | (simp; omega) | decide | (simp at *; omega)) (by first | assumption | exact FormAt.nil (by assumption) | exact Strs.nil' (by assumption) | exact Nums.nil' (by assumption) | exact Raw.nil' (by assumption))) .free rfl ?_ | refine d_takeA 11 rfl (by kernel_rfl) rfl (.inr heldx) (y_indexAddr' rfl rfl _ rfl (by first | omega | exact lt_of (by assumption) (by decide) | (simp; done) | (simp; omega) | decide | (simp at *; omega)) (by first | rfl | assumption)) .free rfl ?_
        refine d_store 12 rfl (by kernel_rfl) rfl rfl rfl rfl rfl (by first | rfl | (simp only [List.toList_toArray, List.all_cons, List.all_nil, plainCell_buf, Bool.and_true, Bool.true_and] <;> rfl)) (by first | exact u0 | exact u1 | exact u2 | exact u3 | exact u4 | exact u5 | exact u6) (by rfl) .free (.inl (by kernel_rfl)) ?_
        refine d_done (by kernel_rfl) ?_
        refine s_inBlock ?_
        refine o_enter rfl ?_
        refine o_arith rfl rfl rfl (by omega) .free rfl ?_
        refine o_move rfl .free rfl ?_
        refine o_done ?_
        refine s_round ?_
        refine s_seq ?_
        refine o_enter rfl ?_
        refine o_cmp rfl rfl rfl .free rfl ?_
        refine o_done ?_
        refine s_seq ?_
        refine s_condF rfl (by first | rfl | decide | (simp; done) | omega) ?_
        refine s_exit rfl ?_
        refine s_seq ?_
        refine o_enter rfl ?_
        refine o_load rfl (loads_ownS (by first | exact m0 | exact m1 | exact m2 | exact m3 | exact m4 | exact m5 | exact m6) (by rfl)) .free rfl ?_
        refine o_store rfl rfl rfl rfl (by first | rfl | (simp only [List.toList_toArray, List.all_cons, List.all_nil, plainCell_buf, Bool.and_true, Bool.true_and] <;> rfl)) (by first | exact u0 | exact u1 | exact u2 | exact u3 | exact u4 | exact u5 | exact u6) (by rfl) .free ?_
        refine o_done ?_
        refine s_mem (fun w h => h.f1) (s_freeze ?_)
        intro hz
        have hf := hf.mono hz
        refine s_ret (.cell rfl (by first | exact loads_still1 (by assumption) rfl | exact loads_ownS (by first | exact m0 | exact m1 | exact m2 | exact m3 | exact m4 | exact m5 | exact m6) (by rfl) | exact loads_own1 (by first | exact m0 | exact m1 | exact m2 | exact m3 | exact m4 | exact m5 | exact m6) (by rfl) rfl | exact loads_stillS (by assumption) (by rfl) | exact loads_stillF (by assumption) (by rfl) rfl) .nil) ?_
        exact ⟨_, L, hle.trans hz, (by intro _ h; first | exact h | exact dr1 h | exact dr2 h | exact dr3 h | exact dr4 h | exact dr5 h | exact dr6 h), _, rfl, .mk' rfl (.cons (hf.as 0 (.node o.txt []) (by omega) rfl) (.cons (hr_0.mono hz) (.cons (hr_1.mono hz) .nil))) (fun y hy => by cases hy; exact still_set (xs := [_, _, _, _, _, _])) (by simp) hcc (by simp [maxN]) (by simp [maxN]), rfl⟩
      · skip
        have hlen : (Ex.ite a b d).tree.parts.length = 4 := rfl
        have hki := kids_ite a b d
        simp only [Ex.ite.sizeOf_spec] at hlt
        simp only [Ex.ok, Bool.and_eq_true] at hok
        obtain ⟨_, hrl⟩ : ∃ _ : True, RepL I (Ex.ite a b d).tree.parts _ := ⟨trivial, hcl⟩
        simp only [show (Ex.ite a b d).tree.parts = [.node tIf [], a.tree, b.tree, d.tree] from rfl, cellsF, List.cons_append, List.nil_append] at hrl ⊢
        refine o_enter rfl ?_
        refine o_load rfl (loads_ownS (by first | exact m0 | exact m1 | exact m2 | exact m3 | exact m4 | exact m5 | exact m6) (by rfl)) .free rfl ?_
        refine o_call rfl .free rfl (f_form_kids hf.rep _) ?_
        rintro _ J _ e0 ⟨ok, ck, rfl, hk, rfl⟩
        have hf := hf.mono e0
        have hv := hv.mono e0
        have hle := e0
        rw [hki] at hk
        rw [hki]
        refine o_len_slice rfl .free rfl ?_
        refine o_move rfl .free rfl ?_
        refine o_done ?_
        refine s_block ?_
        refine s_loop ?_
        refine s_seq ?_
        refine o_enter rfl ?_
        refine o_cmp rfl rfl rfl .free rfl ?_
        refine o_done ?_
        refine s_seq ?_
        refine s_condT rfl (by first | rfl | decide | (simp; done) | omega) ?_
        refine s_skip ?_
        refine s_seq ?_
        refine s_block ?_
        refine s_seq ?_
        refine o_enter rfl ?_
        first | refine o_indexAddrD rfl rfl _ rfl (by first | omega | exact lt_of (by assumption) (by decide) | (simp; done) | (simp; omega) | decide | (simp at *; omega)) (by first | assumption | exact FormAt.nil (by assumption) | exact Strs.nil' (by assumption) | exact Nums.nil' (by assumption) | exact Raw.nil' (by assumption)) .free rfl ?_ | refine o_indexAddr' rfl rfl _ rfl (by first | omega | exact lt_of (by assumption) (by decide) | (simp; done) | (simp; omega) | decide | (simp at *; omega)) (by first | rfl | assumption) .free rfl ?_
        refine o_load rfl (by first | exact loads_still1 (Nums.st (by assumption) _ (by first | omega | decide | (simp; done) | exact lt_of (by assumption) (by decide))) rfl | exact loads_still1 (Strs.st (by assumption) _ (by first | omega | decide | (simp; done) | exact lt_of (by assumption) (by decide))) rfl | exact loads_still1 (Raw.st (by assumption) _ (by first | omega | decide | (simp; done) | exact lt_of (by assumption) (by decide))) rfl | exact loads_still1 (by assumption) rfl | exact loads_scalar rfl (by assumption)) .free rfl ?_
        refine o_assign rfl .free rfl ?_
        refine o_done ?_
        refine s_seq ?_
        refine o_enter rfl ?_
        refine o_load rfl (loads_ownS (by first | exact m0 | exact m1 | exact m2 | exact m3 | exact m4 | exact m5 | exact m6) (by rfl)) .free rfl ?_
        refine o_move rfl .free rfl ?_
        refine o_call rfl .free rfl (f_form_bound hf.rep hok0 _ _) ?_
        rintro _ J1 _ e1 ⟨o1, k1, rfl, hs1, rfl⟩
        refine o_move rfl .free rfl ?_
        refine o_call rfl .free rfl (f_slices_Contains (hs1.rd _) k1 nm) ?_
        rintro _ _ _ _ ⟨rfl, rfl, rfl⟩
        refine o_not rfl .free rfl ?_
        refine o_mem (fun w h => Mem.le e1 h) ?_
        refine o_done ?_
        first | refine s_tp rfl (by simp [Ex.binds]) ?_ | refine s_tn rfl (by simp [Ex.binds]) ?_ | refine s_true (by simp [look, opd, *]) ?_
        refine d_all 13 rfl rfl ?_
        refine d_takeA 0 rfl (by kernel_rfl) rfl (.inr heldx) (y_fieldAddr rfl) .free rfl ?_
        refine d_take 1 [12] rfl (by kernel_rfl) rfl heldx (y_load rfl (loads_own1 (by first | exact m0 | exact m1 | exact m2 | exact m3 | exact m4 | exact m5 | exact m6) (by rfl) rfl)) .free rfl ?_
        refine d_takeA 2 rfl (by kernel_rfl) rfl (.inr heldx) (y_move rfl) .free rfl ?_
        refine d_takeA 3 rfl (by kernel_rfl) rfl (.inr heldx) (y_fieldAddr rfl) .free rfl ?_
        refine d_take 4 [12] rfl (by kernel_rfl) rfl heldx (y_load rfl (loads_own1 (by first | exact m0 | exact m1 | exact m2 | exact m3 | exact m4 | exact m5 | exact m6) (by rfl) rfl)) .free rfl ?_
        refine d_takeA 5 rfl (by kernel_rfl) rfl (.inr heldx) (y_move rfl) .free rfl ?_
        first | refine d_takeA 6 rfl (by kernel_rfl) rfl (.inr heldx) (y_indexAddrD rfl rfl _ rfl (by first | omega | exact lt_of (by assumption) (by decide) | (simp; done) | (simp; omega) | decide | (simp at *; omega)) (by first | assumption | exact FormAt.nil (by assumption) | exact Strs.nil' (by assumption) | exact Nums.nil' (by assumption) | exact Raw.nil' (by assumption))) .free rfl ?_ | refine d_takeA 6 rfl (by kernel_rfl) rfl (.inr heldx) (y_indexAddr' rfl rfl _ rfl (by first | omega | exact lt_of (by assumption) (by decide) | (simp; done) | (simp; omega) | decide | (simp at *; omega)) (by first | rfl | assumption)) .free rfl ?_
        refine d_take 7 [12] rfl (by kernel_rfl) rfl heldx (y_load rfl (by first | exact loads_stillS (FormAt.st (by assumption) _ (by first | omega | decide | (simp; done) | exact lt_of (by assumption) (by decide))) (by rfl) | exact loads_stillS (by assumption) (by rfl) | exact loads_rd (reads_sub (by assumption) (by intro _ h; first | exact h | exact dr1 h | exact dr2 h | exact dr3 h | exact dr4 h | exact dr5 h | exact dr6 h)) (by rfl))) .free rfl ?_
        refine d_takeA 8 rfl (by kernel_rfl) rfl (.inr heldx) (y_move rfl) .free rfl ?_
        refine d_take 9 [12] rfl (by kernel_rfl) rfl heldx (y_load rfl (loads_ownS (by first | exact m0 | exact m1 | exact m2 | exact m3 | exact m4 | exact m5 | exact m6) (by rfl))) .free rfl ?_
        refine d_call 10 rfl (by kernel_rfl) rfl rfl .free rfl (ihn (by omega) (hf.as 1 a.tree (by omega) rfl) hok.1.1 nm hnm hv _) ?_
        rintro _ J2 _ e2 ⟨cs2, rfl, hr_0, rfl⟩
        obtain ⟨o2, k2, _, rfl, -⟩ := hr_0.open
        have hf := hf.mono e2
        have hv := hv.mono e2
        have hle := hle.trans e2
        have hk := hk.mono e2
        refine ⟨(.inr heldx), ?_⟩
        first | refine d_takeA 11 rfl (by kernel_rfl) rfl (.inr heldx) (y_indexAddrD rfl rfl _ rfl (by first | omega | exact lt_of (by assumption) (by decide) | (simp; done) | (simp; omega) | decide | (simp at *; omega)) (by first | assumption | exact FormAt.nil (by assumption) | exact Strs.nil' (by assumption) | exact Nums.nil' (by assumption) | exact Raw.nil' (by assumption))) .free rfl ?_ | refine d_takeA 11 rfl (by kernel_rfl) rfl (.inr heldx) (y_indexAddr' rfl rfl _ rfl (by first | omega | exact lt_of (by assumption) (by decide) | (simp; done) | (simp; omega) | decide | (simp at *; omega)) (by first | rfl | assumption)) .free rfl ?_
        refine d_store 12 rfl (by kernel_rfl) rfl rfl rfl rfl rfl (by first | rfl | (simp only [List.toList_toArray, List.all_cons, List.all_nil, plainCell_buf, Bool.and_true, Bool.true_and] <;> rfl)) (by first | exact u0 | exact u1 | exact u2 | exact u3 | exact u4 | exact u5 | exact u6) (by rfl) .free (.inl (by kernel_rfl)) ?_
        refine d_done (by kernel_rfl) ?_
        refine s_inBlock ?_
        refine o_enter rfl ?_
        refine o_arith rfl rfl rfl (by omega) .free rfl ?_
        refine o_move rfl .free rfl ?_
        refine o_done ?_
        refine s_round ?_
        refine s_seq ?_
        refine o_enter rfl ?_
        refine o_cmp rfl rfl rfl .free rfl ?_
        refine o_done ?_
        refine s_seq ?_
        refine s_condT rfl (by first | rfl | decide | (simp; done) | omega) ?_
        refine s_skip ?_
        refine s_seq ?_
        refine s_block ?_
        refine s_seq ?_
        refine o_enter rfl ?_
        first | refine o_indexAddrD rfl rfl _ rfl (by first | omega | exact lt_of (by assumption) (by decide) | (simp; done) | (simp; omega) | decide | (simp at *; omega)) (by first | assumption | exact FormAt.nil (by assumption) | exact Strs.nil' (by assumption) | exact Nums.nil' (by assumption) | exact Raw.nil' (by assumption)) .free rfl ?_ | refine o_indexAddr' rfl rfl _ rfl (by first | omega | exact lt_of (by assumption) (by decide) | (simp; done) | (simp; omega) | decide | (simp at *; omega)) (by first | rfl | assumption) .free rfl ?_
        refine o_load rfl (by first | exact loads_still1 (Nums.st (by assumption) _ (by first | omega | decide | (simp; done) | exact lt_of (by assumption) (by decide))) rfl | exact loads_still1 (Strs.st (by assumption) _ (by first | omega | decide | (simp; done) | exact lt_of (by assumption) (by decide))) rfl | exact loads_still1 (Raw.st (by assumption) _ (by first | omega | decide | (simp; done) | exact lt_of (by assumption) (by decide))) rfl | exact loads_still1 (by assumption) rfl | exact loads_scalar rfl (by assumption)) .free rfl ?_
        refine o_assign rfl .free rfl ?_
        refine o_done ?_
        refine s_seq ?_
        refine o_enter rfl ?_
        refine o_load rfl (loads_ownS (by first | exact m0 | exact m1 | exact m2 | exact m3 | exact m4 | exact m5 | exact m6) (by rfl)) .free rfl ?_
        refine o_move rfl .free rfl ?_
        refine o_call rfl .free rfl (f_form_bound hf.rep hok0 _ _) ?_
        rintro _ J1 _ e1 ⟨o1, k1, rfl, hs1, rfl⟩
        refine o_move rfl .free rfl ?_
        refine o_call rfl .free rfl (f_slices_Contains (hs1.rd _) k1 nm) ?_
        rintro _ _ _ _ ⟨rfl, rfl, rfl⟩
        refine o_not rfl .free rfl ?_
        refine o_mem (fun w h => Mem.le e1 h) ?_
        refine o_done ?_
        first | refine s_tp rfl (by simp [Ex.binds]) ?_ | refine s_tn rfl (by simp [Ex.binds]) ?_ | refine s_true (by simp [look, opd, *]) ?_
        refine d_all 13 rfl rfl ?_
        refine d_takeA 0 rfl (by kernel_rfl) rfl (.inr heldx) (y_fieldAddr rfl) .free rfl ?_
        refine d_take 1 [12] rfl (by kernel_rfl) rfl heldx (y_load rfl (loads_own1 (by first | exact m0 | exact m1 | exact m2 | exact m3 | exact m4 | exact m5 | exact m6) (by rfl) rfl)) .free rfl ?_
        refine d_takeA 2 rfl (by kernel_rfl) rfl (.inr heldx) (y_move rfl) .free rfl ?_
        refine d_takeA 3 rfl (by kernel_rfl) rfl (.inr heldx) (y_fieldAddr rfl) .free rfl ?_
        refine d_take 4 [12] rfl (by kernel_rfl) rfl heldx (y_load rfl (loads_own1 (by first | exact m0 | exact m1 | exact m2 | exact m3 | exact m4 | exact m5 | exact m6) (by rfl) rfl)) .free rfl ?_
        refine d_takeA 5 rfl (by kernel_rfl) rfl (.inr heldx) (y_move rfl) .free rfl ?_
        first | refine d_takeA 6 rfl (by kernel_rfl) rfl (.inr heldx) (y_indexAddrD rfl rfl _ rfl (by first | omega | exact lt_of (by assumption) (by decide) | (simp; done) | (simp; omega) | decide | (simp at *; omega)) (by first | assumption | exact FormAt.nil (by assumption) | exact Strs.nil' (by assumption) | exact Nums.nil' (by assumption) | exact Raw.nil' (by assumption))) .free rfl ?_ | refine d_takeA 6 rfl (by kernel_rfl) rfl (.inr heldx) (y_indexAddr' rfl rfl _ rfl (by first | omega | exact lt_of (by assumption) (by decide) | (simp; done) | (simp; omega) | decide | (simp at *; omega)) (by first | rfl | assumption)) .free rfl ?_
        refine d_take 7 [12] rfl (by kernel_rfl) rfl heldx (y_load rfl (by first | exact loads_stillS (FormAt.st (by assumption) _ (by first | omega | decide | (simp; done) | exact lt_of (by assumption) (by decide))) (by rfl) | exact loads_stillS (by assumption) (by rfl) | exact loads_rd (reads_sub (by assumption) (by intro _ h; first | exact h | exact dr1 h | exact dr2 h | exact dr3 h | exact dr4 h | exact dr5 h | exact dr6 h)) (by rfl))) .free rfl ?_
        refine d_takeA 8 rfl (by kernel_rfl) rfl (.inr heldx) (y_move rfl) .free rfl ?_
        refine d_take 9 [12] rfl (by kernel_rfl) rfl heldx (y_load rfl (loads_ownS (by first | exact m0 | exact m1 | exact m2 | exact m3 | exact m4 | exact m5 | exact m6) (by rfl))) .free rfl ?_
        refine d_call 10 rfl (by kernel_rfl) rfl rfl .free rfl (ihn (by omega) (hf.as 2 b.tree (by omega) rfl) hok.1.2 nm hnm hv _) ?_
        rintro _ J2 _ e2 ⟨cs2, rfl, hr_1, rfl⟩
        obtain ⟨o2, k2, _, rfl, -⟩ := hr_1.open
        have hf := hf.mono e2
        have hv := hv.mono e2
        have hle := hle.trans e2
        have hk := hk.mono e2
        have hr_0 := hr_0.mono e2
        refine ⟨(.inr heldx), ?_⟩
        first | refine d_takeA 11 rfl (by kernel_rfl) rfl (.inr heldx) (y_indexAddrD rfl rfl _ rfl (by first | omega | exact lt_of (by assumption) (by decide) | (simp; done) | (simp; omega) | decide | (simp at *; omega)) (by first | assumption | exact FormAt.nil (by assumption) | exact Strs.nil' (by assumption) | exact Nums.nil' (by assumption) | exact Raw.nil' (by assumption))) .free rfl ?_ | refine d_takeA 11 rfl (by kernel_rfl) rfl (.inr heldx) (y_indexAddr' rfl rfl _ rfl (by first | omega | exact lt_of (by assumption) (by decide) | (simp; done) | (simp; omega) | decide | (simp at *; omega)) (by first | rfl | assumption)) .free rfl ?_
        refine d_store 12 rfl (by kernel_rfl) rfl rfl rfl rfl rfl (by first | rfl | (simp only [List.toList_toArray, List.all_cons, List.all_nil, plainCell_buf, Bool.and_true, Bool.true_and] <;> rfl)) (by first | exact u0 | exact u1 | exact u2 | exact u3 | exact u4 | exact u5 | exact u6) (by rfl) .free (.inl (by kernel_rfl)) ?_
        refine d_done (by kernel_rfl) ?_
        refine s_inBlock ?_
        refine o_enter rfl ?_
        refine o_arith rfl rfl rfl (by omega) .free rfl ?_
        refine o_move rfl .free rfl ?_
        refine o_done ?_
        refine s_round ?_
        refine s_seq ?_
        refine o_enter rfl ?_
        refine o_cmp rfl rfl rfl .free rfl ?_
        refine o_done ?_
        refine s_seq ?_
        refine s_condT rfl (by first | rfl | decide | (simp; done) | omega) ?_
        refine s_skip ?_
        refine s_seq ?_
        refine s_block ?_
        refine s_seq ?_
        refine o_enter rfl ?_
        first | refine o_indexAddrD rfl rfl _ rfl (by first | omega | exact lt_of (by assumption) (by decide) | (simp; done) | (simp; omega) | decide | (simp at *; omega)) (by first | assumption | exact FormAt.nil (by assumption) | exact Strs.nil' (by assumption) | exact Nums.nil' (by assumption) | exact Raw.nil' (by assumption)) .free rfl ?_ | refine o_indexAddr' rfl rfl _ rfl (by first | omega | exact lt_of (by assumption) (by decide) | (simp; done) | (simp; omega) | decide | (simp at *; omega)) (by first | rfl | assumption) .free rfl ?_
        refine o_load rfl (by first | exact loads_still1 (Nums.st (by assumption) _ (by first | omega | decide | (simp; done) | exact lt_of (by assumption) (by decide))) rfl | exact loads_still1 (Strs.st (by assumption) _ (by first | omega | decide | (simp; done) | exact lt_of (by assumption) (by decide))) rfl | exact loads_still1 (Raw.st (by assumption) _ (by first | omega | decide | (simp; done) | exact lt_of (by assumption) (by decide))) rfl | exact loads_still1 (by assumption) rfl | exact loads_scalar rfl (by assumption)) .free rfl ?_
        refine o_assign rfl .free rfl ?_
        refine o_done ?_
        refine s_seq ?_
        refine o_enter rfl ?_
        refine o_load rfl (loads_ownS (by first | exact m0 | exact m1 | exact m2 | exact m3 | exact m4 | exact m5 | exact m6) (by rfl)) .free rfl ?_
        refine o_move rfl .free rfl ?_
        refine o_call rfl .free rfl (f_form_bound hf.rep hok0 _ _) ?_
        rintro _ J1 _ e1 ⟨o1, k1, rfl, hs1, rfl⟩
        refine o_move rfl .free rfl ?_
        refine o_call rfl .free rfl (f_slices_Contains (hs1.rd _) k1 nm) ?_
        rintro _ _ _ _ ⟨rfl, rfl, rfl⟩
        refine o_not rfl .free rfl ?_
        refine o_mem (fun w h => Mem.le e1 h) ?_
        refine o_done ?_
        first | refine s_tp rfl (by simp [Ex.binds]) ?_ | refine s_tn rfl (by simp [Ex.binds]) ?_ | refine s_true (by simp [look, opd, *]) ?_
        refine d_all 13 rfl rfl ?_
        refine d_takeA 0 rfl (by kernel_rfl) rfl (.inr heldx) (y_fieldAddr rfl) .free rfl ?_
        refine d_take 1 [12] rfl (by kernel_rfl) rfl heldx (y_load rfl (loads_own1 (by first | exact m0 | exact m1 | exact m2 | exact m3 | exact m4 | exact m5 | exact m6) (by rfl) rfl)) .free rfl ?_
        refine d_takeA 2 rfl (by kernel_rfl) rfl (.inr heldx) (y_move rfl) .free rfl ?_
        refine d_takeA 3 rfl (by kernel_rfl) rfl (.inr heldx) (y_fieldAddr rfl) .free rfl ?_
        refine d_take 4 [12] rfl (by kernel_rfl) rfl heldx (y_load rfl (loads_own1 (by first | exact m0 | exact m1 | exact m2 | exact m3 | exact m4 | exact m5 | exact m6) (by rfl) rfl)) .free rfl ?_
        refine d_takeA 5 rfl (by kernel_rfl) rfl (.inr heldx) (y_move rfl) .free rfl ?_
        first | refine d_takeA 6 rfl (by kernel_rfl) rfl (.inr heldx) (y_indexAddrD rfl rfl _ rfl (by first | omega | exact lt_of (by assumption) (by decide) | (simp; done) | (simp; omega) | decide | (simp at *; omega)) (by first | assumption | exact FormAt.nil (by assumption) | exact Strs.nil' (by assumption) | exact Nums.nil' (by assumption) | exact Raw.nil' (by assumption))) .free rfl ?_ | refine d_takeA 6 rfl (by kernel_rfl) rfl (.inr heldx) (y_indexAddr' rfl rfl _ rfl (by first | omega | exact lt_of (by assumption) (by decide) | (simp; done) | (simp; omega) | decide | (simp at *; omega)) (by first | rfl | assumption)) .free rfl ?_
        refine d_take 7 [12] rfl (by kernel_rfl) rfl heldx (y_load rfl (by first | exact loads_stillS (FormAt.st (by assumption) _ (by first | omega | decide | (simp; done) | exact lt_of (by assumption) (by decide))) (by rfl) | exact loads_stillS (by assumption) (by rfl) | exact loads_rd (reads_sub (by assumption) (by intro _ h; first | exact h | exact dr1 h | exact dr2 h | exact dr3 h | exact dr4 h | exact dr5 h | exact dr6 h)) (by rfl))) .free rfl ?_
        refine d_takeA 8 rfl (by kernel_rfl) rfl (.inr heldx) (y_move rfl) .free rfl ?_
        refine d_take 9 [12] rfl (by kernel_rfl) rfl heldx (y_load rfl (loads_ownS (by first | exact m0 | exact m1 | exact m2 | exact m3 | exact m4 | exact m5 | exact m6) (by rfl))) .free rfl ?_
        refine d_call 10 rfl (by kernel_rfl) rfl rfl .free rfl (ihn (by omega) (hf.as 3 d.tree (by omega) rfl) hok.2 nm hnm hv _) ?_
        rintro _ J2 _ e2 ⟨cs2, rfl, hr_2, rfl⟩
        obtain ⟨o2, k2, _, rfl, -⟩ := hr_2.open
        have hf := hf.mono e2
        have hv := hv.mono e2
        have hle := hle.trans e2
        have hk := hk.mono e2
        have hr_0 := hr_0.mono e2
        have hr_1 := hr_1.mono e2
        refine ⟨(.inr heldx), ?_⟩
        first | refine d_takeA 11 rfl (by kernel_rfl) rfl (.inr heldx) (y_indexAddrD rfl rfl _ rfl (by first | omega | exact lt_of (by assumption) (by decide) | (simp; done) | (simp; omega) | decide | (simp at *; omega)) (by first | assumption | exact FormAt.nil (by assumption) | exact Strs.nil' (by assumption) | exact Nums.nil' (by assumption) | exact Raw.nil' (by assumption))) .free rfl ?_ | refine d_takeA 11 rfl (by kernel_rfl) rfl (.inr heldx) (y_indexAddr' rfl rfl _ rfl (by first | omega | exact lt_of (by assumption) (by decide) | (simp; done) | (simp; omega) | decide | (simp at *; omega)) (by first | rfl | assumption)) .free rfl ?_
        refine d_store 12 rfl (by kernel_rfl) rfl rfl rfl rfl rfl (by first | rfl | (simp only [List.toList_toArray, List.all_cons, List.all_nil, plainCell_buf, Bool.and_true, Bool.true_and] <;> rfl)) (by first | exact u0 | exact u1 | exact u2 | exact u3 | exact u4 | exact u5 | exact u6) (by rfl) .free (.inl (by kernel_rfl)) ?_
        refine d_done (by kernel_rfl) ?_
        refine s_inBlock ?_
        refine o_enter rfl ?_
        refine o_arith rfl rfl rfl (by omega) .free rfl ?_
        refine o_move rfl .free rfl ?_
        refine o_done ?_
        refine s_round ?_
        refine s_seq ?_
        refine o_enter rfl ?_
        refine o_cmp rfl rfl rfl .free rfl ?_
        refine o_done ?_
        refine s_seq ?_
        refine s_condF rfl (by first | rfl | decide | (simp; done) | omega) ?_
        refine s_exit rfl ?_
        refine s_seq ?_
        refine o_enter rfl ?_
        refine o_load rfl (loads_ownS (by first | exact m0 | exact m1 | exact m2 | exact m3 | exact m4 | exact m5 | exact m6) (by rfl)) .free rfl ?_
        refine o_store rfl rfl rfl rfl (by first | rfl | (simp only [List.toList_toArray, List.all_cons, List.all_nil, plainCell_buf, Bool.and_true, Bool.true_and] <;> rfl)) (by first | exact u0 | exact u1 | exact u2 | exact u3 | exact u4 | exact u5 | exact u6) (by rfl) .free ?_
        refine o_done ?_
        refine s_mem (fun w h => h.f1) (s_freeze ?_)
        intro hz
        have hf := hf.mono hz
        refine s_ret (.cell rfl (by first | exact loads_still1 (by assumption) rfl | exact loads_ownS (by first | exact m0 | exact m1 | exact m2 | exact m3 | exact m4 | exact m5 | exact m6) (by rfl) | exact loads_own1 (by first | exact m0 | exact m1 | exact m2 | exact m3 | exact m4 | exact m5 | exact m6) (by rfl) rfl | exact loads_stillS (by assumption) (by rfl) | exact loads_stillF (by assumption) (by rfl) rfl) .nil) ?_
        exact ⟨_, L, hle.trans hz, (by intro _ h; first | exact h | exact dr1 h | exact dr2 h | exact dr3 h | exact dr4 h | exact dr5 h | exact dr6 h), _, rfl, .mk' rfl (.cons (hf.as 0 (.node tIf []) (by omega) rfl) (.cons (hr_0.mono hz) (.cons (hr_1.mono hz) (.cons (hr_2.mono hz) .nil)))) (fun y hy => by cases hy; exact still_set (xs := [_, _, _, _, _, _, _, _])) (by simp) hcc (by simp [maxN]) (by simp [maxN]), rfl⟩
      · skip
        have hlen : (Ex.lt z a b).tree.parts.length = 4 := rfl
        have hki := kids_lt' z a b
        simp only [Ex.lt.sizeOf_spec] at hlt
        simp only [Ex.ok, Bool.and_eq_true] at hok
        obtain ⟨_, hrl⟩ : ∃ _ : True, RepL I (Ex.lt z a b).tree.parts _ := ⟨trivial, hcl⟩
        simp only [show (Ex.lt z a b).tree.parts = [.node tLet [], .node z [], a.tree, b.tree] from rfl, cellsF, List.cons_append, List.nil_append] at hrl ⊢
        refine o_enter rfl ?_
        refine o_load rfl (loads_ownS (by first | exact m0 | exact m1 | exact m2 | exact m3 | exact m4 | exact m5 | exact m6) (by rfl)) .free rfl ?_
        refine o_call rfl .free rfl (f_form_kids hf.rep _) ?_
        rintro _ J _ e0 ⟨ok, ck, rfl, hk, rfl⟩
        have hf := hf.mono e0
        have hv := hv.mono e0
        have hle := e0
        rw [hki] at hk
        rw [hki]
        refine o_len_slice rfl .free rfl ?_
        refine o_move rfl .free rfl ?_
        refine o_done ?_
        refine s_block ?_
        refine s_loop ?_
        refine s_seq ?_
        refine o_enter rfl ?_
        refine o_cmp rfl rfl rfl .free rfl ?_
        refine o_done ?_
        refine s_seq ?_
        refine s_condT rfl (by first | rfl | decide | (simp; done) | omega) ?_
        refine s_skip ?_
        refine s_seq ?_
        refine s_block ?_
        refine s_seq ?_
        refine o_enter rfl ?_
        first | refine o_indexAddrD rfl rfl _ rfl (by first | omega | exact lt_of (by assumption) (by decide) | (simp; done) | (simp; omega) | decide | (simp at *; omega)) (by first | assumption | exact FormAt.nil (by assumption) | exact Strs.nil' (by assumption) | exact Nums.nil' (by assumption) | exact Raw.nil' (by assumption)) .free rfl ?_ | refine o_indexAddr' rfl rfl _ rfl (by first | omega | exact lt_of (by assumption) (by decide) | (simp; done) | (simp; omega) | decide | (simp at *; omega)) (by first | rfl | assumption) .free rfl ?_
        refine o_load rfl (by first | exact loads_still1 (Nums.st (by assumption) _ (by first | omega | decide | (simp; done) | exact lt_of (by assumption) (by decide))) rfl | exact loads_still1 (Strs.st (by assumption) _ (by first | omega | decide | (simp; done) | exact lt_of (by assumption) (by decide))) rfl | exact loads_still1 (Raw.st (by assumption) _ (by first | omega | decide | (simp; done) | exact lt_of (by assumption) (by decide))) rfl | exact loads_still1 (by assumption) rfl | exact loads_scalar rfl (by assumption)) .free rfl ?_
        refine o_assign rfl .free rfl ?_
        refine o_done ?_
        refine s_seq ?_
        refine o_enter rfl ?_
        refine o_load rfl (loads_ownS (by first | exact m0 | exact m1 | exact m2 | exact m3 | exact m4 | exact m5 | exact m6) (by rfl)) .free rfl ?_
        refine o_move rfl .free rfl ?_
        refine o_call rfl .free rfl (f_form_bound hf.rep hok0 _ _) ?_
        rintro _ J1 _ e1 ⟨o1, k1, rfl, hs1, rfl⟩
        refine o_move rfl .free rfl ?_
        refine o_call rfl .free rfl (f_slices_Contains (hs1.rd _) k1 nm) ?_
        rintro _ _ _ _ ⟨rfl, rfl, rfl⟩
        refine o_not rfl .free rfl ?_
        refine o_mem (fun w h => Mem.le e1 h) ?_
        refine o_done ?_
        first | refine s_tp rfl (by simp [Ex.binds]) ?_ | refine s_tn rfl (by simp [Ex.binds]) ?_ | refine s_true (by simp [look, opd, *]) ?_
        refine d_all 13 rfl rfl ?_
        refine d_takeA 0 rfl (by kernel_rfl) rfl (.inr heldx) (y_fieldAddr rfl) .free rfl ?_
        refine d_take 1 [12] rfl (by kernel_rfl) rfl heldx (y_load rfl (loads_own1 (by first | exact m0 | exact m1 | exact m2 | exact m3 | exact m4 | exact m5 | exact m6) (by rfl) rfl)) .free rfl ?_
        refine d_takeA 2 rfl (by kernel_rfl) rfl (.inr heldx) (y_move rfl) .free rfl ?_
        refine d_takeA 3 rfl (by kernel_rfl) rfl (.inr heldx) (y_fieldAddr rfl) .free rfl ?_
        refine d_take 4 [12] rfl (by kernel_rfl) rfl heldx (y_load rfl (loads_own1 (by first | exact m0 | exact m1 | exact m2 | exact m3 | exact m4 | exact m5 | exact m6) (by rfl) rfl)) .free rfl ?_
        refine d_takeA 5 rfl (by kernel_rfl) rfl (.inr heldx) (y_move rfl) .free rfl ?_
        first | refine d_takeA 6 rfl (by kernel_rfl) rfl (.inr heldx) (y_indexAddrD rfl rfl _ rfl (by first | omega | exact lt_of (by assumption) (by decide) | (simp; done) | (simp; omega) | decide | (simp at *; omega)) (by first | assumption | exact FormAt.nil (by assumption) | exact Strs.nil' (by assumption) | exact Nums.nil' (by assumption) | exact Raw.nil' (by assumption))) .free rfl ?_ | refine d_takeA 6 rfl (by kernel_rfl) rfl (.inr heldx) (y_indexAddr' rfl rfl _ rfl (by first | omega | exact lt_of (by assumption) (by decide) | (simp; done) | (simp; omega) | decide | (simp at *; omega)) (by first | rfl | assumption)) .free rfl ?_
        refine d_take 7 [12] rfl (by kernel_rfl) rfl heldx (y_load rfl (by first | exact loads_stillS (FormAt.st (by assumption) _ (by first | omega | decide | (simp; done) | exact lt_of (by assumption) (by decide))) (by rfl) | exact loads_stillS (by assumption) (by rfl) | exact loads_rd (reads_sub (by assumption) (by intro _ h; first | exact h | exact dr1 h | exact dr2 h | exact dr3 h | exact dr4 h | exact dr5 h | exact dr6 h)) (by rfl))) .free rfl ?_
        refine d_takeA 8 rfl (by kernel_rfl) rfl (.inr heldx) (y_move rfl) .free rfl ?_
        refine d_take 9 [12] rfl (by kernel_rfl) rfl heldx (y_load rfl (loads_ownS (by first | exact m0 | exact m1 | exact m2 | exact m3 | exact m4 | exact m5 | exact m6) (by rfl))) .free rfl ?_
        refine d_call 10 rfl (by kernel_rfl) rfl rfl .free rfl (ihn (by omega) (hf.as 2 a.tree (by omega) rfl) hok.1.2 nm hnm hv _) ?_
        rintro _ J2 _ e2 ⟨cs2, rfl, hr_0, rfl⟩
        obtain ⟨o2, k2, _, rfl, -⟩ := hr_0.open
        have hf := hf.mono e2
        have hv := hv.mono e2
        have hle := hle.trans e2
        have hk := hk.mono e2
        refine ⟨(.inr heldx), ?_⟩
        first | refine d_takeA 11 rfl (by kernel_rfl) rfl (.inr heldx) (y_indexAddrD rfl rfl _ rfl (by first | omega | exact lt_of (by assumption) (by decide) | (simp; done) | (simp; omega) | decide | (simp at *; omega)) (by first | assumption | exact FormAt.nil (by assumption) | exact Strs.nil' (by assumption) | exact Nums.nil' (by assumption) | exact Raw.nil' (by assumption))) .free rfl ?_ | refine d_takeA 11 rfl (by kernel_rfl) rfl (.inr heldx) (y_indexAddr' rfl rfl _ rfl (by first | omega | exact lt_of (by assumption) (by decide) | (simp; done) | (simp; omega) | decide | (simp at *; omega)) (by first | rfl | assumption)) .free rfl ?_
        refine d_store 12 rfl (by kernel_rfl) rfl rfl rfl rfl rfl (by first | rfl | (simp only [List.toList_toArray, List.all_cons, List.all_nil, plainCell_buf, Bool.and_true, Bool.true_and] <;> rfl)) (by first | exact u0 | exact u1 | exact u2 | exact u3 | exact u4 | exact u5 | exact u6) (by rfl) .free (.inl (by kernel_rfl)) ?_
        refine d_done (by kernel_rfl) ?_
        refine s_inBlock ?_
        refine o_enter rfl ?_
        refine o_arith rfl rfl rfl (by omega) .free rfl ?_
        refine o_move rfl .free rfl ?_
        refine o_done ?_
        refine s_round ?_
        refine s_seq ?_
        refine o_enter rfl ?_
        refine o_cmp rfl rfl rfl .free rfl ?_
        refine o_done ?_
        refine s_seq ?_
        refine s_condT rfl (by first | rfl | decide | (simp; done) | omega) ?_
        refine s_skip ?_
        refine s_seq ?_
        refine s_block ?_
        refine s_seq ?_
        refine o_enter rfl ?_
        first | refine o_indexAddrD rfl rfl _ rfl (by first | omega | exact lt_of (by assumption) (by decide) | (simp; done) | (simp; omega) | decide | (simp at *; omega)) (by first | assumption | exact FormAt.nil (by assumption) | exact Strs.nil' (by assumption) | exact Nums.nil' (by assumption) | exact Raw.nil' (by assumption)) .free rfl ?_ | refine o_indexAddr' rfl rfl _ rfl (by first | omega | exact lt_of (by assumption) (by decide) | (simp; done) | (simp; omega) | decide | (simp at *; omega)) (by first | rfl | assumption) .free rfl ?_
        refine o_load rfl (by first | exact loads_still1 (Nums.st (by assumption) _ (by first | omega | decide | (simp; done) | exact lt_of (by assumption) (by decide))) rfl | exact loads_still1 (Strs.st (by assumption) _ (by first | omega | decide | (simp; done) | exact lt_of (by assumption) (by decide))) rfl | exact loads_still1 (Raw.st (by assumption) _ (by first | omega | decide | (simp; done) | exact lt_of (by assumption) (by decide))) rfl | exact loads_still1 (by assumption) rfl | exact loads_scalar rfl (by assumption)) .free rfl ?_
        refine o_assign rfl .free rfl ?_
        refine o_done ?_
        refine s_seq ?_
        refine o_enter rfl ?_
        refine o_load rfl (loads_ownS (by first | exact m0 | exact m1 | exact m2 | exact m3 | exact m4 | exact m5 | exact m6) (by rfl)) .free rfl ?_
        refine o_move rfl .free rfl ?_
        refine o_call rfl .free rfl (f_form_bound hf.rep hok0 _ _) ?_
        rintro _ J1 _ e1 ⟨o1, k1, rfl, hs1, rfl⟩
        refine o_move rfl .free rfl ?_
        refine o_call rfl .free rfl (f_slices_Contains (hs1.rd _) k1 nm) ?_
        rintro _ _ _ _ ⟨rfl, rfl, rfl⟩
        refine o_not rfl .free rfl ?_
        refine o_mem (fun w h => Mem.le e1 h) ?_
        refine o_done ?_
        refine s_cond rfl ?_ ?_
        · intro c3
          try simp only [Bool.and_eq_true, Bool.or_eq_true, Bool.not_eq_true', Bool.not_eq_false', Bool.and_eq_false_iff, Bool.or_eq_false_iff, decide_eq_true_eq, decide_eq_false_iff_not] at c3
          have c3 : ¬ nm ∈ [z] := c3
          refine d_all 13 rfl rfl ?_
          refine d_takeA 0 rfl (by kernel_rfl) rfl (.inr heldx) (y_fieldAddr rfl) .free rfl ?_
          refine d_take 1 [12] rfl (by kernel_rfl) rfl heldx (y_load rfl (loads_own1 (by first | exact m0 | exact m1 | exact m2 | exact m3 | exact m4 | exact m5 | exact m6) (by rfl) rfl)) .free rfl ?_
          refine d_takeA 2 rfl (by kernel_rfl) rfl (.inr heldx) (y_move rfl) .free rfl ?_
          refine d_takeA 3 rfl (by kernel_rfl) rfl (.inr heldx) (y_fieldAddr rfl) .free rfl ?_
          refine d_take 4 [12] rfl (by kernel_rfl) rfl heldx (y_load rfl (loads_own1 (by first | exact m0 | exact m1 | exact m2 | exact m3 | exact m4 | exact m5 | exact m6) (by rfl) rfl)) .free rfl ?_
          refine d_takeA 5 rfl (by kernel_rfl) rfl (.inr heldx) (y_move rfl) .free rfl ?_
          first | refine d_takeA 6 rfl (by kernel_rfl) rfl (.inr heldx) (y_indexAddrD rfl rfl _ rfl (by first | omega | exact lt_of (by assumption) (by decide) | (simp; done) | (simp; omega) | decide | (simp at *; omega)) (by first | assumption | exact FormAt.nil (by assumption) | exact Strs.nil' (by assumption) | exact Nums.nil' (by assumption) | exact Raw.nil' (by assumption))) .free rfl ?_ | refine d_takeA 6 rfl (by kernel_rfl) rfl (.inr heldx) (y_indexAddr' rfl rfl _ rfl (by first | omega | exact lt_of (by assumption) (by decide) | (simp; done) | (simp; omega) | decide | (simp at *; omega)) (by first | rfl | assumption)) .free rfl ?_
          refine d_take 7 [12] rfl (by kernel_rfl) rfl heldx (y_load rfl (by first | exact loads_stillS (FormAt.st (by assumption) _ (by first | omega | decide | (simp; done) | exact lt_of (by assumption) (by decide))) (by rfl) | exact loads_stillS (by assumption) (by rfl) | exact loads_rd (reads_sub (by assumption) (by intro _ h; first | exact h | exact dr1 h | exact dr2 h | exact dr3 h | exact dr4 h | exact dr5 h | exact dr6 h)) (by rfl))) .free rfl ?_
          refine d_takeA 8 rfl (by kernel_rfl) rfl (.inr heldx) (y_move rfl) .free rfl ?_
          refine d_take 9 [12] rfl (by kernel_rfl) rfl heldx (y_load rfl (loads_ownS (by first | exact m0 | exact m1 | exact m2 | exact m3 | exact m4 | exact m5 | exact m6) (by rfl))) .free rfl ?_
          refine d_call 10 rfl (by kernel_rfl) rfl rfl .free rfl (ihn (by omega) (hf.as 3 b.tree (by omega) rfl) hok.2 nm hnm hv _) ?_
          rintro _ J2 _ e2 ⟨cs2, rfl, hr_1, rfl⟩
          obtain ⟨o2, k2, _, rfl, -⟩ := hr_1.open
          have hf := hf.mono e2
          have hv := hv.mono e2
          have hle := hle.trans e2
          have hk := hk.mono e2
          have hr_0 := hr_0.mono e2
          refine ⟨(.inr heldx), ?_⟩
          first | refine d_takeA 11 rfl (by kernel_rfl) rfl (.inr heldx) (y_indexAddrD rfl rfl _ rfl (by first | omega | exact lt_of (by assumption) (by decide) | (simp; done) | (simp; omega) | decide | (simp at *; omega)) (by first | assumption | exact FormAt.nil (by assumption) | exact Strs.nil' (by assumption) | exact Nums.nil' (by assumption) | exact Raw.nil' (by assumption))) .free rfl ?_ | refine d_takeA 11 rfl (by kernel_rfl) rfl (.inr heldx) (y_indexAddr' rfl rfl _ rfl (by first | omega | exact lt_of (by assumption) (by decide) | (simp; done) | (simp; omega) | decide | (simp at *; omega)) (by first | rfl | assumption)) .free rfl ?_
          refine d_store 12 rfl (by kernel_rfl) rfl rfl rfl rfl rfl (by first | rfl | (simp only [List.toList_toArray, List.all_cons, List.all_nil, plainCell_buf, Bool.and_true, Bool.true_and] <;> rfl)) (by first | exact u0 | exact u1 | exact u2 | exact u3 | exact u4 | exact u5 | exact u6) (by rfl) .free (.inl (by kernel_rfl)) ?_
          refine d_done (by kernel_rfl) ?_
          refine s_inBlock ?_
          refine o_enter rfl ?_
          refine o_arith rfl rfl rfl (by omega) .free rfl ?_
          refine o_move rfl .free rfl ?_
          refine o_done ?_
          refine s_round ?_
          refine s_seq ?_
          refine o_enter rfl ?_
          refine o_cmp rfl rfl rfl .free rfl ?_
          refine o_done ?_
          refine s_seq ?_
          refine s_condF rfl (by first | rfl | decide | (simp; done) | omega) ?_
          refine s_exit rfl ?_
          refine s_seq ?_
          refine o_enter rfl ?_
          refine o_load rfl (loads_ownS (by first | exact m0 | exact m1 | exact m2 | exact m3 | exact m4 | exact m5 | exact m6) (by rfl)) .free rfl ?_
          refine o_store rfl rfl rfl rfl (by first | rfl | (simp only [List.toList_toArray, List.all_cons, List.all_nil, plainCell_buf, Bool.and_true, Bool.true_and] <;> rfl)) (by first | exact u0 | exact u1 | exact u2 | exact u3 | exact u4 | exact u5 | exact u6) (by rfl) .free ?_
          refine o_done ?_
          refine s_mem (fun w h => h.f1) (s_freeze ?_)
          intro hz
          have hf := hf.mono hz
          refine s_ret (.cell rfl (by first | exact loads_still1 (by assumption) rfl | exact loads_ownS (by first | exact m0 | exact m1 | exact m2 | exact m3 | exact m4 | exact m5 | exact m6) (by rfl) | exact loads_own1 (by first | exact m0 | exact m1 | exact m2 | exact m3 | exact m4 | exact m5 | exact m6) (by rfl) rfl | exact loads_stillS (by assumption) (by rfl) | exact loads_stillF (by assumption) (by rfl) rfl) .nil) ?_
          first
            | (have hput : (Ex.lt z a b).put nm v = .lt z (a.put nm v) (b.put nm v) := by
                 have : ¬ z = nm := fun h => c3 (by simp [h])
                 simp [Ex.put, this]
               rw [hput]
               exact ⟨_, L, hle.trans hz, (by intro _ h; first | exact h | exact dr1 h | exact dr2 h | exact dr3 h | exact dr4 h | exact dr5 h | exact dr6 h), _, rfl, .mk' rfl (.cons (hf.as 0 (.node tLet []) (by omega) rfl) (.cons (hf.as 1 (.node z []) (by omega) rfl) (.cons (hr_0.mono hz) (.cons (hr_1.mono hz) .nil)))) (fun y hy => by cases hy; exact still_set (xs := [_, _, _, _, _, _, _, _])) (by simp) hcc (by simp [maxN]) (by simp [maxN]), rfl⟩)
            | (have hput : (Ex.lt z a b).put nm v = .lt z (a.put nm v) b := by
                 have : nm = z := by simpa using c3
                 simp [Ex.put, this]
               rw [hput]
               exact ⟨_, L, hle.trans hz, (by intro _ h; first | exact h | exact dr1 h | exact dr2 h | exact dr3 h | exact dr4 h | exact dr5 h | exact dr6 h), _, rfl, .mk' rfl (.cons (hf.as 0 (.node tLet []) (by omega) rfl) (.cons (hf.as 1 (.node z []) (by omega) rfl) (.cons (hr_0.mono hz) (.cons (hf.as 3 b.tree (by omega) rfl) .nil)))) (fun y hy => by cases hy; exact still_set (xs := [_, _, _, _, _, _, _, _])) (by simp) hcc (by simp [maxN]) (by simp [maxN]), rfl⟩)
        · intro c3
          try simp only [Bool.and_eq_true, Bool.or_eq_true, Bool.not_eq_true', Bool.not_eq_false', Bool.and_eq_false_iff, Bool.or_eq_false_iff, decide_eq_true_eq, decide_eq_false_iff_not] at c3
          have c3 : nm ∈ [z] := c3
          refine s_skip ?_
          refine s_inBlock ?_
          refine o_enter rfl ?_
          refine o_arith rfl rfl rfl (by omega) .free rfl ?_
          refine o_move rfl .free rfl ?_
          refine o_done ?_
          refine s_round ?_
          refine s_seq ?_
          refine o_enter rfl ?_
          refine o_cmp rfl rfl rfl .free rfl ?_
          refine o_done ?_
          refine s_seq ?_
          refine s_condF rfl (by first | rfl | decide | (simp; done) | omega) ?_
          refine s_exit rfl ?_
          refine s_seq ?_
          refine o_enter rfl ?_
          refine o_load rfl (loads_ownS (by first | exact m0 | exact m1 | exact m2 | exact m3 | exact m4 | exact m5 | exact m6) (by rfl)) .free rfl ?_
          refine o_store rfl rfl rfl rfl (by first | rfl | (simp only [List.toList_toArray, List.all_cons, List.all_nil, plainCell_buf, Bool.and_true, Bool.true_and] <;> rfl)) (by first | exact u0 | exact u1 | exact u2 | exact u3 | exact u4 | exact u5 | exact u6) (by rfl) .free ?_
          refine o_done ?_
          refine s_mem (fun w h => h.f1) (s_freeze ?_)
          intro hz
          have hf := hf.mono hz
          refine s_ret (.cell rfl (by first | exact loads_still1 (by assumption) rfl | exact loads_ownS (by first | exact m0 | exact m1 | exact m2 | exact m3 | exact m4 | exact m5 | exact m6) (by rfl) | exact loads_own1 (by first | exact m0 | exact m1 | exact m2 | exact m3 | exact m4 | exact m5 | exact m6) (by rfl) rfl | exact loads_stillS (by assumption) (by rfl) | exact loads_stillF (by assumption) (by rfl) rfl) .nil) ?_
          first
            | (have hput : (Ex.lt z a b).put nm v = .lt z (a.put nm v) (b.put nm v) := by
                 have : ¬ z = nm := fun h => c3 (by simp [h])
                 simp [Ex.put, this]
               rw [hput]
               exact ⟨_, L, hle.trans hz, (by intro _ h; first | exact h | exact dr1 h | exact dr2 h | exact dr3 h | exact dr4 h | exact dr5 h | exact dr6 h), _, rfl, .mk' rfl (.cons (hf.as 0 (.node tLet []) (by omega) rfl) (.cons (hf.as 1 (.node z []) (by omega) rfl) (.cons (hr_0.mono hz) (.cons (hr_1.mono hz) .nil)))) (fun y hy => by cases hy; exact still_set (xs := [_, _, _, _, _, _, _, _])) (by simp) hcc (by simp [maxN]) (by simp [maxN]), rfl⟩)
            | (have hput : (Ex.lt z a b).put nm v = .lt z (a.put nm v) b := by
                 have : nm = z := by simpa using c3
                 simp [Ex.put, this]
               rw [hput]
               exact ⟨_, L, hle.trans hz, (by intro _ h; first | exact h | exact dr1 h | exact dr2 h | exact dr3 h | exact dr4 h | exact dr5 h | exact dr6 h), _, rfl, .mk' rfl (.cons (hf.as 0 (.node tLet []) (by omega) rfl) (.cons (hf.as 1 (.node z []) (by omega) rfl) (.cons (hr_0.mono hz) (.cons (hf.as 3 b.tree (by omega) rfl) .nil)))) (fun y hy => by cases hy; exact still_set (xs := [_, _, _, _, _, _, _, _])) (by simp) hcc (by simp [maxN]) (by simp [maxN]), rfl⟩)
      · skip
        have hlen : (Ex.fn g z s t b).tree.parts.length = 6 := rfl
        have hki := kids_fn g z s t b
        simp only [Ex.fn.sizeOf_spec] at hlt
        simp only [Ex.ok, Bool.and_eq_true] at hok
        obtain ⟨_, hrl⟩ : ∃ _ : True, RepL I (Ex.fn g z s t b).tree.parts _ := ⟨trivial, hcl⟩
        simp only [show (Ex.fn g z s t b).tree.parts = [.node tFun [], .node g [], .node z [], s.tree, t.tree, b.tree] from rfl, cellsF, List.cons_append, List.nil_append] at hrl ⊢
        refine o_enter rfl ?_
        refine o_load rfl (loads_ownS (by first | exact m0 | exact m1 | exact m2 | exact m3 | exact m4 | exact m5 | exact m6) (by rfl)) .free rfl ?_
        refine o_call rfl .free rfl (f_form_kids hf.rep _) ?_
        rintro _ J _ e0 ⟨ok, ck, rfl, hk, rfl⟩
        have hf := hf.mono e0
        have hv := hv.mono e0
        have hle := e0
        rw [hki] at hk
        rw [hki]
        refine o_len_slice rfl .free rfl ?_
        refine o_move rfl .free rfl ?_
        refine o_done ?_
        refine s_block ?_
        refine s_loop ?_
        refine s_seq ?_
        refine o_enter rfl ?_
        refine o_cmp rfl rfl rfl .free rfl ?_
        refine o_done ?_
        refine s_seq ?_
        refine s_condT rfl (by first | rfl | decide | (simp; done) | omega) ?_
        refine s_skip ?_
        refine s_seq ?_
        refine s_block ?_
        refine s_seq ?_
        refine o_enter rfl ?_
        first | refine o_indexAddrD rfl rfl _ rfl (by first | omega | exact lt_of (by assumption) (by decide) | (simp; done) | (simp; omega) | decide | (simp at *; omega)) (by first | assumption | exact FormAt.nil (by assumption) | exact Strs.nil' (by assumption) | exact Nums.nil' (by assumption) | exact Raw.nil' (by assumption)) .free rfl ?_ | refine o_indexAddr' rfl rfl _ rfl (by first | omega | exact lt_of (by assumption) (by decide) | (simp; done) | (simp; omega) | decide | (simp at *; omega)) (by first | rfl | assumption) .free rfl ?_
        refine o_load rfl (by first | exact loads_still1 (Nums.st (by assumption) _ (by first | omega | decide | (simp; done) | exact lt_of (by assumption) (by decide))) rfl | exact loads_still1 (Strs.st (by assumption) _ (by first | omega | decide | (simp; done) | exact lt_of (by assumption) (by decide))) rfl | exact loads_still1 (Raw.st (by assumption) _ (by first | omega | decide | (simp; done) | exact lt_of (by assumption) (by decide))) rfl | exact loads_still1 (by assumption) rfl | exact loads_scalar rfl (by assumption)) .free rfl ?_
        refine o_assign rfl .free rfl ?_
        refine o_done ?_
        refine s_seq ?_
        refine o_enter rfl ?_
        refine o_load rfl (loads_ownS (by first | exact m0 | exact m1 | exact m2 | exact m3 | exact m4 | exact m5 | exact m6) (by rfl)) .free rfl ?_
        refine o_move rfl .free rfl ?_
        refine o_call rfl .free rfl (f_form_bound hf.rep hok0 _ _) ?_
        rintro _ J1 _ e1 ⟨o1, k1, rfl, hs1, rfl⟩
        refine o_move rfl .free rfl ?_
        refine o_call rfl .free rfl (f_slices_Contains (hs1.rd _) k1 nm) ?_
        rintro _ _ _ _ ⟨rfl, rfl, rfl⟩
        refine o_not rfl .free rfl ?_
        refine o_mem (fun w h => Mem.le e1 h) ?_
        refine o_done ?_
        refine s_cond rfl ?_ ?_
        · intro c3
          try simp only [Bool.and_eq_true, Bool.or_eq_true, Bool.not_eq_true', Bool.not_eq_false', Bool.and_eq_false_iff, Bool.or_eq_false_iff, decide_eq_true_eq, decide_eq_false_iff_not] at c3
          have c3 : ¬ nm ∈ [g, z] := c3
          refine d_all 13 rfl rfl ?_
          refine d_takeA 0 rfl (by kernel_rfl) rfl (.inr heldx) (y_fieldAddr rfl) .free rfl ?_
          refine d_take 1 [12] rfl (by kernel_rfl) rfl heldx (y_load rfl (loads_own1 (by first | exact m0 | exact m1 | exact m2 | exact m3 | exact m4 | exact m5 | exact m6) (by rfl) rfl)) .free rfl ?_
          refine d_takeA 2 rfl (by kernel_rfl) rfl (.inr heldx) (y_move rfl) .free rfl ?_
          refine d_takeA 3 rfl (by kernel_rfl) rfl (.inr heldx) (y_fieldAddr rfl) .free rfl ?_
          refine d_take 4 [12] rfl (by kernel_rfl) rfl heldx (y_load rfl (loads_own1 (by first | exact m0 | exact m1 | exact m2 | exact m3 | exact m4 | exact m5 | exact m6) (by rfl) rfl)) .free rfl ?_
          refine d_takeA 5 rfl (by kernel_rfl) rfl (.inr heldx) (y_move rfl) .free rfl ?_
          first | refine d_takeA 6 rfl (by kernel_rfl) rfl (.inr heldx) (y_indexAddrD rfl rfl _ rfl (by first | omega | exact lt_of (by assumption) (by decide) | (simp; done) | (simp; omega) | decide | (simp at *; omega)) (by first | assumption | exact FormAt.nil (by assumption) | exact Strs.nil' (by assumption) | exact Nums.nil' (by assumption) | exact Raw.nil' (by assumption))) .free rfl ?_ | refine d_takeA 6 rfl (by kernel_rfl) rfl (.inr heldx) (y_indexAddr' rfl rfl _ rfl (by first | omega | exact lt_of (by assumption) (by decide) | (simp; done) | (simp; omega) | decide | (simp at *; omega)) (by first | rfl | assumption)) .free rfl ?_
          refine d_take 7 [12] rfl (by kernel_rfl) rfl heldx (y_load rfl (by first | exact loads_stillS (FormAt.st (by assumption) _ (by first | omega | decide | (simp; done) | exact lt_of (by assumption) (by decide))) (by rfl) | exact loads_stillS (by assumption) (by rfl) | exact loads_rd (reads_sub (by assumption) (by intro _ h; first | exact h | exact dr1 h | exact dr2 h | exact dr3 h | exact dr4 h | exact dr5 h | exact dr6 h)) (by rfl))) .free rfl ?_
          refine d_takeA 8 rfl (by kernel_rfl) rfl (.inr heldx) (y_move rfl) .free rfl ?_
          refine d_take 9 [12] rfl (by kernel_rfl) rfl heldx (y_load rfl (loads_ownS (by first | exact m0 | exact m1 | exact m2 | exact m3 | exact m4 | exact m5 | exact m6) (by rfl))) .free rfl ?_
          refine d_call 10 rfl (by kernel_rfl) rfl rfl .free rfl (ihn (by omega) (hf.as 5 b.tree (by omega) rfl) hok.2 nm hnm hv _) ?_
          rintro _ J2 _ e2 ⟨cs2, rfl, hr_0, rfl⟩
          obtain ⟨o2, k2, _, rfl, -⟩ := hr_0.open
          have hf := hf.mono e2
          have hv := hv.mono e2
          have hle := hle.trans e2
          have hk := hk.mono e2
          refine ⟨(.inr heldx), ?_⟩
          first | refine d_takeA 11 rfl (by kernel_rfl) rfl (.inr heldx) (y_indexAddrD rfl rfl _ rfl (by first | omega | exact lt_of (by assumption) (by decide) | (simp; done) | (simp; omega) | decide | (simp at *; omega)) (by first | assumption | exact FormAt.nil (by assumption) | exact Strs.nil' (by assumption) | exact Nums.nil' (by assumption) | exact Raw.nil' (by assumption))) .free rfl ?_ | refine d_takeA 11 rfl (by kernel_rfl) rfl (.inr heldx) (y_indexAddr' rfl rfl _ rfl (by first | omega | exact lt_of (by assumption) (by decide) | (simp; done) | (simp; omega) | decide | (simp at *; omega)) (by first | rfl | assumption)) .free rfl ?_
          refine d_store 12 rfl (by kernel_rfl) rfl rfl rfl rfl rfl (by first | rfl | (simp only [List.toList_toArray, List.all_cons, List.all_nil, plainCell_buf, Bool.and_true, Bool.true_and] <;> rfl)) (by first | exact u0 | exact u1 | exact u2 | exact u3 | exact u4 | exact u5 | exact u6) (by rfl) .free (.inl (by kernel_rfl)) ?_
          refine d_done (by kernel_rfl) ?_
          refine s_inBlock ?_
          refine o_enter rfl ?_
          refine o_arith rfl rfl rfl (by omega) .free rfl ?_
          refine o_move rfl .free rfl ?_
          refine o_done ?_
          refine s_round ?_
          refine s_seq ?_
          refine o_enter rfl ?_
          refine o_cmp rfl rfl rfl .free rfl ?_
          refine o_done ?_
          refine s_seq ?_
          refine s_condF rfl (by first | rfl | decide | (simp; done) | omega) ?_
          refine s_exit rfl ?_
          refine s_seq ?_
          refine o_enter rfl ?_
          refine o_load rfl (loads_ownS (by first | exact m0 | exact m1 | exact m2 | exact m3 | exact m4 | exact m5 | exact m6) (by rfl)) .free rfl ?_
          refine o_store rfl rfl rfl rfl (by first | rfl | (simp only [List.toList_toArray, List.all_cons, List.all_nil, plainCell_buf, Bool.and_true, Bool.true_and] <;> rfl)) (by first | exact u0 | exact u1 | exact u2 | exact u3 | exact u4 | exact u5 | exact u6) (by rfl) .free ?_
          refine o_done ?_
          refine s_mem (fun w h => h.f1) (s_freeze ?_)
          intro hz
          have hf := hf.mono hz
          refine s_ret (.cell rfl (by first | exact loads_still1 (by assumption) rfl | exact loads_ownS (by first | exact m0 | exact m1 | exact m2 | exact m3 | exact m4 | exact m5 | exact m6) (by rfl) | exact loads_own1 (by first | exact m0 | exact m1 | exact m2 | exact m3 | exact m4 | exact m5 | exact m6) (by rfl) rfl | exact loads_stillS (by assumption) (by rfl) | exact loads_stillF (by assumption) (by rfl) rfl) .nil) ?_
          first
            | (have hput : (Ex.fn g z s t b).put nm v = .fn g z s t (b.put nm v) := by
                 have h1 : ¬ (g = nm ∨ z = nm) := by rintro (h | h) <;> exact c3 (by simp [h])
                 simp only [Ex.put]; rw [if_neg h1]
               rw [hput]
               exact ⟨_, L, hle.trans hz, (by intro _ h; first | exact h | exact dr1 h | exact dr2 h | exact dr3 h | exact dr4 h | exact dr5 h | exact dr6 h), _, rfl, .mk' rfl (.cons (hf.as 0 (.node tFun []) (by omega) rfl) (.cons (hf.as 1 (.node g []) (by omega) rfl) (.cons (hf.as 2 (.node z []) (by omega) rfl) (.cons (hf.as 3 (s.tree) (by omega) rfl) (.cons (hf.as 4 (t.tree) (by omega) rfl) (.cons (hr_0.mono hz) .nil)))))) (fun y hy => by cases hy; exact still_set (xs := [_, _, _, _, _, _, _, _, _, _, _, _])) (by simp) hcc (by simp [maxN]) (by simp [maxN]), rfl⟩)
            | (have hput : (Ex.fn g z s t b).put nm v = .fn g z s t b := by
                 have h1 : g = nm ∨ z = nm := by simp at c3; rcases c3 with h | h <;> simp [h]
                 simp only [Ex.put]; rw [if_pos h1]
               rw [hput]
               exact ⟨_, L, hle.trans hz, (by intro _ h; first | exact h | exact dr1 h | exact dr2 h | exact dr3 h | exact dr4 h | exact dr5 h | exact dr6 h), _, rfl, .mk' rfl (.cons (hf.as 0 (.node tFun []) (by omega) rfl) (.cons (hf.as 1 (.node g []) (by omega) rfl) (.cons (hf.as 2 (.node z []) (by omega) rfl) (.cons (hf.as 3 (s.tree) (by omega) rfl) (.cons (hf.as 4 (t.tree) (by omega) rfl) (.cons (hf.as 5 b.tree (by omega) rfl) .nil)))))) (fun y hy => by cases hy; exact still_set (xs := [_, _, _, _, _, _, _, _, _, _, _, _])) (by simp) hcc (by simp [maxN]) (by simp [maxN]), rfl⟩)
        · intro c3
          try simp only [Bool.and_eq_true, Bool.or_eq_true, Bool.not_eq_true', Bool.not_eq_false', Bool.and_eq_false_iff, Bool.or_eq_false_iff, decide_eq_true_eq, decide_eq_false_iff_not] at c3
          have c3 : nm ∈ [g, z] := c3
          refine s_skip ?_
          refine s_inBlock ?_
          refine o_enter rfl ?_
          refine o_arith rfl rfl rfl (by omega) .free rfl ?_
          refine o_move rfl .free rfl ?_
          refine o_done ?_
          refine s_round ?_
          refine s_seq ?_
          refine o_enter rfl ?_
          refine o_cmp rfl rfl rfl .free rfl ?_
          refine o_done ?_
          refine s_seq ?_
          refine s_condF rfl (by first | rfl | decide | (simp; done) | omega) ?_
          refine s_exit rfl ?_
          refine s_seq ?_
          refine o_enter rfl ?_
          refine o_load rfl (loads_ownS (by first | exact m0 | exact m1 | exact m2 | exact m3 | exact m4 | exact m5 | exact m6) (by rfl)) .free rfl ?_
          refine o_store rfl rfl rfl rfl (by first | rfl | (simp only [List.toList_toArray, List.all_cons, List.all_nil, plainCell_buf, Bool.and_true, Bool.true_and] <;> rfl)) (by first | exact u0 | exact u1 | exact u2 | exact u3 | exact u4 | exact u5 | exact u6) (by rfl) .free ?_
          refine o_done ?_
          refine s_mem (fun w h => h.f1) (s_freeze ?_)
          intro hz
          have hf := hf.mono hz
          refine s_ret (.cell rfl (by first | exact loads_still1 (by assumption) rfl | exact loads_ownS (by first | exact m0 | exact m1 | exact m2 | exact m3 | exact m4 | exact m5 | exact m6) (by rfl) | exact loads_own1 (by first | exact m0 | exact m1 | exact m2 | exact m3 | exact m4 | exact m5 | exact m6) (by rfl) rfl | exact loads_stillS (by assumption) (by rfl) | exact loads_stillF (by assumption) (by rfl) rfl) .nil) ?_
          first
            | (have hput : (Ex.fn g z s t b).put nm v = .fn g z s t (b.put nm v) := by
                 have h1 : ¬ (g = nm ∨ z = nm) := by rintro (h | h) <;> exact c3 (by simp [h])
                 simp only [Ex.put]; rw [if_neg h1]
               rw [hput]
               exact ⟨_, L, hle.trans hz, (by intro _ h; first | exact h | exact dr1 h | exact dr2 h | exact dr3 h | exact dr4 h | exact dr5 h | exact dr6 h), _, rfl, .mk' rfl (.cons (hf.as 0 (.node tFun []) (by omega) rfl) (.cons (hf.as 1 (.node g []) (by omega) rfl) (.cons (hf.as 2 (.node z []) (by omega) rfl) (.cons (hf.as 3 (s.tree) (by omega) rfl) (.cons (hf.as 4 (t.tree) (by omega) rfl) (.cons (hr_0.mono hz) .nil)))))) (fun y hy => by cases hy; exact still_set (xs := [_, _, _, _, _, _, _, _, _, _, _, _])) (by simp) hcc (by simp [maxN]) (by simp [maxN]), rfl⟩)
            | (have hput : (Ex.fn g z s t b).put nm v = .fn g z s t b := by
                 have h1 : g = nm ∨ z = nm := by simp at c3; rcases c3 with h | h <;> simp [h]
                 simp only [Ex.put]; rw [if_pos h1]
               rw [hput]
               exact ⟨_, L, hle.trans hz, (by intro _ h; first | exact h | exact dr1 h | exact dr2 h | exact dr3 h | exact dr4 h | exact dr5 h | exact dr6 h), _, rfl, .mk' rfl (.cons (hf.as 0 (.node tFun []) (by omega) rfl) (.cons (hf.as 1 (.node g []) (by omega) rfl) (.cons (hf.as 2 (.node z []) (by omega) rfl) (.cons (hf.as 3 (s.tree) (by omega) rfl) (.cons (hf.as 4 (t.tree) (by omega) rfl) (.cons (hf.as 5 b.tree (by omega) rfl) .nil)))))) (fun y hy => by cases hy; exact still_set (xs := [_, _, _, _, _, _, _, _, _, _, _, _])) (by simp) hcc (by simp [maxN]) (by simp [maxN]), rfl⟩)
      · skip
        have hlen : (Ex.un o a).tree.parts.length = 2 := rfl
        have hki := kids_un o a
        simp only [Ex.un.sizeOf_spec] at hlt
        simp only [Ex.ok, Bool.and_eq_true] at hok
        obtain ⟨_, hrl⟩ : ∃ _ : True, RepL I (Ex.un o a).tree.parts _ := ⟨trivial, hcl⟩
        simp only [show (Ex.un o a).tree.parts = [.node o.txt [], a.tree] from rfl, cellsF, List.cons_append, List.nil_append] at hrl ⊢
        refine o_enter rfl ?_
        refine o_load rfl (loads_ownS (by first | exact m0 | exact m1 | exact m2 | exact m3 | exact m4 | exact m5 | exact m6) (by rfl)) .free rfl ?_
        refine o_call rfl .free rfl (f_form_kids hf.rep _) ?_
        rintro _ J _ e0 ⟨ok, ck, rfl, hk, rfl⟩
        have hf := hf.mono e0
        have hv := hv.mono e0
        have hle := e0
        rw [hki] at hk
        rw [hki]
        refine o_len_slice rfl .free rfl ?_
        refine o_move rfl .free rfl ?_
        refine o_done ?_
        refine s_block ?_
        refine s_loop ?_
        refine s_seq ?_
        refine o_enter rfl ?_
        refine o_cmp rfl rfl rfl .free rfl ?_
        refine o_done ?_
        refine s_seq ?_
        refine s_condT rfl (by first | rfl | decide | (simp; done) | omega) ?_
        refine s_skip ?_
        refine s_seq ?_
        refine s_block ?_
        refine s_seq ?_
        refine o_enter rfl ?_
        first | refine o_indexAddrD rfl rfl _ rfl (by first | omega | exact lt_of (by assumption) (by decide) | (simp; done) | (simp; omega) | decide | (simp at *; omega)) (by first | assumption | exact FormAt.nil (by assumption) | exact Strs.nil' (by assumption) | exact Nums.nil' (by assumption) | exact Raw.nil' (by assumption)) .free rfl ?_ | refine o_indexAddr' rfl rfl _ rfl (by first | omega | exact lt_of (by assumption) (by decide) | (simp; done) | (simp; omega) | decide | (simp at *; omega)) (by first | rfl | assumption) .free rfl ?_
        refine o_load rfl (by first | exact loads_still1 (Nums.st (by assumption) _ (by first | omega | decide | (simp; done) | exact lt_of (by assumption) (by decide))) rfl | exact loads_still1 (Strs.st (by assumption) _ (by first | omega | decide | (simp; done) | exact lt_of (by assumption) (by decide))) rfl | exact loads_still1 (Raw.st (by assumption) _ (by first | omega | decide | (simp; done) | exact lt_of (by assumption) (by decide))) rfl | exact loads_still1 (by assumption) rfl | exact loads_scalar rfl (by assumption)) .free rfl ?_
        refine o_assign rfl .free rfl ?_
        refine o_done ?_
        refine s_seq ?_
        refine o_enter rfl ?_
        refine o_load rfl (loads_ownS (by first | exact m0 | exact m1 | exact m2 | exact m3 | exact m4 | exact m5 | exact m6) (by rfl)) .free rfl ?_
        refine o_move rfl .free rfl ?_
        refine o_call rfl .free rfl (f_form_bound hf.rep hok0 _ _) ?_
        rintro _ J1 _ e1 ⟨o1, k1, rfl, hs1, rfl⟩
        refine o_move rfl .free rfl ?_
        refine o_call rfl .free rfl (f_slices_Contains (hs1.rd _) k1 nm) ?_
        rintro _ _ _ _ ⟨rfl, rfl, rfl⟩
        refine o_not rfl .free rfl ?_
        refine o_mem (fun w h => Mem.le e1 h) ?_
        refine o_done ?_
        first | refine s_tp rfl (by simp [Ex.binds]) ?_ | refine s_tn rfl (by simp [Ex.binds]) ?_ | refine s_true (by simp [look, opd, *]) ?_
        refine d_all 13 rfl rfl ?_
        refine d_takeA 0 rfl (by kernel_rfl) rfl (.inr heldx) (y_fieldAddr rfl) .free rfl ?_
        refine d_take 1 [12] rfl (by kernel_rfl) rfl heldx (y_load rfl (loads_own1 (by first | exact m0 | exact m1 | exact m2 | exact m3 | exact m4 | exact m5 | exact m6) (by rfl) rfl)) .free rfl ?_
        refine d_takeA 2 rfl (by kernel_rfl) rfl (.inr heldx) (y_move rfl) .free rfl ?_
        refine d_takeA 3 rfl (by kernel_rfl) rfl (.inr heldx) (y_fieldAddr rfl) .free rfl ?_
        refine d_take 4 [12] rfl (by kernel_rfl) rfl heldx (y_load rfl (loads_own1 (by first | exact m0 | exact m1 | exact m2 | exact m3 | exact m4 | exact m5 | exact m6) (by rfl) rfl)) .free rfl ?_
        refine d_takeA 5 rfl (by kernel_rfl) rfl (.inr heldx) (y_move rfl) .free rfl ?_
        first | refine d_takeA 6 rfl (by kernel_rfl) rfl (.inr heldx) (y_indexAddrD rfl rfl _ rfl (by first | omega | exact lt_of (by assumption) (by decide) | (simp; done) | (simp; omega) | decide | (simp at *; omega)) (by first | assumption | exact FormAt.nil (by assumption) | exact Strs.nil' (by assumption) | exact Nums.nil' (by assumption) | exact Raw.nil' (by assumption))) .free rfl ?_ | refine d_takeA 6 rfl (by kernel_rfl) rfl (.inr heldx) (y_indexAddr' rfl rfl _ rfl (by first | omega | exact lt_of (by assumption) (by decide) | (simp; done) | (simp; omega) | decide | (simp at *; omega)) (by first | rfl | assumption)) .free rfl ?_
        refine d_take 7 [12] rfl (by kernel_rfl) rfl heldx (y_load rfl (by first | exact loads_stillS (FormAt.st (by assumption) _ (by first | omega | decide | (simp; done) | exact lt_of (by assumption) (by decide))) (by rfl) | exact loads_stillS (by assumption) (by rfl) | exact loads_rd (reads_sub (by assumption) (by intro _ h; first | exact h | exact dr1 h | exact dr2 h | exact dr3 h | exact dr4 h | exact dr5 h | exact dr6 h)) (by rfl))) .free rfl ?_
        refine d_takeA 8 rfl (by kernel_rfl) rfl (.inr heldx) (y_move rfl) .free rfl ?_
        refine d_take 9 [12] rfl (by kernel_rfl) rfl heldx (y_load rfl (loads_ownS (by first | exact m0 | exact m1 | exact m2 | exact m3 | exact m4 | exact m5 | exact m6) (by rfl))) .free rfl ?_
        refine d_call 10 rfl (by kernel_rfl) rfl rfl .free rfl (ihn (by omega) (hf.as 1 a.tree (by omega) rfl) hok nm hnm hv _) ?_
        rintro _ J2 _ e2 ⟨cs2, rfl, hr_0, rfl⟩
        obtain ⟨o2, k2, _, rfl, -⟩ := hr_0.open
        have hf := hf.mono e2
        have hv := hv.mono e2
        have hle := hle.trans e2
        have hk := hk.mono e2
        refine ⟨(.inr heldx), ?_⟩
        first | refine d_takeA 11 rfl (by kernel_rfl) rfl (.inr heldx) (y_indexAddrD rfl rfl _ rfl (by first | omega | exact lt_of (by assumption) (by decide) | (simp; done) | (simp; omega) | decide | (simp at *; omega)) (by first | assumption | exact FormAt.nil (by assumption) | exact Strs.nil' (by assumption) | exact Nums.nil' (by assumption) | exact Raw.nil' (by assumption))) .free rfl ?_ | refine d_takeA 11 rfl (by kernel_rfl) rfl (.inr heldx) (y_indexAddr' rfl rfl _ rfl (by first | omega | exact lt_of (by assumption) (by decide) | (simp; done) | (simp; omega) | decide | (simp at *; omega)) (by first | rfl | assumption)) .free rfl ?_
        refine d_store 12 rfl (by kernel_rfl) rfl rfl rfl rfl rfl (by first | rfl | (simp only [List.toList_toArray, List.all_cons, List.all_nil, plainCell_buf, Bool.and_true, Bool.true_and] <;> rfl)) (by first | exact u0 | exact u1 | exact u2 | exact u3 | exact u4 | exact u5 | exact u6) (by rfl) .free (.inl (by kernel_rfl)) ?_
        refine d_done (by kernel_rfl) ?_
        refine s_inBlock ?_
        refine o_enter rfl ?_
        refine o_arith rfl rfl rfl (by omega) .free rfl ?_
        refine o_move rfl .free rfl ?_
        refine o_done ?_
        refine s_round ?_
        refine s_seq ?_
        refine o_enter rfl ?_
        refine o_cmp rfl rfl rfl .free rfl ?_
        refine o_done ?_
        refine s_seq ?_
        refine s_condF rfl (by first | rfl | decide | (simp; done) | omega) ?_
        refine s_exit rfl ?_
        refine s_seq ?_
        refine o_enter rfl ?_
        refine o_load rfl (loads_ownS (by first | exact m0 | exact m1 | exact m2 | exact m3 | exact m4 | exact m5 | exact m6) (by rfl)) .free rfl ?_
        refine o_store rfl rfl rfl rfl (by first | rfl | (simp only [List.toList_toArray, List.all_cons, List.all_nil, plainCell_buf, Bool.and_true, Bool.true_and] <;> rfl)) (by first | exact u0 | exact u1 | exact u2 | exact u3 | exact u4 | exact u5 | exact u6) (by rfl) .free ?_
        refine o_done ?_
        refine s_mem (fun w h => h.f1) (s_freeze ?_)
        intro hz
        have hf := hf.mono hz
        refine s_ret (.cell rfl (by first | exact loads_still1 (by assumption) rfl | exact loads_ownS (by first | exact m0 | exact m1 | exact m2 | exact m3 | exact m4 | exact m5 | exact m6) (by rfl) | exact loads_own1 (by first | exact m0 | exact m1 | exact m2 | exact m3 | exact m4 | exact m5 | exact m6) (by rfl) rfl | exact loads_stillS (by assumption) (by rfl) | exact loads_stillF (by assumption) (by rfl) rfl) .nil) ?_
        exact ⟨_, L, hle.trans hz, (by intro _ h; first | exact h | exact dr1 h | exact dr2 h | exact dr3 h | exact dr4 h | exact dr5 h | exact dr6 h), _, rfl, .mk' rfl (.cons (hf.as 0 (.node o.txt []) (by omega) rfl) (.cons (hr_0.mono hz) .nil)) (fun y hy => by cases hy; exact still_set (xs := [_, _, _, _])) (by simp) hcc (by simp [maxN]) (by simp [maxN]), rfl⟩

theorem g_l2Put : ∀ (n : Nat) {I : Heap} {e : Ex} {cs : List Value} (_ : SizeOf.sizeOf e < n) (_ : Rep I e.tree cs) (_ : e.ok = true) (nm : Txt) (_ : isName nm = true) {v : Ex} {ds : List Value} (_ : Rep I v.tree ds) (L : Own),
    Fun Try.prog 10 [.agg cs.toArray, .string (str nm), .agg ds.toArray] I L (RP (e.put nm v).tree L) := by
  intro n
  induction n with
  | zero => intro I e cs h; omega
  | succ n ihn =>
    intro I e cs hlt h hok nm hnm v ds hv L
    obtain ⟨oa, c, oaf, cf, rfl, hf, hcl, hcs⟩ := h.cells
    obtain ⟨ov, cv, _, rfl, -⟩ := hv.open
    have hle : HLe I I := .refl _
    refine fun_intro (by simp) ?_
    refine s_seq ?_
    refine o_enter rfl ?_
    refine o_box rfl rfl .free rfl ?_
    intro b3
    refine o_box rfl rfl .free rfl ?_
    intro b5
    refine o_alloc .free rfl ?_
    intro b6
    refine o_done ?_
    refine s_seq ?_
    refine s_seq ?_
    refine o_enter rfl ?_
    refine o_fieldAddr rfl .free rfl ?_
    refine o_load rfl (loads_own1 (by first | exact m0 | exact m1 | exact m2 | exact m3 | exact m4 | exact m5 | exact m6) (by rfl) rfl) .free rfl ?_
    refine o_cmps rfl rfl rfl .free rfl ?_
    refine o_done ?_
    refine s_cond rfl ?_ ?_
    · intro c0
      try simp only [Bool.and_eq_true, Bool.or_eq_true, Bool.not_eq_true', Bool.not_eq_false', Bool.and_eq_false_iff, Bool.or_eq_false_iff, decide_eq_true_eq, decide_eq_false_iff_not] at c0
      have hb : e.bare = true := by
        cases hb : e.bare with
        | true => rfl
        | false => exact absurd ((Ex.atom_iff hok).2 hb) c0
      refine s_seq ?_
      refine s_seq ?_
      refine o_enter rfl ?_
      refine o_fieldAddr rfl .free rfl ?_
      refine o_load rfl (loads_own1 (by first | exact m0 | exact m1 | exact m2 | exact m3 | exact m4 | exact m5 | exact m6) (by rfl) rfl) .free rfl ?_
      refine o_move rfl .free rfl ?_
      refine o_cmps rfl rfl rfl .free rfl ?_
      refine o_done ?_
      refine s_cond rfl ?_ ?_
      · intro c1
        try simp only [Bool.and_eq_true, Bool.or_eq_true, Bool.not_eq_true', Bool.not_eq_false', Bool.and_eq_false_iff, Bool.or_eq_false_iff, decide_eq_true_eq, decide_eq_false_iff_not] at c1
        refine s_seq ?_
        refine o_enter rfl ?_
        refine o_load rfl (loads_ownS (by first | exact m0 | exact m1 | exact m2 | exact m3 | exact m4 | exact m5 | exact m6) (by rfl)) .free rfl ?_
        refine o_store rfl rfl rfl rfl (by first | rfl | (simp only [List.toList_toArray, List.all_cons, List.all_nil, plainCell_buf, Bool.and_true, Bool.true_and] <;> rfl)) (by first | exact u0 | exact u1 | exact u2 | exact u3 | exact u4 | exact u5 | exact u6) (by rfl) .free ?_
        refine o_done ?_
        refine s_ret (.cell rfl (by first | exact loads_still1 (by assumption) rfl | exact loads_ownS (by first | exact m0 | exact m1 | exact m2 | exact m3 | exact m4 | exact m5 | exact m6) (by rfl) | exact loads_own1 (by first | exact m0 | exact m1 | exact m2 | exact m3 | exact m4 | exact m5 | exact m6) (by rfl) rfl | exact loads_stillS (by assumption) (by rfl) | exact loads_stillF (by assumption) (by rfl) rfl) .nil) ?_
        refine ⟨I, L, .refl _, (by intro _ h; first | exact h | exact dr1 h | exact dr2 h | exact dr3 h | exact dr4 h | exact dr5 h | exact dr6 h), _, rfl, ?_, rfl⟩
        have : e.put nm v = v := by
          cases e with
          | num s =>
            have c1 : s = nm := c1
            subst c1
            have h2 := name_not_num hnm
            rw [show isNum s = true from hok] at h2; cases h2
          | name s => exact if_pos c1
          | _ => cases hb
        rw [this]; exact hv
      · intro c1
        try simp only [Bool.and_eq_true, Bool.or_eq_true, Bool.not_eq_true', Bool.not_eq_false', Bool.and_eq_false_iff, Bool.or_eq_false_iff, decide_eq_true_eq, decide_eq_false_iff_not] at c1
        refine s_skip ?_
        refine s_seq ?_
        refine o_enter rfl ?_
        refine o_load rfl (loads_ownS (by first | exact m0 | exact m1 | exact m2 | exact m3 | exact m4 | exact m5 | exact m6) (by rfl)) .free rfl ?_
        refine o_store rfl rfl rfl rfl (by first | rfl | (simp only [List.toList_toArray, List.all_cons, List.all_nil, plainCell_buf, Bool.and_true, Bool.true_and] <;> rfl)) (by first | exact u0 | exact u1 | exact u2 | exact u3 | exact u4 | exact u5 | exact u6) (by rfl) .free ?_
        refine o_done ?_
        refine s_ret (.cell rfl (by first | exact loads_still1 (by assumption) rfl | exact loads_ownS (by first | exact m0 | exact m1 | exact m2 | exact m3 | exact m4 | exact m5 | exact m6) (by rfl) | exact loads_own1 (by first | exact m0 | exact m1 | exact m2 | exact m3 | exact m4 | exact m5 | exact m6) (by rfl) rfl | exact loads_stillS (by assumption) (by rfl) | exact loads_stillF (by assumption) (by rfl) rfl) .nil) ?_
        refine ⟨I, L, .refl _, (by intro _ h; first | exact h | exact dr1 h | exact dr2 h | exact dr3 h | exact dr4 h | exact dr5 h | exact dr6 h), _, rfl, ?_, rfl⟩
        have : e.put nm v = e := by
          cases e with
          | num s => rfl
          | name s => exact if_neg c1
          | _ => cases hb
        rw [this]; exact hf.rep
    · intro c0
      try simp only [Bool.and_eq_true, Bool.or_eq_true, Bool.not_eq_true', Bool.not_eq_false', Bool.and_eq_false_iff, Bool.or_eq_false_iff, decide_eq_true_eq, decide_eq_false_iff_not] at c0
      have hb : e.bare = false := (Ex.atom_iff hok).1 (by simpa using c0)
      have hsh := e.shapes hb
      have hok0 := hok
      have hpos : 0 < e.tree.parts.length := by
        rw [Ex.bare_parts] at hb
        have : e.tree.parts ≠ [] := by intro hh; rw [hh] at hb; cases hb
        exact List.length_pos_iff.2 this
      have hhd := head_at hpos
      obtain ⟨xa, rfl⟩ : ∃ xa, oa = some xa := ⟨_, some_oad hf.nil hpos⟩
      have hp := hf.len
      unfold maxN at hp
      refine s_skip ?_
      refine s_seq ?_
      refine o_enter rfl ?_
      refine o_lits0 .free rfl ?_
      intro b20
      refine o_fieldAddr rfl .free rfl ?_
      refine o_load rfl (loads_own1 (by first | exact m0 | exact m1 | exact m2 | exact m3 | exact m4 | exact m5 | exact m6) (by rfl) rfl) .free rfl ?_
      refine o_append (B := some (b20, [])) (xs := []) (ys := cellsF oaf cf 0 e.tree.parts) (m := 0) (c := 0) (by intro kk; simp) (by rfl) rfl rfl ⟨rfl, Nat.le_refl _, rfl⟩ (fun _ h => h) (by have := hcl.length; omega) (fun a ha => by cases ha; exact (hcs _ rfl).reads) (by simp) hcl.plain hpos (by decide) (by omega) (by decide) .free rfl ?_
      intro bc sp cc hB'
      have hcc : e.tree.parts.length ≤ cc := by have := hB'.2.1; omega
      refine o_put (t := 23) (v' := .slice (some ⟨bc, 0, none⟩) e.tree.parts.length cc) rfl (by rw [Nat.zero_add]) ?_
      simp only [List.nil_append]
      refine o_struct rfl rfl rfl .free rfl ?_
      refine o_alloc .free rfl ?_
      intro b7
      refine o_store rfl rfl rfl rfl (by first | rfl | (simp only [List.toList_toArray, List.all_cons, List.all_nil, plainCell_buf, Bool.and_true, Bool.true_and] <;> rfl)) (by first | exact u0 | exact u1 | exact u2 | exact u3 | exact u4 | exact u5 | exact u6) (by rfl) .free ?_
      refine o_done ?_
      refine s_seq ?_
      refine o_enter rfl ?_
      refine o_fieldAddr rfl .free rfl ?_
      refine o_load rfl (loads_own1 (by first | exact m0 | exact m1 | exact m2 | exact m3 | exact m4 | exact m5 | exact m6) (by rfl) rfl) .free rfl ?_
      first | refine o_indexAddrD rfl rfl 0 rfl (by first | omega | exact lt_of (by assumption) (by decide) | (simp; done) | (simp; omega) | decide | (simp at *; omega)) (by first | assumption | exact FormAt.nil (by assumption) | exact Strs.nil' (by assumption) | exact Nums.nil' (by assumption) | exact Raw.nil' (by assumption)) .free rfl ?_ | refine o_indexAddr' rfl rfl 0 rfl (by first | omega | exact lt_of (by assumption) (by decide) | (simp; done) | (simp; omega) | decide | (simp at *; omega)) (by first | rfl | assumption) .free rfl ?_
      refine o_fieldAddr' rfl .free rfl ?_
      refine o_load rfl (by first | exact loads_stillF (FormAt.st (by assumption) _ (by first | omega | decide | (simp; done) | exact lt_of (by assumption) (by decide))) (by rfl) rfl | exact loads_stillF (by assumption) (by rfl) rfl | exact loads_scalar rfl (reads_cut (reads_sub (by assumption) (by intro _ h; first | exact h | exact dr1 h | exact dr2 h | exact dr3 h | exact dr4 h | exact dr5 h | exact dr6 h)) (by rfl))) .free rfl ?_
      refine o_call rfl .free rfl (g_l2Kids (e.tree.pt 0).atom _ _) ?_
      rw [← hhd]; rintro _ _ _ _ ⟨rfl, rfl, rfl⟩
      refine o_move rfl .free rfl ?_
      refine o_extract rfl rfl .free rfl ?_
      refine o_extract rfl rfl .free rfl ?_
      refine o_assign rfl .free rfl ?_
      refine o_assign rfl .free rfl ?_
      refine o_done ?_
      refine s_seq ?_
      refine s_seq ?_
      rcases hsh with ⟨o, a, b, rfl⟩ | ⟨a, b, d, rfl⟩ | ⟨z, a, b, rfl⟩ | ⟨g, z, s, t, b, rfl⟩ | ⟨o, a, rfl⟩
      · skip
        have hkr : kidRange (Ex.bin o a b).tree.head = (1, 3) := by cases o <;> rfl
        rw [hkr]
        have hlen : (Ex.bin o a b).tree.parts.length = 3 := rfl
        have hki := kids_bin o a b
        simp only [Ex.bin.sizeOf_spec] at hlt
        simp only [Ex.ok, Bool.and_eq_true] at hok
        simp only [show (Ex.bin o a b).tree.parts = [.node o.txt [], a.tree, b.tree] from rfl, cellsF, List.cons_append, List.nil_append]
        refine o_enter rfl ?_
        refine o_move rfl .free rfl ?_
        refine o_assign rfl .free rfl ?_
        refine o_done ?_
        refine s_block ?_
        refine s_loop ?_
        refine s_seq ?_
        refine s_seq ?_
        refine o_enter rfl ?_
        refine o_move rfl .free rfl ?_
        refine o_move rfl .free rfl ?_
        refine o_cmp rfl rfl rfl .free rfl ?_
        refine o_done ?_
        refine s_condT rfl (by first | rfl | decide | (simp; done) | omega) ?_
        refine s_skip ?_
        refine s_seq ?_
        refine s_block ?_
        refine s_seq ?_
        refine o_enter rfl ?_
        refine o_load rfl (loads_ownS (by first | exact m0 | exact m1 | exact m2 | exact m3 | exact m4 | exact m5 | exact m6) (by rfl)) .free rfl ?_
        refine o_move rfl .free rfl ?_
        refine o_call rfl .free rfl (g_l2Binds hf.rep hok0 hb _ (by rw [hki]; decide) _) ?_
        rintro _ J1 _ e1 ⟨o1, k1, rfl, hs1, rfl⟩
        refine o_move rfl .free rfl ?_
        refine o_call rfl .free rfl (g_l1Has (hs1.rd _) k1 nm) ?_
        rintro _ _ _ _ ⟨rfl, rfl, rfl⟩
        refine o_not rfl .free rfl ?_
        refine o_mem (fun w h => Mem.le e1 h) ?_
        refine o_done ?_
        first | refine s_tp rfl (by simp [Ex.binds]) ?_ | refine s_tn rfl (by simp [Ex.binds]) ?_ | refine s_true (by simp [look, opd, *]) ?_
        refine d_all 13 rfl rfl ?_
        refine d_takeA 0 rfl (by kernel_rfl) rfl (.inr heldx) (y_fieldAddr rfl) .free rfl ?_
        refine d_take 1 [12] rfl (by kernel_rfl) rfl heldx (y_load rfl (loads_own1 (by first | exact m0 | exact m1 | exact m2 | exact m3 | exact m4 | exact m5 | exact m6) (by rfl) rfl)) .free rfl ?_
        refine d_takeA 2 rfl (by kernel_rfl) rfl (.inr heldx) (y_move rfl) .free rfl ?_
        refine d_takeA 3 rfl (by kernel_rfl) rfl (.inr heldx) (y_fieldAddr rfl) .free rfl ?_
        refine d_take 4 [12] rfl (by kernel_rfl) rfl heldx (y_load rfl (loads_own1 (by first | exact m0 | exact m1 | exact m2 | exact m3 | exact m4 | exact m5 | exact m6) (by rfl) rfl)) .free rfl ?_
        refine d_takeA 5 rfl (by kernel_rfl) rfl (.inr heldx) (y_move rfl) .free rfl ?_
        first | refine d_takeA 6 rfl (by kernel_rfl) rfl (.inr heldx) (y_indexAddrD rfl rfl _ rfl (by first | omega | exact lt_of (by assumption) (by decide) | (simp; done) | (simp; omega) | decide | (simp at *; omega)) (by first | assumption | exact FormAt.nil (by assumption) | exact Strs.nil' (by assumption) | exact Nums.nil' (by assumption) | exact Raw.nil' (by assumption))) .free rfl ?_ | refine d_takeA 6 rfl (by kernel_rfl) rfl (.inr heldx) (y_indexAddr' rfl rfl _ rfl (by first | omega | exact lt_of (by assumption) (by decide) | (simp; done) | (simp; omega) | decide | (simp at *; omega)) (by first | rfl | assumption)) .free rfl ?_
        refine d_take 7 [12] rfl (by kernel_rfl) rfl heldx (y_load rfl (by first | exact loads_stillS (FormAt.st (by assumption) _ (by first | omega | decide | (simp; done) | exact lt_of (by assumption) (by decide))) (by rfl) | exact loads_stillS (by assumption) (by rfl) | exact loads_rd (reads_sub (by assumption) (by intro _ h; first | exact h | exact dr1 h | exact dr2 h | exact dr3 h | exact dr4 h | exact dr5 h | exact dr6 h)) (by rfl))) .free rfl ?_
        refine d_takeA 8 rfl (by kernel_rfl) rfl (.inr heldx) (y_move rfl) .free rfl ?_
        refine d_take 9 [12] rfl (by kernel_rfl) rfl heldx (y_load rfl (loads_ownS (by first | exact m0 | exact m1 | exact m2 | exact m3 | exact m4 | exact m5 | exact m6) (by rfl))) .free rfl ?_
        refine d_call 10 rfl (by kernel_rfl) rfl rfl .free rfl (ihn (by omega) (hf.as 1 a.tree (by omega) rfl) hok.1 nm hnm hv _) ?_
        rintro _ J2 _ e2 ⟨cs2, rfl, hr_0, rfl⟩
        obtain ⟨o2, k2, _, rfl, -⟩ := hr_0.open
        have hf := hf.mono e2
        have hv := hv.mono e2
        have hle := hle.trans e2
        refine ⟨(.inr heldx), ?_⟩
        first | refine d_takeA 11 rfl (by kernel_rfl) rfl (.inr heldx) (y_indexAddrD rfl rfl _ rfl (by first | omega | exact lt_of (by assumption) (by decide) | (simp; done) | (simp; omega) | decide | (simp at *; omega)) (by first | assumption | exact FormAt.nil (by assumption) | exact Strs.nil' (by assumption) | exact Nums.nil' (by assumption) | exact Raw.nil' (by assumption))) .free rfl ?_ | refine d_takeA 11 rfl (by kernel_rfl) rfl (.inr heldx) (y_indexAddr' rfl rfl _ rfl (by first | omega | exact lt_of (by assumption) (by decide) | (simp; done) | (simp; omega) | decide | (simp at *; omega)) (by first | rfl | assumption)) .free rfl ?_
        refine d_store 12 rfl (by kernel_rfl) rfl rfl rfl rfl rfl (by first | rfl | (simp only [List.toList_toArray, List.all_cons, List.all_nil, plainCell_buf, Bool.and_true, Bool.true_and] <;> rfl)) (by first | exact u0 | exact u1 | exact u2 | exact u3 | exact u4 | exact u5 | exact u6) (by rfl) .free (.inl (by kernel_rfl)) ?_
        refine d_done (by kernel_rfl) ?_
        refine s_inBlock ?_
        refine o_enter rfl ?_
        refine o_move rfl .free rfl ?_
        refine o_arith rfl rfl rfl (by omega) .free rfl ?_
        refine o_assign rfl .free rfl ?_
        refine o_done ?_
        refine s_round ?_
        refine s_seq ?_
        refine s_seq ?_
        refine o_enter rfl ?_
        refine o_move rfl .free rfl ?_
        refine o_move rfl .free rfl ?_
        refine o_cmp rfl rfl rfl .free rfl ?_
        refine o_done ?_
        refine s_condT rfl (by first | rfl | decide | (simp; done) | omega) ?_
        refine s_skip ?_
        refine s_seq ?_
        refine s_block ?_
        refine s_seq ?_
        refine o_enter rfl ?_
        refine o_load rfl (loads_ownS (by first | exact m0 | exact m1 | exact m2 | exact m3 | exact m4 | exact m5 | exact m6) (by rfl)) .free rfl ?_
        refine o_move rfl .free rfl ?_
        refine o_call rfl .free rfl (g_l2Binds hf.rep hok0 hb _ (by rw [hki]; decide) _) ?_
        rintro _ J1 _ e1 ⟨o1, k1, rfl, hs1, rfl⟩
        refine o_move rfl .free rfl ?_
        refine o_call rfl .free rfl (g_l1Has (hs1.rd _) k1 nm) ?_
        rintro _ _ _ _ ⟨rfl, rfl, rfl⟩
        refine o_not rfl .free rfl ?_
        refine o_mem (fun w h => Mem.le e1 h) ?_
        refine o_done ?_
        first | refine s_tp rfl (by simp [Ex.binds]) ?_ | refine s_tn rfl (by simp [Ex.binds]) ?_ | refine s_true (by simp [look, opd, *]) ?_
        refine d_all 13 rfl rfl ?_
        refine d_takeA 0 rfl (by kernel_rfl) rfl (.inr heldx) (y_fieldAddr rfl) .free rfl ?_
        refine d_take 1 [12] rfl (by kernel_rfl) rfl heldx (y_load rfl (loads_own1 (by first | exact m0 | exact m1 | exact m2 | exact m3 | exact m4 | exact m5 | exact m6) (by rfl) rfl)) .free rfl ?_
        refine d_takeA 2 rfl (by kernel_rfl) rfl (.inr heldx) (y_move rfl) .free rfl ?_
        refine d_takeA 3 rfl (by kernel_rfl) rfl (.inr heldx) (y_fieldAddr rfl) .free rfl ?_
        refine d_take 4 [12] rfl (by kernel_rfl) rfl heldx (y_load rfl (loads_own1 (by first | exact m0 | exact m1 | exact m2 | exact m3 | exact m4 | exact m5 | exact m6) (by rfl) rfl)) .free rfl ?_
        refine d_takeA 5 rfl (by kernel_rfl) rfl (.inr heldx) (y_move rfl) .free rfl ?_
        first | refine d_takeA 6 rfl (by kernel_rfl) rfl (.inr heldx) (y_indexAddrD rfl rfl _ rfl (by first | omega | exact lt_of (by assumption) (by decide) | (simp; done) | (simp; omega) | decide | (simp at *; omega)) (by first | assumption | exact FormAt.nil (by assumption) | exact Strs.nil' (by assumption) | exact Nums.nil' (by assumption) | exact Raw.nil' (by assumption))) .free rfl ?_ | refine d_takeA 6 rfl (by kernel_rfl) rfl (.inr heldx) (y_indexAddr' rfl rfl _ rfl (by first | omega | exact lt_of (by assumption) (by decide) | (simp; done) | (simp; omega) | decide | (simp at *; omega)) (by first | rfl | assumption)) .free rfl ?_
        refine d_take 7 [12] rfl (by kernel_rfl) rfl heldx (y_load rfl (by first | exact loads_stillS (FormAt.st (by assumption) _ (by first | omega | decide | (simp; done) | exact lt_of (by assumption) (by decide))) (by rfl) | exact loads_stillS (by assumption) (by rfl) | exact loads_rd (reads_sub (by assumption) (by intro _ h; first | exact h | exact dr1 h | exact dr2 h | exact dr3 h | exact dr4 h | exact dr5 h | exact dr6 h)) (by rfl))) .free rfl ?_
        refine d_takeA 8 rfl (by kernel_rfl) rfl (.inr heldx) (y_move rfl) .free rfl ?_
        refine d_take 9 [12] rfl (by kernel_rfl) rfl heldx (y_load rfl (loads_ownS (by first | exact m0 | exact m1 | exact m2 | exact m3 | exact m4 | exact m5 | exact m6) (by rfl))) .free rfl ?_
        refine d_call 10 rfl (by kernel_rfl) rfl rfl .free rfl (ihn (by omega) (hf.as 2 b.tree (by omega) rfl) hok.2 nm hnm hv _) ?_
        rintro _ J2 _ e2 ⟨cs2, rfl, hr_1, rfl⟩
        obtain ⟨o2, k2, _, rfl, -⟩ := hr_1.open
        have hf := hf.mono e2
        have hv := hv.mono e2
        have hle := hle.trans e2
        have hr_0 := hr_0.mono e2
        refine ⟨(.inr heldx), ?_⟩
        first | refine d_takeA 11 rfl (by kernel_rfl) rfl (.inr heldx) (y_indexAddrD rfl rfl _ rfl (by first | omega | exact lt_of (by assumption) (by decide) | (simp; done) | (simp; omega) | decide | (simp at *; omega)) (by first | assumption | exact FormAt.nil (by assumption) | exact Strs.nil' (by assumption) | exact Nums.nil' (by assumption) | exact Raw.nil' (by assumption))) .free rfl ?_ | refine d_takeA 11 rfl (by kernel_rfl) rfl (.inr heldx) (y_indexAddr' rfl rfl _ rfl (by first | omega | exact lt_of (by assumption) (by decide) | (simp; done) | (simp; omega) | decide | (simp at *; omega)) (by first | rfl | assumption)) .free rfl ?_
        refine d_store 12 rfl (by kernel_rfl) rfl rfl rfl rfl rfl (by first | rfl | (simp only [List.toList_toArray, List.all_cons, List.all_nil, plainCell_buf, Bool.and_true, Bool.true_and] <;> rfl)) (by first | exact u0 | exact u1 | exact u2 | exact u3 | exact u4 | exact u5 | exact u6) (by rfl) .free (.inl (by kernel_rfl)) ?_
        refine d_done (by kernel_rfl) ?_
        refine s_inBlock ?_
        refine o_enter rfl ?_
        refine o_move rfl .free rfl ?_
        refine o_arith rfl rfl rfl (by omega) .free rfl ?_
        refine o_assign rfl .free rfl ?_
        refine o_done ?_
        refine s_round ?_
        refine s_seq ?_
        refine s_seq ?_
        refine o_enter rfl ?_
        refine o_move rfl .free rfl ?_
        refine o_move rfl .free rfl ?_
        refine o_cmp rfl rfl rfl .free rfl ?_
        refine o_done ?_
        refine s_condF rfl (by first | rfl | decide | (simp; done) | omega) ?_
        refine s_exit rfl ?_
        refine s_seq ?_
        refine o_enter rfl ?_
        refine o_load rfl (loads_ownS (by first | exact m0 | exact m1 | exact m2 | exact m3 | exact m4 | exact m5 | exact m6) (by rfl)) .free rfl ?_
        refine o_store rfl rfl rfl rfl (by first | rfl | (simp only [List.toList_toArray, List.all_cons, List.all_nil, plainCell_buf, Bool.and_true, Bool.true_and] <;> rfl)) (by first | exact u0 | exact u1 | exact u2 | exact u3 | exact u4 | exact u5 | exact u6) (by rfl) .free ?_
        refine o_done ?_
        refine s_mem (fun w h => h.f1) (s_freeze ?_)
        intro hz
        have hf := hf.mono hz
        refine s_ret (.cell rfl (by first | exact loads_still1 (by assumption) rfl | exact loads_ownS (by first | exact m0 | exact m1 | exact m2 | exact m3 | exact m4 | exact m5 | exact m6) (by rfl) | exact loads_own1 (by first | exact m0 | exact m1 | exact m2 | exact m3 | exact m4 | exact m5 | exact m6) (by rfl) rfl | exact loads_stillS (by assumption) (by rfl) | exact loads_stillF (by assumption) (by rfl) rfl) .nil) ?_
        exact ⟨_, L, hle.trans hz, (by intro _ h; first | exact h | exact dr1 h | exact dr2 h | exact dr3 h | exact dr4 h | exact dr5 h | exact dr6 h), _, rfl, .mk' rfl (.cons (hf.as 0 (.node o.txt []) (by omega) rfl) (.cons (hr_0.mono hz) (.cons (hr_1.mono hz) .nil))) (fun y hy => by cases hy; exact still_set (xs := [_, _, _, _, _, _])) (by simp) hcc (by simp [maxN]) (by simp [maxN]), rfl⟩
      · skip
        have hkr : kidRange (Ex.ite a b d).tree.head = (1, 4) := rfl
        rw [hkr]
        have hlen : (Ex.ite a b d).tree.parts.length = 4 := rfl
        have hki := kids_ite a b d
        simp only [Ex.ite.sizeOf_spec] at hlt
        simp only [Ex.ok, Bool.and_eq_true] at hok
        simp only [show (Ex.ite a b d).tree.parts = [.node tIf [], a.tree, b.tree, d.tree] from rfl, cellsF, List.cons_append, List.nil_append]
        refine o_enter rfl ?_
        refine o_move rfl .free rfl ?_
        refine o_assign rfl .free rfl ?_
        refine o_done ?_
        refine s_block ?_
        refine s_loop ?_
        refine s_seq ?_
        refine s_seq ?_
        refine o_enter rfl ?_
        refine o_move rfl .free rfl ?_
        refine o_move rfl .free rfl ?_
        refine o_cmp rfl rfl rfl .free rfl ?_
        refine o_done ?_
        refine s_condT rfl (by first | rfl | decide | (simp; done) | omega) ?_
        refine s_skip ?_
        refine s_seq ?_
        refine s_block ?_
        refine s_seq ?_
        refine o_enter rfl ?_
        refine o_load rfl (loads_ownS (by first | exact m0 | exact m1 | exact m2 | exact m3 | exact m4 | exact m5 | exact m6) (by rfl)) .free rfl ?_
        refine o_move rfl .free rfl ?_
        refine o_call rfl .free rfl (g_l2Binds hf.rep hok0 hb _ (by rw [hki]; decide) _) ?_
        rintro _ J1 _ e1 ⟨o1, k1, rfl, hs1, rfl⟩
        refine o_move rfl .free rfl ?_
        refine o_call rfl .free rfl (g_l1Has (hs1.rd _) k1 nm) ?_
        rintro _ _ _ _ ⟨rfl, rfl, rfl⟩
        refine o_not rfl .free rfl ?_
        refine o_mem (fun w h => Mem.le e1 h) ?_
        refine o_done ?_
        first | refine s_tp rfl (by simp [Ex.binds]) ?_ | refine s_tn rfl (by simp [Ex.binds]) ?_ | refine s_true (by simp [look, opd, *]) ?_
        refine d_all 13 rfl rfl ?_
        refine d_takeA 0 rfl (by kernel_rfl) rfl (.inr heldx) (y_fieldAddr rfl) .free rfl ?_
        refine d_take 1 [12] rfl (by kernel_rfl) rfl heldx (y_load rfl (loads_own1 (by first | exact m0 | exact m1 | exact m2 | exact m3 | exact m4 | exact m5 | exact m6) (by rfl) rfl)) .free rfl ?_
        refine d_takeA 2 rfl (by kernel_rfl) rfl (.inr heldx) (y_move rfl) .free rfl ?_
        refine d_takeA 3 rfl (by kernel_rfl) rfl (.inr heldx) (y_fieldAddr rfl) .free rfl ?_
        refine d_take 4 [12] rfl (by kernel_rfl) rfl heldx (y_load rfl (loads_own1 (by first | exact m0 | exact m1 | exact m2 | exact m3 | exact m4 | exact m5 | exact m6) (by rfl) rfl)) .free rfl ?_
        refine d_takeA 5 rfl (by kernel_rfl) rfl (.inr heldx) (y_move rfl) .free rfl ?_
        first | refine d_takeA 6 rfl (by kernel_rfl) rfl (.inr heldx) (y_indexAddrD rfl rfl _ rfl (by first | omega | exact lt_of (by assumption) (by decide) | (simp; done) | (simp; omega) | decide | (simp at *; omega)) (by first | assumption | exact FormAt.nil (by assumption) | exact Strs.nil' (by assumption) | exact Nums.nil' (by assumption) | exact Raw.nil' (by assumption))) .free rfl ?_ | refine d_takeA 6 rfl (by kernel_rfl) rfl (.inr heldx) (y_indexAddr' rfl rfl _ rfl (by first | omega | exact lt_of (by assumption) (by decide) | (simp; done) | (simp; omega) | decide | (simp at *; omega)) (by first | rfl | assumption)) .free rfl ?_
        refine d_take 7 [12] rfl (by kernel_rfl) rfl heldx (y_load rfl (by first | exact loads_stillS (FormAt.st (by assumption) _ (by first | omega | decide | (simp; done) | exact lt_of (by assumption) (by decide))) (by rfl) | exact loads_stillS (by assumption) (by rfl) | exact loads_rd (reads_sub (by assumption) (by intro _ h; first | exact h | exact dr1 h | exact dr2 h | exact dr3 h | exact dr4 h | exact dr5 h | exact dr6 h)) (by rfl))) .free rfl ?_
        refine d_takeA 8 rfl (by kernel_rfl) rfl (.inr heldx) (y_move rfl) .free rfl ?_
        refine d_take 9 [12] rfl (by kernel_rfl) rfl heldx (y_load rfl (loads_ownS (by first | exact m0 | exact m1 | exact m2 | exact m3 | exact m4 | exact m5 | exact m6) (by rfl))) .free rfl ?_
        refine d_call 10 rfl (by kernel_rfl) rfl rfl .free rfl (ihn (by omega) (hf.as 1 a.tree (by omega) rfl) hok.1.1 nm hnm hv _) ?_
        rintro _ J2 _ e2 ⟨cs2, rfl, hr_0, rfl⟩
        obtain ⟨o2, k2, _, rfl, -⟩ := hr_0.open
        have hf := hf.mono e2
        have hv := hv.mono e2
        have hle := hle.trans e2
        refine ⟨(.inr heldx), ?_⟩
        first | refine d_takeA 11 rfl (by kernel_rfl) rfl (.inr heldx) (y_indexAddrD rfl rfl _ rfl (by first | omega | exact lt_of (by assumption) (by decide) | (simp; done) | (simp; omega) | decide | (simp at *; omega)) (by first | assumption | exact FormAt.nil (by assumption) | exact Strs.nil' (by assumption) | exact Nums.nil' (by assumption) | exact Raw.nil' (by assumption))) .free rfl ?_ | refine d_takeA 11 rfl (by kernel_rfl) rfl (.inr heldx) (y_indexAddr' rfl rfl _ rfl (by first | omega | exact lt_of (by assumption) (by decide) | (simp; done) | (simp; omega) | decide | (simp at *; omega)) (by first | rfl | assumption)) .free rfl ?_
        refine d_store 12 rfl (by kernel_rfl) rfl rfl rfl rfl rfl (by first | rfl | (simp only [List.toList_toArray, List.all_cons, List.all_nil, plainCell_buf, Bool.and_true, Bool.true_and] <;> rfl)) (by first | exact u0 | exact u1 | exact u2 | exact u3 | exact u4 | exact u5 | exact u6) (by rfl) .free (.inl (by kernel_rfl)) ?_
        refine d_done (by kernel_rfl) ?_
        refine s_inBlock ?_
        refine o_enter rfl ?_
        refine o_move rfl .free rfl ?_
        refine o_arith rfl rfl rfl (by omega) .free rfl ?_
        refine o_assign rfl .free rfl ?_
        refine o_done ?_
        refine s_round ?_
        refine s_seq ?_
        refine s_seq ?_
        refine o_enter rfl ?_
        refine o_move rfl .free rfl ?_
        refine o_move rfl .free rfl ?_
        refine o_cmp rfl rfl rfl .free rfl ?_
        refine o_done ?_
        refine s_condT rfl (by first | rfl | decide | (simp; done) | omega) ?_
        refine s_skip ?_
        refine s_seq ?_
        refine s_block ?_
        refine s_seq ?_
        refine o_enter rfl ?_
        refine o_load rfl (loads_ownS (by first | exact m0 | exact m1 | exact m2 | exact m3 | exact m4 | exact m5 | exact m6) (by rfl)) .free rfl ?_
        refine o_move rfl .free rfl ?_
        refine o_call rfl .free rfl (g_l2Binds hf.rep hok0 hb _ (by rw [hki]; decide) _) ?_
        rintro _ J1 _ e1 ⟨o1, k1, rfl, hs1, rfl⟩
        refine o_move rfl .free rfl ?_
        refine o_call rfl .free rfl (g_l1Has (hs1.rd _) k1 nm) ?_
        rintro _ _ _ _ ⟨rfl, rfl, rfl⟩
        refine o_not rfl .free rfl ?_
        refine o_mem (fun w h => Mem.le e1 h) ?_
        refine o_done ?_
        first | refine s_tp rfl (by simp [Ex.binds]) ?_ | refine s_tn rfl (by simp [Ex.binds]) ?_ | refine s_true (by simp [look, opd, *]) ?_
        refine d_all 13 rfl rfl ?_
        refine d_takeA 0 rfl (by kernel_rfl) rfl (.inr heldx) (y_fieldAddr rfl) .free rfl ?_
        refine d_take 1 [12] rfl (by kernel_rfl) rfl heldx (y_load rfl (loads_own1 (by first | exact m0 | exact m1 | exact m2 | exact m3 | exact m4 | exact m5 | exact m6) (by rfl) rfl)) .free rfl ?_
        refine d_takeA 2 rfl (by kernel_rfl) rfl (.inr heldx) (y_move rfl) .free rfl ?_
        refine d_takeA 3 rfl (by kernel_rfl) rfl (.inr heldx) (y_fieldAddr rfl) .free rfl ?_
        refine d_take 4 [12] rfl (by kernel_rfl) rfl heldx (y_load rfl (loads_own1 (by first | exact m0 | exact m1 | exact m2 | exact m3 | exact m4 | exact m5 | exact m6) (by rfl) rfl)) .free rfl ?_
        refine d_takeA 5 rfl (by kernel_rfl) rfl (.inr heldx) (y_move rfl) .free rfl ?_
        first | refine d_takeA 6 rfl (by kernel_rfl) rfl (.inr heldx) (y_indexAddrD rfl rfl _ rfl (by first | omega | exact lt_of (by assumption) (by decide) | (simp; done) | (simp; omega) | decide | (simp at *; omega)) (by first | assumption | exact FormAt.nil (by assumption) | exact Strs.nil' (by assumption) | exact Nums.nil' (by assumption) | exact Raw.nil' (by assumption))) .free rfl ?_ | refine d_takeA 6 rfl (by kernel_rfl) rfl (.inr heldx) (y_indexAddr' rfl rfl _ rfl (by first | omega | exact lt_of (by assumption) (by decide) | (simp; done) | (simp; omega) | decide | (simp at *; omega)) (by first | rfl | assumption)) .free rfl ?_
        refine d_take 7 [12] rfl (by kernel_rfl) rfl heldx (y_load rfl (by first | exact loads_stillS (FormAt.st (by assumption) _ (by first | omega | decide | (simp; done) | exact lt_of (by assumption) (by decide))) (by rfl) | exact loads_stillS (by assumption) (by rfl) | exact loads_rd (reads_sub (by assumption) (by intro _ h; first | exact h | exact dr1 h | exact dr2 h | exact dr3 h | exact dr4 h | exact dr5 h | exact dr6 h)) (by rfl))) .free rfl ?_
        refine d_takeA 8 rfl (by kernel_rfl) rfl (.inr heldx) (y_move rfl) .free rfl ?_
        refine d_take 9 [12] rfl (by kernel_rfl) rfl heldx (y_load rfl (loads_ownS (by first | exact m0 | exact m1 | exact m2 | exact m3 | exact m4 | exact m5 | exact m6) (by rfl))) .free rfl ?_
        refine d_call 10 rfl (by kernel_rfl) rfl rfl .free rfl (ihn (by omega) (hf.as 2 b.tree (by omega) rfl) hok.1.2 nm hnm hv _) ?_
        rintro _ J2 _ e2 ⟨cs2, rfl, hr_1, rfl⟩
        obtain ⟨o2, k2, _, rfl, -⟩ := hr_1.open
        have hf := hf.mono e2
        have hv := hv.mono e2
        have hle := hle.trans e2
        have hr_0 := hr_0.mono e2
        refine ⟨(.inr heldx), ?_⟩
        first | refine d_takeA 11 rfl (by kernel_rfl) rfl (.inr heldx) (y_indexAddrD rfl rfl _ rfl (by first | omega | exact lt_of (by assumption) (by decide) | (simp; done) | (simp; omega) | decide | (simp at *; omega)) (by first | assumption | exact FormAt.nil (by assumption) | exact Strs.nil' (by assumption) | exact Nums.nil' (by assumption) | exact Raw.nil' (by assumption))) .free rfl ?_ | refine d_takeA 11 rfl (by kernel_rfl) rfl (.inr heldx) (y_indexAddr' rfl rfl _ rfl (by first | omega | exact lt_of (by assumption) (by decide) | (simp; done) | (simp; omega) | decide | (simp at *; omega)) (by first | rfl | assumption)) .free rfl ?_
        refine d_store 12 rfl (by kernel_rfl) rfl rfl rfl rfl rfl (by first | rfl | (simp only [List.toList_toArray, List.all_cons, List.all_nil, plainCell_buf, Bool.and_true, Bool.true_and] <;> rfl)) (by first | exact u0 | exact u1 | exact u2 | exact u3 | exact u4 | exact u5 | exact u6) (by rfl) .free (.inl (by kernel_rfl)) ?_
        refine d_done (by kernel_rfl) ?_
        refine s_inBlock ?_
        refine o_enter rfl ?_
        refine o_move rfl .free rfl ?_
        refine o_arith rfl rfl rfl (by omega) .free rfl ?_
        refine o_assign rfl .free rfl ?_
        refine o_done ?_
        refine s_round ?_
        refine s_seq ?_
        refine s_seq ?_
        refine o_enter rfl ?_
        refine o_move rfl .free rfl ?_
        refine o_move rfl .free rfl ?_
        refine o_cmp rfl rfl rfl .free rfl ?_
        refine o_done ?_
        refine s_condT rfl (by first | rfl | decide | (simp; done) | omega) ?_
        refine s_skip ?_
        refine s_seq ?_
        refine s_block ?_
        refine s_seq ?_
        refine o_enter rfl ?_
        refine o_load rfl (loads_ownS (by first | exact m0 | exact m1 | exact m2 | exact m3 | exact m4 | exact m5 | exact m6) (by rfl)) .free rfl ?_
        refine o_move rfl .free rfl ?_
        refine o_call rfl .free rfl (g_l2Binds hf.rep hok0 hb _ (by rw [hki]; decide) _) ?_
        rintro _ J1 _ e1 ⟨o1, k1, rfl, hs1, rfl⟩
        refine o_move rfl .free rfl ?_
        refine o_call rfl .free rfl (g_l1Has (hs1.rd _) k1 nm) ?_
        rintro _ _ _ _ ⟨rfl, rfl, rfl⟩
        refine o_not rfl .free rfl ?_
        refine o_mem (fun w h => Mem.le e1 h) ?_
        refine o_done ?_
        first | refine s_tp rfl (by simp [Ex.binds]) ?_ | refine s_tn rfl (by simp [Ex.binds]) ?_ | refine s_true (by simp [look, opd, *]) ?_
        refine d_all 13 rfl rfl ?_
        refine d_takeA 0 rfl (by kernel_rfl) rfl (.inr heldx) (y_fieldAddr rfl) .free rfl ?_
        refine d_take 1 [12] rfl (by kernel_rfl) rfl heldx (y_load rfl (loads_own1 (by first | exact m0 | exact m1 | exact m2 | exact m3 | exact m4 | exact m5 | exact m6) (by rfl) rfl)) .free rfl ?_
        refine d_takeA 2 rfl (by kernel_rfl) rfl (.inr heldx) (y_move rfl) .free rfl ?_
        refine d_takeA 3 rfl (by kernel_rfl) rfl (.inr heldx) (y_fieldAddr rfl) .free rfl ?_
        refine d_take 4 [12] rfl (by kernel_rfl) rfl heldx (y_load rfl (loads_own1 (by first | exact m0 | exact m1 | exact m2 | exact m3 | exact m4 | exact m5 | exact m6) (by rfl) rfl)) .free rfl ?_
        refine d_takeA 5 rfl (by kernel_rfl) rfl (.inr heldx) (y_move rfl) .free rfl ?_
        first | refine d_takeA 6 rfl (by kernel_rfl) rfl (.inr heldx) (y_indexAddrD rfl rfl _ rfl (by first | omega | exact lt_of (by assumption) (by decide) | (simp; done) | (simp; omega) | decide | (simp at *; omega)) (by first | assumption | exact FormAt.nil (by assumption) | exact Strs.nil' (by assumption) | exact Nums.nil' (by assumption) | exact Raw.nil' (by assumption))) .free rfl ?_ | refine d_takeA 6 rfl (by kernel_rfl) rfl (.inr heldx) (y_indexAddr' rfl rfl _ rfl (by first | omega | exact lt_of (by assumption) (by decide) | (simp; done) | (simp; omega) | decide | (simp at *; omega)) (by first | rfl | assumption)) .free rfl ?_
        refine d_take 7 [12] rfl (by kernel_rfl) rfl heldx (y_load rfl (by first | exact loads_stillS (FormAt.st (by assumption) _ (by first | omega | decide | (simp; done) | exact lt_of (by assumption) (by decide))) (by rfl) | exact loads_stillS (by assumption) (by rfl) | exact loads_rd (reads_sub (by assumption) (by intro _ h; first | exact h | exact dr1 h | exact dr2 h | exact dr3 h | exact dr4 h | exact dr5 h | exact dr6 h)) (by rfl))) .free rfl ?_
        refine d_takeA 8 rfl (by kernel_rfl) rfl (.inr heldx) (y_move rfl) .free rfl ?_
        refine d_take 9 [12] rfl (by kernel_rfl) rfl heldx (y_load rfl (loads_ownS (by first | exact m0 | exact m1 | exact m2 | exact m3 | exact m4 | exact m5 | exact m6) (by rfl))) .free rfl ?_
        refine d_call 10 rfl (by kernel_rfl) rfl rfl .free rfl (ihn (by omega) (hf.as 3 d.tree (by omega) rfl) hok.2 nm hnm hv _) ?_
        rintro _ J2 _ e2 ⟨cs2, rfl, hr_2, rfl⟩
        obtain ⟨o2, k2, _, rfl, -⟩ := hr_2.open
        have hf := hf.mono e2
        have hv := hv.mono e2
        have hle := hle.trans e2
        have hr_0 := hr_0.mono e2
        have hr_1 := hr_1.mono e2
        refine ⟨(.inr heldx), ?_⟩
        first | refine d_takeA 11 rfl (by kernel_rfl) rfl (.inr heldx) (y_indexAddrD rfl rfl _ rfl (by first | omega | exact lt_of (by assumption) (by decide) | (simp; done) | (simp; omega) | decide | (simp at *; omega)) (by first | assumption | exact FormAt.nil (by assumption) | exact Strs.nil' (by assumption) | exact Nums.nil' (by assumption) | exact Raw.nil' (by assumption))) .free rfl ?_ | refine d_takeA 11 rfl (by kernel_rfl) rfl (.inr heldx) (y_indexAddr' rfl rfl _ rfl (by first | omega | exact lt_of (by assumption) (by decide) | (simp; done) | (simp; omega) | decide | (simp at *; omega)) (by first | rfl | assumption)) .free rfl ?_
        refine d_store 12 rfl (by kernel_rfl) rfl rfl rfl rfl rfl (by first | rfl | (simp only [List.toList_toArray, List.all_cons, List.all_nil, plainCell_buf, Bool.and_true, Bool.true_and] <;> rfl)) (by first | exact u0 | exact u1 | exact u2 | exact u3 | exact u4 | exact u5 | exact u6) (by rfl) .free (.inl (by kernel_rfl)) ?_
        refine d_done (by kernel_rfl) ?_
        refine s_inBlock ?_
        refine o_enter rfl ?_
        refine o_move rfl .free rfl ?_
        refine o_arith rfl rfl rfl (by omega) .free rfl ?_
        refine o_assign rfl .free rfl ?_
        refine o_done ?_
        refine s_round ?_
        refine s_seq ?_
        refine s_seq ?_
        refine o_enter rfl ?_
        refine o_move rfl .free rfl ?_
        refine o_move rfl .free rfl ?_
        refine o_cmp rfl rfl rfl .free rfl ?_
        refine o_done ?_
        refine s_condF rfl (by first | rfl | decide | (simp; done) | omega) ?_
        refine s_exit rfl ?_
        refine s_seq ?_
        refine o_enter rfl ?_
        refine o_load rfl (loads_ownS (by first | exact m0 | exact m1 | exact m2 | exact m3 | exact m4 | exact m5 | exact m6) (by rfl)) .free rfl ?_
        refine o_store rfl rfl rfl rfl (by first | rfl | (simp only [List.toList_toArray, List.all_cons, List.all_nil, plainCell_buf, Bool.and_true, Bool.true_and] <;> rfl)) (by first | exact u0 | exact u1 | exact u2 | exact u3 | exact u4 | exact u5 | exact u6) (by rfl) .free ?_
        refine o_done ?_
        refine s_mem (fun w h => h.f1) (s_freeze ?_)
        intro hz
        have hf := hf.mono hz
        refine s_ret (.cell rfl (by first | exact loads_still1 (by assumption) rfl | exact loads_ownS (by first | exact m0 | exact m1 | exact m2 | exact m3 | exact m4 | exact m5 | exact m6) (by rfl) | exact loads_own1 (by first | exact m0 | exact m1 | exact m2 | exact m3 | exact m4 | exact m5 | exact m6) (by rfl) rfl | exact loads_stillS (by assumption) (by rfl) | exact loads_stillF (by assumption) (by rfl) rfl) .nil) ?_
        exact ⟨_, L, hle.trans hz, (by intro _ h; first | exact h | exact dr1 h | exact dr2 h | exact dr3 h | exact dr4 h | exact dr5 h | exact dr6 h), _, rfl, .mk' rfl (.cons (hf.as 0 (.node tIf []) (by omega) rfl) (.cons (hr_0.mono hz) (.cons (hr_1.mono hz) (.cons (hr_2.mono hz) .nil)))) (fun y hy => by cases hy; exact still_set (xs := [_, _, _, _, _, _, _, _])) (by simp) hcc (by simp [maxN]) (by simp [maxN]), rfl⟩
      · skip
        have hkr : kidRange (Ex.lt z a b).tree.head = (2, 4) := rfl
        rw [hkr]
        have hlen : (Ex.lt z a b).tree.parts.length = 4 := rfl
        have hki := kids_lt' z a b
        simp only [Ex.lt.sizeOf_spec] at hlt
        simp only [Ex.ok, Bool.and_eq_true] at hok
        simp only [show (Ex.lt z a b).tree.parts = [.node tLet [], .node z [], a.tree, b.tree] from rfl, cellsF, List.cons_append, List.nil_append]
        refine o_enter rfl ?_
        refine o_move rfl .free rfl ?_
        refine o_assign rfl .free rfl ?_
        refine o_done ?_
        refine s_block ?_
        refine s_loop ?_
        refine s_seq ?_
        refine s_seq ?_
        refine o_enter rfl ?_
        refine o_move rfl .free rfl ?_
        refine o_move rfl .free rfl ?_
        refine o_cmp rfl rfl rfl .free rfl ?_
        refine o_done ?_
        refine s_condT rfl (by first | rfl | decide | (simp; done) | omega) ?_
        refine s_skip ?_
        refine s_seq ?_
        refine s_block ?_
        refine s_seq ?_
        refine o_enter rfl ?_
        refine o_load rfl (loads_ownS (by first | exact m0 | exact m1 | exact m2 | exact m3 | exact m4 | exact m5 | exact m6) (by rfl)) .free rfl ?_
        refine o_move rfl .free rfl ?_
        refine o_call rfl .free rfl (g_l2Binds hf.rep hok0 hb _ (by rw [hki]; decide) _) ?_
        rintro _ J1 _ e1 ⟨o1, k1, rfl, hs1, rfl⟩
        refine o_move rfl .free rfl ?_
        refine o_call rfl .free rfl (g_l1Has (hs1.rd _) k1 nm) ?_
        rintro _ _ _ _ ⟨rfl, rfl, rfl⟩
        refine o_not rfl .free rfl ?_
        refine o_mem (fun w h => Mem.le e1 h) ?_
        refine o_done ?_
        first | refine s_tp rfl (by simp [Ex.binds]) ?_ | refine s_tn rfl (by simp [Ex.binds]) ?_ | refine s_true (by simp [look, opd, *]) ?_
        refine d_all 13 rfl rfl ?_
        refine d_takeA 0 rfl (by kernel_rfl) rfl (.inr heldx) (y_fieldAddr rfl) .free rfl ?_
        refine d_take 1 [12] rfl (by kernel_rfl) rfl heldx (y_load rfl (loads_own1 (by first | exact m0 | exact m1 | exact m2 | exact m3 | exact m4 | exact m5 | exact m6) (by rfl) rfl)) .free rfl ?_
        refine d_takeA 2 rfl (by kernel_rfl) rfl (.inr heldx) (y_move rfl) .free rfl ?_
        refine d_takeA 3 rfl (by kernel_rfl) rfl (.inr heldx) (y_fieldAddr rfl) .free rfl ?_
        refine d_take 4 [12] rfl (by kernel_rfl) rfl heldx (y_load rfl (loads_own1 (by first | exact m0 | exact m1 | exact m2 | exact m3 | exact m4 | exact m5 | exact m6) (by rfl) rfl)) .free rfl ?_
        refine d_takeA 5 rfl (by kernel_rfl) rfl (.inr heldx) (y_move rfl) .free rfl ?_
        first | refine d_takeA 6 rfl (by kernel_rfl) rfl (.inr heldx) (y_indexAddrD rfl rfl _ rfl (by first | omega | exact lt_of (by assumption) (by decide) | (simp; done) | (simp; omega) | decide | (simp at *; omega)) (by first | assumption | exact FormAt.nil (by assumption) | exact Strs.nil' (by assumption) | exact Nums.nil' (by assumption) | exact Raw.nil' (by assumption))) .free rfl ?_ | refine d_takeA 6 rfl (by kernel_rfl) rfl (.inr heldx) (y_indexAddr' rfl rfl _ rfl (by first | omega | exact lt_of (by assumption) (by decide) | (simp; done) | (simp; omega) | decide | (simp at *; omega)) (by first | rfl | assumption)) .free rfl ?_
        refine d_take 7 [12] rfl (by kernel_rfl) rfl heldx (y_load rfl (by first | exact loads_stillS (FormAt.st (by assumption) _ (by first | omega | decide | (simp; done) | exact lt_of (by assumption) (by decide))) (by rfl) | exact loads_stillS (by assumption) (by rfl) | exact loads_rd (reads_sub (by assumption) (by intro _ h; first | exact h | exact dr1 h | exact dr2 h | exact dr3 h | exact dr4 h | exact dr5 h | exact dr6 h)) (by rfl))) .free rfl ?_
        refine d_takeA 8 rfl (by kernel_rfl) rfl (.inr heldx) (y_move rfl) .free rfl ?_
        refine d_take 9 [12] rfl (by kernel_rfl) rfl heldx (y_load rfl (loads_ownS (by first | exact m0 | exact m1 | exact m2 | exact m3 | exact m4 | exact m5 | exact m6) (by rfl))) .free rfl ?_
        refine d_call 10 rfl (by kernel_rfl) rfl rfl .free rfl (ihn (by omega) (hf.as 2 a.tree (by omega) rfl) hok.1.2 nm hnm hv _) ?_
        rintro _ J2 _ e2 ⟨cs2, rfl, hr_0, rfl⟩
        obtain ⟨o2, k2, _, rfl, -⟩ := hr_0.open
        have hf := hf.mono e2
        have hv := hv.mono e2
        have hle := hle.trans e2
        refine ⟨(.inr heldx), ?_⟩
        first | refine d_takeA 11 rfl (by kernel_rfl) rfl (.inr heldx) (y_indexAddrD rfl rfl _ rfl (by first | omega | exact lt_of (by assumption) (by decide) | (simp; done) | (simp; omega) | decide | (simp at *; omega)) (by first | assumption | exact FormAt.nil (by assumption) | exact Strs.nil' (by assumption) | exact Nums.nil' (by assumption) | exact Raw.nil' (by assumption))) .free rfl ?_ | refine d_takeA 11 rfl (by kernel_rfl) rfl (.inr heldx) (y_indexAddr' rfl rfl _ rfl (by first | omega | exact lt_of (by assumption) (by decide) | (simp; done) | (simp; omega) | decide | (simp at *; omega)) (by first | rfl | assumption)) .free rfl ?_
        refine d_store 12 rfl (by kernel_rfl) rfl rfl rfl rfl rfl (by first | rfl | (simp only [List.toList_toArray, List.all_cons, List.all_nil, plainCell_buf, Bool.and_true, Bool.true_and] <;> rfl)) (by first | exact u0 | exact u1 | exact u2 | exact u3 | exact u4 | exact u5 | exact u6) (by rfl) .free (.inl (by kernel_rfl)) ?_
        refine d_done (by kernel_rfl) ?_
        refine s_inBlock ?_
        refine o_enter rfl ?_
        refine o_move rfl .free rfl ?_
        refine o_arith rfl rfl rfl (by omega) .free rfl ?_
        refine o_assign rfl .free rfl ?_
        refine o_done ?_
        refine s_round ?_
        refine s_seq ?_
        refine s_seq ?_
        refine o_enter rfl ?_
        refine o_move rfl .free rfl ?_
        refine o_move rfl .free rfl ?_
        refine o_cmp rfl rfl rfl .free rfl ?_
        refine o_done ?_
        refine s_condT rfl (by first | rfl | decide | (simp; done) | omega) ?_
        refine s_skip ?_
        refine s_seq ?_
        refine s_block ?_
        refine s_seq ?_
        refine o_enter rfl ?_
        refine o_load rfl (loads_ownS (by first | exact m0 | exact m1 | exact m2 | exact m3 | exact m4 | exact m5 | exact m6) (by rfl)) .free rfl ?_
        refine o_move rfl .free rfl ?_
        refine o_call rfl .free rfl (g_l2Binds hf.rep hok0 hb _ (by rw [hki]; decide) _) ?_
        rintro _ J1 _ e1 ⟨o1, k1, rfl, hs1, rfl⟩
        refine o_move rfl .free rfl ?_
        refine o_call rfl .free rfl (g_l1Has (hs1.rd _) k1 nm) ?_
        rintro _ _ _ _ ⟨rfl, rfl, rfl⟩
        refine o_not rfl .free rfl ?_
        refine o_mem (fun w h => Mem.le e1 h) ?_
        refine o_done ?_
        refine s_cond rfl ?_ ?_
        · intro c3
          try simp only [Bool.and_eq_true, Bool.or_eq_true, Bool.not_eq_true', Bool.not_eq_false', Bool.and_eq_false_iff, Bool.or_eq_false_iff, decide_eq_true_eq, decide_eq_false_iff_not] at c3
          have c3 : ¬ nm ∈ [z] := c3
          refine d_all 13 rfl rfl ?_
          refine d_takeA 0 rfl (by kernel_rfl) rfl (.inr heldx) (y_fieldAddr rfl) .free rfl ?_
          refine d_take 1 [12] rfl (by kernel_rfl) rfl heldx (y_load rfl (loads_own1 (by first | exact m0 | exact m1 | exact m2 | exact m3 | exact m4 | exact m5 | exact m6) (by rfl) rfl)) .free rfl ?_
          refine d_takeA 2 rfl (by kernel_rfl) rfl (.inr heldx) (y_move rfl) .free rfl ?_
          refine d_takeA 3 rfl (by kernel_rfl) rfl (.inr heldx) (y_fieldAddr rfl) .free rfl ?_
          refine d_take 4 [12] rfl (by kernel_rfl) rfl heldx (y_load rfl (loads_own1 (by first | exact m0 | exact m1 | exact m2 | exact m3 | exact m4 | exact m5 | exact m6) (by rfl) rfl)) .free rfl ?_
          refine d_takeA 5 rfl (by kernel_rfl) rfl (.inr heldx) (y_move rfl) .free rfl ?_
          first | refine d_takeA 6 rfl (by kernel_rfl) rfl (.inr heldx) (y_indexAddrD rfl rfl _ rfl (by first | omega | exact lt_of (by assumption) (by decide) | (simp; done) | (simp; omega) | decide | (simp at *; omega)) (by first | assumption | exact FormAt.nil (by assumption) | exact Strs.nil' (by assumption) | exact Nums.nil' (by assumption) | exact Raw.nil' (by assumption))) .free rfl ?_ | refine d_takeA 6 rfl (by kernel_rfl) rfl (.inr heldx) (y_indexAddr' rfl rfl _ rfl (by first | omega | exact lt_of (by assumption) (by decide) | (simp; done) | (simp; omega) | decide | (simp at *; omega)) (by first | rfl | assumption)) .free rfl ?_
          refine d_take 7 [12] rfl (by kernel_rfl) rfl heldx (y_load rfl (by first | exact loads_stillS (FormAt.st (by assumption) _ (by first | omega | decide | (simp; done) | exact lt_of (by assumption) (by decide))) (by rfl) | exact loads_stillS (by assumption) (by rfl) | exact loads_rd (reads_sub (by assumption) (by intro _ h; first | exact h | exact dr1 h | exact dr2 h | exact dr3 h | exact dr4 h | exact dr5 h | exact dr6 h)) (by rfl))) .free rfl ?_
          refine d_takeA 8 rfl (by kernel_rfl) rfl (.inr heldx) (y_move rfl) .free rfl ?_
          refine d_take 9 [12] rfl (by kernel_rfl) rfl heldx (y_load rfl (loads_ownS (by first | exact m0 | exact m1 | exact m2 | exact m3 | exact m4 | exact m5 | exact m6) (by rfl))) .free rfl ?_
          refine d_call 10 rfl (by kernel_rfl) rfl rfl .free rfl (ihn (by omega) (hf.as 3 b.tree (by omega) rfl) hok.2 nm hnm hv _) ?_
          rintro _ J2 _ e2 ⟨cs2, rfl, hr_1, rfl⟩
          obtain ⟨o2, k2, _, rfl, -⟩ := hr_1.open
          have hf := hf.mono e2
          have hv := hv.mono e2
          have hle := hle.trans e2
          have hr_0 := hr_0.mono e2
          refine ⟨(.inr heldx), ?_⟩
          first | refine d_takeA 11 rfl (by kernel_rfl) rfl (.inr heldx) (y_indexAddrD rfl rfl _ rfl (by first | omega | exact lt_of (by assumption) (by decide) | (simp; done) | (simp; omega) | decide | (simp at *; omega)) (by first | assumption | exact FormAt.nil (by assumption) | exact Strs.nil' (by assumption) | exact Nums.nil' (by assumption) | exact Raw.nil' (by assumption))) .free rfl ?_ | refine d_takeA 11 rfl (by kernel_rfl) rfl (.inr heldx) (y_indexAddr' rfl rfl _ rfl (by first | omega | exact lt_of (by assumption) (by decide) | (simp; done) | (simp; omega) | decide | (simp at *; omega)) (by first | rfl | assumption)) .free rfl ?_
          refine d_store 12 rfl (by kernel_rfl) rfl rfl rfl rfl rfl (by first | rfl | (simp only [List.toList_toArray, List.all_cons, List.all_nil, plainCell_buf, Bool.and_true, Bool.true_and] <;> rfl)) (by first | exact u0 | exact u1 | exact u2 | exact u3 | exact u4 | exact u5 | exact u6) (by rfl) .free (.inl (by kernel_rfl)) ?_
          refine d_done (by kernel_rfl) ?_
          refine s_inBlock ?_
          refine o_enter rfl ?_
          refine o_move rfl .free rfl ?_
          refine o_arith rfl rfl rfl (by omega) .free rfl ?_
          refine o_assign rfl .free rfl ?_
          refine o_done ?_
          refine s_round ?_
          refine s_seq ?_
          refine s_seq ?_
          refine o_enter rfl ?_
          refine o_move rfl .free rfl ?_
          refine o_move rfl .free rfl ?_
          refine o_cmp rfl rfl rfl .free rfl ?_
          refine o_done ?_
          refine s_condF rfl (by first | rfl | decide | (simp; done) | omega) ?_
          refine s_exit rfl ?_
          refine s_seq ?_
          refine o_enter rfl ?_
          refine o_load rfl (loads_ownS (by first | exact m0 | exact m1 | exact m2 | exact m3 | exact m4 | exact m5 | exact m6) (by rfl)) .free rfl ?_
          refine o_store rfl rfl rfl rfl (by first | rfl | (simp only [List.toList_toArray, List.all_cons, List.all_nil, plainCell_buf, Bool.and_true, Bool.true_and] <;> rfl)) (by first | exact u0 | exact u1 | exact u2 | exact u3 | exact u4 | exact u5 | exact u6) (by rfl) .free ?_
          refine o_done ?_
          refine s_mem (fun w h => h.f1) (s_freeze ?_)
          intro hz
          have hf := hf.mono hz
          refine s_ret (.cell rfl (by first | exact loads_still1 (by assumption) rfl | exact loads_ownS (by first | exact m0 | exact m1 | exact m2 | exact m3 | exact m4 | exact m5 | exact m6) (by rfl) | exact loads_own1 (by first | exact m0 | exact m1 | exact m2 | exact m3 | exact m4 | exact m5 | exact m6) (by rfl) rfl | exact loads_stillS (by assumption) (by rfl) | exact loads_stillF (by assumption) (by rfl) rfl) .nil) ?_
          first
            | (have hput : (Ex.lt z a b).put nm v = .lt z (a.put nm v) (b.put nm v) := by
                 have : ¬ z = nm := fun h => c3 (by simp [h])
                 simp [Ex.put, this]
               rw [hput]
               exact ⟨_, L, hle.trans hz, (by intro _ h; first | exact h | exact dr1 h | exact dr2 h | exact dr3 h | exact dr4 h | exact dr5 h | exact dr6 h), _, rfl, .mk' rfl (.cons (hf.as 0 (.node tLet []) (by omega) rfl) (.cons (hf.as 1 (.node z []) (by omega) rfl) (.cons (hr_0.mono hz) (.cons (hr_1.mono hz) .nil)))) (fun y hy => by cases hy; exact still_set (xs := [_, _, _, _, _, _, _, _])) (by simp) hcc (by simp [maxN]) (by simp [maxN]), rfl⟩)
            | (have hput : (Ex.lt z a b).put nm v = .lt z (a.put nm v) b := by
                 have : nm = z := by simpa using c3
                 simp [Ex.put, this]
               rw [hput]
               exact ⟨_, L, hle.trans hz, (by intro _ h; first | exact h | exact dr1 h | exact dr2 h | exact dr3 h | exact dr4 h | exact dr5 h | exact dr6 h), _, rfl, .mk' rfl (.cons (hf.as 0 (.node tLet []) (by omega) rfl) (.cons (hf.as 1 (.node z []) (by omega) rfl) (.cons (hr_0.mono hz) (.cons (hf.as 3 b.tree (by omega) rfl) .nil)))) (fun y hy => by cases hy; exact still_set (xs := [_, _, _, _, _, _, _, _])) (by simp) hcc (by simp [maxN]) (by simp [maxN]), rfl⟩)
        · intro c3
          try simp only [Bool.and_eq_true, Bool.or_eq_true, Bool.not_eq_true', Bool.not_eq_false', Bool.and_eq_false_iff, Bool.or_eq_false_iff, decide_eq_true_eq, decide_eq_false_iff_not] at c3
          have c3 : nm ∈ [z] := c3
          refine s_skip ?_
          refine s_inBlock ?_
          refine o_enter rfl ?_
          refine o_move rfl .free rfl ?_
          refine o_arith rfl rfl rfl (by omega) .free rfl ?_
          refine o_assign rfl .free rfl ?_
          refine o_done ?_
          refine s_round ?_
          refine s_seq ?_
          refine s_seq ?_
          refine o_enter rfl ?_
          refine o_move rfl .free rfl ?_
          refine o_move rfl .free rfl ?_
          refine o_cmp rfl rfl rfl .free rfl ?_
          refine o_done ?_
          refine s_condF rfl (by first | rfl | decide | (simp; done) | omega) ?_
          refine s_exit rfl ?_
          refine s_seq ?_
          refine o_enter rfl ?_
          refine o_load rfl (loads_ownS (by first | exact m0 | exact m1 | exact m2 | exact m3 | exact m4 | exact m5 | exact m6) (by rfl)) .free rfl ?_
          refine o_store rfl rfl rfl rfl (by first | rfl | (simp only [List.toList_toArray, List.all_cons, List.all_nil, plainCell_buf, Bool.and_true, Bool.true_and] <;> rfl)) (by first | exact u0 | exact u1 | exact u2 | exact u3 | exact u4 | exact u5 | exact u6) (by rfl) .free ?_
          refine o_done ?_
          refine s_mem (fun w h => h.f1) (s_freeze ?_)
          intro hz
          have hf := hf.mono hz
          refine s_ret (.cell rfl (by first | exact loads_still1 (by assumption) rfl | exact loads_ownS (by first | exact m0 | exact m1 | exact m2 | exact m3 | exact m4 | exact m5 | exact m6) (by rfl) | exact loads_own1 (by first | exact m0 | exact m1 | exact m2 | exact m3 | exact m4 | exact m5 | exact m6) (by rfl) rfl | exact loads_stillS (by assumption) (by rfl) | exact loads_stillF (by assumption) (by rfl) rfl) .nil) ?_
          first
            | (have hput : (Ex.lt z a b).put nm v = .lt z (a.put nm v) (b.put nm v) := by
                 have : ¬ z = nm := fun h => c3 (by simp [h])
                 simp [Ex.put, this]
               rw [hput]
               exact ⟨_, L, hle.trans hz, (by intro _ h; first | exact h | exact dr1 h | exact dr2 h | exact dr3 h | exact dr4 h | exact dr5 h | exact dr6 h), _, rfl, .mk' rfl (.cons (hf.as 0 (.node tLet []) (by omega) rfl) (.cons (hf.as 1 (.node z []) (by omega) rfl) (.cons (hr_0.mono hz) (.cons (hr_1.mono hz) .nil)))) (fun y hy => by cases hy; exact still_set (xs := [_, _, _, _, _, _, _, _])) (by simp) hcc (by simp [maxN]) (by simp [maxN]), rfl⟩)
            | (have hput : (Ex.lt z a b).put nm v = .lt z (a.put nm v) b := by
                 have : nm = z := by simpa using c3
                 simp [Ex.put, this]
               rw [hput]
               exact ⟨_, L, hle.trans hz, (by intro _ h; first | exact h | exact dr1 h | exact dr2 h | exact dr3 h | exact dr4 h | exact dr5 h | exact dr6 h), _, rfl, .mk' rfl (.cons (hf.as 0 (.node tLet []) (by omega) rfl) (.cons (hf.as 1 (.node z []) (by omega) rfl) (.cons (hr_0.mono hz) (.cons (hf.as 3 b.tree (by omega) rfl) .nil)))) (fun y hy => by cases hy; exact still_set (xs := [_, _, _, _, _, _, _, _])) (by simp) hcc (by simp [maxN]) (by simp [maxN]), rfl⟩)
      · skip
        have hkr : kidRange (Ex.fn g z s t b).tree.head = (5, 6) := rfl
        rw [hkr]
        have hlen : (Ex.fn g z s t b).tree.parts.length = 6 := rfl
        have hki := kids_fn g z s t b
        simp only [Ex.fn.sizeOf_spec] at hlt
        simp only [Ex.ok, Bool.and_eq_true] at hok
        simp only [show (Ex.fn g z s t b).tree.parts = [.node tFun [], .node g [], .node z [], s.tree, t.tree, b.tree] from rfl, cellsF, List.cons_append, List.nil_append]
        refine o_enter rfl ?_
        refine o_move rfl .free rfl ?_
        refine o_assign rfl .free rfl ?_
        refine o_done ?_
        refine s_block ?_
        refine s_loop ?_
        refine s_seq ?_
        refine s_seq ?_
        refine o_enter rfl ?_
        refine o_move rfl .free rfl ?_
        refine o_move rfl .free rfl ?_
        refine o_cmp rfl rfl rfl .free rfl ?_
        refine o_done ?_
        refine s_condT rfl (by first | rfl | decide | (simp; done) | omega) ?_
        refine s_skip ?_
        refine s_seq ?_
        refine s_block ?_
        refine s_seq ?_
        refine o_enter rfl ?_
        refine o_load rfl (loads_ownS (by first | exact m0 | exact m1 | exact m2 | exact m3 | exact m4 | exact m5 | exact m6) (by rfl)) .free rfl ?_
        refine o_move rfl .free rfl ?_
        refine o_call rfl .free rfl (g_l2Binds hf.rep hok0 hb _ (by rw [hki]; decide) _) ?_
        rintro _ J1 _ e1 ⟨o1, k1, rfl, hs1, rfl⟩
        refine o_move rfl .free rfl ?_
        refine o_call rfl .free rfl (g_l1Has (hs1.rd _) k1 nm) ?_
        rintro _ _ _ _ ⟨rfl, rfl, rfl⟩
        refine o_not rfl .free rfl ?_
        refine o_mem (fun w h => Mem.le e1 h) ?_
        refine o_done ?_
        refine s_cond rfl ?_ ?_
        · intro c3
          try simp only [Bool.and_eq_true, Bool.or_eq_true, Bool.not_eq_true', Bool.not_eq_false', Bool.and_eq_false_iff, Bool.or_eq_false_iff, decide_eq_true_eq, decide_eq_false_iff_not] at c3
          have c3 : ¬ nm ∈ [g, z] := c3
          refine d_all 13 rfl rfl ?_
          refine d_takeA 0 rfl (by kernel_rfl) rfl (.inr heldx) (y_fieldAddr rfl) .free rfl ?_
          refine d_take 1 [12] rfl (by kernel_rfl) rfl heldx (y_load rfl (loads_own1 (by first | exact m0 | exact m1 | exact m2 | exact m3 | exact m4 | exact m5 | exact m6) (by rfl) rfl)) .free rfl ?_
          refine d_takeA 2 rfl (by kernel_rfl) rfl (.inr heldx) (y_move rfl) .free rfl ?_
          refine d_takeA 3 rfl (by kernel_rfl) rfl (.inr heldx) (y_fieldAddr rfl) .free rfl ?_
          refine d_take 4 [12] rfl (by kernel_rfl) rfl heldx (y_load rfl (loads_own1 (by first | exact m0 | exact m1 | exact m2 | exact m3 | exact m4 | exact m5 | exact m6) (by rfl) rfl)) .free rfl ?_
          refine d_takeA 5 rfl (by kernel_rfl) rfl (.inr heldx) (y_move rfl) .free rfl ?_
          first | refine d_takeA 6 rfl (by kernel_rfl) rfl (.inr heldx) (y_indexAddrD rfl rfl _ rfl (by first | omega | exact lt_of (by assumption) (by decide) | (simp; done) | (simp; omega) | decide | (simp at *; omega)) (by first | assumption | exact FormAt.nil (by assumption) | exact Strs.nil' (by assumption) | exact Nums.nil' (by assumption) | exact Raw.nil' (by assumption))) .free rfl ?_ | refine d_takeA 6 rfl (by kernel_rfl) rfl (.inr heldx) (y_indexAddr' rfl rfl _ rfl (by first | omega | exact lt_of (by assumption) (by decide) | (simp; done) | (simp; omega) | decide | (simp at *; omega)) (by first | rfl | assumption)) .free rfl ?_
          refine d_take 7 [12] rfl (by kernel_rfl) rfl heldx (y_load rfl (by first | exact loads_stillS (FormAt.st (by assumption) _ (by first | omega | decide | (simp; done) | exact lt_of (by assumption) (by decide))) (by rfl) | exact loads_stillS (by assumption) (by rfl) | exact loads_rd (reads_sub (by assumption) (by intro _ h; first | exact h | exact dr1 h | exact dr2 h | exact dr3 h | exact dr4 h | exact dr5 h | exact dr6 h)) (by rfl))) .free rfl ?_
          refine d_takeA 8 rfl (by kernel_rfl) rfl (.inr heldx) (y_move rfl) .free rfl ?_
          refine d_take 9 [12] rfl (by kernel_rfl) rfl heldx (y_load rfl (loads_ownS (by first | exact m0 | exact m1 | exact m2 | exact m3 | exact m4 | exact m5 | exact m6) (by rfl))) .free rfl ?_
          refine d_call 10 rfl (by kernel_rfl) rfl rfl .free rfl (ihn (by omega) (hf.as 5 b.tree (by omega) rfl) hok.2 nm hnm hv _) ?_
          rintro _ J2 _ e2 ⟨cs2, rfl, hr_0, rfl⟩
          obtain ⟨o2, k2, _, rfl, -⟩ := hr_0.open
          have hf := hf.mono e2
          have hv := hv.mono e2
          have hle := hle.trans e2
          refine ⟨(.inr heldx), ?_⟩
          first | refine d_takeA 11 rfl (by kernel_rfl) rfl (.inr heldx) (y_indexAddrD rfl rfl _ rfl (by first | omega | exact lt_of (by assumption) (by decide) | (simp; done) | (simp; omega) | decide | (simp at *; omega)) (by first | assumption | exact FormAt.nil (by assumption) | exact Strs.nil' (by assumption) | exact Nums.nil' (by assumption) | exact Raw.nil' (by assumption))) .free rfl ?_ | refine d_takeA 11 rfl (by kernel_rfl) rfl (.inr heldx) (y_indexAddr' rfl rfl _ rfl (by first | omega | exact lt_of (by assumption) (by decide) | (simp; done) | (simp; omega) | decide | (simp at *; omega)) (by first | rfl | assumption)) .free rfl ?_
          refine d_store 12 rfl (by kernel_rfl) rfl rfl rfl rfl rfl (by first | rfl | (simp only [List.toList_toArray, List.all_cons, List.all_nil, plainCell_buf, Bool.and_true, Bool.true_and] <;> rfl)) (by first | exact u0 | exact u1 | exact u2 | exact u3 | exact u4 | exact u5 | exact u6) (by rfl) .free (.inl (by kernel_rfl)) ?_
          refine d_done (by kernel_rfl) ?_
          refine s_inBlock ?_
          refine o_enter rfl ?_
          refine o_move rfl .free rfl ?_
          refine o_arith rfl rfl rfl (by omega) .free rfl ?_
          refine o_assign rfl .free rfl ?_
          refine o_done ?_
          refine s_round ?_
          refine s_seq ?_
          refine s_seq ?_
          refine o_enter rfl ?_
          refine o_move rfl .free rfl ?_
          refine o_move rfl .free rfl ?_
          refine o_cmp rfl rfl rfl .free rfl ?_
          refine o_done ?_
          refine s_condF rfl (by first | rfl | decide | (simp; done) | omega) ?_
          refine s_exit rfl ?_
          refine s_seq ?_
          refine o_enter rfl ?_
          refine o_load rfl (loads_ownS (by first | exact m0 | exact m1 | exact m2 | exact m3 | exact m4 | exact m5 | exact m6) (by rfl)) .free rfl ?_
          refine o_store rfl rfl rfl rfl (by first | rfl | (simp only [List.toList_toArray, List.all_cons, List.all_nil, plainCell_buf, Bool.and_true, Bool.true_and] <;> rfl)) (by first | exact u0 | exact u1 | exact u2 | exact u3 | exact u4 | exact u5 | exact u6) (by rfl) .free ?_
          refine o_done ?_
          refine s_mem (fun w h => h.f1) (s_freeze ?_)
          intro hz
          have hf := hf.mono hz
          refine s_ret (.cell rfl (by first | exact loads_still1 (by assumption) rfl | exact loads_ownS (by first | exact m0 | exact m1 | exact m2 | exact m3 | exact m4 | exact m5 | exact m6) (by rfl) | exact loads_own1 (by first | exact m0 | exact m1 | exact m2 | exact m3 | exact m4 | exact m5 | exact m6) (by rfl) rfl | exact loads_stillS (by assumption) (by rfl) | exact loads_stillF (by assumption) (by rfl) rfl) .nil) ?_
          first
            | (have hput : (Ex.fn g z s t b).put nm v = .fn g z s t (b.put nm v) := by
                 have h1 : ¬ (g = nm ∨ z = nm) := by rintro (h | h) <;> exact c3 (by simp [h])
                 simp only [Ex.put]; rw [if_neg h1]
               rw [hput]
               exact ⟨_, L, hle.trans hz, (by intro _ h; first | exact h | exact dr1 h | exact dr2 h | exact dr3 h | exact dr4 h | exact dr5 h | exact dr6 h), _, rfl, .mk' rfl (.cons (hf.as 0 (.node tFun []) (by omega) rfl) (.cons (hf.as 1 (.node g []) (by omega) rfl) (.cons (hf.as 2 (.node z []) (by omega) rfl) (.cons (hf.as 3 (s.tree) (by omega) rfl) (.cons (hf.as 4 (t.tree) (by omega) rfl) (.cons (hr_0.mono hz) .nil)))))) (fun y hy => by cases hy; exact still_set (xs := [_, _, _, _, _, _, _, _, _, _, _, _])) (by simp) hcc (by simp [maxN]) (by simp [maxN]), rfl⟩)
            | (have hput : (Ex.fn g z s t b).put nm v = .fn g z s t b := by
                 have h1 : g = nm ∨ z = nm := by simp at c3; rcases c3 with h | h <;> simp [h]
                 simp only [Ex.put]; rw [if_pos h1]
               rw [hput]
               exact ⟨_, L, hle.trans hz, (by intro _ h; first | exact h | exact dr1 h | exact dr2 h | exact dr3 h | exact dr4 h | exact dr5 h | exact dr6 h), _, rfl, .mk' rfl (.cons (hf.as 0 (.node tFun []) (by omega) rfl) (.cons (hf.as 1 (.node g []) (by omega) rfl) (.cons (hf.as 2 (.node z []) (by omega) rfl) (.cons (hf.as 3 (s.tree) (by omega) rfl) (.cons (hf.as 4 (t.tree) (by omega) rfl) (.cons (hf.as 5 b.tree (by omega) rfl) .nil)))))) (fun y hy => by cases hy; exact still_set (xs := [_, _, _, _, _, _, _, _, _, _, _, _])) (by simp) hcc (by simp [maxN]) (by simp [maxN]), rfl⟩)
        · intro c3
          try simp only [Bool.and_eq_true, Bool.or_eq_true, Bool.not_eq_true', Bool.not_eq_false', Bool.and_eq_false_iff, Bool.or_eq_false_iff, decide_eq_true_eq, decide_eq_false_iff_not] at c3
          have c3 : nm ∈ [g, z] := c3
          refine s_skip ?_
          refine s_inBlock ?_
          refine o_enter rfl ?_
          refine o_move rfl .free rfl ?_
          refine o_arith rfl rfl rfl (by omega) .free rfl ?_
          refine o_assign rfl .free rfl ?_
          refine o_done ?_
          refine s_round ?_
          refine s_seq ?_
          refine s_seq ?_
          refine o_enter rfl ?_
          refine o_move rfl .free rfl ?_
          refine o_move rfl .free rfl ?_
          refine o_cmp rfl rfl rfl .free rfl ?_
          refine o_done ?_
          refine s_condF rfl (by first | rfl | decide | (simp; done) | omega) ?_
          refine s_exit rfl ?_
          refine s_seq ?_
          refine o_enter rfl ?_
          refine o_load rfl (loads_ownS (by first | exact m0 | exact m1 | exact m2 | exact m3 | exact m4 | exact m5 | exact m6) (by rfl)) .free rfl ?_
          refine o_store rfl rfl rfl rfl (by first | rfl | (simp only [List.toList_toArray, List.all_cons, List.all_nil, plainCell_buf, Bool.and_true, Bool.true_and] <;> rfl)) (by first | exact u0 | exact u1 | exact u2 | exact u3 | exact u4 | exact u5 | exact u6) (by rfl) .free ?_
          refine o_done ?_
          refine s_mem (fun w h => h.f1) (s_freeze ?_)
          intro hz
          have hf := hf.mono hz
          refine s_ret (.cell rfl (by first | exact loads_still1 (by assumption) rfl | exact loads_ownS (by first | exact m0 | exact m1 | exact m2 | exact m3 | exact m4 | exact m5 | exact m6) (by rfl) | exact loads_own1 (by first | exact m0 | exact m1 | exact m2 | exact m3 | exact m4 | exact m5 | exact m6) (by rfl) rfl | exact loads_stillS (by assumption) (by rfl) | exact loads_stillF (by assumption) (by rfl) rfl) .nil) ?_
          first
            | (have hput : (Ex.fn g z s t b).put nm v = .fn g z s t (b.put nm v) := by
                 have h1 : ¬ (g = nm ∨ z = nm) := by rintro (h | h) <;> exact c3 (by simp [h])
                 simp only [Ex.put]; rw [if_neg h1]
               rw [hput]
               exact ⟨_, L, hle.trans hz, (by intro _ h; first | exact h | exact dr1 h | exact dr2 h | exact dr3 h | exact dr4 h | exact dr5 h | exact dr6 h), _, rfl, .mk' rfl (.cons (hf.as 0 (.node tFun []) (by omega) rfl) (.cons (hf.as 1 (.node g []) (by omega) rfl) (.cons (hf.as 2 (.node z []) (by omega) rfl) (.cons (hf.as 3 (s.tree) (by omega) rfl) (.cons (hf.as 4 (t.tree) (by omega) rfl) (.cons (hr_0.mono hz) .nil)))))) (fun y hy => by cases hy; exact still_set (xs := [_, _, _, _, _, _, _, _, _, _, _, _])) (by simp) hcc (by simp [maxN]) (by simp [maxN]), rfl⟩)
            | (have hput : (Ex.fn g z s t b).put nm v = .fn g z s t b := by
                 have h1 : g = nm ∨ z = nm := by simp at c3; rcases c3 with h | h <;> simp [h]
                 simp only [Ex.put]; rw [if_pos h1]
               rw [hput]
               exact ⟨_, L, hle.trans hz, (by intro _ h; first | exact h | exact dr1 h | exact dr2 h | exact dr3 h | exact dr4 h | exact dr5 h | exact dr6 h), _, rfl, .mk' rfl (.cons (hf.as 0 (.node tFun []) (by omega) rfl) (.cons (hf.as 1 (.node g []) (by omega) rfl) (.cons (hf.as 2 (.node z []) (by omega) rfl) (.cons (hf.as 3 (s.tree) (by omega) rfl) (.cons (hf.as 4 (t.tree) (by omega) rfl) (.cons (hf.as 5 b.tree (by omega) rfl) .nil)))))) (fun y hy => by cases hy; exact still_set (xs := [_, _, _, _, _, _, _, _, _, _, _, _])) (by simp) hcc (by simp [maxN]) (by simp [maxN]), rfl⟩)
      · skip
        have hkr : kidRange (Ex.un o a).tree.head = (1, 2) := by cases o <;> rfl
        rw [hkr]
        have hlen : (Ex.un o a).tree.parts.length = 2 := rfl
        have hki := kids_un o a
        simp only [Ex.un.sizeOf_spec] at hlt
        simp only [Ex.ok, Bool.and_eq_true] at hok
        simp only [show (Ex.un o a).tree.parts = [.node o.txt [], a.tree] from rfl, cellsF, List.cons_append, List.nil_append]
        refine o_enter rfl ?_
        refine o_move rfl .free rfl ?_
        refine o_assign rfl .free rfl ?_
        refine o_done ?_
        refine s_block ?_
        refine s_loop ?_
        refine s_seq ?_
        refine s_seq ?_
        refine o_enter rfl ?_
        refine o_move rfl .free rfl ?_
        refine o_move rfl .free rfl ?_
        refine o_cmp rfl rfl rfl .free rfl ?_
        refine o_done ?_
        refine s_condT rfl (by first | rfl | decide | (simp; done) | omega) ?_
        refine s_skip ?_
        refine s_seq ?_
        refine s_block ?_
        refine s_seq ?_
        refine o_enter rfl ?_
        refine o_load rfl (loads_ownS (by first | exact m0 | exact m1 | exact m2 | exact m3 | exact m4 | exact m5 | exact m6) (by rfl)) .free rfl ?_
        refine o_move rfl .free rfl ?_
        refine o_call rfl .free rfl (g_l2Binds hf.rep hok0 hb _ (by rw [hki]; decide) _) ?_
        rintro _ J1 _ e1 ⟨o1, k1, rfl, hs1, rfl⟩
        refine o_move rfl .free rfl ?_
        refine o_call rfl .free rfl (g_l1Has (hs1.rd _) k1 nm) ?_
        rintro _ _ _ _ ⟨rfl, rfl, rfl⟩
        refine o_not rfl .free rfl ?_
        refine o_mem (fun w h => Mem.le e1 h) ?_
        refine o_done ?_
        first | refine s_tp rfl (by simp [Ex.binds]) ?_ | refine s_tn rfl (by simp [Ex.binds]) ?_ | refine s_true (by simp [look, opd, *]) ?_
        refine d_all 13 rfl rfl ?_
        refine d_takeA 0 rfl (by kernel_rfl) rfl (.inr heldx) (y_fieldAddr rfl) .free rfl ?_
        refine d_take 1 [12] rfl (by kernel_rfl) rfl heldx (y_load rfl (loads_own1 (by first | exact m0 | exact m1 | exact m2 | exact m3 | exact m4 | exact m5 | exact m6) (by rfl) rfl)) .free rfl ?_
        refine d_takeA 2 rfl (by kernel_rfl) rfl (.inr heldx) (y_move rfl) .free rfl ?_
        refine d_takeA 3 rfl (by kernel_rfl) rfl (.inr heldx) (y_fieldAddr rfl) .free rfl ?_
        refine d_take 4 [12] rfl (by kernel_rfl) rfl heldx (y_load rfl (loads_own1 (by first | exact m0 | exact m1 | exact m2 | exact m3 | exact m4 | exact m5 | exact m6) (by rfl) rfl)) .free rfl ?_
        refine d_takeA 5 rfl (by kernel_rfl) rfl (.inr heldx) (y_move rfl) .free rfl ?_
        first | refine d_takeA 6 rfl (by kernel_rfl) rfl (.inr heldx) (y_indexAddrD rfl rfl _ rfl (by first | omega | exact lt_of (by assumption) (by decide) | (simp; done) | (simp; omega) | decide | (simp at *; omega)) (by first | assumption | exact FormAt.nil (by assumption) | exact Strs.nil' (by assumption) | exact Nums.nil' (by assumption) | exact Raw.nil' (by assumption))) .free rfl ?_ | refine d_takeA 6 rfl (by kernel_rfl) rfl (.inr heldx) (y_indexAddr' rfl rfl _ rfl (by first | omega | exact lt_of (by assumption) (by decide) | (simp; done) | (simp; omega) | decide | (simp at *; omega)) (by first | rfl | assumption)) .free rfl ?_
        refine d_take 7 [12] rfl (by kernel_rfl) rfl heldx (y_load rfl (by first | exact loads_stillS (FormAt.st (by assumption) _ (by first | omega | decide | (simp; done) | exact lt_of (by assumption) (by decide))) (by rfl) | exact loads_stillS (by assumption) (by rfl) | exact loads_rd (reads_sub (by assumption) (by intro _ h; first | exact h | exact dr1 h | exact dr2 h | exact dr3 h | exact dr4 h | exact dr5 h | exact dr6 h)) (by rfl))) .free rfl ?_
        refine d_takeA 8 rfl (by kernel_rfl) rfl (.inr heldx) (y_move rfl) .free rfl ?_
        refine d_take 9 [12] rfl (by kernel_rfl) rfl heldx (y_load rfl (loads_ownS (by first | exact m0 | exact m1 | exact m2 | exact m3 | exact m4 | exact m5 | exact m6) (by rfl))) .free rfl ?_
        refine d_call 10 rfl (by kernel_rfl) rfl rfl .free rfl (ihn (by omega) (hf.as 1 a.tree (by omega) rfl) hok nm hnm hv _) ?_
        rintro _ J2 _ e2 ⟨cs2, rfl, hr_0, rfl⟩
        obtain ⟨o2, k2, _, rfl, -⟩ := hr_0.open
        have hf := hf.mono e2
        have hv := hv.mono e2
        have hle := hle.trans e2
        refine ⟨(.inr heldx), ?_⟩
        first | refine d_takeA 11 rfl (by kernel_rfl) rfl (.inr heldx) (y_indexAddrD rfl rfl _ rfl (by first | omega | exact lt_of (by assumption) (by decide) | (simp; done) | (simp; omega) | decide | (simp at *; omega)) (by first | assumption | exact FormAt.nil (by assumption) | exact Strs.nil' (by assumption) | exact Nums.nil' (by assumption) | exact Raw.nil' (by assumption))) .free rfl ?_ | refine d_takeA 11 rfl (by kernel_rfl) rfl (.inr heldx) (y_indexAddr' rfl rfl _ rfl (by first | omega | exact lt_of (by assumption) (by decide) | (simp; done) | (simp; omega) | decide | (simp at *; omega)) (by first | rfl | assumption)) .free rfl ?_
        refine d_store 12 rfl (by kernel_rfl) rfl rfl rfl rfl rfl (by first | rfl | (simp only [List.toList_toArray, List.all_cons, List.all_nil, plainCell_buf, Bool.and_true, Bool.true_and] <;> rfl)) (by first | exact u0 | exact u1 | exact u2 | exact u3 | exact u4 | exact u5 | exact u6) (by rfl) .free (.inl (by kernel_rfl)) ?_
        refine d_done (by kernel_rfl) ?_
        refine s_inBlock ?_
        refine o_enter rfl ?_
        refine o_move rfl .free rfl ?_
        refine o_arith rfl rfl rfl (by omega) .free rfl ?_
        refine o_assign rfl .free rfl ?_
        refine o_done ?_
        refine s_round ?_
        refine s_seq ?_
        refine s_seq ?_
        refine o_enter rfl ?_
        refine o_move rfl .free rfl ?_
        refine o_move rfl .free rfl ?_
        refine o_cmp rfl rfl rfl .free rfl ?_
        refine o_done ?_
        refine s_condF rfl (by first | rfl | decide | (simp; done) | omega) ?_
        refine s_exit rfl ?_
        refine s_seq ?_
        refine o_enter rfl ?_
        refine o_load rfl (loads_ownS (by first | exact m0 | exact m1 | exact m2 | exact m3 | exact m4 | exact m5 | exact m6) (by rfl)) .free rfl ?_
        refine o_store rfl rfl rfl rfl (by first | rfl | (simp only [List.toList_toArray, List.all_cons, List.all_nil, plainCell_buf, Bool.and_true, Bool.true_and] <;> rfl)) (by first | exact u0 | exact u1 | exact u2 | exact u3 | exact u4 | exact u5 | exact u6) (by rfl) .free ?_
        refine o_done ?_
        refine s_mem (fun w h => h.f1) (s_freeze ?_)
        intro hz
        have hf := hf.mono hz
        refine s_ret (.cell rfl (by first | exact loads_still1 (by assumption) rfl | exact loads_ownS (by first | exact m0 | exact m1 | exact m2 | exact m3 | exact m4 | exact m5 | exact m6) (by rfl) | exact loads_own1 (by first | exact m0 | exact m1 | exact m2 | exact m3 | exact m4 | exact m5 | exact m6) (by rfl) rfl | exact loads_stillS (by assumption) (by rfl) | exact loads_stillF (by assumption) (by rfl) rfl) .nil) ?_
        exact ⟨_, L, hle.trans hz, (by intro _ h; first | exact h | exact dr1 h | exact dr2 h | exact dr3 h | exact dr4 h | exact dr5 h | exact dr6 h), _, rfl, .mk' rfl (.cons (hf.as 0 (.node o.txt []) (by omega) rfl) (.cons (hr_0.mono hz) .nil)) (fun y hy => by cases hy; exact still_set (xs := [_, _, _, _])) (by simp) hcc (by simp [maxN]) (by simp [maxN]), rfl⟩
end Go.Proofs.Ytekfjhopngcneaa
