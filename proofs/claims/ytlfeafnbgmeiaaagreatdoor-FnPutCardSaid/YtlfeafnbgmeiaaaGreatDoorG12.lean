/- An expression put for a name. No conditions. -/
import Derived.Test.YtlfeafnbgmeiaaaGreatDoorG11
import Derived.Shelf.Strconv.Itoa3
import Derived.Test.YtlfeafnbgmeiaaaGreatDoorProg
namespace Go.Proofs.YtlfeafnbgmeiaaaGreatDoor
set_option maxRecDepth 100000
set_option linter.unusedVariables false
set_option linter.unusedSimpArgs false

theorem f_form_put : ∀ (n : Nat) {I : Heap} {e : Ex} {cs : List Value} (_ : SizeOf.sizeOf e < n) (_ : Rep I e.tree cs) (_ : e.ok = true) (nm : Txt) (_ : isName nm = true) {v : Ex} {ds : List Value} (_ : Rep I v.tree ds) (L : Own),
    Fun Tryz.prog 19 [.agg cs.toArray, .string (str nm), .agg ds.toArray] I L (RP (e.put nm v).tree L) := by
  intro n
  induction n with
  | zero => intro I e cs h; omega
  | succ n ihn =>
    intro I e cs hlt h hok nm hnm v ds hv L
    obtain ⟨oa, c, oaf, cf, rfl, hf, hcl, hcs⟩ := h.cells
    obtain ⟨ov, cv, _, rfl, -⟩ := hv.open
    have hle : HLe I I := .refl _
    refine fun_intro (by simp) ?_
    refine s_seq ?_
    refine o_enter rfl ?_
    refine o_box rfl rfl .free rfl ?_
    intro b3
    refine o_box rfl rfl .free rfl ?_
    intro b5
    refine o_alloc .free rfl ?_
    intro b6
    refine o_done ?_
    refine s_seq ?_
    refine s_seq ?_
    refine o_enter rfl ?_
    refine o_lOS rfl .free rfl ?_
    refine o_call rfl .free rfl (f_form_isAtom hf.rep _) ?_
    rintro _ _ _ _ ⟨rfl, rfl, rfl⟩
    refine o_done ?_
    refine s_cond rfl ?_ ?_
    · intro c0
      try simp only [nb] at c0
      have hb : e.bare = true := by rw [Ex.bare_parts]; exact c0
      refine s_seq ?_
      refine s_seq ?_
      refine o_enter rfl ?_
      refine o_fieldAddr rfl .free rfl ?_
      refine o_lO1 rfl .free rfl ?_
      refine o_move rfl .free rfl ?_
      refine o_cmps rfl rfl rfl .free rfl ?_
      refine o_done ?_
      refine s_cond rfl ?_ ?_
      · intro c1
        try simp only [nb] at c1
        refine s_seq ?_
        refine o_enter rfl ?_
        refine o_lOS rfl .free rfl ?_
        refine o_st rfl rfl rfl rfl .free ?_
        refine o_done ?_
        refine s_ret (.c rfl .nil) ?_
        refine ⟨I, L, .refl _, drops, _, rfl, ?_, rfl⟩
        have : e.put nm v = v := by
          cases e with
          | num s =>
            have c1 : s = nm := c1
            subst c1
            have h2 := name_not_num hnm
            rw [show isNum s = true from hok] at h2; cases h2
          | name s => exact if_pos c1
          | _ => cases hb
        rw [this]; exact hv
      intro c1
      try simp only [nb] at c1
      refine s_skip ?_
      refine s_seq ?_
      refine o_enter rfl ?_
      refine o_lOS rfl .free rfl ?_
      refine o_st rfl rfl rfl rfl .free ?_
      refine o_done ?_
      refine s_ret (.c rfl .nil) ?_
      refine ⟨I, L, .refl _, drops, _, rfl, ?_, rfl⟩
      have : e.put nm v = e := by
        cases e with
        | num s => rfl
        | name s => exact if_neg c1
        | _ => cases hb
      rw [this]; exact hf.rep
    intro c0
    try simp only [nb] at c0
    have hb : e.bare = false := by rw [Ex.bare_parts]; exact c0
    have hsh := e.shapes hb
    have hok0 := hok
    have hpos : 0 < e.tree.parts.length := by
      rw [Ex.bare_parts] at hb
      have : e.tree.parts ≠ [] := by intro hh; rw [hh] at hb; cases hb
      exact List.length_pos_iff.2 this
    obtain ⟨xa, rfl⟩ : ∃ xa, oa = some xa := ⟨_, some_oad hf.nil hpos⟩
    have hp := hf.len
    refine s_skip ?_
    refine s_seq ?_
    refine o_enter rfl ?_
    refine o_fieldAddr rfl .free rfl ?_
    refine o_lO1 rfl .free rfl ?_
    refine o_call rfl .free rfl (f_slices_Clone (hcs _ rfl) (by have := hcl.length; omega) hcl.plain hpos hp _) ?_
    rintro _ _ _ _ ⟨bc, sp, cc, rfl, hcc, rfl, rfl⟩
    refine o_struct rfl rfl rfl .free rfl ?_
    refine o_alloc .free rfl ?_
    intro b7
    refine o_st rfl rfl rfl rfl .free ?_
    refine o_done ?_
    refine s_seq ?_
    refine s_seq ?_
    rcases hsh with ⟨o, a, b, rfl⟩ | ⟨a, b, d, rfl⟩ | ⟨z, a, b, rfl⟩ | ⟨g, z, s, t, b, rfl⟩ | ⟨o, a, rfl⟩
    · skip
      have hlen : (Ex.bin o a b).tree.parts.length = 3 := rfl
      have hki := kids_bin o a b
      simp only [Ex.bin.sizeOf_spec] at hlt
      simp only [Ex.ok, Bool.and_eq_true] at hok
      obtain ⟨_, hrl⟩ : ∃ _ : True, RepL I (Ex.bin o a b).tree.parts _ := ⟨trivial, hcl⟩
      simp only [show (Ex.bin o a b).tree.parts = [.node o.txt [], a.tree, b.tree] from rfl, cellsF, List.cons_append, List.nil_append] at hrl ⊢
      refine o_enter rfl ?_
      refine o_lOS rfl .free rfl ?_
      refine o_call rfl .free rfl (f_form_kids hf.rep _) ?_
      rintro _ J _ e0 ⟨ok, ck, rfl, hk, rfl⟩
      have hf := hf.mono e0
      have hv := hv.mono e0
      have hle := e0
      rw [hki] at hk
      rw [hki]
      refine o_len_slice rfl .free rfl ?_
      refine o_move rfl .free rfl ?_
      refine o_done ?_
      refine s_block ?_
      refine s_loop ?_
      refine s_seq ?_
      refine o_enter rfl ?_
      refine o_cmp rfl rfl rfl .free rfl ?_
      refine o_done ?_
      refine s_seq ?_
      refine s_condT rfl (by first | rfl | decide | (simp; done) | omega) ?_
      refine s_skip ?_
      refine s_seq ?_
      refine s_block ?_
      refine s_seq ?_
      refine o_enter rfl ?_
      first | refine o_ixD rfl rfl _ rfl .free rfl ?_ | refine o_ixP rfl rfl _ rfl .free rfl ?_
      refine o_lI1 rfl .free rfl ?_
      refine o_assign rfl .free rfl ?_
      refine o_done ?_
      refine s_seq ?_
      refine o_enter rfl ?_
      refine o_lOS rfl .free rfl ?_
      refine o_move rfl .free rfl ?_
      refine o_call rfl .free rfl (f_form_bound hf.rep hok0 _ _) ?_
      rintro _ J1 _ e1 ⟨o1, k1, rfl, hs1, rfl⟩
      refine o_move rfl .free rfl ?_
      refine o_call rfl .free rfl (f_slices_Contains (hs1.rd _) k1 nm) ?_
      rintro _ _ _ _ ⟨rfl, rfl, rfl⟩
      refine o_not rfl .free rfl ?_
      refine o_mem (fun w h => Mem.le e1 h) ?_
      refine o_done ?_
      first | refine s_tp rfl (by simp [Ex.binds]) ?_ | refine s_tn rfl (by simp [Ex.binds]) ?_ | refine s_true (by simp [look, opd, *]) ?_
      refine d_all 13 rfl rfl ?_
      refine d_takeA 0 rfl (by kernel_rfl) rfl (.inr heldx) (y_fieldAddr rfl) .free rfl ?_
      refine d_take 1 [12] rfl (by kernel_rfl) rfl heldx (y_lO1 rfl) .free rfl ?_
      refine d_takeA 2 rfl (by kernel_rfl) rfl (.inr heldx) (y_move rfl) .free rfl ?_
      refine d_takeA 3 rfl (by kernel_rfl) rfl (.inr heldx) (y_fieldAddr rfl) .free rfl ?_
      refine d_take 4 [12] rfl (by kernel_rfl) rfl heldx (y_lO1 rfl) .free rfl ?_
      refine d_takeA 5 rfl (by kernel_rfl) rfl (.inr heldx) (y_move rfl) .free rfl ?_
      first | refine d_takeA 6 rfl (by kernel_rfl) rfl (.inr heldx) (y_ixD rfl rfl _ rfl) .free rfl ?_ | refine d_takeA 6 rfl (by kernel_rfl) rfl (.inr heldx) (y_ixP rfl rfl _ rfl) .free rfl ?_
      refine d_take 7 [12] rfl (by kernel_rfl) rfl heldx (y_lIS rfl) .free rfl ?_
      refine d_takeA 8 rfl (by kernel_rfl) rfl (.inr heldx) (y_move rfl) .free rfl ?_
      refine d_take 9 [12] rfl (by kernel_rfl) rfl heldx (y_lOS rfl) .free rfl ?_
      refine d_call 10 rfl (by kernel_rfl) rfl rfl .free rfl (ihn (by omega) (hf.as 1 a.tree (by omega) rfl) hok.1 nm hnm hv _) ?_
      rintro _ J2 _ e2 ⟨cs2, rfl, hr_0, rfl⟩
      obtain ⟨o2, k2, _, rfl, -⟩ := hr_0.open
      have hf := hf.mono e2
      have hv := hv.mono e2
      have hle := hle.trans e2
      have hk := hk.mono e2
      refine ⟨(.inr heldx), ?_⟩
      first | refine d_takeA 11 rfl (by kernel_rfl) rfl (.inr heldx) (y_ixD rfl rfl _ rfl) .free rfl ?_ | refine d_takeA 11 rfl (by kernel_rfl) rfl (.inr heldx) (y_ixP rfl rfl _ rfl) .free rfl ?_
      refine d_st 12 rfl (by kernel_rfl) rfl rfl rfl rfl rfl .free (.inl (by kernel_rfl)) ?_
      refine d_done (by kernel_rfl) ?_
      refine s_inBlock ?_
      refine o_enter rfl ?_
      refine o_arith rfl rfl rfl (by omega) .free rfl ?_
      refine o_move rfl .free rfl ?_
      refine o_done ?_
      refine s_round ?_
      refine s_seq ?_
      refine o_enter rfl ?_
      refine o_cmp rfl rfl rfl .free rfl ?_
      refine o_done ?_
      refine s_seq ?_
      refine s_condT rfl (by first | rfl | decide | (simp; done) | omega) ?_
      refine s_skip ?_
      refine s_seq ?_
      refine s_block ?_
      refine s_seq ?_
      refine o_enter rfl ?_
      first | refine o_ixD rfl rfl _ rfl .free rfl ?_ | refine o_ixP rfl rfl _ rfl .free rfl ?_
      refine o_lI1 rfl .free rfl ?_
      refine o_assign rfl .free rfl ?_
      refine o_done ?_
      refine s_seq ?_
      refine o_enter rfl ?_
      refine o_lOS rfl .free rfl ?_
      refine o_move rfl .free rfl ?_
      refine o_call rfl .free rfl (f_form_bound hf.rep hok0 _ _) ?_
      rintro _ J1 _ e1 ⟨o1, k1, rfl, hs1, rfl⟩
      refine o_move rfl .free rfl ?_
      refine o_call rfl .free rfl (f_slices_Contains (hs1.rd _) k1 nm) ?_
      rintro _ _ _ _ ⟨rfl, rfl, rfl⟩
      refine o_not rfl .free rfl ?_
      refine o_mem (fun w h => Mem.le e1 h) ?_
      refine o_done ?_
      first | refine s_tp rfl (by simp [Ex.binds]) ?_ | refine s_tn rfl (by simp [Ex.binds]) ?_ | refine s_true (by simp [look, opd, *]) ?_
      refine d_all 13 rfl rfl ?_
      refine d_takeA 0 rfl (by kernel_rfl) rfl (.inr heldx) (y_fieldAddr rfl) .free rfl ?_
      refine d_take 1 [12] rfl (by kernel_rfl) rfl heldx (y_lO1 rfl) .free rfl ?_
      refine d_takeA 2 rfl (by kernel_rfl) rfl (.inr heldx) (y_move rfl) .free rfl ?_
      refine d_takeA 3 rfl (by kernel_rfl) rfl (.inr heldx) (y_fieldAddr rfl) .free rfl ?_
      refine d_take 4 [12] rfl (by kernel_rfl) rfl heldx (y_lO1 rfl) .free rfl ?_
      refine d_takeA 5 rfl (by kernel_rfl) rfl (.inr heldx) (y_move rfl) .free rfl ?_
      first | refine d_takeA 6 rfl (by kernel_rfl) rfl (.inr heldx) (y_ixD rfl rfl _ rfl) .free rfl ?_ | refine d_takeA 6 rfl (by kernel_rfl) rfl (.inr heldx) (y_ixP rfl rfl _ rfl) .free rfl ?_
      refine d_take 7 [12] rfl (by kernel_rfl) rfl heldx (y_lIS rfl) .free rfl ?_
      refine d_takeA 8 rfl (by kernel_rfl) rfl (.inr heldx) (y_move rfl) .free rfl ?_
      refine d_take 9 [12] rfl (by kernel_rfl) rfl heldx (y_lOS rfl) .free rfl ?_
      refine d_call 10 rfl (by kernel_rfl) rfl rfl .free rfl (ihn (by omega) (hf.as 2 b.tree (by omega) rfl) hok.2 nm hnm hv _) ?_
      rintro _ J2 _ e2 ⟨cs2, rfl, hr_1, rfl⟩
      obtain ⟨o2, k2, _, rfl, -⟩ := hr_1.open
      have hf := hf.mono e2
      have hv := hv.mono e2
      have hle := hle.trans e2
      have hk := hk.mono e2
      have hr_0 := hr_0.mono e2
      refine ⟨(.inr heldx), ?_⟩
      first | refine d_takeA 11 rfl (by kernel_rfl) rfl (.inr heldx) (y_ixD rfl rfl _ rfl) .free rfl ?_ | refine d_takeA 11 rfl (by kernel_rfl) rfl (.inr heldx) (y_ixP rfl rfl _ rfl) .free rfl ?_
      refine d_st 12 rfl (by kernel_rfl) rfl rfl rfl rfl rfl .free (.inl (by kernel_rfl)) ?_
      refine d_done (by kernel_rfl) ?_
      refine s_inBlock ?_
      refine o_enter rfl ?_
      refine o_arith rfl rfl rfl (by omega) .free rfl ?_
      refine o_move rfl .free rfl ?_
      refine o_done ?_
      refine s_round ?_
      refine s_seq ?_
      refine o_enter rfl ?_
      refine o_cmp rfl rfl rfl .free rfl ?_
      refine o_done ?_
      refine s_seq ?_
      refine s_condF rfl (by first | rfl | decide | (simp; done) | omega) ?_
      refine s_exit rfl ?_
      refine s_seq ?_
      refine o_enter rfl ?_
      refine o_lOS rfl .free rfl ?_
      refine o_st rfl rfl rfl rfl .free ?_
      refine o_done ?_
      refine s_mem (fun w h => h.f1) (s_freeze ?_)
      intro hz
      have hf := hf.mono hz
      refine s_ret (.c rfl .nil) ?_
      exact ⟨_, L, hle.trans hz, drops, _, rfl, .mk' rfl (.cons (hf.as 0 (.node o.txt []) (by omega) rfl) (.cons (hr_0.mono hz) (.cons (hr_1.mono hz) .nil))) (fun y hy => by cases hy; exact still_set (xs := [_, _, _, _, _, _])) (by simp) hcc (by simp [maxN]) (by simp [maxN]), rfl⟩
    · skip
      have hlen : (Ex.ite a b d).tree.parts.length = 4 := rfl
      have hki := kids_ite a b d
      simp only [Ex.ite.sizeOf_spec] at hlt
      simp only [Ex.ok, Bool.and_eq_true] at hok
      obtain ⟨_, hrl⟩ : ∃ _ : True, RepL I (Ex.ite a b d).tree.parts _ := ⟨trivial, hcl⟩
      simp only [show (Ex.ite a b d).tree.parts = [.node tIf [], a.tree, b.tree, d.tree] from rfl, cellsF, List.cons_append, List.nil_append] at hrl ⊢
      refine o_enter rfl ?_
      refine o_lOS rfl .free rfl ?_
      refine o_call rfl .free rfl (f_form_kids hf.rep _) ?_
      rintro _ J _ e0 ⟨ok, ck, rfl, hk, rfl⟩
      have hf := hf.mono e0
      have hv := hv.mono e0
      have hle := e0
      rw [hki] at hk
      rw [hki]
      refine o_len_slice rfl .free rfl ?_
      refine o_move rfl .free rfl ?_
      refine o_done ?_
      refine s_block ?_
      refine s_loop ?_
      refine s_seq ?_
      refine o_enter rfl ?_
      refine o_cmp rfl rfl rfl .free rfl ?_
      refine o_done ?_
      refine s_seq ?_
      refine s_condT rfl (by first | rfl | decide | (simp; done) | omega) ?_
      refine s_skip ?_
      refine s_seq ?_
      refine s_block ?_
      refine s_seq ?_
      refine o_enter rfl ?_
      first | refine o_ixD rfl rfl _ rfl .free rfl ?_ | refine o_ixP rfl rfl _ rfl .free rfl ?_
      refine o_lI1 rfl .free rfl ?_
      refine o_assign rfl .free rfl ?_
      refine o_done ?_
      refine s_seq ?_
      refine o_enter rfl ?_
      refine o_lOS rfl .free rfl ?_
      refine o_move rfl .free rfl ?_
      refine o_call rfl .free rfl (f_form_bound hf.rep hok0 _ _) ?_
      rintro _ J1 _ e1 ⟨o1, k1, rfl, hs1, rfl⟩
      refine o_move rfl .free rfl ?_
      refine o_call rfl .free rfl (f_slices_Contains (hs1.rd _) k1 nm) ?_
      rintro _ _ _ _ ⟨rfl, rfl, rfl⟩
      refine o_not rfl .free rfl ?_
      refine o_mem (fun w h => Mem.le e1 h) ?_
      refine o_done ?_
      first | refine s_tp rfl (by simp [Ex.binds]) ?_ | refine s_tn rfl (by simp [Ex.binds]) ?_ | refine s_true (by simp [look, opd, *]) ?_
      refine d_all 13 rfl rfl ?_
      refine d_takeA 0 rfl (by kernel_rfl) rfl (.inr heldx) (y_fieldAddr rfl) .free rfl ?_
      refine d_take 1 [12] rfl (by kernel_rfl) rfl heldx (y_lO1 rfl) .free rfl ?_
      refine d_takeA 2 rfl (by kernel_rfl) rfl (.inr heldx) (y_move rfl) .free rfl ?_
      refine d_takeA 3 rfl (by kernel_rfl) rfl (.inr heldx) (y_fieldAddr rfl) .free rfl ?_
      refine d_take 4 [12] rfl (by kernel_rfl) rfl heldx (y_lO1 rfl) .free rfl ?_
      refine d_takeA 5 rfl (by kernel_rfl) rfl (.inr heldx) (y_move rfl) .free rfl ?_
      first | refine d_takeA 6 rfl (by kernel_rfl) rfl (.inr heldx) (y_ixD rfl rfl _ rfl) .free rfl ?_ | refine d_takeA 6 rfl (by kernel_rfl) rfl (.inr heldx) (y_ixP rfl rfl _ rfl) .free rfl ?_
      refine d_take 7 [12] rfl (by kernel_rfl) rfl heldx (y_lIS rfl) .free rfl ?_
      refine d_takeA 8 rfl (by kernel_rfl) rfl (.inr heldx) (y_move rfl) .free rfl ?_
      refine d_take 9 [12] rfl (by kernel_rfl) rfl heldx (y_lOS rfl) .free rfl ?_
      refine d_call 10 rfl (by kernel_rfl) rfl rfl .free rfl (ihn (by omega) (hf.as 1 a.tree (by omega) rfl) hok.1.1 nm hnm hv _) ?_
      rintro _ J2 _ e2 ⟨cs2, rfl, hr_0, rfl⟩
      obtain ⟨o2, k2, _, rfl, -⟩ := hr_0.open
      have hf := hf.mono e2
      have hv := hv.mono e2
      have hle := hle.trans e2
      have hk := hk.mono e2
      refine ⟨(.inr heldx), ?_⟩
      first | refine d_takeA 11 rfl (by kernel_rfl) rfl (.inr heldx) (y_ixD rfl rfl _ rfl) .free rfl ?_ | refine d_takeA 11 rfl (by kernel_rfl) rfl (.inr heldx) (y_ixP rfl rfl _ rfl) .free rfl ?_
      refine d_st 12 rfl (by kernel_rfl) rfl rfl rfl rfl rfl .free (.inl (by kernel_rfl)) ?_
      refine d_done (by kernel_rfl) ?_
      refine s_inBlock ?_
      refine o_enter rfl ?_
      refine o_arith rfl rfl rfl (by omega) .free rfl ?_
      refine o_move rfl .free rfl ?_
      refine o_done ?_
      refine s_round ?_
      refine s_seq ?_
      refine o_enter rfl ?_
      refine o_cmp rfl rfl rfl .free rfl ?_
      refine o_done ?_
      refine s_seq ?_
      refine s_condT rfl (by first | rfl | decide | (simp; done) | omega) ?_
      refine s_skip ?_
      refine s_seq ?_
      refine s_block ?_
      refine s_seq ?_
      refine o_enter rfl ?_
      first | refine o_ixD rfl rfl _ rfl .free rfl ?_ | refine o_ixP rfl rfl _ rfl .free rfl ?_
      refine o_lI1 rfl .free rfl ?_
      refine o_assign rfl .free rfl ?_
      refine o_done ?_
      refine s_seq ?_
      refine o_enter rfl ?_
      refine o_lOS rfl .free rfl ?_
      refine o_move rfl .free rfl ?_
      refine o_call rfl .free rfl (f_form_bound hf.rep hok0 _ _) ?_
      rintro _ J1 _ e1 ⟨o1, k1, rfl, hs1, rfl⟩
      refine o_move rfl .free rfl ?_
      refine o_call rfl .free rfl (f_slices_Contains (hs1.rd _) k1 nm) ?_
      rintro _ _ _ _ ⟨rfl, rfl, rfl⟩
      refine o_not rfl .free rfl ?_
      refine o_mem (fun w h => Mem.le e1 h) ?_
      refine o_done ?_
      first | refine s_tp rfl (by simp [Ex.binds]) ?_ | refine s_tn rfl (by simp [Ex.binds]) ?_ | refine s_true (by simp [look, opd, *]) ?_
      refine d_all 13 rfl rfl ?_
      refine d_takeA 0 rfl (by kernel_rfl) rfl (.inr heldx) (y_fieldAddr rfl) .free rfl ?_
      refine d_take 1 [12] rfl (by kernel_rfl) rfl heldx (y_lO1 rfl) .free rfl ?_
      refine d_takeA 2 rfl (by kernel_rfl) rfl (.inr heldx) (y_move rfl) .free rfl ?_
      refine d_takeA 3 rfl (by kernel_rfl) rfl (.inr heldx) (y_fieldAddr rfl) .free rfl ?_
      refine d_take 4 [12] rfl (by kernel_rfl) rfl heldx (y_lO1 rfl) .free rfl ?_
      refine d_takeA 5 rfl (by kernel_rfl) rfl (.inr heldx) (y_move rfl) .free rfl ?_
      first | refine d_takeA 6 rfl (by kernel_rfl) rfl (.inr heldx) (y_ixD rfl rfl _ rfl) .free rfl ?_ | refine d_takeA 6 rfl (by kernel_rfl) rfl (.inr heldx) (y_ixP rfl rfl _ rfl) .free rfl ?_
      refine d_take 7 [12] rfl (by kernel_rfl) rfl heldx (y_lIS rfl) .free rfl ?_
      refine d_takeA 8 rfl (by kernel_rfl) rfl (.inr heldx) (y_move rfl) .free rfl ?_
      refine d_take 9 [12] rfl (by kernel_rfl) rfl heldx (y_lOS rfl) .free rfl ?_
      refine d_call 10 rfl (by kernel_rfl) rfl rfl .free rfl (ihn (by omega) (hf.as 2 b.tree (by omega) rfl) hok.1.2 nm hnm hv _) ?_
      rintro _ J2 _ e2 ⟨cs2, rfl, hr_1, rfl⟩
      obtain ⟨o2, k2, _, rfl, -⟩ := hr_1.open
      have hf := hf.mono e2
      have hv := hv.mono e2
      have hle := hle.trans e2
      have hk := hk.mono e2
      have hr_0 := hr_0.mono e2
      refine ⟨(.inr heldx), ?_⟩
      first | refine d_takeA 11 rfl (by kernel_rfl) rfl (.inr heldx) (y_ixD rfl rfl _ rfl) .free rfl ?_ | refine d_takeA 11 rfl (by kernel_rfl) rfl (.inr heldx) (y_ixP rfl rfl _ rfl) .free rfl ?_
      refine d_st 12 rfl (by kernel_rfl) rfl rfl rfl rfl rfl .free (.inl (by kernel_rfl)) ?_
      refine d_done (by kernel_rfl) ?_
      refine s_inBlock ?_
      refine o_enter rfl ?_
      refine o_arith rfl rfl rfl (by omega) .free rfl ?_
      refine o_move rfl .free rfl ?_
      refine o_done ?_
      refine s_round ?_
      refine s_seq ?_
      refine o_enter rfl ?_
      refine o_cmp rfl rfl rfl .free rfl ?_
      refine o_done ?_
      refine s_seq ?_
      refine s_condT rfl (by first | rfl | decide | (simp; done) | omega) ?_
      refine s_skip ?_
      refine s_seq ?_
      refine s_block ?_
      refine s_seq ?_
      refine o_enter rfl ?_
      first | refine o_ixD rfl rfl _ rfl .free rfl ?_ | refine o_ixP rfl rfl _ rfl .free rfl ?_
      refine o_lI1 rfl .free rfl ?_
      refine o_assign rfl .free rfl ?_
      refine o_done ?_
      refine s_seq ?_
      refine o_enter rfl ?_
      refine o_lOS rfl .free rfl ?_
      refine o_move rfl .free rfl ?_
      refine o_call rfl .free rfl (f_form_bound hf.rep hok0 _ _) ?_
      rintro _ J1 _ e1 ⟨o1, k1, rfl, hs1, rfl⟩
      refine o_move rfl .free rfl ?_
      refine o_call rfl .free rfl (f_slices_Contains (hs1.rd _) k1 nm) ?_
      rintro _ _ _ _ ⟨rfl, rfl, rfl⟩
      refine o_not rfl .free rfl ?_
      refine o_mem (fun w h => Mem.le e1 h) ?_
      refine o_done ?_
      first | refine s_tp rfl (by simp [Ex.binds]) ?_ | refine s_tn rfl (by simp [Ex.binds]) ?_ | refine s_true (by simp [look, opd, *]) ?_
      refine d_all 13 rfl rfl ?_
      refine d_takeA 0 rfl (by kernel_rfl) rfl (.inr heldx) (y_fieldAddr rfl) .free rfl ?_
      refine d_take 1 [12] rfl (by kernel_rfl) rfl heldx (y_lO1 rfl) .free rfl ?_
      refine d_takeA 2 rfl (by kernel_rfl) rfl (.inr heldx) (y_move rfl) .free rfl ?_
      refine d_takeA 3 rfl (by kernel_rfl) rfl (.inr heldx) (y_fieldAddr rfl) .free rfl ?_
      refine d_take 4 [12] rfl (by kernel_rfl) rfl heldx (y_lO1 rfl) .free rfl ?_
      refine d_takeA 5 rfl (by kernel_rfl) rfl (.inr heldx) (y_move rfl) .free rfl ?_
      first | refine d_takeA 6 rfl (by kernel_rfl) rfl (.inr heldx) (y_ixD rfl rfl _ rfl) .free rfl ?_ | refine d_takeA 6 rfl (by kernel_rfl) rfl (.inr heldx) (y_ixP rfl rfl _ rfl) .free rfl ?_
      refine d_take 7 [12] rfl (by kernel_rfl) rfl heldx (y_lIS rfl) .free rfl ?_
      refine d_takeA 8 rfl (by kernel_rfl) rfl (.inr heldx) (y_move rfl) .free rfl ?_
      refine d_take 9 [12] rfl (by kernel_rfl) rfl heldx (y_lOS rfl) .free rfl ?_
      refine d_call 10 rfl (by kernel_rfl) rfl rfl .free rfl (ihn (by omega) (hf.as 3 d.tree (by omega) rfl) hok.2 nm hnm hv _) ?_
      rintro _ J2 _ e2 ⟨cs2, rfl, hr_2, rfl⟩
      obtain ⟨o2, k2, _, rfl, -⟩ := hr_2.open
      have hf := hf.mono e2
      have hv := hv.mono e2
      have hle := hle.trans e2
      have hk := hk.mono e2
      have hr_0 := hr_0.mono e2
      have hr_1 := hr_1.mono e2
      refine ⟨(.inr heldx), ?_⟩
      first | refine d_takeA 11 rfl (by kernel_rfl) rfl (.inr heldx) (y_ixD rfl rfl _ rfl) .free rfl ?_ | refine d_takeA 11 rfl (by kernel_rfl) rfl (.inr heldx) (y_ixP rfl rfl _ rfl) .free rfl ?_
      refine d_st 12 rfl (by kernel_rfl) rfl rfl rfl rfl rfl .free (.inl (by kernel_rfl)) ?_
      refine d_done (by kernel_rfl) ?_
      refine s_inBlock ?_
      refine o_enter rfl ?_
      refine o_arith rfl rfl rfl (by omega) .free rfl ?_
      refine o_move rfl .free rfl ?_
      refine o_done ?_
      refine s_round ?_
      refine s_seq ?_
      refine o_enter rfl ?_
      refine o_cmp rfl rfl rfl .free rfl ?_
      refine o_done ?_
      refine s_seq ?_
      refine s_condF rfl (by first | rfl | decide | (simp; done) | omega) ?_
      refine s_exit rfl ?_
      refine s_seq ?_
      refine o_enter rfl ?_
      refine o_lOS rfl .free rfl ?_
      refine o_st rfl rfl rfl rfl .free ?_
      refine o_done ?_
      refine s_mem (fun w h => h.f1) (s_freeze ?_)
      intro hz
      have hf := hf.mono hz
      refine s_ret (.c rfl .nil) ?_
      exact ⟨_, L, hle.trans hz, drops, _, rfl, .mk' rfl (.cons (hf.as 0 (.node tIf []) (by omega) rfl) (.cons (hr_0.mono hz) (.cons (hr_1.mono hz) (.cons (hr_2.mono hz) .nil)))) (fun y hy => by cases hy; exact still_set (xs := [_, _, _, _, _, _, _, _])) (by simp) hcc (by simp [maxN]) (by simp [maxN]), rfl⟩
    · skip
      have hlen : (Ex.lt z a b).tree.parts.length = 4 := rfl
      have hki := kids_lt' z a b
      simp only [Ex.lt.sizeOf_spec] at hlt
      simp only [Ex.ok, Bool.and_eq_true] at hok
      obtain ⟨_, hrl⟩ : ∃ _ : True, RepL I (Ex.lt z a b).tree.parts _ := ⟨trivial, hcl⟩
      simp only [show (Ex.lt z a b).tree.parts = [.node tLet [], .node z [], a.tree, b.tree] from rfl, cellsF, List.cons_append, List.nil_append] at hrl ⊢
      refine o_enter rfl ?_
      refine o_lOS rfl .free rfl ?_
      refine o_call rfl .free rfl (f_form_kids hf.rep _) ?_
      rintro _ J _ e0 ⟨ok, ck, rfl, hk, rfl⟩
      have hf := hf.mono e0
      have hv := hv.mono e0
      have hle := e0
      rw [hki] at hk
      rw [hki]
      refine o_len_slice rfl .free rfl ?_
      refine o_move rfl .free rfl ?_
      refine o_done ?_
      refine s_block ?_
      refine s_loop ?_
      refine s_seq ?_
      refine o_enter rfl ?_
      refine o_cmp rfl rfl rfl .free rfl ?_
      refine o_done ?_
      refine s_seq ?_
      refine s_condT rfl (by first | rfl | decide | (simp; done) | omega) ?_
      refine s_skip ?_
      refine s_seq ?_
      refine s_block ?_
      refine s_seq ?_
      refine o_enter rfl ?_
      first | refine o_ixD rfl rfl _ rfl .free rfl ?_ | refine o_ixP rfl rfl _ rfl .free rfl ?_
      refine o_lI1 rfl .free rfl ?_
      refine o_assign rfl .free rfl ?_
      refine o_done ?_
      refine s_seq ?_
      refine o_enter rfl ?_
      refine o_lOS rfl .free rfl ?_
      refine o_move rfl .free rfl ?_
      refine o_call rfl .free rfl (f_form_bound hf.rep hok0 _ _) ?_
      rintro _ J1 _ e1 ⟨o1, k1, rfl, hs1, rfl⟩
      refine o_move rfl .free rfl ?_
      refine o_call rfl .free rfl (f_slices_Contains (hs1.rd _) k1 nm) ?_
      rintro _ _ _ _ ⟨rfl, rfl, rfl⟩
      refine o_not rfl .free rfl ?_
      refine o_mem (fun w h => Mem.le e1 h) ?_
      refine o_done ?_
      first | refine s_tp rfl (by simp [Ex.binds]) ?_ | refine s_tn rfl (by simp [Ex.binds]) ?_ | refine s_true (by simp [look, opd, *]) ?_
      refine d_all 13 rfl rfl ?_
      refine d_takeA 0 rfl (by kernel_rfl) rfl (.inr heldx) (y_fieldAddr rfl) .free rfl ?_
      refine d_take 1 [12] rfl (by kernel_rfl) rfl heldx (y_lO1 rfl) .free rfl ?_
      refine d_takeA 2 rfl (by kernel_rfl) rfl (.inr heldx) (y_move rfl) .free rfl ?_
      refine d_takeA 3 rfl (by kernel_rfl) rfl (.inr heldx) (y_fieldAddr rfl) .free rfl ?_
      refine d_take 4 [12] rfl (by kernel_rfl) rfl heldx (y_lO1 rfl) .free rfl ?_
      refine d_takeA 5 rfl (by kernel_rfl) rfl (.inr heldx) (y_move rfl) .free rfl ?_
      first | refine d_takeA 6 rfl (by kernel_rfl) rfl (.inr heldx) (y_ixD rfl rfl _ rfl) .free rfl ?_ | refine d_takeA 6 rfl (by kernel_rfl) rfl (.inr heldx) (y_ixP rfl rfl _ rfl) .free rfl ?_
      refine d_take 7 [12] rfl (by kernel_rfl) rfl heldx (y_lIS rfl) .free rfl ?_
      refine d_takeA 8 rfl (by kernel_rfl) rfl (.inr heldx) (y_move rfl) .free rfl ?_
      refine d_take 9 [12] rfl (by kernel_rfl) rfl heldx (y_lOS rfl) .free rfl ?_
      refine d_call 10 rfl (by kernel_rfl) rfl rfl .free rfl (ihn (by omega) (hf.as 2 a.tree (by omega) rfl) hok.1.2 nm hnm hv _) ?_
      rintro _ J2 _ e2 ⟨cs2, rfl, hr_0, rfl⟩
      obtain ⟨o2, k2, _, rfl, -⟩ := hr_0.open
      have hf := hf.mono e2
      have hv := hv.mono e2
      have hle := hle.trans e2
      have hk := hk.mono e2
      refine ⟨(.inr heldx), ?_⟩
      first | refine d_takeA 11 rfl (by kernel_rfl) rfl (.inr heldx) (y_ixD rfl rfl _ rfl) .free rfl ?_ | refine d_takeA 11 rfl (by kernel_rfl) rfl (.inr heldx) (y_ixP rfl rfl _ rfl) .free rfl ?_
      refine d_st 12 rfl (by kernel_rfl) rfl rfl rfl rfl rfl .free (.inl (by kernel_rfl)) ?_
      refine d_done (by kernel_rfl) ?_
      refine s_inBlock ?_
      refine o_enter rfl ?_
      refine o_arith rfl rfl rfl (by omega) .free rfl ?_
      refine o_move rfl .free rfl ?_
      refine o_done ?_
      refine s_round ?_
      refine s_seq ?_
      refine o_enter rfl ?_
      refine o_cmp rfl rfl rfl .free rfl ?_
      refine o_done ?_
      refine s_seq ?_
      refine s_condT rfl (by first | rfl | decide | (simp; done) | omega) ?_
      refine s_skip ?_
      refine s_seq ?_
      refine s_block ?_
      refine s_seq ?_
      refine o_enter rfl ?_
      first | refine o_ixD rfl rfl _ rfl .free rfl ?_ | refine o_ixP rfl rfl _ rfl .free rfl ?_
      refine o_lI1 rfl .free rfl ?_
      refine o_assign rfl .free rfl ?_
      refine o_done ?_
      refine s_seq ?_
      refine o_enter rfl ?_
      refine o_lOS rfl .free rfl ?_
      refine o_move rfl .free rfl ?_
      refine o_call rfl .free rfl (f_form_bound hf.rep hok0 _ _) ?_
      rintro _ J1 _ e1 ⟨o1, k1, rfl, hs1, rfl⟩
      refine o_move rfl .free rfl ?_
      refine o_call rfl .free rfl (f_slices_Contains (hs1.rd _) k1 nm) ?_
      rintro _ _ _ _ ⟨rfl, rfl, rfl⟩
      refine o_not rfl .free rfl ?_
      refine o_mem (fun w h => Mem.le e1 h) ?_
      refine o_done ?_
      refine s_cond rfl ?_ ?_
      · intro c3
        try simp only [nb] at c3
        have c3 : ¬ nm ∈ [z] := c3
        refine d_all 13 rfl rfl ?_
        refine d_takeA 0 rfl (by kernel_rfl) rfl (.inr heldx) (y_fieldAddr rfl) .free rfl ?_
        refine d_take 1 [12] rfl (by kernel_rfl) rfl heldx (y_lO1 rfl) .free rfl ?_
        refine d_takeA 2 rfl (by kernel_rfl) rfl (.inr heldx) (y_move rfl) .free rfl ?_
        refine d_takeA 3 rfl (by kernel_rfl) rfl (.inr heldx) (y_fieldAddr rfl) .free rfl ?_
        refine d_take 4 [12] rfl (by kernel_rfl) rfl heldx (y_lO1 rfl) .free rfl ?_
        refine d_takeA 5 rfl (by kernel_rfl) rfl (.inr heldx) (y_move rfl) .free rfl ?_
        first | refine d_takeA 6 rfl (by kernel_rfl) rfl (.inr heldx) (y_ixD rfl rfl _ rfl) .free rfl ?_ | refine d_takeA 6 rfl (by kernel_rfl) rfl (.inr heldx) (y_ixP rfl rfl _ rfl) .free rfl ?_
        refine d_take 7 [12] rfl (by kernel_rfl) rfl heldx (y_lIS rfl) .free rfl ?_
        refine d_takeA 8 rfl (by kernel_rfl) rfl (.inr heldx) (y_move rfl) .free rfl ?_
        refine d_take 9 [12] rfl (by kernel_rfl) rfl heldx (y_lOS rfl) .free rfl ?_
        refine d_call 10 rfl (by kernel_rfl) rfl rfl .free rfl (ihn (by omega) (hf.as 3 b.tree (by omega) rfl) hok.2 nm hnm hv _) ?_
        rintro _ J2 _ e2 ⟨cs2, rfl, hr_1, rfl⟩
        obtain ⟨o2, k2, _, rfl, -⟩ := hr_1.open
        have hf := hf.mono e2
        have hv := hv.mono e2
        have hle := hle.trans e2
        have hk := hk.mono e2
        have hr_0 := hr_0.mono e2
        refine ⟨(.inr heldx), ?_⟩
        first | refine d_takeA 11 rfl (by kernel_rfl) rfl (.inr heldx) (y_ixD rfl rfl _ rfl) .free rfl ?_ | refine d_takeA 11 rfl (by kernel_rfl) rfl (.inr heldx) (y_ixP rfl rfl _ rfl) .free rfl ?_
        refine d_st 12 rfl (by kernel_rfl) rfl rfl rfl rfl rfl .free (.inl (by kernel_rfl)) ?_
        refine d_done (by kernel_rfl) ?_
        refine s_inBlock ?_
        refine o_enter rfl ?_
        refine o_arith rfl rfl rfl (by omega) .free rfl ?_
        refine o_move rfl .free rfl ?_
        refine o_done ?_
        refine s_round ?_
        refine s_seq ?_
        refine o_enter rfl ?_
        refine o_cmp rfl rfl rfl .free rfl ?_
        refine o_done ?_
        refine s_seq ?_
        refine s_condF rfl (by first | rfl | decide | (simp; done) | omega) ?_
        refine s_exit rfl ?_
        refine s_seq ?_
        refine o_enter rfl ?_
        refine o_lOS rfl .free rfl ?_
        refine o_st rfl rfl rfl rfl .free ?_
        refine o_done ?_
        refine s_mem (fun w h => h.f1) (s_freeze ?_)
        intro hz
        have hf := hf.mono hz
        refine s_ret (.c rfl .nil) ?_
        first
          | (have hput : (Ex.lt z a b).put nm v = .lt z (a.put nm v) (b.put nm v) := by
               have : ¬ z = nm := fun h => c3 (by simp [h])
               simp [Ex.put, this]
             rw [hput]
             exact ⟨_, L, hle.trans hz, drops, _, rfl, .mk' rfl (.cons (hf.as 0 (.node tLet []) (by omega) rfl) (.cons (hf.as 1 (.node z []) (by omega) rfl) (.cons (hr_0.mono hz) (.cons (hr_1.mono hz) .nil)))) (fun y hy => by cases hy; exact still_set (xs := [_, _, _, _, _, _, _, _])) (by simp) hcc (by simp [maxN]) (by simp [maxN]), rfl⟩)
          | (have hput : (Ex.lt z a b).put nm v = .lt z (a.put nm v) b := by
               have : nm = z := by simpa using c3
               simp [Ex.put, this]
             rw [hput]
             exact ⟨_, L, hle.trans hz, drops, _, rfl, .mk' rfl (.cons (hf.as 0 (.node tLet []) (by omega) rfl) (.cons (hf.as 1 (.node z []) (by omega) rfl) (.cons (hr_0.mono hz) (.cons (hf.as 3 b.tree (by omega) rfl) .nil)))) (fun y hy => by cases hy; exact still_set (xs := [_, _, _, _, _, _, _, _])) (by simp) hcc (by simp [maxN]) (by simp [maxN]), rfl⟩)
      intro c3
      try simp only [nb] at c3
      have c3 : nm ∈ [z] := c3
      refine s_skip ?_
      refine s_inBlock ?_
      refine o_enter rfl ?_
      refine o_arith rfl rfl rfl (by omega) .free rfl ?_
      refine o_move rfl .free rfl ?_
      refine o_done ?_
      refine s_round ?_
      refine s_seq ?_
      refine o_enter rfl ?_
      refine o_cmp rfl rfl rfl .free rfl ?_
      refine o_done ?_
      refine s_seq ?_
      refine s_condF rfl (by first | rfl | decide | (simp; done) | omega) ?_
      refine s_exit rfl ?_
      refine s_seq ?_
      refine o_enter rfl ?_
      refine o_lOS rfl .free rfl ?_
      refine o_st rfl rfl rfl rfl .free ?_
      refine o_done ?_
      refine s_mem (fun w h => h.f1) (s_freeze ?_)
      intro hz
      have hf := hf.mono hz
      refine s_ret (.c rfl .nil) ?_
      first
        | (have hput : (Ex.lt z a b).put nm v = .lt z (a.put nm v) (b.put nm v) := by
             have : ¬ z = nm := fun h => c3 (by simp [h])
             simp [Ex.put, this]
           rw [hput]
           exact ⟨_, L, hle.trans hz, drops, _, rfl, .mk' rfl (.cons (hf.as 0 (.node tLet []) (by omega) rfl) (.cons (hf.as 1 (.node z []) (by omega) rfl) (.cons (hr_0.mono hz) (.cons (hr_1.mono hz) .nil)))) (fun y hy => by cases hy; exact still_set (xs := [_, _, _, _, _, _, _, _])) (by simp) hcc (by simp [maxN]) (by simp [maxN]), rfl⟩)
        | (have hput : (Ex.lt z a b).put nm v = .lt z (a.put nm v) b := by
             have : nm = z := by simpa using c3
             simp [Ex.put, this]
           rw [hput]
           exact ⟨_, L, hle.trans hz, drops, _, rfl, .mk' rfl (.cons (hf.as 0 (.node tLet []) (by omega) rfl) (.cons (hf.as 1 (.node z []) (by omega) rfl) (.cons (hr_0.mono hz) (.cons (hf.as 3 b.tree (by omega) rfl) .nil)))) (fun y hy => by cases hy; exact still_set (xs := [_, _, _, _, _, _, _, _])) (by simp) hcc (by simp [maxN]) (by simp [maxN]), rfl⟩)
    · skip
      have hlen : (Ex.fn g z s t b).tree.parts.length = 6 := rfl
      have hki := kids_fn g z s t b
      simp only [Ex.fn.sizeOf_spec] at hlt
      simp only [Ex.ok, Bool.and_eq_true] at hok
      obtain ⟨_, hrl⟩ : ∃ _ : True, RepL I (Ex.fn g z s t b).tree.parts _ := ⟨trivial, hcl⟩
      simp only [show (Ex.fn g z s t b).tree.parts = [.node tFun [], .node g [], .node z [], s.tree, t.tree, b.tree] from rfl, cellsF, List.cons_append, List.nil_append] at hrl ⊢
      refine o_enter rfl ?_
      refine o_lOS rfl .free rfl ?_
      refine o_call rfl .free rfl (f_form_kids hf.rep _) ?_
      rintro _ J _ e0 ⟨ok, ck, rfl, hk, rfl⟩
      have hf := hf.mono e0
      have hv := hv.mono e0
      have hle := e0
      rw [hki] at hk
      rw [hki]
      refine o_len_slice rfl .free rfl ?_
      refine o_move rfl .free rfl ?_
      refine o_done ?_
      refine s_block ?_
      refine s_loop ?_
      refine s_seq ?_
      refine o_enter rfl ?_
      refine o_cmp rfl rfl rfl .free rfl ?_
      refine o_done ?_
      refine s_seq ?_
      refine s_condT rfl (by first | rfl | decide | (simp; done) | omega) ?_
      refine s_skip ?_
      refine s_seq ?_
      refine s_block ?_
      refine s_seq ?_
      refine o_enter rfl ?_
      first | refine o_ixD rfl rfl _ rfl .free rfl ?_ | refine o_ixP rfl rfl _ rfl .free rfl ?_
      refine o_lI1 rfl .free rfl ?_
      refine o_assign rfl .free rfl ?_
      refine o_done ?_
      refine s_seq ?_
      refine o_enter rfl ?_
      refine o_lOS rfl .free rfl ?_
      refine o_move rfl .free rfl ?_
      refine o_call rfl .free rfl (f_form_bound hf.rep hok0 _ _) ?_
      rintro _ J1 _ e1 ⟨o1, k1, rfl, hs1, rfl⟩
      refine o_move rfl .free rfl ?_
      refine o_call rfl .free rfl (f_slices_Contains (hs1.rd _) k1 nm) ?_
      rintro _ _ _ _ ⟨rfl, rfl, rfl⟩
      refine o_not rfl .free rfl ?_
      refine o_mem (fun w h => Mem.le e1 h) ?_
      refine o_done ?_
      refine s_cond rfl ?_ ?_
      · intro c3
        try simp only [nb] at c3
        have c3 : ¬ nm ∈ [g, z] := c3
        refine d_all 13 rfl rfl ?_
        refine d_takeA 0 rfl (by kernel_rfl) rfl (.inr heldx) (y_fieldAddr rfl) .free rfl ?_
        refine d_take 1 [12] rfl (by kernel_rfl) rfl heldx (y_lO1 rfl) .free rfl ?_
        refine d_takeA 2 rfl (by kernel_rfl) rfl (.inr heldx) (y_move rfl) .free rfl ?_
        refine d_takeA 3 rfl (by kernel_rfl) rfl (.inr heldx) (y_fieldAddr rfl) .free rfl ?_
        refine d_take 4 [12] rfl (by kernel_rfl) rfl heldx (y_lO1 rfl) .free rfl ?_
        refine d_takeA 5 rfl (by kernel_rfl) rfl (.inr heldx) (y_move rfl) .free rfl ?_
        first | refine d_takeA 6 rfl (by kernel_rfl) rfl (.inr heldx) (y_ixD rfl rfl _ rfl) .free rfl ?_ | refine d_takeA 6 rfl (by kernel_rfl) rfl (.inr heldx) (y_ixP rfl rfl _ rfl) .free rfl ?_
        refine d_take 7 [12] rfl (by kernel_rfl) rfl heldx (y_lIS rfl) .free rfl ?_
        refine d_takeA 8 rfl (by kernel_rfl) rfl (.inr heldx) (y_move rfl) .free rfl ?_
        refine d_take 9 [12] rfl (by kernel_rfl) rfl heldx (y_lOS rfl) .free rfl ?_
        refine d_call 10 rfl (by kernel_rfl) rfl rfl .free rfl (ihn (by omega) (hf.as 5 b.tree (by omega) rfl) hok.2 nm hnm hv _) ?_
        rintro _ J2 _ e2 ⟨cs2, rfl, hr_0, rfl⟩
        obtain ⟨o2, k2, _, rfl, -⟩ := hr_0.open
        have hf := hf.mono e2
        have hv := hv.mono e2
        have hle := hle.trans e2
        have hk := hk.mono e2
        refine ⟨(.inr heldx), ?_⟩
        first | refine d_takeA 11 rfl (by kernel_rfl) rfl (.inr heldx) (y_ixD rfl rfl _ rfl) .free rfl ?_ | refine d_takeA 11 rfl (by kernel_rfl) rfl (.inr heldx) (y_ixP rfl rfl _ rfl) .free rfl ?_
        refine d_st 12 rfl (by kernel_rfl) rfl rfl rfl rfl rfl .free (.inl (by kernel_rfl)) ?_
        refine d_done (by kernel_rfl) ?_
        refine s_inBlock ?_
        refine o_enter rfl ?_
        refine o_arith rfl rfl rfl (by omega) .free rfl ?_
        refine o_move rfl .free rfl ?_
        refine o_done ?_
        refine s_round ?_
        refine s_seq ?_
        refine o_enter rfl ?_
        refine o_cmp rfl rfl rfl .free rfl ?_
        refine o_done ?_
        refine s_seq ?_
        refine s_condF rfl (by first | rfl | decide | (simp; done) | omega) ?_
        refine s_exit rfl ?_
        refine s_seq ?_
        refine o_enter rfl ?_
        refine o_lOS rfl .free rfl ?_
        refine o_st rfl rfl rfl rfl .free ?_
        refine o_done ?_
        refine s_mem (fun w h => h.f1) (s_freeze ?_)
        intro hz
        have hf := hf.mono hz
        refine s_ret (.c rfl .nil) ?_
        first
          | (have hput : (Ex.fn g z s t b).put nm v = .fn g z s t (b.put nm v) := by
               have h1 : ¬ (g = nm ∨ z = nm) := by rintro (h | h) <;> exact c3 (by simp [h])
               simp only [Ex.put]; rw [if_neg h1]
             rw [hput]
             exact ⟨_, L, hle.trans hz, drops, _, rfl, .mk' rfl (.cons (hf.as 0 (.node tFun []) (by omega) rfl) (.cons (hf.as 1 (.node g []) (by omega) rfl) (.cons (hf.as 2 (.node z []) (by omega) rfl) (.cons (hf.as 3 (s.tree) (by omega) rfl) (.cons (hf.as 4 (t.tree) (by omega) rfl) (.cons (hr_0.mono hz) .nil)))))) (fun y hy => by cases hy; exact still_set (xs := [_, _, _, _, _, _, _, _, _, _, _, _])) (by simp) hcc (by simp [maxN]) (by simp [maxN]), rfl⟩)
          | (have hput : (Ex.fn g z s t b).put nm v = .fn g z s t b := by
               have h1 : g = nm ∨ z = nm := by simp at c3; rcases c3 with h | h <;> simp [h]
               simp only [Ex.put]; rw [if_pos h1]
             rw [hput]
             exact ⟨_, L, hle.trans hz, drops, _, rfl, .mk' rfl (.cons (hf.as 0 (.node tFun []) (by omega) rfl) (.cons (hf.as 1 (.node g []) (by omega) rfl) (.cons (hf.as 2 (.node z []) (by omega) rfl) (.cons (hf.as 3 (s.tree) (by omega) rfl) (.cons (hf.as 4 (t.tree) (by omega) rfl) (.cons (hf.as 5 b.tree (by omega) rfl) .nil)))))) (fun y hy => by cases hy; exact still_set (xs := [_, _, _, _, _, _, _, _, _, _, _, _])) (by simp) hcc (by simp [maxN]) (by simp [maxN]), rfl⟩)
      intro c3
      try simp only [nb] at c3
      have c3 : nm ∈ [g, z] := c3
      refine s_skip ?_
      refine s_inBlock ?_
      refine o_enter rfl ?_
      refine o_arith rfl rfl rfl (by omega) .free rfl ?_
      refine o_move rfl .free rfl ?_
      refine o_done ?_
      refine s_round ?_
      refine s_seq ?_
      refine o_enter rfl ?_
      refine o_cmp rfl rfl rfl .free rfl ?_
      refine o_done ?_
      refine s_seq ?_
      refine s_condF rfl (by first | rfl | decide | (simp; done) | omega) ?_
      refine s_exit rfl ?_
      refine s_seq ?_
      refine o_enter rfl ?_
      refine o_lOS rfl .free rfl ?_
      refine o_st rfl rfl rfl rfl .free ?_
      refine o_done ?_
      refine s_mem (fun w h => h.f1) (s_freeze ?_)
      intro hz
      have hf := hf.mono hz
      refine s_ret (.c rfl .nil) ?_
      first
        | (have hput : (Ex.fn g z s t b).put nm v = .fn g z s t (b.put nm v) := by
             have h1 : ¬ (g = nm ∨ z = nm) := by rintro (h | h) <;> exact c3 (by simp [h])
             simp only [Ex.put]; rw [if_neg h1]
           rw [hput]
           exact ⟨_, L, hle.trans hz, drops, _, rfl, .mk' rfl (.cons (hf.as 0 (.node tFun []) (by omega) rfl) (.cons (hf.as 1 (.node g []) (by omega) rfl) (.cons (hf.as 2 (.node z []) (by omega) rfl) (.cons (hf.as 3 (s.tree) (by omega) rfl) (.cons (hf.as 4 (t.tree) (by omega) rfl) (.cons (hr_0.mono hz) .nil)))))) (fun y hy => by cases hy; exact still_set (xs := [_, _, _, _, _, _, _, _, _, _, _, _])) (by simp) hcc (by simp [maxN]) (by simp [maxN]), rfl⟩)
        | (have hput : (Ex.fn g z s t b).put nm v = .fn g z s t b := by
             have h1 : g = nm ∨ z = nm := by simp at c3; rcases c3 with h | h <;> simp [h]
             simp only [Ex.put]; rw [if_pos h1]
           rw [hput]
           exact ⟨_, L, hle.trans hz, drops, _, rfl, .mk' rfl (.cons (hf.as 0 (.node tFun []) (by omega) rfl) (.cons (hf.as 1 (.node g []) (by omega) rfl) (.cons (hf.as 2 (.node z []) (by omega) rfl) (.cons (hf.as 3 (s.tree) (by omega) rfl) (.cons (hf.as 4 (t.tree) (by omega) rfl) (.cons (hf.as 5 b.tree (by omega) rfl) .nil)))))) (fun y hy => by cases hy; exact still_set (xs := [_, _, _, _, _, _, _, _, _, _, _, _])) (by simp) hcc (by simp [maxN]) (by simp [maxN]), rfl⟩)
    · skip
      have hlen : (Ex.un o a).tree.parts.length = 2 := rfl
      have hki := kids_un o a
      simp only [Ex.un.sizeOf_spec] at hlt
      simp only [Ex.ok, Bool.and_eq_true] at hok
      obtain ⟨_, hrl⟩ : ∃ _ : True, RepL I (Ex.un o a).tree.parts _ := ⟨trivial, hcl⟩
      simp only [show (Ex.un o a).tree.parts = [.node o.txt [], a.tree] from rfl, cellsF, List.cons_append, List.nil_append] at hrl ⊢
      refine o_enter rfl ?_
      refine o_lOS rfl .free rfl ?_
      refine o_call rfl .free rfl (f_form_kids hf.rep _) ?_
      rintro _ J _ e0 ⟨ok, ck, rfl, hk, rfl⟩
      have hf := hf.mono e0
      have hv := hv.mono e0
      have hle := e0
      rw [hki] at hk
      rw [hki]
      refine o_len_slice rfl .free rfl ?_
      refine o_move rfl .free rfl ?_
      refine o_done ?_
      refine s_block ?_
      refine s_loop ?_
      refine s_seq ?_
      refine o_enter rfl ?_
      refine o_cmp rfl rfl rfl .free rfl ?_
      refine o_done ?_
      refine s_seq ?_
      refine s_condT rfl (by first | rfl | decide | (simp; done) | omega) ?_
      refine s_skip ?_
      refine s_seq ?_
      refine s_block ?_
      refine s_seq ?_
      refine o_enter rfl ?_
      first | refine o_ixD rfl rfl _ rfl .free rfl ?_ | refine o_ixP rfl rfl _ rfl .free rfl ?_
      refine o_lI1 rfl .free rfl ?_
      refine o_assign rfl .free rfl ?_
      refine o_done ?_
      refine s_seq ?_
      refine o_enter rfl ?_
      refine o_lOS rfl .free rfl ?_
      refine o_move rfl .free rfl ?_
      refine o_call rfl .free rfl (f_form_bound hf.rep hok0 _ _) ?_
      rintro _ J1 _ e1 ⟨o1, k1, rfl, hs1, rfl⟩
      refine o_move rfl .free rfl ?_
      refine o_call rfl .free rfl (f_slices_Contains (hs1.rd _) k1 nm) ?_
      rintro _ _ _ _ ⟨rfl, rfl, rfl⟩
      refine o_not rfl .free rfl ?_
      refine o_mem (fun w h => Mem.le e1 h) ?_
      refine o_done ?_
      first | refine s_tp rfl (by simp [Ex.binds]) ?_ | refine s_tn rfl (by simp [Ex.binds]) ?_ | refine s_true (by simp [look, opd, *]) ?_
      refine d_all 13 rfl rfl ?_
      refine d_takeA 0 rfl (by kernel_rfl) rfl (.inr heldx) (y_fieldAddr rfl) .free rfl ?_
      refine d_take 1 [12] rfl (by kernel_rfl) rfl heldx (y_lO1 rfl) .free rfl ?_
      refine d_takeA 2 rfl (by kernel_rfl) rfl (.inr heldx) (y_move rfl) .free rfl ?_
      refine d_takeA 3 rfl (by kernel_rfl) rfl (.inr heldx) (y_fieldAddr rfl) .free rfl ?_
      refine d_take 4 [12] rfl (by kernel_rfl) rfl heldx (y_lO1 rfl) .free rfl ?_
      refine d_takeA 5 rfl (by kernel_rfl) rfl (.inr heldx) (y_move rfl) .free rfl ?_
      first | refine d_takeA 6 rfl (by kernel_rfl) rfl (.inr heldx) (y_ixD rfl rfl _ rfl) .free rfl ?_ | refine d_takeA 6 rfl (by kernel_rfl) rfl (.inr heldx) (y_ixP rfl rfl _ rfl) .free rfl ?_
      refine d_take 7 [12] rfl (by kernel_rfl) rfl heldx (y_lIS rfl) .free rfl ?_
      refine d_takeA 8 rfl (by kernel_rfl) rfl (.inr heldx) (y_move rfl) .free rfl ?_
      refine d_take 9 [12] rfl (by kernel_rfl) rfl heldx (y_lOS rfl) .free rfl ?_
      refine d_call 10 rfl (by kernel_rfl) rfl rfl .free rfl (ihn (by omega) (hf.as 1 a.tree (by omega) rfl) hok nm hnm hv _) ?_
      rintro _ J2 _ e2 ⟨cs2, rfl, hr_0, rfl⟩
      obtain ⟨o2, k2, _, rfl, -⟩ := hr_0.open
      have hf := hf.mono e2
      have hv := hv.mono e2
      have hle := hle.trans e2
      have hk := hk.mono e2
      refine ⟨(.inr heldx), ?_⟩
      first | refine d_takeA 11 rfl (by kernel_rfl) rfl (.inr heldx) (y_ixD rfl rfl _ rfl) .free rfl ?_ | refine d_takeA 11 rfl (by kernel_rfl) rfl (.inr heldx) (y_ixP rfl rfl _ rfl) .free rfl ?_
      refine d_st 12 rfl (by kernel_rfl) rfl rfl rfl rfl rfl .free (.inl (by kernel_rfl)) ?_
      refine d_done (by kernel_rfl) ?_
      refine s_inBlock ?_
      refine o_enter rfl ?_
      refine o_arith rfl rfl rfl (by omega) .free rfl ?_
      refine o_move rfl .free rfl ?_
      refine o_done ?_
      refine s_round ?_
      refine s_seq ?_
      refine o_enter rfl ?_
      refine o_cmp rfl rfl rfl .free rfl ?_
      refine o_done ?_
      refine s_seq ?_
      refine s_condF rfl (by first | rfl | decide | (simp; done) | omega) ?_
      refine s_exit rfl ?_
      refine s_seq ?_
      refine o_enter rfl ?_
      refine o_lOS rfl .free rfl ?_
      refine o_st rfl rfl rfl rfl .free ?_
      refine o_done ?_
      refine s_mem (fun w h => h.f1) (s_freeze ?_)
      intro hz
      have hf := hf.mono hz
      refine s_ret (.c rfl .nil) ?_
      exact ⟨_, L, hle.trans hz, drops, _, rfl, .mk' rfl (.cons (hf.as 0 (.node o.txt []) (by omega) rfl) (.cons (hr_0.mono hz) .nil)) (fun y hy => by cases hy; exact still_set (xs := [_, _, _, _])) (by simp) hcc (by simp [maxN]) (by simp [maxN]), rfl⟩

theorem g_l2Put : ∀ (n : Nat) {I : Heap} {e : Ex} {cs : List Value} (_ : SizeOf.sizeOf e < n) (_ : Rep I e.tree cs) (_ : e.ok = true) (nm : Txt) (_ : isName nm = true) {v : Ex} {ds : List Value} (_ : Rep I v.tree ds) (L : Own),
    Fun Tryz.prog 26 [.agg cs.toArray, .string (str nm), .agg ds.toArray] I L (RP (e.put nm v).tree L) := by
  intro n
  induction n with
  | zero => intro I e cs h; omega
  | succ n ihn =>
    intro I e cs hlt h hok nm hnm v ds hv L
    obtain ⟨oa, c, oaf, cf, rfl, hf, hcl, hcs⟩ := h.cells
    obtain ⟨ov, cv, _, rfl, -⟩ := hv.open
    have hle : HLe I I := .refl _
    refine fun_intro (by simp) ?_
    refine s_seq ?_
    refine o_enter rfl ?_
    refine o_box rfl rfl .free rfl ?_
    intro b3
    refine o_box rfl rfl .free rfl ?_
    intro b5
    refine o_alloc .free rfl ?_
    intro b6
    refine o_done ?_
    refine s_seq ?_
    refine s_seq ?_
    refine o_enter rfl ?_
    refine o_fieldAddr rfl .free rfl ?_
    refine o_lO1 rfl .free rfl ?_
    refine o_cmps rfl rfl rfl .free rfl ?_
    refine o_done ?_
    refine s_cond rfl ?_ ?_
    · intro c0
      try simp only [nb] at c0
      have hb : e.bare = true := by
        cases hb : e.bare with
        | true => rfl
        | false => exact absurd ((Ex.atom_iff hok).2 hb) c0
      refine s_seq ?_
      refine s_seq ?_
      refine o_enter rfl ?_
      refine o_fieldAddr rfl .free rfl ?_
      refine o_lO1 rfl .free rfl ?_
      refine o_move rfl .free rfl ?_
      refine o_cmps rfl rfl rfl .free rfl ?_
      refine o_done ?_
      refine s_cond rfl ?_ ?_
      · intro c1
        try simp only [nb] at c1
        refine s_seq ?_
        refine o_enter rfl ?_
        refine o_lOS rfl .free rfl ?_
        refine o_st rfl rfl rfl rfl .free ?_
        refine o_done ?_
        refine s_ret (.c rfl .nil) ?_
        refine ⟨I, L, .refl _, drops, _, rfl, ?_, rfl⟩
        have : e.put nm v = v := by
          cases e with
          | num s =>
            have c1 : s = nm := c1
            subst c1
            have h2 := name_not_num hnm
            rw [show isNum s = true from hok] at h2; cases h2
          | name s => exact if_pos c1
          | _ => cases hb
        rw [this]; exact hv
      intro c1
      try simp only [nb] at c1
      refine s_skip ?_
      refine s_seq ?_
      refine o_enter rfl ?_
      refine o_lOS rfl .free rfl ?_
      refine o_st rfl rfl rfl rfl .free ?_
      refine o_done ?_
      refine s_ret (.c rfl .nil) ?_
      refine ⟨I, L, .refl _, drops, _, rfl, ?_, rfl⟩
      have : e.put nm v = e := by
        cases e with
        | num s => rfl
        | name s => exact if_neg c1
        | _ => cases hb
      rw [this]; exact hf.rep
    intro c0
    try simp only [nb] at c0
    have hb : e.bare = false := (Ex.atom_iff hok).1 (by simpa using c0)
    have hsh := e.shapes hb
    have hok0 := hok
    have hpos : 0 < e.tree.parts.length := by
      rw [Ex.bare_parts] at hb
      have : e.tree.parts ≠ [] := by intro hh; rw [hh] at hb; cases hb
      exact List.length_pos_iff.2 this
    have hhd := head_at hpos
    obtain ⟨xa, rfl⟩ : ∃ xa, oa = some xa := ⟨_, some_oad hf.nil hpos⟩
    have hp := hf.len
    unfold maxN at hp
    refine s_skip ?_
    refine s_seq ?_
    refine o_enter rfl ?_
    refine o_lits0 .free rfl ?_
    intro b20
    refine o_fieldAddr rfl .free rfl ?_
    refine o_lO1 rfl .free rfl ?_
    refine o_append (B := some (b20, [])) (xs := []) (ys := cellsF oaf cf 0 e.tree.parts) (m := 0) (c := 0) (by intro kk; simp) (by rfl) rfl rfl ⟨rfl, Nat.le_refl _, rfl⟩ (fun _ h => h) (by have := hcl.length; omega) (fun a ha => by cases ha; exact (hcs _ rfl).reads) (by simp) hcl.plain hpos (by decide) (by omega) (by decide) .free rfl ?_
    intro bc sp cc hB'
    have hcc : e.tree.parts.length ≤ cc := by have := hB'.2.1; omega
    refine o_put (t := 23) (v' := .slice (some ⟨bc, 0, none⟩) e.tree.parts.length cc) rfl (by rw [Nat.zero_add]) ?_
    simp only [List.nil_append]
    refine o_struct rfl rfl rfl .free rfl ?_
    refine o_alloc .free rfl ?_
    intro b7
    refine o_st rfl rfl rfl rfl .free ?_
    refine o_done ?_
    refine s_seq ?_
    refine o_enter rfl ?_
    refine o_fieldAddr rfl .free rfl ?_
    refine o_lO1 rfl .free rfl ?_
    first | refine o_ixD rfl rfl 0 rfl .free rfl ?_ | refine o_ixP rfl rfl 0 rfl .free rfl ?_
    refine o_fieldAddr' rfl .free rfl ?_
    refine o_lIF rfl .free rfl ?_
    refine o_call rfl .free rfl (g_l2Kids (e.tree.pt 0).atom _ _) ?_
    rw [← hhd]; rintro _ _ _ _ ⟨rfl, rfl, rfl⟩
    refine o_move rfl .free rfl ?_
    refine o_extract rfl rfl .free rfl ?_
    refine o_extract rfl rfl .free rfl ?_
    refine o_assign rfl .free rfl ?_
    refine o_assign rfl .free rfl ?_
    refine o_done ?_
    refine s_seq ?_
    refine s_seq ?_
    rcases hsh with ⟨o, a, b, rfl⟩ | ⟨a, b, d, rfl⟩ | ⟨z, a, b, rfl⟩ | ⟨g, z, s, t, b, rfl⟩ | ⟨o, a, rfl⟩
    · skip
      have hkr : kidRange (Ex.bin o a b).tree.head = (1, 3) := by cases o <;> rfl
      rw [hkr]
      have hlen : (Ex.bin o a b).tree.parts.length = 3 := rfl
      have hki := kids_bin o a b
      simp only [Ex.bin.sizeOf_spec] at hlt
      simp only [Ex.ok, Bool.and_eq_true] at hok
      simp only [show (Ex.bin o a b).tree.parts = [.node o.txt [], a.tree, b.tree] from rfl, cellsF, List.cons_append, List.nil_append]
      refine o_enter rfl ?_
      refine o_move rfl .free rfl ?_
      refine o_assign rfl .free rfl ?_
      refine o_done ?_
      refine s_block ?_
      refine s_loop ?_
      refine s_seq ?_
      refine s_seq ?_
      refine o_enter rfl ?_
      refine o_move rfl .free rfl ?_
      refine o_move rfl .free rfl ?_
      refine o_cmp rfl rfl rfl .free rfl ?_
      refine o_done ?_
      refine s_condT rfl (by first | rfl | decide | (simp; done) | omega) ?_
      refine s_skip ?_
      refine s_seq ?_
      refine s_block ?_
      refine s_seq ?_
      refine o_enter rfl ?_
      refine o_lOS rfl .free rfl ?_
      refine o_move rfl .free rfl ?_
      refine o_call rfl .free rfl (g_l2Binds hf.rep hok0 hb _ (by rw [hki]; decide) _) ?_
      rintro _ J1 _ e1 ⟨o1, k1, rfl, hs1, rfl⟩
      refine o_move rfl .free rfl ?_
      refine o_call rfl .free rfl (g_l1Has (hs1.rd _) k1 nm) ?_
      rintro _ _ _ _ ⟨rfl, rfl, rfl⟩
      refine o_not rfl .free rfl ?_
      refine o_mem (fun w h => Mem.le e1 h) ?_
      refine o_done ?_
      first | refine s_tp rfl (by simp [Ex.binds]) ?_ | refine s_tn rfl (by simp [Ex.binds]) ?_ | refine s_true (by simp [look, opd, *]) ?_
      refine d_all 13 rfl rfl ?_
      refine d_takeA 0 rfl (by kernel_rfl) rfl (.inr heldx) (y_fieldAddr rfl) .free rfl ?_
      refine d_take 1 [12] rfl (by kernel_rfl) rfl heldx (y_lO1 rfl) .free rfl ?_
      refine d_takeA 2 rfl (by kernel_rfl) rfl (.inr heldx) (y_move rfl) .free rfl ?_
      refine d_takeA 3 rfl (by kernel_rfl) rfl (.inr heldx) (y_fieldAddr rfl) .free rfl ?_
      refine d_take 4 [12] rfl (by kernel_rfl) rfl heldx (y_lO1 rfl) .free rfl ?_
      refine d_takeA 5 rfl (by kernel_rfl) rfl (.inr heldx) (y_move rfl) .free rfl ?_
      first | refine d_takeA 6 rfl (by kernel_rfl) rfl (.inr heldx) (y_ixD rfl rfl _ rfl) .free rfl ?_ | refine d_takeA 6 rfl (by kernel_rfl) rfl (.inr heldx) (y_ixP rfl rfl _ rfl) .free rfl ?_
      refine d_take 7 [12] rfl (by kernel_rfl) rfl heldx (y_lIS rfl) .free rfl ?_
      refine d_takeA 8 rfl (by kernel_rfl) rfl (.inr heldx) (y_move rfl) .free rfl ?_
      refine d_take 9 [12] rfl (by kernel_rfl) rfl heldx (y_lOS rfl) .free rfl ?_
      refine d_call 10 rfl (by kernel_rfl) rfl rfl .free rfl (ihn (by omega) (hf.as 1 a.tree (by omega) rfl) hok.1 nm hnm hv _) ?_
      rintro _ J2 _ e2 ⟨cs2, rfl, hr_0, rfl⟩
      obtain ⟨o2, k2, _, rfl, -⟩ := hr_0.open
      have hf := hf.mono e2
      have hv := hv.mono e2
      have hle := hle.trans e2
      refine ⟨(.inr heldx), ?_⟩
      first | refine d_takeA 11 rfl (by kernel_rfl) rfl (.inr heldx) (y_ixD rfl rfl _ rfl) .free rfl ?_ | refine d_takeA 11 rfl (by kernel_rfl) rfl (.inr heldx) (y_ixP rfl rfl _ rfl) .free rfl ?_
      refine d_st 12 rfl (by kernel_rfl) rfl rfl rfl rfl rfl .free (.inl (by kernel_rfl)) ?_
      refine d_done (by kernel_rfl) ?_
      refine s_inBlock ?_
      refine o_enter rfl ?_
      refine o_move rfl .free rfl ?_
      refine o_arith rfl rfl rfl (by omega) .free rfl ?_
      refine o_assign rfl .free rfl ?_
      refine o_done ?_
      refine s_round ?_
      refine s_seq ?_
      refine s_seq ?_
      refine o_enter rfl ?_
      refine o_move rfl .free rfl ?_
      refine o_move rfl .free rfl ?_
      refine o_cmp rfl rfl rfl .free rfl ?_
      refine o_done ?_
      refine s_condT rfl (by first | rfl | decide | (simp; done) | omega) ?_
      refine s_skip ?_
      refine s_seq ?_
      refine s_block ?_
      refine s_seq ?_
      refine o_enter rfl ?_
      refine o_lOS rfl .free rfl ?_
      refine o_move rfl .free rfl ?_
      refine o_call rfl .free rfl (g_l2Binds hf.rep hok0 hb _ (by rw [hki]; decide) _) ?_
      rintro _ J1 _ e1 ⟨o1, k1, rfl, hs1, rfl⟩
      refine o_move rfl .free rfl ?_
      refine o_call rfl .free rfl (g_l1Has (hs1.rd _) k1 nm) ?_
      rintro _ _ _ _ ⟨rfl, rfl, rfl⟩
      refine o_not rfl .free rfl ?_
      refine o_mem (fun w h => Mem.le e1 h) ?_
      refine o_done ?_
      first | refine s_tp rfl (by simp [Ex.binds]) ?_ | refine s_tn rfl (by simp [Ex.binds]) ?_ | refine s_true (by simp [look, opd, *]) ?_
      refine d_all 13 rfl rfl ?_
      refine d_takeA 0 rfl (by kernel_rfl) rfl (.inr heldx) (y_fieldAddr rfl) .free rfl ?_
      refine d_take 1 [12] rfl (by kernel_rfl) rfl heldx (y_lO1 rfl) .free rfl ?_
      refine d_takeA 2 rfl (by kernel_rfl) rfl (.inr heldx) (y_move rfl) .free rfl ?_
      refine d_takeA 3 rfl (by kernel_rfl) rfl (.inr heldx) (y_fieldAddr rfl) .free rfl ?_
      refine d_take 4 [12] rfl (by kernel_rfl) rfl heldx (y_lO1 rfl) .free rfl ?_
      refine d_takeA 5 rfl (by kernel_rfl) rfl (.inr heldx) (y_move rfl) .free rfl ?_
      first | refine d_takeA 6 rfl (by kernel_rfl) rfl (.inr heldx) (y_ixD rfl rfl _ rfl) .free rfl ?_ | refine d_takeA 6 rfl (by kernel_rfl) rfl (.inr heldx) (y_ixP rfl rfl _ rfl) .free rfl ?_
      refine d_take 7 [12] rfl (by kernel_rfl) rfl heldx (y_lIS rfl) .free rfl ?_
      refine d_takeA 8 rfl (by kernel_rfl) rfl (.inr heldx) (y_move rfl) .free rfl ?_
      refine d_take 9 [12] rfl (by kernel_rfl) rfl heldx (y_lOS rfl) .free rfl ?_
      refine d_call 10 rfl (by kernel_rfl) rfl rfl .free rfl (ihn (by omega) (hf.as 2 b.tree (by omega) rfl) hok.2 nm hnm hv _) ?_
      rintro _ J2 _ e2 ⟨cs2, rfl, hr_1, rfl⟩
      obtain ⟨o2, k2, _, rfl, -⟩ := hr_1.open
      have hf := hf.mono e2
      have hv := hv.mono e2
      have hle := hle.trans e2
      have hr_0 := hr_0.mono e2
      refine ⟨(.inr heldx), ?_⟩
      first | refine d_takeA 11 rfl (by kernel_rfl) rfl (.inr heldx) (y_ixD rfl rfl _ rfl) .free rfl ?_ | refine d_takeA 11 rfl (by kernel_rfl) rfl (.inr heldx) (y_ixP rfl rfl _ rfl) .free rfl ?_
      refine d_st 12 rfl (by kernel_rfl) rfl rfl rfl rfl rfl .free (.inl (by kernel_rfl)) ?_
      refine d_done (by kernel_rfl) ?_
      refine s_inBlock ?_
      refine o_enter rfl ?_
      refine o_move rfl .free rfl ?_
      refine o_arith rfl rfl rfl (by omega) .free rfl ?_
      refine o_assign rfl .free rfl ?_
      refine o_done ?_
      refine s_round ?_
      refine s_seq ?_
      refine s_seq ?_
      refine o_enter rfl ?_
      refine o_move rfl .free rfl ?_
      refine o_move rfl .free rfl ?_
      refine o_cmp rfl rfl rfl .free rfl ?_
      refine o_done ?_
      refine s_condF rfl (by first | rfl | decide | (simp; done) | omega) ?_
      refine s_exit rfl ?_
      refine s_seq ?_
      refine o_enter rfl ?_
      refine o_lOS rfl .free rfl ?_
      refine o_st rfl rfl rfl rfl .free ?_
      refine o_done ?_
      refine s_mem (fun w h => h.f1) (s_freeze ?_)
      intro hz
      have hf := hf.mono hz
      refine s_ret (.c rfl .nil) ?_
      exact ⟨_, L, hle.trans hz, drops, _, rfl, .mk' rfl (.cons (hf.as 0 (.node o.txt []) (by omega) rfl) (.cons (hr_0.mono hz) (.cons (hr_1.mono hz) .nil))) (fun y hy => by cases hy; exact still_set (xs := [_, _, _, _, _, _])) (by simp) hcc (by simp [maxN]) (by simp [maxN]), rfl⟩
    · skip
      have hkr : kidRange (Ex.ite a b d).tree.head = (1, 4) := rfl
      rw [hkr]
      have hlen : (Ex.ite a b d).tree.parts.length = 4 := rfl
      have hki := kids_ite a b d
      simp only [Ex.ite.sizeOf_spec] at hlt
      simp only [Ex.ok, Bool.and_eq_true] at hok
      simp only [show (Ex.ite a b d).tree.parts = [.node tIf [], a.tree, b.tree, d.tree] from rfl, cellsF, List.cons_append, List.nil_append]
      refine o_enter rfl ?_
      refine o_move rfl .free rfl ?_
      refine o_assign rfl .free rfl ?_
      refine o_done ?_
      refine s_block ?_
      refine s_loop ?_
      refine s_seq ?_
      refine s_seq ?_
      refine o_enter rfl ?_
      refine o_move rfl .free rfl ?_
      refine o_move rfl .free rfl ?_
      refine o_cmp rfl rfl rfl .free rfl ?_
      refine o_done ?_
      refine s_condT rfl (by first | rfl | decide | (simp; done) | omega) ?_
      refine s_skip ?_
      refine s_seq ?_
      refine s_block ?_
      refine s_seq ?_
      refine o_enter rfl ?_
      refine o_lOS rfl .free rfl ?_
      refine o_move rfl .free rfl ?_
      refine o_call rfl .free rfl (g_l2Binds hf.rep hok0 hb _ (by rw [hki]; decide) _) ?_
      rintro _ J1 _ e1 ⟨o1, k1, rfl, hs1, rfl⟩
      refine o_move rfl .free rfl ?_
      refine o_call rfl .free rfl (g_l1Has (hs1.rd _) k1 nm) ?_
      rintro _ _ _ _ ⟨rfl, rfl, rfl⟩
      refine o_not rfl .free rfl ?_
      refine o_mem (fun w h => Mem.le e1 h) ?_
      refine o_done ?_
      first | refine s_tp rfl (by simp [Ex.binds]) ?_ | refine s_tn rfl (by simp [Ex.binds]) ?_ | refine s_true (by simp [look, opd, *]) ?_
      refine d_all 13 rfl rfl ?_
      refine d_takeA 0 rfl (by kernel_rfl) rfl (.inr heldx) (y_fieldAddr rfl) .free rfl ?_
      refine d_take 1 [12] rfl (by kernel_rfl) rfl heldx (y_lO1 rfl) .free rfl ?_
      refine d_takeA 2 rfl (by kernel_rfl) rfl (.inr heldx) (y_move rfl) .free rfl ?_
      refine d_takeA 3 rfl (by kernel_rfl) rfl (.inr heldx) (y_fieldAddr rfl) .free rfl ?_
      refine d_take 4 [12] rfl (by kernel_rfl) rfl heldx (y_lO1 rfl) .free rfl ?_
      refine d_takeA 5 rfl (by kernel_rfl) rfl (.inr heldx) (y_move rfl) .free rfl ?_
      first | refine d_takeA 6 rfl (by kernel_rfl) rfl (.inr heldx) (y_ixD rfl rfl _ rfl) .free rfl ?_ | refine d_takeA 6 rfl (by kernel_rfl) rfl (.inr heldx) (y_ixP rfl rfl _ rfl) .free rfl ?_
      refine d_take 7 [12] rfl (by kernel_rfl) rfl heldx (y_lIS rfl) .free rfl ?_
      refine d_takeA 8 rfl (by kernel_rfl) rfl (.inr heldx) (y_move rfl) .free rfl ?_
      refine d_take 9 [12] rfl (by kernel_rfl) rfl heldx (y_lOS rfl) .free rfl ?_
      refine d_call 10 rfl (by kernel_rfl) rfl rfl .free rfl (ihn (by omega) (hf.as 1 a.tree (by omega) rfl) hok.1.1 nm hnm hv _) ?_
      rintro _ J2 _ e2 ⟨cs2, rfl, hr_0, rfl⟩
      obtain ⟨o2, k2, _, rfl, -⟩ := hr_0.open
      have hf := hf.mono e2
      have hv := hv.mono e2
      have hle := hle.trans e2
      refine ⟨(.inr heldx), ?_⟩
      first | refine d_takeA 11 rfl (by kernel_rfl) rfl (.inr heldx) (y_ixD rfl rfl _ rfl) .free rfl ?_ | refine d_takeA 11 rfl (by kernel_rfl) rfl (.inr heldx) (y_ixP rfl rfl _ rfl) .free rfl ?_
      refine d_st 12 rfl (by kernel_rfl) rfl rfl rfl rfl rfl .free (.inl (by kernel_rfl)) ?_
      refine d_done (by kernel_rfl) ?_
      refine s_inBlock ?_
      refine o_enter rfl ?_
      refine o_move rfl .free rfl ?_
      refine o_arith rfl rfl rfl (by omega) .free rfl ?_
      refine o_assign rfl .free rfl ?_
      refine o_done ?_
      refine s_round ?_
      refine s_seq ?_
      refine s_seq ?_
      refine o_enter rfl ?_
      refine o_move rfl .free rfl ?_
      refine o_move rfl .free rfl ?_
      refine o_cmp rfl rfl rfl .free rfl ?_
      refine o_done ?_
      refine s_condT rfl (by first | rfl | decide | (simp; done) | omega) ?_
      refine s_skip ?_
      refine s_seq ?_
      refine s_block ?_
      refine s_seq ?_
      refine o_enter rfl ?_
      refine o_lOS rfl .free rfl ?_
      refine o_move rfl .free rfl ?_
      refine o_call rfl .free rfl (g_l2Binds hf.rep hok0 hb _ (by rw [hki]; decide) _) ?_
      rintro _ J1 _ e1 ⟨o1, k1, rfl, hs1, rfl⟩
      refine o_move rfl .free rfl ?_
      refine o_call rfl .free rfl (g_l1Has (hs1.rd _) k1 nm) ?_
      rintro _ _ _ _ ⟨rfl, rfl, rfl⟩
      refine o_not rfl .free rfl ?_
      refine o_mem (fun w h => Mem.le e1 h) ?_
      refine o_done ?_
      first | refine s_tp rfl (by simp [Ex.binds]) ?_ | refine s_tn rfl (by simp [Ex.binds]) ?_ | refine s_true (by simp [look, opd, *]) ?_
      refine d_all 13 rfl rfl ?_
      refine d_takeA 0 rfl (by kernel_rfl) rfl (.inr heldx) (y_fieldAddr rfl) .free rfl ?_
      refine d_take 1 [12] rfl (by kernel_rfl) rfl heldx (y_lO1 rfl) .free rfl ?_
      refine d_takeA 2 rfl (by kernel_rfl) rfl (.inr heldx) (y_move rfl) .free rfl ?_
      refine d_takeA 3 rfl (by kernel_rfl) rfl (.inr heldx) (y_fieldAddr rfl) .free rfl ?_
      refine d_take 4 [12] rfl (by kernel_rfl) rfl heldx (y_lO1 rfl) .free rfl ?_
      refine d_takeA 5 rfl (by kernel_rfl) rfl (.inr heldx) (y_move rfl) .free rfl ?_
      first | refine d_takeA 6 rfl (by kernel_rfl) rfl (.inr heldx) (y_ixD rfl rfl _ rfl) .free rfl ?_ | refine d_takeA 6 rfl (by kernel_rfl) rfl (.inr heldx) (y_ixP rfl rfl _ rfl) .free rfl ?_
      refine d_take 7 [12] rfl (by kernel_rfl) rfl heldx (y_lIS rfl) .free rfl ?_
      refine d_takeA 8 rfl (by kernel_rfl) rfl (.inr heldx) (y_move rfl) .free rfl ?_
      refine d_take 9 [12] rfl (by kernel_rfl) rfl heldx (y_lOS rfl) .free rfl ?_
      refine d_call 10 rfl (by kernel_rfl) rfl rfl .free rfl (ihn (by omega) (hf.as 2 b.tree (by omega) rfl) hok.1.2 nm hnm hv _) ?_
      rintro _ J2 _ e2 ⟨cs2, rfl, hr_1, rfl⟩
      obtain ⟨o2, k2, _, rfl, -⟩ := hr_1.open
      have hf := hf.mono e2
      have hv := hv.mono e2
      have hle := hle.trans e2
      have hr_0 := hr_0.mono e2
      refine ⟨(.inr heldx), ?_⟩
      first | refine d_takeA 11 rfl (by kernel_rfl) rfl (.inr heldx) (y_ixD rfl rfl _ rfl) .free rfl ?_ | refine d_takeA 11 rfl (by kernel_rfl) rfl (.inr heldx) (y_ixP rfl rfl _ rfl) .free rfl ?_
      refine d_st 12 rfl (by kernel_rfl) rfl rfl rfl rfl rfl .free (.inl (by kernel_rfl)) ?_
      refine d_done (by kernel_rfl) ?_
      refine s_inBlock ?_
      refine o_enter rfl ?_
      refine o_move rfl .free rfl ?_
      refine o_arith rfl rfl rfl (by omega) .free rfl ?_
      refine o_assign rfl .free rfl ?_
      refine o_done ?_
      refine s_round ?_
      refine s_seq ?_
      refine s_seq ?_
      refine o_enter rfl ?_
      refine o_move rfl .free rfl ?_
      refine o_move rfl .free rfl ?_
      refine o_cmp rfl rfl rfl .free rfl ?_
      refine o_done ?_
      refine s_condT rfl (by first | rfl | decide | (simp; done) | omega) ?_
      refine s_skip ?_
      refine s_seq ?_
      refine s_block ?_
      refine s_seq ?_
      refine o_enter rfl ?_
      refine o_lOS rfl .free rfl ?_
      refine o_move rfl .free rfl ?_
      refine o_call rfl .free rfl (g_l2Binds hf.rep hok0 hb _ (by rw [hki]; decide) _) ?_
      rintro _ J1 _ e1 ⟨o1, k1, rfl, hs1, rfl⟩
      refine o_move rfl .free rfl ?_
      refine o_call rfl .free rfl (g_l1Has (hs1.rd _) k1 nm) ?_
      rintro _ _ _ _ ⟨rfl, rfl, rfl⟩
      refine o_not rfl .free rfl ?_
      refine o_mem (fun w h => Mem.le e1 h) ?_
      refine o_done ?_
      first | refine s_tp rfl (by simp [Ex.binds]) ?_ | refine s_tn rfl (by simp [Ex.binds]) ?_ | refine s_true (by simp [look, opd, *]) ?_
      refine d_all 13 rfl rfl ?_
      refine d_takeA 0 rfl (by kernel_rfl) rfl (.inr heldx) (y_fieldAddr rfl) .free rfl ?_
      refine d_take 1 [12] rfl (by kernel_rfl) rfl heldx (y_lO1 rfl) .free rfl ?_
      refine d_takeA 2 rfl (by kernel_rfl) rfl (.inr heldx) (y_move rfl) .free rfl ?_
      refine d_takeA 3 rfl (by kernel_rfl) rfl (.inr heldx) (y_fieldAddr rfl) .free rfl ?_
      refine d_take 4 [12] rfl (by kernel_rfl) rfl heldx (y_lO1 rfl) .free rfl ?_
      refine d_takeA 5 rfl (by kernel_rfl) rfl (.inr heldx) (y_move rfl) .free rfl ?_
      first | refine d_takeA 6 rfl (by kernel_rfl) rfl (.inr heldx) (y_ixD rfl rfl _ rfl) .free rfl ?_ | refine d_takeA 6 rfl (by kernel_rfl) rfl (.inr heldx) (y_ixP rfl rfl _ rfl) .free rfl ?_
      refine d_take 7 [12] rfl (by kernel_rfl) rfl heldx (y_lIS rfl) .free rfl ?_
      refine d_takeA 8 rfl (by kernel_rfl) rfl (.inr heldx) (y_move rfl) .free rfl ?_
      refine d_take 9 [12] rfl (by kernel_rfl) rfl heldx (y_lOS rfl) .free rfl ?_
      refine d_call 10 rfl (by kernel_rfl) rfl rfl .free rfl (ihn (by omega) (hf.as 3 d.tree (by omega) rfl) hok.2 nm hnm hv _) ?_
      rintro _ J2 _ e2 ⟨cs2, rfl, hr_2, rfl⟩
      obtain ⟨o2, k2, _, rfl, -⟩ := hr_2.open
      have hf := hf.mono e2
      have hv := hv.mono e2
      have hle := hle.trans e2
      have hr_0 := hr_0.mono e2
      have hr_1 := hr_1.mono e2
      refine ⟨(.inr heldx), ?_⟩
      first | refine d_takeA 11 rfl (by kernel_rfl) rfl (.inr heldx) (y_ixD rfl rfl _ rfl) .free rfl ?_ | refine d_takeA 11 rfl (by kernel_rfl) rfl (.inr heldx) (y_ixP rfl rfl _ rfl) .free rfl ?_
      refine d_st 12 rfl (by kernel_rfl) rfl rfl rfl rfl rfl .free (.inl (by kernel_rfl)) ?_
      refine d_done (by kernel_rfl) ?_
      refine s_inBlock ?_
      refine o_enter rfl ?_
      refine o_move rfl .free rfl ?_
      refine o_arith rfl rfl rfl (by omega) .free rfl ?_
      refine o_assign rfl .free rfl ?_
      refine o_done ?_
      refine s_round ?_
      refine s_seq ?_
      refine s_seq ?_
      refine o_enter rfl ?_
      refine o_move rfl .free rfl ?_
      refine o_move rfl .free rfl ?_
      refine o_cmp rfl rfl rfl .free rfl ?_
      refine o_done ?_
      refine s_condF rfl (by first | rfl | decide | (simp; done) | omega) ?_
      refine s_exit rfl ?_
      refine s_seq ?_
      refine o_enter rfl ?_
      refine o_lOS rfl .free rfl ?_
      refine o_st rfl rfl rfl rfl .free ?_
      refine o_done ?_
      refine s_mem (fun w h => h.f1) (s_freeze ?_)
      intro hz
      have hf := hf.mono hz
      refine s_ret (.c rfl .nil) ?_
      exact ⟨_, L, hle.trans hz, drops, _, rfl, .mk' rfl (.cons (hf.as 0 (.node tIf []) (by omega) rfl) (.cons (hr_0.mono hz) (.cons (hr_1.mono hz) (.cons (hr_2.mono hz) .nil)))) (fun y hy => by cases hy; exact still_set (xs := [_, _, _, _, _, _, _, _])) (by simp) hcc (by simp [maxN]) (by simp [maxN]), rfl⟩
    · skip
      have hkr : kidRange (Ex.lt z a b).tree.head = (2, 4) := rfl
      rw [hkr]
      have hlen : (Ex.lt z a b).tree.parts.length = 4 := rfl
      have hki := kids_lt' z a b
      simp only [Ex.lt.sizeOf_spec] at hlt
      simp only [Ex.ok, Bool.and_eq_true] at hok
      simp only [show (Ex.lt z a b).tree.parts = [.node tLet [], .node z [], a.tree, b.tree] from rfl, cellsF, List.cons_append, List.nil_append]
      refine o_enter rfl ?_
      refine o_move rfl .free rfl ?_
      refine o_assign rfl .free rfl ?_
      refine o_done ?_
      refine s_block ?_
      refine s_loop ?_
      refine s_seq ?_
      refine s_seq ?_
      refine o_enter rfl ?_
      refine o_move rfl .free rfl ?_
      refine o_move rfl .free rfl ?_
      refine o_cmp rfl rfl rfl .free rfl ?_
      refine o_done ?_
      refine s_condT rfl (by first | rfl | decide | (simp; done) | omega) ?_
      refine s_skip ?_
      refine s_seq ?_
      refine s_block ?_
      refine s_seq ?_
      refine o_enter rfl ?_
      refine o_lOS rfl .free rfl ?_
      refine o_move rfl .free rfl ?_
      refine o_call rfl .free rfl (g_l2Binds hf.rep hok0 hb _ (by rw [hki]; decide) _) ?_
      rintro _ J1 _ e1 ⟨o1, k1, rfl, hs1, rfl⟩
      refine o_move rfl .free rfl ?_
      refine o_call rfl .free rfl (g_l1Has (hs1.rd _) k1 nm) ?_
      rintro _ _ _ _ ⟨rfl, rfl, rfl⟩
      refine o_not rfl .free rfl ?_
      refine o_mem (fun w h => Mem.le e1 h) ?_
      refine o_done ?_
      first | refine s_tp rfl (by simp [Ex.binds]) ?_ | refine s_tn rfl (by simp [Ex.binds]) ?_ | refine s_true (by simp [look, opd, *]) ?_
      refine d_all 13 rfl rfl ?_
      refine d_takeA 0 rfl (by kernel_rfl) rfl (.inr heldx) (y_fieldAddr rfl) .free rfl ?_
      refine d_take 1 [12] rfl (by kernel_rfl) rfl heldx (y_lO1 rfl) .free rfl ?_
      refine d_takeA 2 rfl (by kernel_rfl) rfl (.inr heldx) (y_move rfl) .free rfl ?_
      refine d_takeA 3 rfl (by kernel_rfl) rfl (.inr heldx) (y_fieldAddr rfl) .free rfl ?_
      refine d_take 4 [12] rfl (by kernel_rfl) rfl heldx (y_lO1 rfl) .free rfl ?_
      refine d_takeA 5 rfl (by kernel_rfl) rfl (.inr heldx) (y_move rfl) .free rfl ?_
      first | refine d_takeA 6 rfl (by kernel_rfl) rfl (.inr heldx) (y_ixD rfl rfl _ rfl) .free rfl ?_ | refine d_takeA 6 rfl (by kernel_rfl) rfl (.inr heldx) (y_ixP rfl rfl _ rfl) .free rfl ?_
      refine d_take 7 [12] rfl (by kernel_rfl) rfl heldx (y_lIS rfl) .free rfl ?_
      refine d_takeA 8 rfl (by kernel_rfl) rfl (.inr heldx) (y_move rfl) .free rfl ?_
      refine d_take 9 [12] rfl (by kernel_rfl) rfl heldx (y_lOS rfl) .free rfl ?_
      refine d_call 10 rfl (by kernel_rfl) rfl rfl .free rfl (ihn (by omega) (hf.as 2 a.tree (by omega) rfl) hok.1.2 nm hnm hv _) ?_
      rintro _ J2 _ e2 ⟨cs2, rfl, hr_0, rfl⟩
      obtain ⟨o2, k2, _, rfl, -⟩ := hr_0.open
      have hf := hf.mono e2
      have hv := hv.mono e2
      have hle := hle.trans e2
      refine ⟨(.inr heldx), ?_⟩
      first | refine d_takeA 11 rfl (by kernel_rfl) rfl (.inr heldx) (y_ixD rfl rfl _ rfl) .free rfl ?_ | refine d_takeA 11 rfl (by kernel_rfl) rfl (.inr heldx) (y_ixP rfl rfl _ rfl) .free rfl ?_
      refine d_st 12 rfl (by kernel_rfl) rfl rfl rfl rfl rfl .free (.inl (by kernel_rfl)) ?_
      refine d_done (by kernel_rfl) ?_
      refine s_inBlock ?_
      refine o_enter rfl ?_
      refine o_move rfl .free rfl ?_
      refine o_arith rfl rfl rfl (by omega) .free rfl ?_
      refine o_assign rfl .free rfl ?_
      refine o_done ?_
      refine s_round ?_
      refine s_seq ?_
      refine s_seq ?_
      refine o_enter rfl ?_
      refine o_move rfl .free rfl ?_
      refine o_move rfl .free rfl ?_
      refine o_cmp rfl rfl rfl .free rfl ?_
      refine o_done ?_
      refine s_condT rfl (by first | rfl | decide | (simp; done) | omega) ?_
      refine s_skip ?_
      refine s_seq ?_
      refine s_block ?_
      refine s_seq ?_
      refine o_enter rfl ?_
      refine o_lOS rfl .free rfl ?_
      refine o_move rfl .free rfl ?_
      refine o_call rfl .free rfl (g_l2Binds hf.rep hok0 hb _ (by rw [hki]; decide) _) ?_
      rintro _ J1 _ e1 ⟨o1, k1, rfl, hs1, rfl⟩
      refine o_move rfl .free rfl ?_
      refine o_call rfl .free rfl (g_l1Has (hs1.rd _) k1 nm) ?_
      rintro _ _ _ _ ⟨rfl, rfl, rfl⟩
      refine o_not rfl .free rfl ?_
      refine o_mem (fun w h => Mem.le e1 h) ?_
      refine o_done ?_
      refine s_cond rfl ?_ ?_
      · intro c3
        try simp only [nb] at c3
        have c3 : ¬ nm ∈ [z] := c3
        refine d_all 13 rfl rfl ?_
        refine d_takeA 0 rfl (by kernel_rfl) rfl (.inr heldx) (y_fieldAddr rfl) .free rfl ?_
        refine d_take 1 [12] rfl (by kernel_rfl) rfl heldx (y_lO1 rfl) .free rfl ?_
        refine d_takeA 2 rfl (by kernel_rfl) rfl (.inr heldx) (y_move rfl) .free rfl ?_
        refine d_takeA 3 rfl (by kernel_rfl) rfl (.inr heldx) (y_fieldAddr rfl) .free rfl ?_
        refine d_take 4 [12] rfl (by kernel_rfl) rfl heldx (y_lO1 rfl) .free rfl ?_
        refine d_takeA 5 rfl (by kernel_rfl) rfl (.inr heldx) (y_move rfl) .free rfl ?_
        first | refine d_takeA 6 rfl (by kernel_rfl) rfl (.inr heldx) (y_ixD rfl rfl _ rfl) .free rfl ?_ | refine d_takeA 6 rfl (by kernel_rfl) rfl (.inr heldx) (y_ixP rfl rfl _ rfl) .free rfl ?_
        refine d_take 7 [12] rfl (by kernel_rfl) rfl heldx (y_lIS rfl) .free rfl ?_
        refine d_takeA 8 rfl (by kernel_rfl) rfl (.inr heldx) (y_move rfl) .free rfl ?_
        refine d_take 9 [12] rfl (by kernel_rfl) rfl heldx (y_lOS rfl) .free rfl ?_
        refine d_call 10 rfl (by kernel_rfl) rfl rfl .free rfl (ihn (by omega) (hf.as 3 b.tree (by omega) rfl) hok.2 nm hnm hv _) ?_
        rintro _ J2 _ e2 ⟨cs2, rfl, hr_1, rfl⟩
        obtain ⟨o2, k2, _, rfl, -⟩ := hr_1.open
        have hf := hf.mono e2
        have hv := hv.mono e2
        have hle := hle.trans e2
        have hr_0 := hr_0.mono e2
        refine ⟨(.inr heldx), ?_⟩
        first | refine d_takeA 11 rfl (by kernel_rfl) rfl (.inr heldx) (y_ixD rfl rfl _ rfl) .free rfl ?_ | refine d_takeA 11 rfl (by kernel_rfl) rfl (.inr heldx) (y_ixP rfl rfl _ rfl) .free rfl ?_
        refine d_st 12 rfl (by kernel_rfl) rfl rfl rfl rfl rfl .free (.inl (by kernel_rfl)) ?_
        refine d_done (by kernel_rfl) ?_
        refine s_inBlock ?_
        refine o_enter rfl ?_
        refine o_move rfl .free rfl ?_
        refine o_arith rfl rfl rfl (by omega) .free rfl ?_
        refine o_assign rfl .free rfl ?_
        refine o_done ?_
        refine s_round ?_
        refine s_seq ?_
        refine s_seq ?_
        refine o_enter rfl ?_
        refine o_move rfl .free rfl ?_
        refine o_move rfl .free rfl ?_
        refine o_cmp rfl rfl rfl .free rfl ?_
        refine o_done ?_
        refine s_condF rfl (by first | rfl | decide | (simp; done) | omega) ?_
        refine s_exit rfl ?_
        refine s_seq ?_
        refine o_enter rfl ?_
        refine o_lOS rfl .free rfl ?_
        refine o_st rfl rfl rfl rfl .free ?_
        refine o_done ?_
        refine s_mem (fun w h => h.f1) (s_freeze ?_)
        intro hz
        have hf := hf.mono hz
        refine s_ret (.c rfl .nil) ?_
        first
          | (have hput : (Ex.lt z a b).put nm v = .lt z (a.put nm v) (b.put nm v) := by
               have : ¬ z = nm := fun h => c3 (by simp [h])
               simp [Ex.put, this]
             rw [hput]
             exact ⟨_, L, hle.trans hz, drops, _, rfl, .mk' rfl (.cons (hf.as 0 (.node tLet []) (by omega) rfl) (.cons (hf.as 1 (.node z []) (by omega) rfl) (.cons (hr_0.mono hz) (.cons (hr_1.mono hz) .nil)))) (fun y hy => by cases hy; exact still_set (xs := [_, _, _, _, _, _, _, _])) (by simp) hcc (by simp [maxN]) (by simp [maxN]), rfl⟩)
          | (have hput : (Ex.lt z a b).put nm v = .lt z (a.put nm v) b := by
               have : nm = z := by simpa using c3
               simp [Ex.put, this]
             rw [hput]
             exact ⟨_, L, hle.trans hz, drops, _, rfl, .mk' rfl (.cons (hf.as 0 (.node tLet []) (by omega) rfl) (.cons (hf.as 1 (.node z []) (by omega) rfl) (.cons (hr_0.mono hz) (.cons (hf.as 3 b.tree (by omega) rfl) .nil)))) (fun y hy => by cases hy; exact still_set (xs := [_, _, _, _, _, _, _, _])) (by simp) hcc (by simp [maxN]) (by simp [maxN]), rfl⟩)
      intro c3
      try simp only [nb] at c3
      have c3 : nm ∈ [z] := c3
      refine s_skip ?_
      refine s_inBlock ?_
      refine o_enter rfl ?_
      refine o_move rfl .free rfl ?_
      refine o_arith rfl rfl rfl (by omega) .free rfl ?_
      refine o_assign rfl .free rfl ?_
      refine o_done ?_
      refine s_round ?_
      refine s_seq ?_
      refine s_seq ?_
      refine o_enter rfl ?_
      refine o_move rfl .free rfl ?_
      refine o_move rfl .free rfl ?_
      refine o_cmp rfl rfl rfl .free rfl ?_
      refine o_done ?_
      refine s_condF rfl (by first | rfl | decide | (simp; done) | omega) ?_
      refine s_exit rfl ?_
      refine s_seq ?_
      refine o_enter rfl ?_
      refine o_lOS rfl .free rfl ?_
      refine o_st rfl rfl rfl rfl .free ?_
      refine o_done ?_
      refine s_mem (fun w h => h.f1) (s_freeze ?_)
      intro hz
      have hf := hf.mono hz
      refine s_ret (.c rfl .nil) ?_
      first
        | (have hput : (Ex.lt z a b).put nm v = .lt z (a.put nm v) (b.put nm v) := by
             have : ¬ z = nm := fun h => c3 (by simp [h])
             simp [Ex.put, this]
           rw [hput]
           exact ⟨_, L, hle.trans hz, drops, _, rfl, .mk' rfl (.cons (hf.as 0 (.node tLet []) (by omega) rfl) (.cons (hf.as 1 (.node z []) (by omega) rfl) (.cons (hr_0.mono hz) (.cons (hr_1.mono hz) .nil)))) (fun y hy => by cases hy; exact still_set (xs := [_, _, _, _, _, _, _, _])) (by simp) hcc (by simp [maxN]) (by simp [maxN]), rfl⟩)
        | (have hput : (Ex.lt z a b).put nm v = .lt z (a.put nm v) b := by
             have : nm = z := by simpa using c3
             simp [Ex.put, this]
           rw [hput]
           exact ⟨_, L, hle.trans hz, drops, _, rfl, .mk' rfl (.cons (hf.as 0 (.node tLet []) (by omega) rfl) (.cons (hf.as 1 (.node z []) (by omega) rfl) (.cons (hr_0.mono hz) (.cons (hf.as 3 b.tree (by omega) rfl) .nil)))) (fun y hy => by cases hy; exact still_set (xs := [_, _, _, _, _, _, _, _])) (by simp) hcc (by simp [maxN]) (by simp [maxN]), rfl⟩)
    · skip
      have hkr : kidRange (Ex.fn g z s t b).tree.head = (5, 6) := rfl
      rw [hkr]
      have hlen : (Ex.fn g z s t b).tree.parts.length = 6 := rfl
      have hki := kids_fn g z s t b
      simp only [Ex.fn.sizeOf_spec] at hlt
      simp only [Ex.ok, Bool.and_eq_true] at hok
      simp only [show (Ex.fn g z s t b).tree.parts = [.node tFun [], .node g [], .node z [], s.tree, t.tree, b.tree] from rfl, cellsF, List.cons_append, List.nil_append]
      refine o_enter rfl ?_
      refine o_move rfl .free rfl ?_
      refine o_assign rfl .free rfl ?_
      refine o_done ?_
      refine s_block ?_
      refine s_loop ?_
      refine s_seq ?_
      refine s_seq ?_
      refine o_enter rfl ?_
      refine o_move rfl .free rfl ?_
      refine o_move rfl .free rfl ?_
      refine o_cmp rfl rfl rfl .free rfl ?_
      refine o_done ?_
      refine s_condT rfl (by first | rfl | decide | (simp; done) | omega) ?_
      refine s_skip ?_
      refine s_seq ?_
      refine s_block ?_
      refine s_seq ?_
      refine o_enter rfl ?_
      refine o_lOS rfl .free rfl ?_
      refine o_move rfl .free rfl ?_
      refine o_call rfl .free rfl (g_l2Binds hf.rep hok0 hb _ (by rw [hki]; decide) _) ?_
      rintro _ J1 _ e1 ⟨o1, k1, rfl, hs1, rfl⟩
      refine o_move rfl .free rfl ?_
      refine o_call rfl .free rfl (g_l1Has (hs1.rd _) k1 nm) ?_
      rintro _ _ _ _ ⟨rfl, rfl, rfl⟩
      refine o_not rfl .free rfl ?_
      refine o_mem (fun w h => Mem.le e1 h) ?_
      refine o_done ?_
      refine s_cond rfl ?_ ?_
      · intro c3
        try simp only [nb] at c3
        have c3 : ¬ nm ∈ [g, z] := c3
        refine d_all 13 rfl rfl ?_
        refine d_takeA 0 rfl (by kernel_rfl) rfl (.inr heldx) (y_fieldAddr rfl) .free rfl ?_
        refine d_take 1 [12] rfl (by kernel_rfl) rfl heldx (y_lO1 rfl) .free rfl ?_
        refine d_takeA 2 rfl (by kernel_rfl) rfl (.inr heldx) (y_move rfl) .free rfl ?_
        refine d_takeA 3 rfl (by kernel_rfl) rfl (.inr heldx) (y_fieldAddr rfl) .free rfl ?_
        refine d_take 4 [12] rfl (by kernel_rfl) rfl heldx (y_lO1 rfl) .free rfl ?_
        refine d_takeA 5 rfl (by kernel_rfl) rfl (.inr heldx) (y_move rfl) .free rfl ?_
        first | refine d_takeA 6 rfl (by kernel_rfl) rfl (.inr heldx) (y_ixD rfl rfl _ rfl) .free rfl ?_ | refine d_takeA 6 rfl (by kernel_rfl) rfl (.inr heldx) (y_ixP rfl rfl _ rfl) .free rfl ?_
        refine d_take 7 [12] rfl (by kernel_rfl) rfl heldx (y_lIS rfl) .free rfl ?_
        refine d_takeA 8 rfl (by kernel_rfl) rfl (.inr heldx) (y_move rfl) .free rfl ?_
        refine d_take 9 [12] rfl (by kernel_rfl) rfl heldx (y_lOS rfl) .free rfl ?_
        refine d_call 10 rfl (by kernel_rfl) rfl rfl .free rfl (ihn (by omega) (hf.as 5 b.tree (by omega) rfl) hok.2 nm hnm hv _) ?_
        rintro _ J2 _ e2 ⟨cs2, rfl, hr_0, rfl⟩
        obtain ⟨o2, k2, _, rfl, -⟩ := hr_0.open
        have hf := hf.mono e2
        have hv := hv.mono e2
        have hle := hle.trans e2
        refine ⟨(.inr heldx), ?_⟩
        first | refine d_takeA 11 rfl (by kernel_rfl) rfl (.inr heldx) (y_ixD rfl rfl _ rfl) .free rfl ?_ | refine d_takeA 11 rfl (by kernel_rfl) rfl (.inr heldx) (y_ixP rfl rfl _ rfl) .free rfl ?_
        refine d_st 12 rfl (by kernel_rfl) rfl rfl rfl rfl rfl .free (.inl (by kernel_rfl)) ?_
        refine d_done (by kernel_rfl) ?_
        refine s_inBlock ?_
        refine o_enter rfl ?_
        refine o_move rfl .free rfl ?_
        refine o_arith rfl rfl rfl (by omega) .free rfl ?_
        refine o_assign rfl .free rfl ?_
        refine o_done ?_
        refine s_round ?_
        refine s_seq ?_
        refine s_seq ?_
        refine o_enter rfl ?_
        refine o_move rfl .free rfl ?_
        refine o_move rfl .free rfl ?_
        refine o_cmp rfl rfl rfl .free rfl ?_
        refine o_done ?_
        refine s_condF rfl (by first | rfl | decide | (simp; done) | omega) ?_
        refine s_exit rfl ?_
        refine s_seq ?_
        refine o_enter rfl ?_
        refine o_lOS rfl .free rfl ?_
        refine o_st rfl rfl rfl rfl .free ?_
        refine o_done ?_
        refine s_mem (fun w h => h.f1) (s_freeze ?_)
        intro hz
        have hf := hf.mono hz
        refine s_ret (.c rfl .nil) ?_
        first
          | (have hput : (Ex.fn g z s t b).put nm v = .fn g z s t (b.put nm v) := by
               have h1 : ¬ (g = nm ∨ z = nm) := by rintro (h | h) <;> exact c3 (by simp [h])
               simp only [Ex.put]; rw [if_neg h1]
             rw [hput]
             exact ⟨_, L, hle.trans hz, drops, _, rfl, .mk' rfl (.cons (hf.as 0 (.node tFun []) (by omega) rfl) (.cons (hf.as 1 (.node g []) (by omega) rfl) (.cons (hf.as 2 (.node z []) (by omega) rfl) (.cons (hf.as 3 (s.tree) (by omega) rfl) (.cons (hf.as 4 (t.tree) (by omega) rfl) (.cons (hr_0.mono hz) .nil)))))) (fun y hy => by cases hy; exact still_set (xs := [_, _, _, _, _, _, _, _, _, _, _, _])) (by simp) hcc (by simp [maxN]) (by simp [maxN]), rfl⟩)
          | (have hput : (Ex.fn g z s t b).put nm v = .fn g z s t b := by
               have h1 : g = nm ∨ z = nm := by simp at c3; rcases c3 with h | h <;> simp [h]
               simp only [Ex.put]; rw [if_pos h1]
             rw [hput]
             exact ⟨_, L, hle.trans hz, drops, _, rfl, .mk' rfl (.cons (hf.as 0 (.node tFun []) (by omega) rfl) (.cons (hf.as 1 (.node g []) (by omega) rfl) (.cons (hf.as 2 (.node z []) (by omega) rfl) (.cons (hf.as 3 (s.tree) (by omega) rfl) (.cons (hf.as 4 (t.tree) (by omega) rfl) (.cons (hf.as 5 b.tree (by omega) rfl) .nil)))))) (fun y hy => by cases hy; exact still_set (xs := [_, _, _, _, _, _, _, _, _, _, _, _])) (by simp) hcc (by simp [maxN]) (by simp [maxN]), rfl⟩)
      intro c3
      try simp only [nb] at c3
      have c3 : nm ∈ [g, z] := c3
      refine s_skip ?_
      refine s_inBlock ?_
      refine o_enter rfl ?_
      refine o_move rfl .free rfl ?_
      refine o_arith rfl rfl rfl (by omega) .free rfl ?_
      refine o_assign rfl .free rfl ?_
      refine o_done ?_
      refine s_round ?_
      refine s_seq ?_
      refine s_seq ?_
      refine o_enter rfl ?_
      refine o_move rfl .free rfl ?_
      refine o_move rfl .free rfl ?_
      refine o_cmp rfl rfl rfl .free rfl ?_
      refine o_done ?_
      refine s_condF rfl (by first | rfl | decide | (simp; done) | omega) ?_
      refine s_exit rfl ?_
      refine s_seq ?_
      refine o_enter rfl ?_
      refine o_lOS rfl .free rfl ?_
      refine o_st rfl rfl rfl rfl .free ?_
      refine o_done ?_
      refine s_mem (fun w h => h.f1) (s_freeze ?_)
      intro hz
      have hf := hf.mono hz
      refine s_ret (.c rfl .nil) ?_
      first
        | (have hput : (Ex.fn g z s t b).put nm v = .fn g z s t (b.put nm v) := by
             have h1 : ¬ (g = nm ∨ z = nm) := by rintro (h | h) <;> exact c3 (by simp [h])
             simp only [Ex.put]; rw [if_neg h1]
           rw [hput]
           exact ⟨_, L, hle.trans hz, drops, _, rfl, .mk' rfl (.cons (hf.as 0 (.node tFun []) (by omega) rfl) (.cons (hf.as 1 (.node g []) (by omega) rfl) (.cons (hf.as 2 (.node z []) (by omega) rfl) (.cons (hf.as 3 (s.tree) (by omega) rfl) (.cons (hf.as 4 (t.tree) (by omega) rfl) (.cons (hr_0.mono hz) .nil)))))) (fun y hy => by cases hy; exact still_set (xs := [_, _, _, _, _, _, _, _, _, _, _, _])) (by simp) hcc (by simp [maxN]) (by simp [maxN]), rfl⟩)
        | (have hput : (Ex.fn g z s t b).put nm v = .fn g z s t b := by
             have h1 : g = nm ∨ z = nm := by simp at c3; rcases c3 with h | h <;> simp [h]
             simp only [Ex.put]; rw [if_pos h1]
           rw [hput]
           exact ⟨_, L, hle.trans hz, drops, _, rfl, .mk' rfl (.cons (hf.as 0 (.node tFun []) (by omega) rfl) (.cons (hf.as 1 (.node g []) (by omega) rfl) (.cons (hf.as 2 (.node z []) (by omega) rfl) (.cons (hf.as 3 (s.tree) (by omega) rfl) (.cons (hf.as 4 (t.tree) (by omega) rfl) (.cons (hf.as 5 b.tree (by omega) rfl) .nil)))))) (fun y hy => by cases hy; exact still_set (xs := [_, _, _, _, _, _, _, _, _, _, _, _])) (by simp) hcc (by simp [maxN]) (by simp [maxN]), rfl⟩)
    · skip
      have hkr : kidRange (Ex.un o a).tree.head = (1, 2) := by cases o <;> rfl
      rw [hkr]
      have hlen : (Ex.un o a).tree.parts.length = 2 := rfl
      have hki := kids_un o a
      simp only [Ex.un.sizeOf_spec] at hlt
      simp only [Ex.ok, Bool.and_eq_true] at hok
      simp only [show (Ex.un o a).tree.parts = [.node o.txt [], a.tree] from rfl, cellsF, List.cons_append, List.nil_append]
      refine o_enter rfl ?_
      refine o_move rfl .free rfl ?_
      refine o_assign rfl .free rfl ?_
      refine o_done ?_
      refine s_block ?_
      refine s_loop ?_
      refine s_seq ?_
      refine s_seq ?_
      refine o_enter rfl ?_
      refine o_move rfl .free rfl ?_
      refine o_move rfl .free rfl ?_
      refine o_cmp rfl rfl rfl .free rfl ?_
      refine o_done ?_
      refine s_condT rfl (by first | rfl | decide | (simp; done) | omega) ?_
      refine s_skip ?_
      refine s_seq ?_
      refine s_block ?_
      refine s_seq ?_
      refine o_enter rfl ?_
      refine o_lOS rfl .free rfl ?_
      refine o_move rfl .free rfl ?_
      refine o_call rfl .free rfl (g_l2Binds hf.rep hok0 hb _ (by rw [hki]; decide) _) ?_
      rintro _ J1 _ e1 ⟨o1, k1, rfl, hs1, rfl⟩
      refine o_move rfl .free rfl ?_
      refine o_call rfl .free rfl (g_l1Has (hs1.rd _) k1 nm) ?_
      rintro _ _ _ _ ⟨rfl, rfl, rfl⟩
      refine o_not rfl .free rfl ?_
      refine o_mem (fun w h => Mem.le e1 h) ?_
      refine o_done ?_
      first | refine s_tp rfl (by simp [Ex.binds]) ?_ | refine s_tn rfl (by simp [Ex.binds]) ?_ | refine s_true (by simp [look, opd, *]) ?_
      refine d_all 13 rfl rfl ?_
      refine d_takeA 0 rfl (by kernel_rfl) rfl (.inr heldx) (y_fieldAddr rfl) .free rfl ?_
      refine d_take 1 [12] rfl (by kernel_rfl) rfl heldx (y_lO1 rfl) .free rfl ?_
      refine d_takeA 2 rfl (by kernel_rfl) rfl (.inr heldx) (y_move rfl) .free rfl ?_
      refine d_takeA 3 rfl (by kernel_rfl) rfl (.inr heldx) (y_fieldAddr rfl) .free rfl ?_
      refine d_take 4 [12] rfl (by kernel_rfl) rfl heldx (y_lO1 rfl) .free rfl ?_
      refine d_takeA 5 rfl (by kernel_rfl) rfl (.inr heldx) (y_move rfl) .free rfl ?_
      first | refine d_takeA 6 rfl (by kernel_rfl) rfl (.inr heldx) (y_ixD rfl rfl _ rfl) .free rfl ?_ | refine d_takeA 6 rfl (by kernel_rfl) rfl (.inr heldx) (y_ixP rfl rfl _ rfl) .free rfl ?_
      refine d_take 7 [12] rfl (by kernel_rfl) rfl heldx (y_lIS rfl) .free rfl ?_
      refine d_takeA 8 rfl (by kernel_rfl) rfl (.inr heldx) (y_move rfl) .free rfl ?_
      refine d_take 9 [12] rfl (by kernel_rfl) rfl heldx (y_lOS rfl) .free rfl ?_
      refine d_call 10 rfl (by kernel_rfl) rfl rfl .free rfl (ihn (by omega) (hf.as 1 a.tree (by omega) rfl) hok nm hnm hv _) ?_
      rintro _ J2 _ e2 ⟨cs2, rfl, hr_0, rfl⟩
      obtain ⟨o2, k2, _, rfl, -⟩ := hr_0.open
      have hf := hf.mono e2
      have hv := hv.mono e2
      have hle := hle.trans e2
      refine ⟨(.inr heldx), ?_⟩
      first | refine d_takeA 11 rfl (by kernel_rfl) rfl (.inr heldx) (y_ixD rfl rfl _ rfl) .free rfl ?_ | refine d_takeA 11 rfl (by kernel_rfl) rfl (.inr heldx) (y_ixP rfl rfl _ rfl) .free rfl ?_
      refine d_st 12 rfl (by kernel_rfl) rfl rfl rfl rfl rfl .free (.inl (by kernel_rfl)) ?_
      refine d_done (by kernel_rfl) ?_
      refine s_inBlock ?_
      refine o_enter rfl ?_
      refine o_move rfl .free rfl ?_
      refine o_arith rfl rfl rfl (by omega) .free rfl ?_
      refine o_assign rfl .free rfl ?_
      refine o_done ?_
      refine s_round ?_
      refine s_seq ?_
      refine s_seq ?_
      refine o_enter rfl ?_
      refine o_move rfl .free rfl ?_
      refine o_move rfl .free rfl ?_
      refine o_cmp rfl rfl rfl .free rfl ?_
      refine o_done ?_
      refine s_condF rfl (by first | rfl | decide | (simp; done) | omega) ?_
      refine s_exit rfl ?_
      refine s_seq ?_
      refine o_enter rfl ?_
      refine o_lOS rfl .free rfl ?_
      refine o_st rfl rfl rfl rfl .free ?_
      refine o_done ?_
      refine s_mem (fun w h => h.f1) (s_freeze ?_)
      intro hz
      have hf := hf.mono hz
      refine s_ret (.c rfl .nil) ?_
      exact ⟨_, L, hle.trans hz, drops, _, rfl, .mk' rfl (.cons (hf.as 0 (.node o.txt []) (by omega) rfl) (.cons (hr_0.mono hz) .nil)) (fun y hy => by cases hy; exact still_set (xs := [_, _, _, _])) (by simp) hcc (by simp [maxN]) (by simp [maxN]), rfl⟩
end Go.Proofs.YtlfeafnbgmeiaaaGreatDoor


/- Regions that draw their order: a state that several orders come to, told once. No conditions. -/
namespace Go.Proofs.YtlfeafnbgmeiaaaGreatDoor
set_option maxRecDepth 100000
set_option linter.unusedVariables false
set_option linter.unusedSimpArgs false

section
variable {I : Heap} {A B C D L : Own} {w : World}
end
end Go.Proofs.YtlfeafnbgmeiaaaGreatDoor


/- Plain names given to an expression, by the reference. No conditions. -/
namespace Go.Proofs.YtlfeafnbgmeiaaaGreatDoor
set_option maxRecDepth 100000
set_option linter.unusedVariables false
set_option linter.unusedSimpArgs false

/-- What a state of many orders has. -/
structure G11 where
  b6 : Nat
  b14 : Nat
  b16 : Nat
  b20 : Nat
  B : Buf
  c : Nat
  D : Buf
  e : Nat
end Go.Proofs.YtlfeafnbgmeiaaaGreatDoor


/- 'ExprPut', by the program and by the reference. No conditions. -/
namespace Go.Proofs.YtlfeafnbgmeiaaaGreatDoor
set_option maxRecDepth 100000
set_option linter.unusedVariables false
set_option linter.unusedSimpArgs false

theorem bin_len (o : B5) (a b : Ex) : (Ex.bin o a b).tree.len = 4 + o.txt.length + a.tree.len + b.tree.len := by simp [Ex.tree, Tree.len, lenL]; omega
theorem ite_len (a b c : Ex) : (Ex.ite a b c).tree.len = 7 + a.tree.len + b.tree.len + c.tree.len := by simp [Ex.tree, Tree.len, lenL, tIf]; omega
theorem un_len (o : U2) (a : Ex) : (Ex.un o a).tree.len = 3 + o.txt.length + a.tree.len := by simp [Ex.tree, Tree.len, lenL]; omega
theorem fn_len (f x : Txt) (s t : Ty) (b : Ex) : (Ex.fn f x s t b).tree.len = 10 + f.length + x.length + s.tree.len + t.tree.len + b.tree.len := by simp [Ex.tree, Tree.len, lenL, tFun]; omega
theorem Ex.put_len : ∀ (e : Ex) (n : Txt) (v : Ex), (e.put n v).tree.len ≤ e.tree.len + e.size * v.tree.len
  | .num s, n, v => by simp [Ex.put]
  | .name s, n, v => by simp only [Ex.put, Ex.size, Nat.one_mul]; split <;> omega
  | .bin o a b, n, v => by have := a.put_len n v; have := b.put_len n v; simp only [Ex.put, bin_len, Ex.size, Nat.add_mul]; omega
  | .ite a b c, n, v => by have := a.put_len n v; have := b.put_len n v; have := c.put_len n v; simp only [Ex.put, ite_len, Ex.size, Nat.add_mul]; omega
  | .lt x a b, n, v => by have := a.put_len n v; have := b.put_len n v; simp only [Ex.put, lt_len, Ex.size, Nat.add_mul]; split <;> omega
  | .fn f x s t b, n, v => by have := b.put_len n v; simp only [Ex.put, fn_len, Ex.size, Nat.add_mul]; split <;> omega
  | .un o a, n, v => by have := a.put_len n v; simp only [Ex.put, un_len, Ex.size, Nat.add_mul]; omega
theorem put_room {e v : Ex} {n : Txt} (he : e.size ≤ 120) (hl : e.tree.len ≤ 12000) (hv : v.tree.len ≤ 12000) : (e.put n v).tree.len ≤ 12000000 := by
  have h1 := e.put_len n v
  have h2 : e.size * v.tree.len ≤ 120 * 12000 := Nat.mul_le_mul he hv
  omega
/-- What 'ExprPut' returns. -/
def putOf (s nm by' : Txt) : Option Txt := match exOf s, closedOf by' with
  | some e, some v => if isName nm = true ∧ (e.put nm v).fine = true then some (e.put nm v).tree.text else none
  | _, _ => none
theorem putOf_none {s nm by' : Txt} (h : exOf s = none ∨ closedOf by' = none ∨ isName nm = false) : putOf s nm by' = none := by
  unfold putOf
  rcases h with h | h | h
  · rw [h]
  · rw [h]; cases exOf s <;> rfl
  · cases exOf s <;> cases closedOf by' <;> simp [h]
theorem putOf_some {s nm by' : Txt} {e v : Ex} (h : exOf s = some e) (h' : closedOf by' = some v) (hn : isName nm = true) : putOf s nm by' = if (e.put nm v).fine = true then some (e.put nm v).tree.text else none := by
  unfold putOf; rw [h, h']; simp [hn]

theorem f_ExprPut (s nm by' : Txt) (hs : s.length ≤ maxN) (hnl : nm.length ≤ maxN) (hb : by'.length ≤ maxN) (I : Heap) (L : Own) : Fun Tryz.prog 5 [.string (str s), .string (str nm), .string (str by')] I L (EL (putOf s nm by') L) := by
  refine fun_intro (by simp) ?_
  refine s_seq ?_
  refine o_enter rfl ?_
  refine o_assign rfl .free rfl ?_
  refine o_assign rfl .free rfl ?_
  refine o_done ?_
  refine s_seq ?_
  refine o_enter rfl ?_
  refine o_move rfl .free rfl ?_
  refine o_call rfl .free rfl (f_readExpr s hs _ _) ?_
  rintro _ J1 _ e1 ⟨t, cs, ok, rfl, hrep, rfl, hpf⟩
  obtain ⟨oa, cc, vs, rfl, -⟩ := hrep.open
  refine o_move rfl .free rfl ?_
  refine o_extract rfl rfl .free rfl ?_
  refine o_extract rfl rfl .free rfl ?_
  refine o_alloc .free rfl ?_
  intro b8
  refine o_st rfl rfl rfl rfl .free ?_
  refine o_assign rfl .free rfl ?_
  refine o_done ?_
  refine s_seq ?_
  refine o_enter rfl ?_
  refine o_move rfl .free rfl ?_
  refine o_call rfl .free rfl (f_readClosed by' hb _ _) ?_
  rintro _ J2 _ e2 ⟨t2, cs2, ok2, rfl, hrep2, rfl, hpf2⟩
  obtain ⟨oa2, cc2, vs2, rfl, -⟩ := hrep2.open
  have g1 := RX_get hpf
  have g2 := RX_get hpf2
  refine o_move rfl .free rfl ?_
  refine o_extract rfl rfl .free rfl ?_
  refine o_extract rfl rfl .free rfl ?_
  refine o_alloc .free rfl ?_
  intro b10
  refine o_st rfl rfl rfl rfl .free ?_
  refine o_assign rfl .free rfl ?_
  refine o_done ?_
  refine s_seq ?_
  refine s_seq ?_
  refine o_enter rfl ?_
  refine o_move rfl .free rfl ?_
  refine o_not rfl .free rfl ?_
  refine o_move rfl .free rfl ?_
  apply o_or 25 28 rfl
  · intro g3_3 hk
    try simp only [nb] at g3_3
    refine o_move rfl (.met rfl rfl) rfl ?_
    refine o_not rfl (.met rfl rfl) rfl ?_
    refine o_pick_false rfl rfl .free rfl ?_
    exact o_fin 2 rfl rfl hk
  · intro _ hk
    refine o_skips 2 rfl ?_
    refine o_pick_true rfl rfl .free rfl ?_
    exact o_fin 2 rfl rfl hk
  refine o_move rfl .free rfl ?_
  apply o_or 29 33 rfl
  · intro g3_7 hk
    try simp only [nb] at g3_7
    refine o_move rfl (.met rfl rfl) rfl ?_
    refine o_call rfl (.met rfl rfl) rfl (f_isName nm hnl _ _) ?_
    rintro _ _ _ _ ⟨rfl, rfl, rfl⟩
    refine o_not rfl (.met rfl rfl) rfl ?_
    refine o_pick_false rfl rfl .free rfl ?_
    exact o_fin 3 rfl rfl hk
  · intro _ hk
    refine o_skips 3 rfl ?_
    refine o_pick_true rfl rfl .free rfl ?_
    exact o_fin 3 rfl rfl hk
  refine o_done ?_
  refine s_cond rfl ?_ ?_
  · intro c0
    try simp only [nb] at c0
    refine s_seq ?_
    refine o_enter rfl ?_
    refine o_assign rfl .free rfl ?_
    refine o_assign rfl .free rfl ?_
    refine o_done ?_
    refine s_ret (.tmp rfl (.tmp rfl .nil)) ?_
    refine ⟨J2, L, e1.trans e2, drops, ?_, rfl⟩
    rw [putOf_none (by rcases c0 with (h | h) | h; exact .inl (g1.1 h); exact .inr (.inl (g2.1 h)); exact .inr (.inr h))]; rfl
  intro c0
  try simp only [nb] at c0
  obtain ⟨⟨h1, h2⟩, hn⟩ := c0
  obtain ⟨e, he, rfl⟩ := g1.2 h1
  obtain ⟨v, hv, rfl⟩ := g2.2 h2
  obtain ⟨hok, hez, hel, -⟩ := exOf_facts he
  obtain ⟨-, hvok, hvz, hvl, -⟩ := closedOf_facts hv
  have hroom := put_room (n := nm) hez hel hvl
  have hpok := Ex.put_ok (n := nm) hok hvok
  have hput := putOf_some he hv hn
  refine s_skip ?_
  refine s_seq ?_
  refine o_enter rfl ?_
  refine o_lOS rfl .free rfl ?_
  refine o_move rfl .free rfl ?_
  refine o_lOS rfl .free rfl ?_
  refine o_call rfl .free rfl (f_form_put _ (Nat.lt_succ_self _) (hrep.mono e2) hok nm hn hrep2 _) ?_
  rintro _ J3 _ e3 ⟨cs3, rfl, h3, rfl⟩
  obtain ⟨o3, k3, _, rfl, -⟩ := h3.open
  refine o_alloc .free rfl ?_
  intro b12
  refine o_st rfl rfl rfl rfl .free ?_
  refine o_done ?_
  refine s_seq ?_
  refine s_seq ?_
  refine o_enter rfl ?_
  refine o_lOS rfl .free rfl ?_
  refine o_call rfl .free rfl (f_fine h3 hpok hroom _) ?_
  rintro _ _ _ _ ⟨rfl, rfl, rfl⟩
  refine o_not rfl .free rfl ?_
  refine o_done ?_
  refine s_cond rfl ?_ ?_
  · intro c1
    try simp only [nb] at c1
    refine s_seq ?_
    refine o_enter rfl ?_
    refine o_assign rfl .free rfl ?_
    refine o_assign rfl .free rfl ?_
    refine o_done ?_
    refine s_ret (.tmp rfl (.tmp rfl .nil)) ?_
    refine ⟨J3, L, (e1.trans e2).trans e3, drops, ?_, rfl⟩
    rw [hput, if_neg (by rw [c1]; simp)]; rfl
  intro c1
  try simp only [nb] at c1
  refine s_skip ?_
  refine s_seq ?_
  refine o_enter rfl ?_
  refine o_lOS rfl .free rfl ?_
  refine o_call rfl .free rfl (f_form_text h3 (by rw [Tree.text_len]; unfold maxN; omega) _) ?_
  rintro _ _ _ _ ⟨rfl, rfl, rfl⟩
  refine o_assign rfl .free rfl ?_
  refine o_assign rfl .free rfl ?_
  refine o_done ?_
  refine s_ret (.tmp rfl (.tmp rfl .nil)) ?_
  refine ⟨J3, L, (e1.trans e2).trans e3, drops, ?_, rfl⟩
  rw [hput, if_pos c1]; rfl
theorem g_ExprPut (s nm by' : Txt) (hs : s.length ≤ maxL) (hnl : nm.length ≤ maxN) (hb : by'.length ≤ maxL) (I : Heap) (L : Own) : Fun Tryz.prog 6 [.string (str s), .string (str nm), .string (str by')] I L (EL (putOf s nm by') L) := by
  refine fun_intro (by simp) ?_
  refine s_seq ?_
  refine o_enter rfl ?_
  refine o_assign rfl .free rfl ?_
  refine o_assign rfl .free rfl ?_
  refine o_done ?_
  refine s_seq ?_
  refine o_enter rfl ?_
  refine o_move rfl .free rfl ?_
  refine o_call rfl .free rfl (g_l2Parse' s hs _ _) ?_
  rintro _ J1 _ e1 ⟨t, cs, ok, rfl, hrep, rfl, hpf⟩
  obtain ⟨oa, cc, vs, rfl, -⟩ := hrep.open
  refine o_move rfl .free rfl ?_
  refine o_extract rfl rfl .free rfl ?_
  refine o_extract rfl rfl .free rfl ?_
  refine o_alloc .free rfl ?_
  intro b8
  refine o_st rfl rfl rfl rfl .free ?_
  refine o_assign rfl .free rfl ?_
  refine o_done ?_
  refine s_seq ?_
  refine o_enter rfl ?_
  refine o_move rfl .free rfl ?_
  refine o_call rfl .free rfl (g_l2Parse' by' hb _ _) ?_
  rintro _ J2 _ e2 ⟨t2, cs2, ok2, rfl, hrep2, rfl, hpf2⟩
  obtain ⟨oa2, cc2, vs2, rfl, -⟩ := hrep2.open
  have g1 := RX_get hpf
  have g2 := RX_get hpf2
  refine o_move rfl .free rfl ?_
  refine o_extract rfl rfl .free rfl ?_
  refine o_extract rfl rfl .free rfl ?_
  refine o_alloc .free rfl ?_
  intro b10
  refine o_st rfl rfl rfl rfl .free ?_
  refine o_assign rfl .free rfl ?_
  refine o_done ?_
  refine s_seq ?_
  refine s_seq ?_
  refine o_enter rfl ?_
  refine o_move rfl .free rfl ?_
  refine o_not rfl .free rfl ?_
  refine o_move rfl .free rfl ?_
  apply o_or 25 28 rfl
  · intro g3_3 hk
    try simp only [nb] at g3_3
    refine o_move rfl (.met rfl rfl) rfl ?_
    refine o_not rfl (.met rfl rfl) rfl ?_
    refine o_pick_false rfl rfl .free rfl ?_
    exact o_fin 2 rfl rfl hk
  · intro _ hk
    refine o_skips 2 rfl ?_
    refine o_pick_true rfl rfl .free rfl ?_
    exact o_fin 2 rfl rfl hk
  refine o_move rfl .free rfl ?_
  apply o_or 29 33 rfl
  · intro g3_7 hk
    try simp only [nb] at g3_7
    refine o_move rfl (.met rfl rfl) rfl ?_
    refine o_call rfl (.met rfl rfl) rfl (g_l2Name nm hnl _ _) ?_
    rintro _ _ _ _ ⟨rfl, rfl, rfl⟩
    refine o_not rfl (.met rfl rfl) rfl ?_
    refine o_pick_false rfl rfl .free rfl ?_
    exact o_fin 3 rfl rfl hk
  · intro _ hk
    refine o_skips 3 rfl ?_
    refine o_pick_true rfl rfl .free rfl ?_
    exact o_fin 3 rfl rfl hk
  refine o_move rfl .free rfl ?_
  apply o_or 34 38 rfl
  · intro g3_12 hk
    try simp only [nb] at g3_12
    refine o_move rfl (.met rfl rfl) rfl ?_
    refine o_call rfl (.met rfl rfl) rfl (g_ExprClosed by' hb _ _) ?_
    rintro _ _ _ _ ⟨rfl, rfl, rfl⟩
    refine o_not rfl (.met rfl rfl) rfl ?_
    refine o_pick_false rfl rfl .free rfl ?_
    exact o_fin 3 rfl rfl hk
  · intro _ hk
    refine o_skips 3 rfl ?_
    refine o_pick_true rfl rfl .free rfl ?_
    exact o_fin 3 rfl rfl hk
  refine o_done ?_
  refine s_cond rfl ?_ ?_
  · intro c0
    try simp only [nb] at c0
    refine s_seq ?_
    refine o_enter rfl ?_
    refine o_assign rfl .free rfl ?_
    refine o_assign rfl .free rfl ?_
    refine o_done ?_
    refine s_ret (.tmp rfl (.tmp rfl .nil)) ?_
    refine ⟨J2, L, e1.trans e2, drops, ?_, rfl⟩
    rw [putOf_none (by
      rcases c0 with ((h | h) | h) | h
      · exact .inl (g1.1 h)
      · exact .inr (.inl (by unfold closedOf; rw [g2.1 h]))
      · exact .inr (.inr h)
      · exact .inr (.inl (by cases hc : closedOf by' with
          | none => rfl
          | some v => rw [hc] at h; cases h)))]; rfl
  intro c0
  try simp only [nb] at c0
  obtain ⟨⟨⟨h1, h2⟩, hn⟩, hcl⟩ := c0
  obtain ⟨e, he, rfl⟩ := g1.2 h1
  obtain ⟨v, hv', rfl⟩ := g2.2 h2
  obtain ⟨v2, hv⟩ := Option.isSome_iff_exists.1 hcl
  obtain ⟨hv3, hvok, hvz, hvl, -⟩ := closedOf_facts hv
  rw [hv'] at hv3; cases hv3
  obtain ⟨hok, hez, hel, -⟩ := exOf_facts he
  have hroom := put_room (n := nm) hez hel hvl
  have hpok := Ex.put_ok (n := nm) hok hvok
  have hput := putOf_some he hv hn
  have hx := exOf_text hpok
  have hfi : (exOf (e.put nm v).tree.text).isSome = (e.put nm v).fine := by rw [hx]; cases (e.put nm v).fine <;> rfl
  refine s_skip ?_
  refine s_seq ?_
  refine o_enter rfl ?_
  refine o_lOS rfl .free rfl ?_
  refine o_move rfl .free rfl ?_
  refine o_lOS rfl .free rfl ?_
  refine o_call rfl .free rfl (g_l2Put _ (Nat.lt_succ_self _) (hrep.mono e2) hok nm hn hrep2 _) ?_
  rintro _ J3 _ e3 ⟨cs3, rfl, h3, rfl⟩
  refine o_call rfl .free rfl (g_l1Text _ (Nat.lt_succ_self _) h3 (Ex.tree_good hpok).1 hroom _) ?_
  rintro _ _ _ _ ⟨rfl, rfl, rfl⟩
  refine o_assign rfl .free rfl ?_
  refine o_done ?_
  refine s_seq ?_
  refine s_seq ?_
  refine o_enter rfl ?_
  refine o_move rfl .free rfl ?_
  refine o_call rfl .free rfl (g_ExprValid' _ (by rw [Tree.text_len]; unfold maxL; omega) _ _) ?_
  rintro _ _ _ _ ⟨rfl, rfl, rfl⟩
  refine o_not rfl .free rfl ?_
  refine o_done ?_
  refine s_cond rfl ?_ ?_
  · intro c1
    try simp only [nb] at c1
    refine s_seq ?_
    refine o_enter rfl ?_
    refine o_assign rfl .free rfl ?_
    refine o_assign rfl .free rfl ?_
    refine o_done ?_
    refine s_ret (.tmp rfl (.tmp rfl .nil)) ?_
    refine ⟨J3, L, (e1.trans e2).trans e3, drops, ?_, rfl⟩
    rw [hfi] at c1
    rw [hput, if_neg (by rw [c1]; simp)]; rfl
  intro c1
  try simp only [nb] at c1
  refine s_skip ?_
  refine s_seq ?_
  refine o_enter rfl ?_
  refine o_move rfl .free rfl ?_
  refine o_assign rfl .free rfl ?_
  refine o_assign rfl .free rfl ?_
  refine o_done ?_
  refine s_ret (.tmp rfl (.tmp rfl .nil)) ?_
  refine ⟨J3, L, (e1.trans e2).trans e3, drops, ?_, rfl⟩
  rw [hfi] at c1
  rw [hput, if_pos c1]; rfl
end Go.Proofs.YtlfeafnbgmeiaaaGreatDoor


/- 'ExprPlain', by the reference. No conditions. -/
namespace Go.Proofs.YtlfeafnbgmeiaaaGreatDoor
set_option maxRecDepth 100000
set_option linter.unusedVariables false
set_option linter.unusedSimpArgs false

end Go.Proofs.YtlfeafnbgmeiaaaGreatDoor


/- Drawn expressions of further statements. No conditions. -/
namespace Go.Proofs.YtlfeafnbgmeiaaaGreatDoor
set_option maxRecDepth 100000
set_option linter.unusedVariables false
set_option linter.unusedSimpArgs false

def DX2 (L : Own) : Post := fun v I' L' => ∃ s t, v = .tuple #[.string (str s), .string (str t)] ∧ List.length s ≤ 400001 ∧ List.length t ≤ 400001 ∧ L = L'
def DX3 (L : Own) : Post := fun v I' L' => ∃ s t u, v = .tuple #[.string (str s), .string (str t), .string (str u)] ∧ List.length s ≤ 400001 ∧ List.length t ≤ 400001 ∧ List.length u ≤ 400001 ∧ L = L'
theorem g_DrawExprPut {I : Heap} {oa : Option Addr} {l : List UInt8} {c : Nat} (h : Bytes I oa l c) (L : Own) : Fun Tryz.prog 4 [.slice oa l.length c] I L (DX3 L) := by
  have hk1 : kT 1 = 2 := rfl
  have hb1 : bT 1 = 7 := rfl
  refine fun_intro (by simp) ?_
  refine s_seq ?_
  refine o_enter rfl ?_
  iterate 3 refine o_assign rfl .free rfl ?_
  refine o_done ?_
  refine s_seq ?_
  refine o_enter rfl ?_
  refine o_move rfl .free rfl ?_
  refine o_call rfl .free rfl (g_l6Open h _) ?_
  rintro _ J1 _ e1 ⟨b, oa1, l1, cz, rfl, h1, hl1, rfl⟩
  refine o_assign rfl .free rfl ?_
  refine o_done ?_
  refine s_seq ?_
  refine o_enter rfl ?_
  refine o_move rfl .free rfl ?_
  refine o_call rfl .free rfl (g_l91Open h1 hl1 b 0 (by decide) L) ?_
  rintro _ J2 _ e2 ⟨s, p', rfl, hs, hp1, hp2, rfl⟩
  have h1 := h1.mono e2
  have hle := e1.trans e2
  refine o_assign rfl .free rfl ?_
  refine o_done ?_
  refine s_seq ?_
  refine s_seq ?_
  refine o_enter rfl ?_
  refine o_move rfl .free rfl ?_
  refine o_call rfl .free rfl (g_l6Rd_pick h1 hl1 b _ 12 (by omega) (by decide) _) ?_
  rintro _ _ _ _ ⟨r, rfl, rfl, rfl, hr⟩
  refine o_done ?_
  refine s_block ?_
  refine s_seq ?_
  refine o_enter rfl ?_
  refine o_cmp rfl rfl rfl .free rfl ?_
  refine o_assign rfl .free rfl ?_
  refine o_done ?_
  refine s_cond rfl ?_ ?_
  · intro c0
    try simp only [nb] at c0
    refine s_seq ?_
    refine o_enter rfl ?_
    refine o_move rfl .free rfl ?_
    refine o_move rfl .free rfl ?_
    refine o_lits rfl rfl (by rfl) (by rfl) (by rfl) (by decide) (by decide) (by rfl) .free rfl ?_
    intro b17
    refine o_freezeLit [[97, 98], [], [49]] (by decide) (by decide) ?_
    intro J5 e5 k5
    refine o_call rfl .free rfl (g_l6Rd_of (h1.mono e5) hl1 b _ (by omega) k5 (by simp) _) ?_
    rintro _ _ _ _ ⟨z, rfl, hz, rfl, rfl⟩
    have hzl : z.length ≤ 2 := by revert z; decide
    iterate 3 refine o_assign rfl .free rfl ?_
    refine o_done ?_
    refine s_ret (.tmp rfl (.tmp rfl (.tmp rfl .nil))) ?_
    exact ⟨J5, L, hle.trans e5, fun _ h => h.drop, s, z, _, rfl, by omega, by omega, by decide, rfl⟩
  intro c0
  try simp only [nb] at c0
  refine s_seq ?_
  refine o_enter rfl ?_
  refine o_cmp rfl rfl rfl .free rfl ?_
  refine o_assign rfl .free rfl ?_
  refine o_done ?_
  refine s_cond rfl ?_ ?_
  · intro c1
    try simp only [nb] at c1
    refine s_seq ?_
    refine o_enter rfl ?_
    refine o_move rfl .free rfl ?_
    iterate 3 refine o_assign rfl .free rfl ?_
    refine o_done ?_
    refine s_ret (.tmp rfl (.tmp rfl (.tmp rfl .nil))) ?_
    exact ⟨J2, L, hle, fun _ h => h.drop, s, _, _, rfl, by omega, by decide, by decide, rfl⟩
  intro c1
  try simp only [nb] at c1
  refine s_skip ?_
  refine s_inBlock ?_
  refine s_seq ?_
  refine o_enter rfl ?_
  refine o_move rfl .free rfl ?_
  refine o_move rfl .free rfl ?_
  refine o_lits rfl rfl (by rfl) (by rfl) (by rfl) (by decide) (by decide) (by rfl) .free rfl ?_
  intro b24
  refine o_freezeLit [[97], [98], [120, 48], [99]] (by decide) (by decide) ?_
  intro J5 e5 k5
  refine o_call rfl .free rfl (g_l6Rd_of (h1.mono e5) hl1 b _ (by omega) k5 (by simp) _) ?_
  rintro _ _ _ _ ⟨z, rfl, hz, rfl, rfl⟩
  have hzl : z.length ≤ 2 := by revert z; decide
  refine o_move rfl .free rfl ?_
  refine o_lits0 .free rfl ?_
  intro b27
  refine o_lits0 .free rfl ?_
  intro b28
  refine o_struct rfl rfl rfl .free rfl ?_
  refine o_mem (fun w h => Mem.sub (L' := rd b oa1 l1 cz _ :: L) (by repeat (first | exact List.Sublist.refl _ | apply List.Sublist.cons_cons | apply List.Sublist.cons)) h) ?_
  refine o_call rfl .free rfl (g_l91Expr (d := 1) (by decide) (h1.mono e5) hl1 b _ (by omega) (sc_nil _ _ _) (by simp) _ (by first | omega | (simp; done) | decide) _) ?_
  rintro _ J6 _ e6 ⟨s1, p1, rfl, hs1, hp3, hp4, rfl⟩
  iterate 3 refine o_assign rfl .free rfl ?_
  refine o_done ?_
  refine s_ret (.tmp rfl (.tmp rfl (.tmp rfl .nil))) ?_
  exact ⟨J6, L, (hle.trans e5).trans e6, fun _ h => h.drop, s, z, s1, rfl, by omega, by omega, by omega, rfl⟩
end Go.Proofs.YtlfeafnbgmeiaaaGreatDoor


/- The shelf's law on small numbers in decimals, laid at this program in plain words by the kit's lay-plain.mjs. No conditions. -/
namespace Go.Proofs.YtlfeafnbgmeiaaaGreatDoor
open Go.Shelf
def lays171_ren : Go.Shelf.Ren := ⟨fun | 171 => 96 | 243 => 101 | 246 => 103 | 283 => 104 | 284 => 105 | 285 => 106 | 286 => 107 | 129 => 109 | 317 => 108 | 318 => 110 | 319 => 111 | 320 => 112 | 337 => 113 | 338 => 114 | n => n, fun | 3 => 3 | 9 => 9 | 2 => 2 | 4 => 4 | 171 => 122 | 0 => 0 | 53 => 123 | 37 => 22 | 5 => 5 | 173 => 126 | 212 => 129 | 51 => 130 | 20 => 20 | 213 => 131 | 46 => 133 | 232 => 136 | 233 => 137 | n => n, fun | 17 => 0 | 18 => 1 | 19 => 2 | n => n⟩
theorem lays171 : Go.Proofs.Lays.n171 Tryz.prog lays171_ren := {
  mixed := by kernel_rfl
  f129 := Tryz.func109.trans (congrArg some (by kernel_rfl))
  f171 := Tryz.func96.trans (congrArg some (by kernel_rfl))
  f243 := Tryz.func101.trans (congrArg some (by kernel_rfl))
  f246 := Tryz.func103.trans (congrArg some (by kernel_rfl))
  f283 := Tryz.func104.trans (congrArg some (by kernel_rfl))
  f284 := Tryz.func105.trans (congrArg some (by kernel_rfl))
  f285 := Tryz.func106.trans (congrArg some (by kernel_rfl))
  f286 := Tryz.func107.trans (congrArg some (by kernel_rfl))
  f317 := Tryz.func108.trans (congrArg some (by kernel_rfl))
  f318 := Tryz.func110.trans (congrArg some (by kernel_rfl))
  f319 := Tryz.func111.trans (congrArg some (by kernel_rfl))
  f320 := Tryz.func112.trans (congrArg some (by kernel_rfl))
  f337 := Tryz.func113.trans (congrArg some (by kernel_rfl))
  f338 := Tryz.func114.trans (congrArg some (by kernel_rfl))
  t0 := Tryz.underlying0
  a0 := Tryz.isAgg0
  z0 := Tryz.sizeOf0
  v0 := Tryz.zeroValue0
  t2 := Tryz.underlying2
  a2 := Tryz.isAgg2
  z2 := Tryz.sizeOf2
  v2 := Tryz.zeroValue2
  t3 := Tryz.underlying3
  a3 := Tryz.isAgg3
  z3 := Tryz.sizeOf3
  v3 := Tryz.zeroValue3
  t4 := Tryz.underlying4
  a4 := Tryz.isAgg4
  z4 := Tryz.sizeOf4
  v4 := Tryz.zeroValue4
  t5 := Tryz.underlying5
  a5 := Tryz.isAgg5
  z5 := Tryz.sizeOf5
  v5 := Tryz.zeroValue5
  t9 := Tryz.underlying9
  a9 := Tryz.isAgg9
  z9 := Tryz.sizeOf9
  v9 := Tryz.zeroValue9
  t20 := Tryz.underlying20
  a20 := Tryz.isAgg20
  z20 := Tryz.sizeOf20
  v20 := Tryz.zeroValue20
  t37 := Tryz.underlying22
  a37 := Tryz.isAgg22
  z37 := Tryz.sizeOf22
  v37 := Tryz.zeroValue22
  t46 := Tryz.underlying133
  a46 := Tryz.isAgg133
  z46 := Tryz.sizeOf133
  v46 := Tryz.zeroValue133
  t51 := Tryz.underlying130
  a51 := Tryz.isAgg130
  z51 := Tryz.sizeOf130
  v51 := Tryz.zeroValue130
  t53 := Tryz.underlying123
  a53 := Tryz.isAgg123
  z53 := Tryz.sizeOf123
  v53 := Tryz.zeroValue123
  t171 := Tryz.underlying122
  a171 := Tryz.isAgg122
  z171 := Tryz.sizeOf122
  v171 := Tryz.zeroValue122
  t173 := Tryz.underlying126
  a173 := Tryz.isAgg126
  z173 := Tryz.sizeOf126
  v173 := Tryz.zeroValue126
  t212 := Tryz.underlying129
  a212 := Tryz.isAgg129
  z212 := Tryz.sizeOf129
  v212 := Tryz.zeroValue129
  t213 := Tryz.underlying131
  a213 := Tryz.isAgg131
  z213 := Tryz.sizeOf131
  t232 := Tryz.underlying136
  a232 := Tryz.isAgg136
  z232 := Tryz.sizeOf136
  v232 := Tryz.zeroValue136
  t233 := Tryz.underlying137
  a233 := Tryz.isAgg137
  z233 := Tryz.sizeOf137
  v233 := Tryz.zeroValue137
  g17 := by kernel_rfl
  g18 := by kernel_rfl
  g19 := by kernel_rfl }
end Go.Proofs.YtlfeafnbgmeiaaaGreatDoor


/- Small numbers in decimals, by the library. No conditions. -/
namespace Go.Proofs.YtlfeafnbgmeiaaaGreatDoor
set_option maxRecDepth 100000
set_option linter.unusedVariables false
set_option linter.unusedSimpArgs false

theorem dec_small : ∀ i : Nat, i < 100 → Lib.decDigits i = decT i := by decide +kernel
theorem f_strconv_Itoa (i : Nat) (hi : i < 100) (I : Heap) (L : Own) : Fun Tryz.prog 96 [.int .i64 (i : Nat)] I L (Only (.string (str (decT i))) I L) := by
  refine ⟨fun w hm => (Any.strconv_Itoa_small lays171 i hi w).mono ?_⟩
  rintro e w' ⟨rfl, rfl⟩
  refine ⟨_, I, L, rfl, .refl _, hm, ?_⟩
  rw [dec_small i hi]
  exact ⟨rfl, rfl, rfl⟩
end Go.Proofs.YtlfeafnbgmeiaaaGreatDoor


/- Fresh plain names, by the program. No conditions. -/
namespace Go.Proofs.YtlfeafnbgmeiaaaGreatDoor
set_option maxRecDepth 100000
set_option linter.unusedVariables false
set_option linter.unusedSimpArgs false

/-- The program's namer. -/
def pn (b : Nat) (oa : Option Addr) (av : List Txt) (c g n : Nat) : Nat × Obj := (b, .cells [.slice oa av.length c, .int .i64 (g : Nat), .int .i64 (n : Nat)].toArray 88 (0, 0))
theorem f_plainer_name {I : Heap} {oa : Option Addr} {av : List Txt} {c : Nat} (hav : Strs I oa av c) (b g n : Nat) (hn : fr 120 av n < 100) (hg : g ≤ 1000000) (L : Own) :
    Fun Tryz.prog 85 [.pointer (some ⟨b, 0, none⟩)] I (pn b oa av c g n :: L) (fun v I' L' => v = .string (str (nm 120 (fr 120 av n))) ∧ I = I' ∧ L' = pn b oa av c (g + 1) (fr 120 av n + 1) :: L) := by
  obtain ⟨f1, f2, f3⟩ := fr_facts 120 av n
  refine fun_intro (by simp) ?_
  refine s_seq ?_
  refine o_enter rfl ?_
  refine o_assign rfl .free rfl ?_
  refine o_done ?_
  refine s_block ?_
  refine s_while (X := Nat) (fun m => fr 120 av n + 1 - m) (fun m => [(0, .pointer (some ⟨b, 0, none⟩))]) (fun _ => I) (fun m => pn b oa av c g m :: L) (fun m => n ≤ m ∧ m ≤ fr 120 av n ∧ ∀ j, n ≤ j → j < m → nm 120 j ∈ av) n ⟨Nat.le_refl _, f2, fun j h1 h2 => absurd h2 (by omega)⟩ ⟨rfl, trivial⟩ (fun _ h => h) ?_
  rintro m ⟨hm1, hm2, hm3⟩ ih
  unfold pn
  have hdl := decT_len (n := m) (by omega)
  refine s_block ?_
  refine s_seq ?_
  refine o_enter rfl ?_
  refine o_move rfl .free rfl ?_
  refine o_nilCheck rfl .free rfl ?_
  first | refine o_fieldAddr rfl .free rfl ?_ | refine o_fieldAddr' rfl .free rfl ?_
  refine o_lJ rfl .free rfl ?_
  refine o_call rfl .free rfl (f_strconv_Itoa m (by omega) _ _) ?_
  rintro _ _ _ _ ⟨rfl, rfl, rfl⟩
  refine o_concat rfl rfl (by first | omega | (simp only [List.length_append, List.length_cons, List.length_nil]; omega) | (simp; omega)) .free rfl ?_
  refine o_assign rfl .free rfl ?_
  refine o_done ?_
  refine s_seq ?_
  refine o_enter rfl ?_
  refine o_move rfl .free rfl ?_
  refine o_nilCheck rfl .free rfl ?_
  first | refine o_fieldAddr rfl .free rfl ?_ | refine o_fieldAddr' rfl .free rfl ?_
  refine o_lJ rfl .free rfl ?_
  refine o_arith rfl rfl rfl (by omega) .free rfl ?_
  refine o_nilCheck rfl .free rfl ?_
  first | refine o_fieldAddr rfl .free rfl ?_ | refine o_fieldAddr' rfl .free rfl ?_
  refine o_st rfl rfl rfl rfl .free ?_
  refine o_done ?_
  refine s_seq ?_
  refine o_enter rfl ?_
  refine o_move rfl .free rfl ?_
  refine o_nilCheck rfl .free rfl ?_
  first | refine o_fieldAddr rfl .free rfl ?_ | refine o_fieldAddr' rfl .free rfl ?_
  refine o_lJ rfl .free rfl ?_
  refine o_move rfl .free rfl ?_
  refine o_call rfl .free rfl (f_slices_Contains (hav.rd _) c (nm 120 m)) ?_
  rintro _ _ _ _ ⟨rfl, rfl, rfl⟩
  refine o_not rfl .free rfl ?_
  refine o_done ?_
  refine s_cond rfl ?_ ?_
  · intro c0
    try simp only [nb] at c0
    refine s_seq ?_
    refine o_enter rfl ?_
    refine o_move rfl .free rfl ?_
    refine o_nilCheck rfl .free rfl ?_
    first | refine o_fieldAddr rfl .free rfl ?_ | refine o_fieldAddr' rfl .free rfl ?_
    refine o_lJ rfl .free rfl ?_
    refine o_arith rfl rfl rfl (by omega) .free rfl ?_
    refine o_nilCheck rfl .free rfl ?_
    first | refine o_fieldAddr rfl .free rfl ?_ | refine o_fieldAddr' rfl .free rfl ?_
    refine o_st rfl rfl rfl rfl .free ?_
    refine o_done ?_
    refine s_seq ?_
    refine o_enter rfl ?_
    refine o_move rfl .free rfl ?_
    refine o_assign rfl .free rfl ?_
    refine o_done ?_
    refine s_ret (.tmp rfl .nil) ?_
    have hfm : fr 120 av n = m := fr_stop hm3 hm1 c0
    exact ⟨I, _, .refl _, fun _ h => h, by rw [hfm]; rfl, rfl, by rw [hfm]; rfl⟩
  intro c0
  try simp only [nb] at c0
  refine s_skip ?_
  refine s_inBlock ?_
  have hne : m ≠ fr 120 av n := fun e => f1 (e ▸ c0)
  refine s_env (E' := [(0, .pointer (some ⟨b, 0, none⟩))]) ⟨rfl, trivial⟩ (ih (m + 1) ⟨by omega, by omega, fun j h1 h2 => ?_⟩ (by omega))
  by_cases hj : j = m
  · subst hj; exact c0
  · exact hm3 j h1 (by omega)
end Go.Proofs.YtlfeafnbgmeiaaaGreatDoor
