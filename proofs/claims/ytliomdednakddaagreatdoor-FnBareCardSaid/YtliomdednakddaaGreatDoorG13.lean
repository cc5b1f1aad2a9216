/- Plain names given to an expression, by the program. No conditions. -/
import Derived.Test.YtliomdednakddaaGreatDoorG12
import Derived.Shelf.Lay
import Derived.Shelf.Strconv.Atoi
import Derived.Test.YtliomdednakddaaGreatDoorProg
import Derived.LaidSub
import Derived.Lib.LaidTab
namespace Go.Proofs.YtliomdednakddaaGreatDoor
set_option maxRecDepth 100000
set_option linter.unusedVariables false
set_option linter.unusedSimpArgs false

def PE (b : Nat) (oa : Option Addr) (av : List Txt) (c g : Nat) (p : Ex × Nat) (L : Own) : Post := fun v I' L' => ∃ cs, v = .agg (List.toArray cs) ∧ Rep I' p.1.tree cs ∧ L' = pn b oa av c g p.2 :: L
set_option maxHeartbeats 2000000 in
theorem f_plainer_expr : ∀ (n : Nat) {I : Heap} {e : Ex} {cs : List Value} (_ : SizeOf.sizeOf e < n) (_ : Rep I e.tree cs) (_ : e.ok = true) {f t : List Txt} {of ot : Option Addr} {cf ct : Nat} (_ : Strs I of f cf) (_ : Strs I ot t ct) (_ : f.length = t.length) (_ : namesL f) (_ : f.length + 2 * e.size ≤ 100000)
  {oa : Option Addr} {av : List Txt} {c : Nat} (_ : Strs I oa av c) (b g k : Nat) (_ : k + e.nb + av.length ≤ 90 + hits 120 av k) (_ : g + e.nb ≤ 100000) (L : Own),
  Fun Tryz.prog 58 [.pointer (some ⟨b, 0, none⟩), .agg cs.toArray, .slice of f.length cf, .slice ot t.length ct] I (pn b oa av c g k :: L) (PE b oa av c (g + e.nb) (e.pl av f t k) L) := by
 intro n
 induction n with
 | zero => intro I e cs h; omega
 | succ n ihn =>
  intro I e cs hlt h hok f t of ot cf ct hfr hto hft hnf hfl ov av cv hav bp g k hk hg L
  obtain ⟨oa, c, oaf, cf1, rfl, hf, hcl, hcs⟩ := h.cells
  have hle : HLe I I := .refl _
  have ha := hf.alen
  have hh0 := hits_le 120 av k
  refine fun_intro (by simp) ?_
  refine Se rfl ?_
  refine o_box rfl rfl .free rfl ?_
  intro b5
  refine o_alloc .free rfl ?_
  intro b8
  refine o_done (s_seq (Se rfl ?_))
  refine o_lOS rfl .free rfl ?_
  refine o_call rfl .free rfl (f_form_isAtom hf.rep _) ?_
  rintro _ _ _ _ ⟨rfl, rfl, rfl⟩
  refine o_done ?_
  refine s_cond rfl ?_ ?_
  ·intro c0
   try simp only [nb] at c0
   have hb : e.bare = true := by rw [Ex.bare_parts]; exact c0
   refine s_seq (Se rfl (Om rfl ?_))
   refine o_fieldAddr rfl .free rfl ?_
   refine o_lO1 rfl .free rfl ?_
   refine o_call rfl .free rfl (f_lastIndex hfr e.tree.atom _) ?_
   rintro _ _ _ _ ⟨rfl, rfl, rfl⟩
   refine Oa rfl (o_done (Se rfl (Om rfl ?_)))
   refine o_cmp rfl rfl rfl .free rfl ?_
   refine o_done ?_
   refine s_cond rfl ?_ ?_
   ·intro c1
    try simp only [nb] at c1
    obtain ⟨i, hi⟩ : ∃ i, lastIdx f e.tree.atom = some i := by
     cases hi : lastIdx f e.tree.atom with
     | none => rw [hi] at c1; simp [idxVal] at c1
     | some i => exact ⟨i, rfl⟩
    have hil := (lastAt_lt (show lastAt f e.tree.atom f.length = some i from hi)).1
    have hit : i < t.length := by omega
    have hst := hto.st i hit
    rw [hi]
    refine Se rfl (Om rfl (Om rfl ?_))
    first | refine o_ixD rfl rfl _ rfl .free rfl ?_ | refine o_ixP rfl rfl _ rfl .free rfl ?_
    refine o_lI1 rfl .free rfl ?_
    refine o_call rfl .free rfl (f_atom (t.getD i []) (by rw [show t.getD i [] = t[i] by simp [hit]]; exact hto.each _ (List.getElem_mem _)) _ _) ?_
    rintro _ _ _ _ ⟨rfl, rfl, rfl⟩
    refine o_st rfl rfl rfl rfl .free ?_
    refine o_done ?_
    refine s_ret (.c rfl .nil) ?_
    cases e with
    | name s =>
     have hi : lastIdx f s = some i := hi
     refine ⟨I, _, .refl _, fun w h => Mem.sub (L' := pn bp ov av cv g k :: L) (by repeat (first | exact List.Sublist.refl _ | apply List.Sublist.cons_cons | apply List.Sublist.cons)) h, _, rfl, ?_, rfl⟩
     show Rep I (.node (match lastIdx f s with | some i => t.getD i [] | none => s) []) _
     rw [hi]
     exact .ofAtom (show (t.getD i []).length ≤ maxN by rw [show t.getD i [] = t[i] by simp [hit]]; exact hto.each _ (List.getElem_mem _))
    | num s =>
     have h1 := name_not_num (hnf s (lastAt_mem hi))
     rw [show isNum s = true from hok] at h1; cases h1
    | _ => cases hb
   intro c1
   try simp only [nb] at c1
   refine s_skip (Se rfl ?_)
   refine o_lOS rfl .free rfl ?_
   refine o_st rfl rfl rfl rfl .free ?_
   refine o_done ?_
   refine s_ret (.c rfl .nil) ?_
   cases e with
   | name s =>
    have hi : lastIdx f s = none := by
     cases hi : lastIdx f s with
     | none => rfl
     | some i => rw [show lastIdx f (Ex.name s).tree.atom = some i from hi] at c1; simp [idxVal] at c1
    refine ⟨I, _, .refl _, fun w h => Mem.sub (L' := pn bp ov av cv g k :: L) (by repeat (first | exact List.Sublist.refl _ | apply List.Sublist.cons_cons | apply List.Sublist.cons)) h, _, rfl, ?_, rfl⟩
    show Rep I (.node (match lastIdx f s with | some i => t.getD i [] | none => s) []) _
    rw [hi]; exact hf.rep
   | num s => exact ⟨I, _, .refl _, fun w h => Mem.sub (L' := pn bp ov av cv g k :: L) (by repeat (first | exact List.Sublist.refl _ | apply List.Sublist.cons_cons | apply List.Sublist.cons)) h, _, rfl, hf.rep, rfl⟩
   | _ => cases hb
  intro c0
  try simp only [nb] at c0
  have hb : e.bare = false := by rw [Ex.bare_parts]; exact c0
  have hsh := e.shapes hb
  have hok0 := hok
  have hpos : 0 < e.tree.parts.length := by
   rw [Ex.bare_parts] at hb
   have : e.tree.parts ≠ [] := by intro hh; rw [hh] at hb; cases hb
   exact List.length_pos_iff.2 this
  obtain ⟨xa, rfl⟩ : ∃ xa, oa = some xa := ⟨_, some_oad hf.nil hpos⟩
  have hp := hf.len
  refine s_skip (Se rfl ?_)
  refine o_fieldAddr rfl .free rfl ?_
  refine o_lO1 rfl .free rfl ?_
  refine o_call rfl .free rfl (f_slices_Clone (hcs _ rfl) (by have := hcl.length; omega) hcl.plain hpos hp _) ?_
  rintro _ _ _ _ ⟨bc, sp, cc, rfl, hcc, rfl, rfl⟩
  refine o_struct rfl rfl rfl .free rfl ?_
  refine o_alloc .free rfl ?_
  intro b10
  refine o_st rfl rfl rfl rfl .free ?_
  refine o_done (s_seq ?_)
  rcases hsh with ⟨o, a, b, rfl⟩ | ⟨a, b, d, rfl⟩ | ⟨z, a, b, rfl⟩ | ⟨h1, z, s, u, b, rfl⟩ | ⟨o, a, rfl⟩
  ·skip
   have hlen : (Ex.bin o a b).tree.parts.length = 3 := rfl
   have hki := kids_bin o a b
   have hhd : (Ex.bin o a b).tree.head = o.txt := rfl
   simp only [Ex.bin.sizeOf_spec] at hlt
   simp only [Ex.ok, Bool.and_eq_true, decide_eq_true_eq] at hok
   simp only [Ex.nb] at hk hg ⊢
   simp only [Ex.size] at hfl
   obtain ⟨_, hrl⟩ : ∃ _ : True, RepL I (Ex.bin o a b).tree.parts _ := ⟨trivial, hcl⟩
   simp only [show (Ex.bin o a b).tree.parts = [.node o.txt [], a.tree, b.tree] from rfl, cellsF, List.cons_append, List.nil_append] at hrl ⊢
   refine s_mem (fun w h => h.f4) ?_
   refine o_enter rfl ?_
   refine Oa rfl (o_done (s_seq (Se rfl ?_)))
   refine o_lOS rfl .free rfl ?_
   refine o_call rfl .free rfl (f_form_head hf.rep _) ?_
   rintro _ _ _ _ ⟨rfl, rfl, rfl⟩
   refine o_done (s_block (Se rfl ?_))
   refine o_cmps rfl rfl rfl .free rfl ?_
   refine Oa rfl (o_done ?_)
   first | refine s_fp rfl (by rw [hhd]; cases o <;> decide) ?_ | refine s_fn rfl (by rw [hhd]; cases o <;> decide) ?_ | refine s_false (by simp [look, opd, *]) ?_
   refine Se rfl ?_
   refine o_cmps rfl rfl rfl .free rfl ?_
   refine Oa rfl (o_done ?_)
   first | refine s_fp rfl (by rw [hhd]; cases o <;> decide) ?_ | refine s_fn rfl (by rw [hhd]; cases o <;> decide) ?_ | refine s_false (by simp [look, opd, *]) ?_
   refine s_skip ?_
   refine s_inBlock ?_
   refine s_seq (Se rfl ?_)
   refine o_lOS rfl .free rfl ?_
   refine o_call rfl .free rfl (f_form_kids hf.rep _) ?_
   rintro _ J _ e0 ⟨ok, ck, rfl, hk1, rfl⟩
   have hf := hf.mono e0
   have hfr := hfr.mono e0
   have hto := hto.mono e0
   have hav := hav.mono e0
   have hle := hle.trans e0
   rw [hki] at hk1
   rw [hki]
   refine o_len_slice rfl .free rfl ?_
   refine Om rfl (o_done (s_block ?_))
   refine s_loop ?_
   refine Se rfl ?_
   refine o_cmp rfl rfl rfl .free rfl ?_
   refine o_done (s_seq ?_)
   refine s_condT rfl (by first | rfl | decide | (simp; done) | omega) ?_
   refine s_skip (s_seq (s_block (Se rfl ?_)))
   first | refine o_ixD rfl rfl _ rfl .free rfl ?_ | refine o_ixP rfl rfl _ rfl .free rfl ?_
   refine o_lI1 rfl .free rfl ?_
   refine Oa rfl (o_done (Se rfl (Om rfl (Om rfl (Oa rfl (Oa rfl (o_done (s_seq (Se rfl ?_)))))))))
   refine o_lOS rfl .free rfl ?_
   refine Om rfl ?_
   refine o_call rfl .free rfl (f_form_bound hf.rep hok0 _ _) ?_
   rintro _ J1 _ e1 ⟨o1, k1, rfl, hs1, rfl⟩
   have hf := hf.mono e1
   have hfr := hfr.mono e1
   have hto := hto.mono e1
   have hav := hav.mono e1
   have hle := hle.trans e1
   have hk1 := hk1.mono e1
   refine Oa rfl (o_done (Se rfl (Om rfl ?_)))
   refine o_len_slice rfl .free rfl ?_
   refine o_cmp rfl rfl rfl .free rfl ?_
   refine o_done ?_
   first | refine s_fp rfl (by simp [Ex.binds]) ?_ | refine s_fn rfl (by simp [Ex.binds]) ?_ | refine s_false (by simp [look, opd, *]) ?_
   refine s_skip ?_
   refine s_here fun hlr => ?_
   have hpl := a.pl_hits av (f) (t) k
   refine d_tl 14 rfl rfl ?_
   refine Da 0 rfl (y_fieldAddr rfl) ?_
   refine Dt 1 [13] rfl (y_lO1 rfl) ?_
   refine Da 2 rfl (y_move rfl) ?_
   refine Da 3 rfl (y_move rfl) ?_
   refine Da 4 rfl (y_fieldAddr rfl) ?_
   refine Dt 5 [13] rfl (y_lO1 rfl) ?_
   refine Da 6 rfl (y_move rfl) ?_
   first | refine Da 7 rfl (y_ixD rfl rfl _ rfl) ?_ | refine Da 7 rfl (y_ixP rfl rfl _ rfl) ?_
   refine Dt 8 [13] rfl (y_lIS rfl) ?_
   refine Da 9 rfl (y_move rfl) ?_
   refine Da 10 rfl (y_move rfl) ?_
   refine d_call 11 rfl (by kernel_rfl) rfl rfl .free rfl (ihn (f := f) (t := t) (by omega) (hf.as 1 a.tree (by omega) rfl) hok.1 hfr hto (by simp [hft]) hnf (by first | omega | (simp only [List.length_append, List.length_cons, List.length_nil]; omega)) hav bp _ _ (by omega) (by omega) _) ?_
   rintro _ J2 _ e2 ⟨cs2, rfl, hr_0, rfl⟩
   obtain ⟨o2, k2, _, rfl, -⟩ := hr_0.open
   have hlr := hlr.trans e2
   have hf := hf.mono e2
   have hfr := hfr.mono e2
   have hto := hto.mono e2
   have hav := hav.mono e2
   have hle := hle.trans e2
   have hk1 := hk1.mono e2
   refine ⟨(.inr heldx), ?_⟩
   first | refine Da 12 rfl (y_ixD rfl rfl _ rfl) ?_ | refine Da 12 rfl (y_ixP rfl rfl _ rfl) ?_
   refine d_st 13 rfl (by kernel_rfl) rfl rfl rfl rfl rfl .free (.inl (by kernel_rfl)) ?_
   refine d_done (by kernel_rfl) ?_
   refine s_inBlock ?_
   refine o_enter rfl ?_
   refine o_arith rfl rfl rfl (by omega) .free rfl ?_
   refine Om rfl (o_done ?_)
   refine s_round ?_
   refine Se rfl ?_
   refine o_cmp rfl rfl rfl .free rfl ?_
   refine o_done (s_seq ?_)
   refine s_condT rfl (by first | rfl | decide | (simp; done) | omega) ?_
   refine s_skip (s_seq (s_block (Se rfl ?_)))
   first | refine o_ixD rfl rfl _ rfl .free rfl ?_ | refine o_ixP rfl rfl _ rfl .free rfl ?_
   refine o_lI1 rfl .free rfl ?_
   refine Oa rfl (o_done (Se rfl (Om rfl (Om rfl (Oa rfl (Oa rfl (o_done (s_seq (Se rfl ?_)))))))))
   refine o_lOS rfl .free rfl ?_
   refine Om rfl ?_
   refine o_call rfl .free rfl (f_form_bound hf.rep hok0 _ _) ?_
   rintro _ J1 _ e1 ⟨o1, k1, rfl, hs1, rfl⟩
   have hf := hf.mono e1
   have hfr := hfr.mono e1
   have hto := hto.mono e1
   have hav := hav.mono e1
   have hle := hle.trans e1
   have hk1 := hk1.mono e1
   have hr_0 := hr_0.mono e1
   refine Oa rfl (o_done (Se rfl (Om rfl ?_)))
   refine o_len_slice rfl .free rfl ?_
   refine o_cmp rfl rfl rfl .free rfl ?_
   refine o_done ?_
   first | refine s_fp rfl (by simp [Ex.binds]) ?_ | refine s_fn rfl (by simp [Ex.binds]) ?_ | refine s_false (by simp [look, opd, *]) ?_
   refine s_skip ?_
   refine s_here fun hlr => ?_
   have hpl := b.pl_hits av (f) (t) (a.pl av (f) (t) k).2
   refine d_tl 14 rfl rfl ?_
   refine Da 0 rfl (y_fieldAddr rfl) ?_
   refine Dt 1 [13] rfl (y_lO1 rfl) ?_
   refine Da 2 rfl (y_move rfl) ?_
   refine Da 3 rfl (y_move rfl) ?_
   refine Da 4 rfl (y_fieldAddr rfl) ?_
   refine Dt 5 [13] rfl (y_lO1 rfl) ?_
   refine Da 6 rfl (y_move rfl) ?_
   first | refine Da 7 rfl (y_ixD rfl rfl _ rfl) ?_ | refine Da 7 rfl (y_ixP rfl rfl _ rfl) ?_
   refine Dt 8 [13] rfl (y_lIS rfl) ?_
   refine Da 9 rfl (y_move rfl) ?_
   refine Da 10 rfl (y_move rfl) ?_
   refine d_call 11 rfl (by kernel_rfl) rfl rfl .free rfl (ihn (f := f) (t := t) (by omega) (hf.as 2 b.tree (by omega) rfl) hok.2 hfr hto (by simp [hft]) hnf (by first | omega | (simp only [List.length_append, List.length_cons, List.length_nil]; omega)) hav bp _ _ (by omega) (by omega) _) ?_
   rintro _ J2 _ e2 ⟨cs2, rfl, hr_1, rfl⟩
   obtain ⟨o2, k2, _, rfl, -⟩ := hr_1.open
   have hlr := hlr.trans e2
   have hf := hf.mono e2
   have hfr := hfr.mono e2
   have hto := hto.mono e2
   have hav := hav.mono e2
   have hle := hle.trans e2
   have hk1 := hk1.mono e2
   have hr_0 := hr_0.mono e2
   refine ⟨(.inr heldx), ?_⟩
   first | refine Da 12 rfl (y_ixD rfl rfl _ rfl) ?_ | refine Da 12 rfl (y_ixP rfl rfl _ rfl) ?_
   refine d_st 13 rfl (by kernel_rfl) rfl rfl rfl rfl rfl .free (.inl (by kernel_rfl)) ?_
   refine d_done (by kernel_rfl) ?_
   refine s_inBlock ?_
   refine o_enter rfl ?_
   refine o_arith rfl rfl rfl (by omega) .free rfl ?_
   refine Om rfl (o_done ?_)
   refine s_round ?_
   refine Se rfl ?_
   refine o_cmp rfl rfl rfl .free rfl ?_
   refine o_done (s_seq ?_)
   refine s_condF rfl (by first | rfl | decide | (simp; done) | omega) ?_
   refine s_exit rfl ?_
   refine Se rfl ?_
   refine o_lOS rfl .free rfl ?_
   refine o_st rfl rfl rfl rfl .free ?_
   refine o_done ?_
   refine s_mem (fun w h => h.f2) (s_freeze ?_)
   intro hz
   have hf := hf.mono hz
   refine s_ret (.c rfl .nil) ?_
   exact ⟨_, _, hle.trans hz, fun w h => Mem.sub (L' := pn bp ov av cv _ _ :: L) (by repeat (first | exact List.Sublist.refl _ | apply List.Sublist.cons_cons | apply List.Sublist.cons)) h, _, rfl, .mk' rfl (.cons (hf.as 0 (.node o.txt []) (by omega) rfl) (.cons (hr_0.mono hz) (.cons (hr_1.mono hz) (.nil)))) (fun y hy => by cases hy; exact still_set (xs := [_, _, _, _, _, _])) (by simp) hcc (by simp [maxN]) (by simp [maxN]), by first | rfl | (simp only [Nat.add_assoc]; rfl)⟩
  ·skip
   have hlen : (Ex.ite a b d).tree.parts.length = 4 := rfl
   have hki := kids_ite a b d
   have hhd : (Ex.ite a b d).tree.head = tIf := rfl
   simp only [Ex.ite.sizeOf_spec] at hlt
   simp only [Ex.ok, Bool.and_eq_true, decide_eq_true_eq] at hok
   simp only [Ex.nb] at hk hg ⊢
   simp only [Ex.size] at hfl
   obtain ⟨_, hrl⟩ : ∃ _ : True, RepL I (Ex.ite a b d).tree.parts _ := ⟨trivial, hcl⟩
   simp only [show (Ex.ite a b d).tree.parts = [.node tIf [], a.tree, b.tree, d.tree] from rfl, cellsF, List.cons_append, List.nil_append] at hrl ⊢
   refine s_mem (fun w h => h.f4) ?_
   refine o_enter rfl ?_
   refine Oa rfl (o_done (s_seq (Se rfl ?_)))
   refine o_lOS rfl .free rfl ?_
   refine o_call rfl .free rfl (f_form_head hf.rep _) ?_
   rintro _ _ _ _ ⟨rfl, rfl, rfl⟩
   refine o_done (s_block (Se rfl ?_))
   refine o_cmps rfl rfl rfl .free rfl ?_
   refine Oa rfl (o_done ?_)
   first | refine s_fp rfl (by rw [hhd]; decide) ?_ | refine s_fn rfl (by rw [hhd]; decide) ?_ | refine s_false (by simp [look, opd, *]) ?_
   refine Se rfl ?_
   refine o_cmps rfl rfl rfl .free rfl ?_
   refine Oa rfl (o_done ?_)
   first | refine s_fp rfl (by rw [hhd]; decide) ?_ | refine s_fn rfl (by rw [hhd]; decide) ?_ | refine s_false (by simp [look, opd, *]) ?_
   refine s_skip ?_
   refine s_inBlock ?_
   refine s_seq (Se rfl ?_)
   refine o_lOS rfl .free rfl ?_
   refine o_call rfl .free rfl (f_form_kids hf.rep _) ?_
   rintro _ J _ e0 ⟨ok, ck, rfl, hk1, rfl⟩
   have hf := hf.mono e0
   have hfr := hfr.mono e0
   have hto := hto.mono e0
   have hav := hav.mono e0
   have hle := hle.trans e0
   rw [hki] at hk1
   rw [hki]
   refine o_len_slice rfl .free rfl ?_
   refine Om rfl (o_done (s_block ?_))
   refine s_loop ?_
   refine Se rfl ?_
   refine o_cmp rfl rfl rfl .free rfl ?_
   refine o_done (s_seq ?_)
   refine s_condT rfl (by first | rfl | decide | (simp; done) | omega) ?_
   refine s_skip (s_seq (s_block (Se rfl ?_)))
   first | refine o_ixD rfl rfl _ rfl .free rfl ?_ | refine o_ixP rfl rfl _ rfl .free rfl ?_
   refine o_lI1 rfl .free rfl ?_
   refine Oa rfl (o_done (Se rfl (Om rfl (Om rfl (Oa rfl (Oa rfl (o_done (s_seq (Se rfl ?_)))))))))
   refine o_lOS rfl .free rfl ?_
   refine Om rfl ?_
   refine o_call rfl .free rfl (f_form_bound hf.rep hok0 _ _) ?_
   rintro _ J1 _ e1 ⟨o1, k1, rfl, hs1, rfl⟩
   have hf := hf.mono e1
   have hfr := hfr.mono e1
   have hto := hto.mono e1
   have hav := hav.mono e1
   have hle := hle.trans e1
   have hk1 := hk1.mono e1
   refine Oa rfl (o_done (Se rfl (Om rfl ?_)))
   refine o_len_slice rfl .free rfl ?_
   refine o_cmp rfl rfl rfl .free rfl ?_
   refine o_done ?_
   first | refine s_fp rfl (by simp [Ex.binds]) ?_ | refine s_fn rfl (by simp [Ex.binds]) ?_ | refine s_false (by simp [look, opd, *]) ?_
   refine s_skip ?_
   refine s_here fun hlr => ?_
   have hpl := a.pl_hits av (f) (t) k
   refine d_tl 14 rfl rfl ?_
   refine Da 0 rfl (y_fieldAddr rfl) ?_
   refine Dt 1 [13] rfl (y_lO1 rfl) ?_
   refine Da 2 rfl (y_move rfl) ?_
   refine Da 3 rfl (y_move rfl) ?_
   refine Da 4 rfl (y_fieldAddr rfl) ?_
   refine Dt 5 [13] rfl (y_lO1 rfl) ?_
   refine Da 6 rfl (y_move rfl) ?_
   first | refine Da 7 rfl (y_ixD rfl rfl _ rfl) ?_ | refine Da 7 rfl (y_ixP rfl rfl _ rfl) ?_
   refine Dt 8 [13] rfl (y_lIS rfl) ?_
   refine Da 9 rfl (y_move rfl) ?_
   refine Da 10 rfl (y_move rfl) ?_
   refine d_call 11 rfl (by kernel_rfl) rfl rfl .free rfl (ihn (f := f) (t := t) (by omega) (hf.as 1 a.tree (by omega) rfl) hok.1.1 hfr hto (by simp [hft]) hnf (by first | omega | (simp only [List.length_append, List.length_cons, List.length_nil]; omega)) hav bp _ _ (by omega) (by omega) _) ?_
   rintro _ J2 _ e2 ⟨cs2, rfl, hr_0, rfl⟩
   obtain ⟨o2, k2, _, rfl, -⟩ := hr_0.open
   have hlr := hlr.trans e2
   have hf := hf.mono e2
   have hfr := hfr.mono e2
   have hto := hto.mono e2
   have hav := hav.mono e2
   have hle := hle.trans e2
   have hk1 := hk1.mono e2
   refine ⟨(.inr heldx), ?_⟩
   first | refine Da 12 rfl (y_ixD rfl rfl _ rfl) ?_ | refine Da 12 rfl (y_ixP rfl rfl _ rfl) ?_
   refine d_st 13 rfl (by kernel_rfl) rfl rfl rfl rfl rfl .free (.inl (by kernel_rfl)) ?_
   refine d_done (by kernel_rfl) ?_
   refine s_inBlock ?_
   refine o_enter rfl ?_
   refine o_arith rfl rfl rfl (by omega) .free rfl ?_
   refine Om rfl (o_done ?_)
   refine s_round ?_
   refine Se rfl ?_
   refine o_cmp rfl rfl rfl .free rfl ?_
   refine o_done (s_seq ?_)
   refine s_condT rfl (by first | rfl | decide | (simp; done) | omega) ?_
   refine s_skip (s_seq (s_block (Se rfl ?_)))
   first | refine o_ixD rfl rfl _ rfl .free rfl ?_ | refine o_ixP rfl rfl _ rfl .free rfl ?_
   refine o_lI1 rfl .free rfl ?_
   refine Oa rfl (o_done (Se rfl (Om rfl (Om rfl (Oa rfl (Oa rfl (o_done (s_seq (Se rfl ?_)))))))))
   refine o_lOS rfl .free rfl ?_
   refine Om rfl ?_
   refine o_call rfl .free rfl (f_form_bound hf.rep hok0 _ _) ?_
   rintro _ J1 _ e1 ⟨o1, k1, rfl, hs1, rfl⟩
   have hf := hf.mono e1
   have hfr := hfr.mono e1
   have hto := hto.mono e1
   have hav := hav.mono e1
   have hle := hle.trans e1
   have hk1 := hk1.mono e1
   have hr_0 := hr_0.mono e1
   refine Oa rfl (o_done (Se rfl (Om rfl ?_)))
   refine o_len_slice rfl .free rfl ?_
   refine o_cmp rfl rfl rfl .free rfl ?_
   refine o_done ?_
   first | refine s_fp rfl (by simp [Ex.binds]) ?_ | refine s_fn rfl (by simp [Ex.binds]) ?_ | refine s_false (by simp [look, opd, *]) ?_
   refine s_skip ?_
   refine s_here fun hlr => ?_
   have hpl := b.pl_hits av (f) (t) (a.pl av (f) (t) k).2
   refine d_tl 14 rfl rfl ?_
   refine Da 0 rfl (y_fieldAddr rfl) ?_
   refine Dt 1 [13] rfl (y_lO1 rfl) ?_
   refine Da 2 rfl (y_move rfl) ?_
   refine Da 3 rfl (y_move rfl) ?_
   refine Da 4 rfl (y_fieldAddr rfl) ?_
   refine Dt 5 [13] rfl (y_lO1 rfl) ?_
   refine Da 6 rfl (y_move rfl) ?_
   first | refine Da 7 rfl (y_ixD rfl rfl _ rfl) ?_ | refine Da 7 rfl (y_ixP rfl rfl _ rfl) ?_
   refine Dt 8 [13] rfl (y_lIS rfl) ?_
   refine Da 9 rfl (y_move rfl) ?_
   refine Da 10 rfl (y_move rfl) ?_
   refine d_call 11 rfl (by kernel_rfl) rfl rfl .free rfl (ihn (f := f) (t := t) (by omega) (hf.as 2 b.tree (by omega) rfl) hok.1.2 hfr hto (by simp [hft]) hnf (by first | omega | (simp only [List.length_append, List.length_cons, List.length_nil]; omega)) hav bp _ _ (by omega) (by omega) _) ?_
   rintro _ J2 _ e2 ⟨cs2, rfl, hr_1, rfl⟩
   obtain ⟨o2, k2, _, rfl, -⟩ := hr_1.open
   have hlr := hlr.trans e2
   have hf := hf.mono e2
   have hfr := hfr.mono e2
   have hto := hto.mono e2
   have hav := hav.mono e2
   have hle := hle.trans e2
   have hk1 := hk1.mono e2
   have hr_0 := hr_0.mono e2
   refine ⟨(.inr heldx), ?_⟩
   first | refine Da 12 rfl (y_ixD rfl rfl _ rfl) ?_ | refine Da 12 rfl (y_ixP rfl rfl _ rfl) ?_
   refine d_st 13 rfl (by kernel_rfl) rfl rfl rfl rfl rfl .free (.inl (by kernel_rfl)) ?_
   refine d_done (by kernel_rfl) ?_
   refine s_inBlock ?_
   refine o_enter rfl ?_
   refine o_arith rfl rfl rfl (by omega) .free rfl ?_
   refine Om rfl (o_done ?_)
   refine s_round ?_
   refine Se rfl ?_
   refine o_cmp rfl rfl rfl .free rfl ?_
   refine o_done (s_seq ?_)
   refine s_condT rfl (by first | rfl | decide | (simp; done) | omega) ?_
   refine s_skip (s_seq (s_block (Se rfl ?_)))
   first | refine o_ixD rfl rfl _ rfl .free rfl ?_ | refine o_ixP rfl rfl _ rfl .free rfl ?_
   refine o_lI1 rfl .free rfl ?_
   refine Oa rfl (o_done (Se rfl (Om rfl (Om rfl (Oa rfl (Oa rfl (o_done (s_seq (Se rfl ?_)))))))))
   refine o_lOS rfl .free rfl ?_
   refine Om rfl ?_
   refine o_call rfl .free rfl (f_form_bound hf.rep hok0 _ _) ?_
   rintro _ J1 _ e1 ⟨o1, k1, rfl, hs1, rfl⟩
   have hf := hf.mono e1
   have hfr := hfr.mono e1
   have hto := hto.mono e1
   have hav := hav.mono e1
   have hle := hle.trans e1
   have hk1 := hk1.mono e1
   have hr_0 := hr_0.mono e1
   have hr_1 := hr_1.mono e1
   refine Oa rfl (o_done (Se rfl (Om rfl ?_)))
   refine o_len_slice rfl .free rfl ?_
   refine o_cmp rfl rfl rfl .free rfl ?_
   refine o_done ?_
   first | refine s_fp rfl (by simp [Ex.binds]) ?_ | refine s_fn rfl (by simp [Ex.binds]) ?_ | refine s_false (by simp [look, opd, *]) ?_
   refine s_skip ?_
   refine s_here fun hlr => ?_
   have hpl := d.pl_hits av (f) (t) (b.pl av (f) (t) (a.pl av (f) (t) k).2).2
   refine d_tl 14 rfl rfl ?_
   refine Da 0 rfl (y_fieldAddr rfl) ?_
   refine Dt 1 [13] rfl (y_lO1 rfl) ?_
   refine Da 2 rfl (y_move rfl) ?_
   refine Da 3 rfl (y_move rfl) ?_
   refine Da 4 rfl (y_fieldAddr rfl) ?_
   refine Dt 5 [13] rfl (y_lO1 rfl) ?_
   refine Da 6 rfl (y_move rfl) ?_
   first | refine Da 7 rfl (y_ixD rfl rfl _ rfl) ?_ | refine Da 7 rfl (y_ixP rfl rfl _ rfl) ?_
   refine Dt 8 [13] rfl (y_lIS rfl) ?_
   refine Da 9 rfl (y_move rfl) ?_
   refine Da 10 rfl (y_move rfl) ?_
   refine d_call 11 rfl (by kernel_rfl) rfl rfl .free rfl (ihn (f := f) (t := t) (by omega) (hf.as 3 d.tree (by omega) rfl) hok.2 hfr hto (by simp [hft]) hnf (by first | omega | (simp only [List.length_append, List.length_cons, List.length_nil]; omega)) hav bp _ _ (by omega) (by omega) _) ?_
   rintro _ J2 _ e2 ⟨cs2, rfl, hr_2, rfl⟩
   obtain ⟨o2, k2, _, rfl, -⟩ := hr_2.open
   have hlr := hlr.trans e2
   have hf := hf.mono e2
   have hfr := hfr.mono e2
   have hto := hto.mono e2
   have hav := hav.mono e2
   have hle := hle.trans e2
   have hk1 := hk1.mono e2
   have hr_0 := hr_0.mono e2
   have hr_1 := hr_1.mono e2
   refine ⟨(.inr heldx), ?_⟩
   first | refine Da 12 rfl (y_ixD rfl rfl _ rfl) ?_ | refine Da 12 rfl (y_ixP rfl rfl _ rfl) ?_
   refine d_st 13 rfl (by kernel_rfl) rfl rfl rfl rfl rfl .free (.inl (by kernel_rfl)) ?_
   refine d_done (by kernel_rfl) ?_
   refine s_inBlock ?_
   refine o_enter rfl ?_
   refine o_arith rfl rfl rfl (by omega) .free rfl ?_
   refine Om rfl (o_done ?_)
   refine s_round ?_
   refine Se rfl ?_
   refine o_cmp rfl rfl rfl .free rfl ?_
   refine o_done (s_seq ?_)
   refine s_condF rfl (by first | rfl | decide | (simp; done) | omega) ?_
   refine s_exit rfl ?_
   refine Se rfl ?_
   refine o_lOS rfl .free rfl ?_
   refine o_st rfl rfl rfl rfl .free ?_
   refine o_done ?_
   refine s_mem (fun w h => h.f2) (s_freeze ?_)
   intro hz
   have hf := hf.mono hz
   refine s_ret (.c rfl .nil) ?_
   exact ⟨_, _, hle.trans hz, fun w h => Mem.sub (L' := pn bp ov av cv _ _ :: L) (by repeat (first | exact List.Sublist.refl _ | apply List.Sublist.cons_cons | apply List.Sublist.cons)) h, _, rfl, .mk' rfl (.cons (hf.as 0 (.node tIf []) (by omega) rfl) (.cons (hr_0.mono hz) (.cons (hr_1.mono hz) (.cons (hr_2.mono hz) (.nil))))) (fun y hy => by cases hy; exact still_set (xs := [_, _, _, _, _, _, _, _])) (by simp) hcc (by simp [maxN]) (by simp [maxN]), by first | rfl | (simp only [Nat.add_assoc]; rfl)⟩
  ·skip
   have hlen : (Ex.lt z a b).tree.parts.length = 4 := rfl
   have hki := kids_lt' z a b
   have hhd : (Ex.lt z a b).tree.head = tLet := rfl
   simp only [Ex.lt.sizeOf_spec] at hlt
   simp only [Ex.ok, Bool.and_eq_true, decide_eq_true_eq] at hok
   simp only [Ex.nb] at hk hg ⊢
   simp only [Ex.size] at hfl
   obtain ⟨_, hrl⟩ : ∃ _ : True, RepL I (Ex.lt z a b).tree.parts _ := ⟨trivial, hcl⟩
   simp only [show (Ex.lt z a b).tree.parts = [.node tLet [], .node z [], a.tree, b.tree] from rfl, cellsF, List.cons_append, List.nil_append] at hrl ⊢
   refine s_mem (fun w h => h.f4) ?_
   refine o_enter rfl ?_
   refine Oa rfl (o_done (s_seq (Se rfl ?_)))
   refine o_lOS rfl .free rfl ?_
   refine o_call rfl .free rfl (f_form_head hf.rep _) ?_
   rintro _ _ _ _ ⟨rfl, rfl, rfl⟩
   refine o_done (s_block (Se rfl ?_))
   refine o_cmps rfl rfl rfl .free rfl ?_
   refine Oa rfl (o_done ?_)
   first | refine s_tp rfl (by rw [hhd]; rfl) ?_ | refine s_tn rfl (by rw [hhd]; rfl) ?_ | refine s_true (by simp [look, opd, *]) ?_
   refine s_seq ?_
   obtain ⟨x1, x2, x3⟩ := fr_facts 120 av k
   have x4 := fr_hits_succ 120 av k
   have x5 := hits_le 120 av (fr 120 av k)
   have x6 := hits_le 120 av (fr 120 av k + 1)
   refine o_enter rfl ?_
   refine Om rfl ?_
   refine o_call rfl .free rfl (f_plainer_name hav bp g k (by omega) (by omega) _) ?_
   rintro _ _ _ _ ⟨rfl, rfl, rfl⟩
   have hnl1 := nm_len (n := fr 120 av k) (by omega)
   generalize hn1e : nm 120 (fr 120 av k) = n1 at hnl1 ⊢
   refine o_lits rfl rfl (by rfl) (by rfl) (by rfl) (by decide) (by decide) (by rfl) .free rfl ?_
   intro b41
   refine o_freezeLit [n1] (by simp [maxN]) (by intro y hy; rw [List.mem_singleton.1 hy]; exact hnl1) ?_
   intro J1 ez hnm
   have hn0 := hnm.st 0 (by simp)
   have hf := hf.mono ez
   have hfr := hfr.mono ez
   have hto := hto.mono ez
   have hav := hav.mono ez
   have hle := hle.trans ez
   refine Oa rfl (o_done ?_)
   refine d_all 8 rfl rfl ?_
   refine Da 0 rfl (y_fieldAddr rfl) ?_
   refine Dt 1 [7] rfl (y_lO1 rfl) ?_
   refine Da 2 rfl (y_move rfl) ?_
   first | refine Da 3 rfl (y_ixD rfl rfl 0 rfl) ?_ | refine Da 3 rfl (y_ixP rfl rfl 0 rfl) ?_
   refine Dt 4 [7] rfl (y_lI1 rfl) ?_
   refine d_call 5 rfl (by kernel_rfl) rfl rfl .free rfl (f_atom n1 hnl1 _ _) ?_
   rintro _ _ _ _ ⟨rfl, rfl, rfl⟩
   refine ⟨(.inr heldx), ?_⟩
   first | refine Da 6 rfl (y_ixD rfl rfl 1 rfl) ?_ | refine Da 6 rfl (y_ixP rfl rfl 1 rfl) ?_
   refine d_st 7 rfl (by kernel_rfl) rfl rfl rfl rfl rfl .free (.inl (by kernel_rfl)) ?_
   refine d_done (by kernel_rfl) ?_
   refine s_inBlock ?_
   refine s_seq (Se rfl ?_)
   refine o_lOS rfl .free rfl ?_
   refine o_call rfl .free rfl (f_form_kids hf.rep _) ?_
   rintro _ J _ e0 ⟨ok, ck, rfl, hk1, rfl⟩
   have hf := hf.mono e0
   have hfr := hfr.mono e0
   have hto := hto.mono e0
   have hav := hav.mono e0
   have hle := hle.trans e0
   rw [hki] at hk1
   rw [hki]
   have hnm := hnm.mono e0
   refine o_len_slice rfl .free rfl ?_
   refine Om rfl (o_done (s_block ?_))
   refine s_loop ?_
   refine Se rfl ?_
   refine o_cmp rfl rfl rfl .free rfl ?_
   refine o_done (s_seq ?_)
   refine s_condT rfl (by first | rfl | decide | (simp; done) | omega) ?_
   refine s_skip (s_seq (s_block (Se rfl ?_)))
   first | refine o_ixD rfl rfl _ rfl .free rfl ?_ | refine o_ixP rfl rfl _ rfl .free rfl ?_
   refine o_lI1 rfl .free rfl ?_
   refine Oa rfl (o_done (Se rfl (Om rfl (Om rfl (Oa rfl (Oa rfl (o_done (s_seq (Se rfl ?_)))))))))
   refine o_lOS rfl .free rfl ?_
   refine Om rfl ?_
   refine o_call rfl .free rfl (f_form_bound hf.rep hok0 _ _) ?_
   rintro _ J1 _ e1 ⟨o1, k1, rfl, hs1, rfl⟩
   have hf := hf.mono e1
   have hfr := hfr.mono e1
   have hto := hto.mono e1
   have hav := hav.mono e1
   have hle := hle.trans e1
   have hk1 := hk1.mono e1
   have hnm := hnm.mono e1
   refine Oa rfl (o_done (Se rfl (Om rfl ?_)))
   refine o_len_slice rfl .free rfl ?_
   refine o_cmp rfl rfl rfl .free rfl ?_
   refine o_done ?_
   first | refine s_fp rfl (by simp [Ex.binds]) ?_ | refine s_fn rfl (by simp [Ex.binds]) ?_ | refine s_false (by simp [look, opd, *]) ?_
   refine s_skip ?_
   refine s_here fun hlr => ?_
   have hpl := a.pl_hits av (f) (t) (fr 120 av k + 1)
   refine d_tl 14 rfl rfl ?_
   refine Da 0 rfl (y_fieldAddr rfl) ?_
   refine Dt 1 [13] rfl (y_lO1 rfl) ?_
   refine Da 2 rfl (y_move rfl) ?_
   refine Da 3 rfl (y_move rfl) ?_
   refine Da 4 rfl (y_fieldAddr rfl) ?_
   refine Dt 5 [13] rfl (y_lO1 rfl) ?_
   refine Da 6 rfl (y_move rfl) ?_
   first | refine Da 7 rfl (y_ixD rfl rfl _ rfl) ?_ | refine Da 7 rfl (y_ixP rfl rfl _ rfl) ?_
   refine Dt 8 [13] rfl (y_lIS rfl) ?_
   refine Da 9 rfl (y_move rfl) ?_
   refine Da 10 rfl (y_move rfl) ?_
   refine d_call 11 rfl (by kernel_rfl) rfl rfl .free rfl (ihn (f := f) (t := t) (by omega) (hf.as 2 a.tree (by omega) rfl) hok.1.2 hfr hto (by simp [hft]) hnf (by first | omega | (simp only [List.length_append, List.length_cons, List.length_nil]; omega)) hav bp _ _ (by omega) (by omega) _) ?_
   rintro _ J2 _ e2 ⟨cs2, rfl, hr_0, rfl⟩
   obtain ⟨o2, k2, _, rfl, -⟩ := hr_0.open
   have hlr := hlr.trans e2
   have hf := hf.mono e2
   have hfr := hfr.mono e2
   have hto := hto.mono e2
   have hav := hav.mono e2
   have hle := hle.trans e2
   have hk1 := hk1.mono e2
   have hnm := hnm.mono e2
   refine ⟨(.inr heldx), ?_⟩
   first | refine Da 12 rfl (y_ixD rfl rfl _ rfl) ?_ | refine Da 12 rfl (y_ixP rfl rfl _ rfl) ?_
   refine d_st 13 rfl (by kernel_rfl) rfl rfl rfl rfl rfl .free (.inl (by kernel_rfl)) ?_
   refine d_done (by kernel_rfl) ?_
   refine s_inBlock ?_
   refine o_enter rfl ?_
   refine o_arith rfl rfl rfl (by omega) .free rfl ?_
   refine Om rfl (o_done ?_)
   refine s_round ?_
   refine Se rfl ?_
   refine o_cmp rfl rfl rfl .free rfl ?_
   refine o_done (s_seq ?_)
   refine s_condT rfl (by first | rfl | decide | (simp; done) | omega) ?_
   refine s_skip (s_seq (s_block (Se rfl ?_)))
   first | refine o_ixD rfl rfl _ rfl .free rfl ?_ | refine o_ixP rfl rfl _ rfl .free rfl ?_
   refine o_lI1 rfl .free rfl ?_
   refine Oa rfl (o_done (Se rfl (Om rfl (Om rfl (Oa rfl (Oa rfl (o_done (s_seq (Se rfl ?_)))))))))
   refine o_lOS rfl .free rfl ?_
   refine Om rfl ?_
   refine o_call rfl .free rfl (f_form_bound hf.rep hok0 _ _) ?_
   rintro _ J1 _ e1 ⟨o1, k1, rfl, hs1, rfl⟩
   have hf := hf.mono e1
   have hfr := hfr.mono e1
   have hto := hto.mono e1
   have hav := hav.mono e1
   have hle := hle.trans e1
   have hk1 := hk1.mono e1
   have hr_0 := hr_0.mono e1
   have hnm := hnm.mono e1
   refine Oa rfl (o_done (Se rfl (Om rfl ?_)))
   refine o_len_slice rfl .free rfl ?_
   refine o_cmp rfl rfl rfl .free rfl ?_
   refine o_done ?_
   first | refine s_tp rfl (by simp [Ex.binds]) ?_ | refine s_tn rfl (by simp [Ex.binds]) ?_ | refine s_true (by simp [look, opd, *]) ?_
   refine o_enter rfl ?_
   refine Om rfl (Om rfl ?_)
   refine o_lits rfl rfl (by rfl) (by rfl) (by rfl) (by decide) (by decide) (by rfl) .free rfl ?_
   intro b87
   refine o_freeze ?_
   intro ez
   have hf := hf.mono ez
   have hfr := hfr.mono ez
   have hto := hto.mono ez
   have hav := hav.mono ez
   have hle := hle.trans ez
   have hk1 := hk1.mono ez
   have hr_0 := hr_0.mono ez
   have hnm := hnm.mono ez
   refine o_call rfl .free rfl (f_slices_Concat (still_set (xs := [.slice of f.length cf, .slice o1 (List.length _) k1]) (ys := [])) hfr (hs1.mono ez) (Ex.binds_room0 (by omega)) _) ?_
   rintro _ J3 _ e3 ⟨o3, k3, rfl, hs3, rfl⟩
   have hf := hf.mono e3
   have hfr := hfr.mono e3
   have hto := hto.mono e3
   have hav := hav.mono e3
   have hle := hle.trans e3
   have hk1 := hk1.mono e3
   have hr_0 := hr_0.mono e3
   have hnm := hnm.mono e3
   refine Om rfl (Om rfl ?_)
   refine o_lits rfl rfl (by rfl) (by rfl) (by rfl) (by decide) (by decide) (by rfl) .free rfl ?_
   intro b91
   refine o_freeze ?_
   intro ey
   have hf := hf.mono ey
   have hfr := hfr.mono ey
   have hto := hto.mono ey
   have hav := hav.mono ey
   have hle := hle.trans ey
   have hk1 := hk1.mono ey
   have hr_0 := hr_0.mono ey
   have hnm := hnm.mono ey
   have hs3 := hs3.mono ey
   refine o_call rfl .free rfl (f_slices_Concat (m := [n1]) (still_set (xs := [.slice ot t.length ct, .slice (some ⟨_, 0, none⟩) (List.length _) _]) (ys := [])) hto hnm (show t.length + 1 ≤ maxN by unfold maxN; omega) _) ?_
   rintro _ J4 _ e4 ⟨o4, k4, rfl, hs4, rfl⟩
   have hf := hf.mono e4
   have hfr := hfr.mono e4
   have hto := hto.mono e4
   have hav := hav.mono e4
   have hle := hle.trans e4
   have hk1 := hk1.mono e4
   have hr_0 := hr_0.mono e4
   have hnm := hnm.mono e4
   have hs3 := hs3.mono e4
   refine Oa rfl (Oa rfl (o_done ?_))
   refine s_here fun hlr => ?_
   have hpl := b.pl_hits av (f ++ [z]) (t ++ [n1]) (a.pl av (f) (t) (fr 120 av k + 1)).2
   refine d_tl 14 rfl rfl ?_
   refine Da 0 rfl (y_fieldAddr rfl) ?_
   refine Dt 1 [13] rfl (y_lO1 rfl) ?_
   refine Da 2 rfl (y_move rfl) ?_
   refine Da 3 rfl (y_move rfl) ?_
   refine Da 4 rfl (y_fieldAddr rfl) ?_
   refine Dt 5 [13] rfl (y_lO1 rfl) ?_
   refine Da 6 rfl (y_move rfl) ?_
   first | refine Da 7 rfl (y_ixD rfl rfl _ rfl) ?_ | refine Da 7 rfl (y_ixP rfl rfl _ rfl) ?_
   refine Dt 8 [13] rfl (y_lIS rfl) ?_
   refine Da 9 rfl (y_move rfl) ?_
   refine Da 10 rfl (y_move rfl) ?_
   refine d_call 11 rfl (by kernel_rfl) rfl rfl .free rfl (ihn (f := f ++ [z]) (t := t ++ [n1]) (by omega) (hf.as 3 b.tree (by omega) rfl) hok.2 hs3 hs4 (by simp [hft]) (hnf.add (by intro y hy; rw [List.mem_singleton.1 hy]; exact hok.1.1)) (by first | omega | (simp only [List.length_append, List.length_cons, List.length_nil]; omega)) hav bp _ _ (by omega) (by omega) _) ?_
   rintro _ J2 _ e2 ⟨cs2, rfl, hr_1, rfl⟩
   obtain ⟨o2, k2, _, rfl, -⟩ := hr_1.open
   have hlr := hlr.trans e2
   have hf := hf.mono e2
   have hfr := hfr.mono e2
   have hto := hto.mono e2
   have hav := hav.mono e2
   have hle := hle.trans e2
   have hk1 := hk1.mono e2
   have hr_0 := hr_0.mono e2
   have hnm := hnm.mono e2
   refine ⟨(.inr heldx), ?_⟩
   first | refine Da 12 rfl (y_ixD rfl rfl _ rfl) ?_ | refine Da 12 rfl (y_ixP rfl rfl _ rfl) ?_
   refine d_st 13 rfl (by kernel_rfl) rfl rfl rfl rfl rfl .free (.inl (by kernel_rfl)) ?_
   refine d_done (by kernel_rfl) ?_
   refine s_inBlock ?_
   refine o_enter rfl ?_
   refine o_arith rfl rfl rfl (by omega) .free rfl ?_
   refine Om rfl (o_done ?_)
   refine s_round ?_
   refine Se rfl ?_
   refine o_cmp rfl rfl rfl .free rfl ?_
   refine o_done (s_seq ?_)
   refine s_condF rfl (by first | rfl | decide | (simp; done) | omega) ?_
   refine s_exit rfl ?_
   refine Se rfl ?_
   refine o_lOS rfl .free rfl ?_
   refine o_st rfl rfl rfl rfl .free ?_
   refine o_done ?_
   refine s_mem (fun w h => h.f2) (s_freeze ?_)
   intro hz
   have hf := hf.mono hz
   refine s_ret (.c rfl .nil) ?_
   subst hn1e
   exact ⟨_, _, hle.trans hz, fun w h => Mem.sub (L' := pn bp ov av cv _ _ :: L) (by repeat (first | exact List.Sublist.refl _ | apply List.Sublist.cons_cons | apply List.Sublist.cons)) h, _, rfl, .mk' rfl (.cons (hf.as 0 (.node tLet []) (by omega) rfl) (.cons (.ofAtom hnl1) (.cons (hr_0.mono hz) (.cons (hr_1.mono hz) (.nil))))) (fun y hy => by cases hy; exact still_set (xs := [_, _, _, _, _, _, _, _])) (by simp) hcc (by simp [maxN]) (by simp [maxN]), by first | rfl | (simp only [Nat.add_assoc]; rfl)⟩
  ·skip
   have hlen : (Ex.fn h1 z s u b).tree.parts.length = 6 := rfl
   have hki := kids_fn h1 z s u b
   have hhd : (Ex.fn h1 z s u b).tree.head = tFun := rfl
   simp only [Ex.fn.sizeOf_spec] at hlt
   simp only [Ex.ok, Bool.and_eq_true, decide_eq_true_eq] at hok
   simp only [Ex.nb] at hk hg ⊢
   simp only [Ex.size] at hfl
   obtain ⟨_, hrl⟩ : ∃ _ : True, RepL I (Ex.fn h1 z s u b).tree.parts _ := ⟨trivial, hcl⟩
   simp only [show (Ex.fn h1 z s u b).tree.parts = [.node tFun [], .node h1 [], .node z [], s.tree, u.tree, b.tree] from rfl, cellsF, List.cons_append, List.nil_append] at hrl ⊢
   refine s_mem (fun w h => h.f4) ?_
   refine o_enter rfl ?_
   refine Oa rfl (o_done (s_seq (Se rfl ?_)))
   refine o_lOS rfl .free rfl ?_
   refine o_call rfl .free rfl (f_form_head hf.rep _) ?_
   rintro _ _ _ _ ⟨rfl, rfl, rfl⟩
   refine o_done (s_block (Se rfl ?_))
   refine o_cmps rfl rfl rfl .free rfl ?_
   refine Oa rfl (o_done ?_)
   first | refine s_fp rfl (by rw [hhd]; decide) ?_ | refine s_fn rfl (by rw [hhd]; decide) ?_ | refine s_false (by simp [look, opd, *]) ?_
   refine Se rfl ?_
   refine o_cmps rfl rfl rfl .free rfl ?_
   refine Oa rfl (o_done ?_)
   first | refine s_tp rfl (by rw [hhd]; rfl) ?_ | refine s_tn rfl (by rw [hhd]; rfl) ?_ | refine s_true (by simp [look, opd, *]) ?_
   refine s_seq ?_
   obtain ⟨x1, x2, x3⟩ := fr_facts 120 av k
   have x4 := fr_hits_succ 120 av k
   have x5 := hits_le 120 av (fr 120 av k)
   have x6 := hits_le 120 av (fr 120 av k + 1)
   obtain ⟨y1, y2, y3⟩ := fr_facts 120 av (fr 120 av k + 1)
   have y4 := fr_hits_succ 120 av (fr 120 av k + 1)
   have y5 := hits_le 120 av (fr 120 av (fr 120 av k + 1))
   have y6 := hits_le 120 av (fr 120 av (fr 120 av k + 1) + 1)
   refine o_enter rfl ?_
   refine Om rfl ?_
   refine o_call rfl .free rfl (f_plainer_name hav bp g k (by omega) (by omega) _) ?_
   rintro _ _ _ _ ⟨rfl, rfl, rfl⟩
   have hnl1 := nm_len (n := fr 120 av k) (by omega)
   generalize hn1e : nm 120 (fr 120 av k) = n1 at hnl1 ⊢
   refine Om rfl ?_
   refine o_call rfl .free rfl (f_plainer_name hav bp (g + 1) (fr 120 av k + 1) (by omega) (by omega) _) ?_
   rintro _ _ _ _ ⟨rfl, rfl, rfl⟩
   have hnl2 := nm_len (n := fr 120 av (fr 120 av k + 1)) (by omega)
   generalize hn2e : nm 120 (fr 120 av (fr 120 av k + 1)) = n2 at hnl2 ⊢
   refine o_lits rfl rfl (by rfl) (by rfl) (by rfl) (by decide) (by decide) (by rfl) .free rfl ?_
   intro b55
   refine o_freezeLit [n1, n2] (by simp [maxN]) (by intro y hy; simp only [List.mem_cons, List.not_mem_nil, or_false] at hy; rcases hy with rfl | rfl; exact hnl1; exact hnl2) ?_
   intro J1 ez hnm
   have hn0 := hnm.st 0 (by simp)
   have hn1 := hnm.st 1 (by simp)
   have hf := hf.mono ez
   have hfr := hfr.mono ez
   have hto := hto.mono ez
   have hav := hav.mono ez
   have hle := hle.trans ez
   refine Oa rfl (o_done ?_)
   refine d_all 16 rfl rfl ?_
   refine Da 0 rfl (y_fieldAddr rfl) ?_
   refine Dt 1 [13] rfl (y_lO1 rfl) ?_
   refine Da 2 rfl (y_fieldAddr rfl) ?_
   refine Da 4 rfl (y_move rfl) ?_
   first | refine Da 5 rfl (y_ixD rfl rfl 0 rfl) ?_ | refine Da 5 rfl (y_ixP rfl rfl 0 rfl) ?_
   refine Dt 6 [13] rfl (y_lI1 rfl) ?_
   refine Da 8 rfl (y_move rfl) ?_
   first | refine Da 9 rfl (y_ixD rfl rfl 1 rfl) ?_ | refine Da 9 rfl (y_ixP rfl rfl 1 rfl) ?_
   refine Dt 10 [13] rfl (y_lI1 rfl) ?_
   refine d_two 3 7 (by kernel_rfl) ?_ ?_
   ·skip
    refine i_yld 3 rfl rfl (y_lO1 rfl) .free rfl (.inr heldx) ?_
    refine d_call 7 rfl (by kernel_rfl) rfl rfl .free rfl (f_atom n1 hnl1 _ _) ?_
    rintro _ _ _ _ ⟨rfl, rfl, rfl⟩
    refine ⟨(.inr heldx), ?_⟩
    refine d_call 11 rfl (by kernel_rfl) rfl rfl .free rfl (f_atom n2 hnl2 _ _) ?_
    rintro _ _ _ _ ⟨rfl, rfl, rfl⟩
    refine ⟨(.inr heldx), ?_⟩
    first | refine Da 12 rfl (y_ixD rfl rfl 1 rfl) ?_ | refine Da 12 rfl (y_ixP rfl rfl 1 rfl) ?_
    refine d_st 13 rfl (by kernel_rfl) rfl rfl rfl rfl rfl .free (.inl (by kernel_rfl)) ?_
    first | refine d_takeA 14 rfl (by kernel_rfl) rfl (.inl (by kernel_rfl)) (y_ixD rfl rfl 2 rfl) .free rfl ?_ | refine d_takeA 14 rfl (by kernel_rfl) rfl (.inl (by kernel_rfl)) (y_ixP rfl rfl 2 rfl) .free rfl ?_
    refine d_st 15 rfl (by kernel_rfl) rfl rfl rfl rfl rfl .free (.inl (by kernel_rfl)) ?_
    refine d_done (by kernel_rfl) ?_
    refine s_inBlock ?_
    refine s_seq (Se rfl ?_)
    refine o_lOS rfl .free rfl ?_
    refine o_call rfl .free rfl (f_form_kids hf.rep _) ?_
    rintro _ J _ e0 ⟨ok, ck, rfl, hk1, rfl⟩
    have hf := hf.mono e0
    have hfr := hfr.mono e0
    have hto := hto.mono e0
    have hav := hav.mono e0
    have hle := hle.trans e0
    rw [hki] at hk1
    rw [hki]
    have hnm := hnm.mono e0
    refine o_len_slice rfl .free rfl ?_
    refine Om rfl (o_done (s_block ?_))
    refine s_loop ?_
    refine Se rfl ?_
    refine o_cmp rfl rfl rfl .free rfl ?_
    refine o_done (s_seq ?_)
    refine s_condT rfl (by first | rfl | decide | (simp; done) | omega) ?_
    refine s_skip (s_seq (s_block (Se rfl ?_)))
    first | refine o_ixD rfl rfl _ rfl .free rfl ?_ | refine o_ixP rfl rfl _ rfl .free rfl ?_
    refine o_lI1 rfl .free rfl ?_
    refine Oa rfl (o_done (Se rfl (Om rfl (Om rfl (Oa rfl (Oa rfl (o_done (s_seq (Se rfl ?_)))))))))
    refine o_lOS rfl .free rfl ?_
    refine Om rfl ?_
    refine o_call rfl .free rfl (f_form_bound hf.rep hok0 _ _) ?_
    rintro _ J1 _ e1 ⟨o1, k1, rfl, hs1, rfl⟩
    have hf := hf.mono e1
    have hfr := hfr.mono e1
    have hto := hto.mono e1
    have hav := hav.mono e1
    have hle := hle.trans e1
    have hk1 := hk1.mono e1
    have hnm := hnm.mono e1
    refine Oa rfl (o_done (Se rfl (Om rfl ?_)))
    refine o_len_slice rfl .free rfl ?_
    refine o_cmp rfl rfl rfl .free rfl ?_
    refine o_done ?_
    first | refine s_tp rfl (by simp [Ex.binds]) ?_ | refine s_tn rfl (by simp [Ex.binds]) ?_ | refine s_true (by simp [look, opd, *]) ?_
    refine o_enter rfl ?_
    refine Om rfl (Om rfl ?_)
    refine o_lits rfl rfl (by rfl) (by rfl) (by rfl) (by decide) (by decide) (by rfl) .free rfl ?_
    intro b87
    refine o_freeze ?_
    intro ez
    have hf := hf.mono ez
    have hfr := hfr.mono ez
    have hto := hto.mono ez
    have hav := hav.mono ez
    have hle := hle.trans ez
    have hk1 := hk1.mono ez
    have hnm := hnm.mono ez
    refine o_call rfl .free rfl (f_slices_Concat (still_set (xs := [.slice of f.length cf, .slice o1 (List.length _) k1]) (ys := [])) hfr (hs1.mono ez) (Ex.binds_room0 (by omega)) _) ?_
    rintro _ J3 _ e3 ⟨o3, k3, rfl, hs3, rfl⟩
    have hf := hf.mono e3
    have hfr := hfr.mono e3
    have hto := hto.mono e3
    have hav := hav.mono e3
    have hle := hle.trans e3
    have hk1 := hk1.mono e3
    have hnm := hnm.mono e3
    refine Om rfl (Om rfl ?_)
    refine o_lits rfl rfl (by rfl) (by rfl) (by rfl) (by decide) (by decide) (by rfl) .free rfl ?_
    intro b91
    refine o_freeze ?_
    intro ey
    have hf := hf.mono ey
    have hfr := hfr.mono ey
    have hto := hto.mono ey
    have hav := hav.mono ey
    have hle := hle.trans ey
    have hk1 := hk1.mono ey
    have hnm := hnm.mono ey
    have hs3 := hs3.mono ey
    refine o_call rfl .free rfl (f_slices_Concat (m := [n1, n2]) (still_set (xs := [.slice ot t.length ct, .slice (some ⟨_, 0, none⟩) (List.length _) _]) (ys := [])) hto hnm (show t.length + 2 ≤ maxN by unfold maxN; omega) _) ?_
    rintro _ J4 _ e4 ⟨o4, k4, rfl, hs4, rfl⟩
    have hf := hf.mono e4
    have hfr := hfr.mono e4
    have hto := hto.mono e4
    have hav := hav.mono e4
    have hle := hle.trans e4
    have hk1 := hk1.mono e4
    have hnm := hnm.mono e4
    have hs3 := hs3.mono e4
    refine Oa rfl (Oa rfl (o_done ?_))
    refine s_here fun hlr => ?_
    have hpl := b.pl_hits av (f ++ [h1, z]) (t ++ [n1, n2]) (fr 120 av (fr 120 av k + 1) + 1)
    refine d_tl 14 rfl rfl ?_
    refine Da 0 rfl (y_fieldAddr rfl) ?_
    refine Dt 1 [13] rfl (y_lO1 rfl) ?_
    refine Da 2 rfl (y_move rfl) ?_
    refine Da 3 rfl (y_move rfl) ?_
    refine Da 4 rfl (y_fieldAddr rfl) ?_
    refine Dt 5 [13] rfl (y_lO1 rfl) ?_
    refine Da 6 rfl (y_move rfl) ?_
    first | refine Da 7 rfl (y_ixD rfl rfl _ rfl) ?_ | refine Da 7 rfl (y_ixP rfl rfl _ rfl) ?_
    refine Dt 8 [13] rfl (y_lIS rfl) ?_
    refine Da 9 rfl (y_move rfl) ?_
    refine Da 10 rfl (y_move rfl) ?_
    refine d_call 11 rfl (by kernel_rfl) rfl rfl .free rfl (ihn (f := f ++ [h1, z]) (t := t ++ [n1, n2]) (by omega) (hf.as 5 b.tree (by omega) rfl) hok.2 hs3 hs4 (by simp [hft]) (hnf.add (by intro y hy; simp only [List.mem_cons, List.not_mem_nil, or_false] at hy; rcases hy with rfl | rfl; exact hok.1.1.1.1.1; exact hok.1.1.1.1.2)) (by first | omega | (simp only [List.length_append, List.length_cons, List.length_nil]; omega)) hav bp _ _ (by omega) (by omega) _) ?_
    rintro _ J2 _ e2 ⟨cs2, rfl, hr_0, rfl⟩
    obtain ⟨o2, k2, _, rfl, -⟩ := hr_0.open
    have hlr := hlr.trans e2
    have hf := hf.mono e2
    have hfr := hfr.mono e2
    have hto := hto.mono e2
    have hav := hav.mono e2
    have hle := hle.trans e2
    have hk1 := hk1.mono e2
    have hnm := hnm.mono e2
    refine ⟨(.inr heldx), ?_⟩
    first | refine Da 12 rfl (y_ixD rfl rfl _ rfl) ?_ | refine Da 12 rfl (y_ixP rfl rfl _ rfl) ?_
    refine d_st 13 rfl (by kernel_rfl) rfl rfl rfl rfl rfl .free (.inl (by kernel_rfl)) ?_
    refine d_done (by kernel_rfl) ?_
    refine s_inBlock ?_
    refine o_enter rfl ?_
    refine o_arith rfl rfl rfl (by omega) .free rfl ?_
    refine Om rfl (o_done ?_)
    refine s_round ?_
    refine Se rfl ?_
    refine o_cmp rfl rfl rfl .free rfl ?_
    refine o_done (s_seq ?_)
    refine s_condF rfl (by first | rfl | decide | (simp; done) | omega) ?_
    refine s_exit rfl ?_
    refine Se rfl ?_
    refine o_lOS rfl .free rfl ?_
    refine o_st rfl rfl rfl rfl .free ?_
    refine o_done ?_
    refine s_mem (fun w h => h.f2) (s_freeze ?_)
    intro hz
    have hf := hf.mono hz
    refine s_ret (.c rfl .nil) ?_
    subst hn1e hn2e
    exact ⟨_, _, hle.trans hz, fun w h => Mem.sub (L' := pn bp ov av cv _ _ :: L) (by repeat (first | exact List.Sublist.refl _ | apply List.Sublist.cons_cons | apply List.Sublist.cons)) h, _, rfl, .mk' rfl (.cons (hf.as 0 (.node tFun []) (by omega) rfl) (.cons (.ofAtom hnl1) (.cons (.ofAtom hnl2) (.cons (hf.as 3 (s.tree) (by omega) rfl) (.cons (hf.as 4 (u.tree) (by omega) rfl) (.cons (hr_0.mono hz) (.nil))))))) (fun y hy => by cases hy; exact still_set (xs := [_, _, _, _, _, _, _, _, _, _, _, _])) (by simp) hcc (by simp [maxN]) (by simp [maxN]), by rw [show g + (2 + b.nb) = g + 1 + 1 + b.nb by omega]; rfl⟩
   ·skip
    refine i_call 7 rfl rfl rfl .free rfl (f_atom n1 hnl1 _ _) ?_
    rintro _ _ _ _ ⟨rfl, rfl, rfl⟩
    refine ⟨(.inr heldx), ?_⟩
    refine d_two 3 11 (by kernel_rfl) ?_ ?_
    ·skip
     refine i_yld 3 rfl rfl (y_lO1 rfl) .free rfl (.inr heldx) ?_
     refine d_call 11 rfl (by kernel_rfl) rfl rfl .free rfl (f_atom n2 hnl2 _ _) ?_
     rintro _ _ _ _ ⟨rfl, rfl, rfl⟩
     refine ⟨(.inr heldx), ?_⟩
     first | refine Da 12 rfl (y_ixD rfl rfl 1 rfl) ?_ | refine Da 12 rfl (y_ixP rfl rfl 1 rfl) ?_
     refine d_st 13 rfl (by kernel_rfl) rfl rfl rfl rfl rfl .free (.inl (by kernel_rfl)) ?_
     first | refine d_takeA 14 rfl (by kernel_rfl) rfl (.inl (by kernel_rfl)) (y_ixD rfl rfl 2 rfl) .free rfl ?_ | refine d_takeA 14 rfl (by kernel_rfl) rfl (.inl (by kernel_rfl)) (y_ixP rfl rfl 2 rfl) .free rfl ?_
     refine d_st 15 rfl (by kernel_rfl) rfl rfl rfl rfl rfl .free (.inl (by kernel_rfl)) ?_
     refine d_done (by kernel_rfl) ?_
     refine s_inBlock ?_
     refine s_seq (Se rfl ?_)
     refine o_lOS rfl .free rfl ?_
     refine o_call rfl .free rfl (f_form_kids hf.rep _) ?_
     rintro _ J _ e0 ⟨ok, ck, rfl, hk1, rfl⟩
     have hf := hf.mono e0
     have hfr := hfr.mono e0
     have hto := hto.mono e0
     have hav := hav.mono e0
     have hle := hle.trans e0
     rw [hki] at hk1
     rw [hki]
     have hnm := hnm.mono e0
     refine o_len_slice rfl .free rfl ?_
     refine Om rfl (o_done (s_block ?_))
     refine s_loop ?_
     refine Se rfl ?_
     refine o_cmp rfl rfl rfl .free rfl ?_
     refine o_done (s_seq ?_)
     refine s_condT rfl (by first | rfl | decide | (simp; done) | omega) ?_
     refine s_skip (s_seq (s_block (Se rfl ?_)))
     first | refine o_ixD rfl rfl _ rfl .free rfl ?_ | refine o_ixP rfl rfl _ rfl .free rfl ?_
     refine o_lI1 rfl .free rfl ?_
     refine Oa rfl (o_done (Se rfl (Om rfl (Om rfl (Oa rfl (Oa rfl (o_done (s_seq (Se rfl ?_)))))))))
     refine o_lOS rfl .free rfl ?_
     refine Om rfl ?_
     refine o_call rfl .free rfl (f_form_bound hf.rep hok0 _ _) ?_
     rintro _ J1 _ e1 ⟨o1, k1, rfl, hs1, rfl⟩
     have hf := hf.mono e1
     have hfr := hfr.mono e1
     have hto := hto.mono e1
     have hav := hav.mono e1
     have hle := hle.trans e1
     have hk1 := hk1.mono e1
     have hnm := hnm.mono e1
     refine Oa rfl (o_done (Se rfl (Om rfl ?_)))
     refine o_len_slice rfl .free rfl ?_
     refine o_cmp rfl rfl rfl .free rfl ?_
     refine o_done ?_
     first | refine s_tp rfl (by simp [Ex.binds]) ?_ | refine s_tn rfl (by simp [Ex.binds]) ?_ | refine s_true (by simp [look, opd, *]) ?_
     refine o_enter rfl ?_
     refine Om rfl (Om rfl ?_)
     refine o_lits rfl rfl (by rfl) (by rfl) (by rfl) (by decide) (by decide) (by rfl) .free rfl ?_
     intro b87
     refine o_freeze ?_
     intro ez
     have hf := hf.mono ez
     have hfr := hfr.mono ez
     have hto := hto.mono ez
     have hav := hav.mono ez
     have hle := hle.trans ez
     have hk1 := hk1.mono ez
     have hnm := hnm.mono ez
     refine o_call rfl .free rfl (f_slices_Concat (still_set (xs := [.slice of f.length cf, .slice o1 (List.length _) k1]) (ys := [])) hfr (hs1.mono ez) (Ex.binds_room0 (by omega)) _) ?_
     rintro _ J3 _ e3 ⟨o3, k3, rfl, hs3, rfl⟩
     have hf := hf.mono e3
     have hfr := hfr.mono e3
     have hto := hto.mono e3
     have hav := hav.mono e3
     have hle := hle.trans e3
     have hk1 := hk1.mono e3
     have hnm := hnm.mono e3
     refine Om rfl (Om rfl ?_)
     refine o_lits rfl rfl (by rfl) (by rfl) (by rfl) (by decide) (by decide) (by rfl) .free rfl ?_
     intro b91
     refine o_freeze ?_
     intro ey
     have hf := hf.mono ey
     have hfr := hfr.mono ey
     have hto := hto.mono ey
     have hav := hav.mono ey
     have hle := hle.trans ey
     have hk1 := hk1.mono ey
     have hnm := hnm.mono ey
     have hs3 := hs3.mono ey
     refine o_call rfl .free rfl (f_slices_Concat (m := [n1, n2]) (still_set (xs := [.slice ot t.length ct, .slice (some ⟨_, 0, none⟩) (List.length _) _]) (ys := [])) hto hnm (show t.length + 2 ≤ maxN by unfold maxN; omega) _) ?_
     rintro _ J4 _ e4 ⟨o4, k4, rfl, hs4, rfl⟩
     have hf := hf.mono e4
     have hfr := hfr.mono e4
     have hto := hto.mono e4
     have hav := hav.mono e4
     have hle := hle.trans e4
     have hk1 := hk1.mono e4
     have hnm := hnm.mono e4
     have hs3 := hs3.mono e4
     refine Oa rfl (Oa rfl (o_done ?_))
     refine s_here fun hlr => ?_
     have hpl := b.pl_hits av (f ++ [h1, z]) (t ++ [n1, n2]) (fr 120 av (fr 120 av k + 1) + 1)
     refine d_tl 14 rfl rfl ?_
     refine Da 0 rfl (y_fieldAddr rfl) ?_
     refine Dt 1 [13] rfl (y_lO1 rfl) ?_
     refine Da 2 rfl (y_move rfl) ?_
     refine Da 3 rfl (y_move rfl) ?_
     refine Da 4 rfl (y_fieldAddr rfl) ?_
     refine Dt 5 [13] rfl (y_lO1 rfl) ?_
     refine Da 6 rfl (y_move rfl) ?_
     first | refine Da 7 rfl (y_ixD rfl rfl _ rfl) ?_ | refine Da 7 rfl (y_ixP rfl rfl _ rfl) ?_
     refine Dt 8 [13] rfl (y_lIS rfl) ?_
     refine Da 9 rfl (y_move rfl) ?_
     refine Da 10 rfl (y_move rfl) ?_
     refine d_call 11 rfl (by kernel_rfl) rfl rfl .free rfl (ihn (f := f ++ [h1, z]) (t := t ++ [n1, n2]) (by omega) (hf.as 5 b.tree (by omega) rfl) hok.2 hs3 hs4 (by simp [hft]) (hnf.add (by intro y hy; simp only [List.mem_cons, List.not_mem_nil, or_false] at hy; rcases hy with rfl | rfl; exact hok.1.1.1.1.1; exact hok.1.1.1.1.2)) (by first | omega | (simp only [List.length_append, List.length_cons, List.length_nil]; omega)) hav bp _ _ (by omega) (by omega) _) ?_
     rintro _ J2 _ e2 ⟨cs2, rfl, hr_0, rfl⟩
     obtain ⟨o2, k2, _, rfl, -⟩ := hr_0.open
     have hlr := hlr.trans e2
     have hf := hf.mono e2
     have hfr := hfr.mono e2
     have hto := hto.mono e2
     have hav := hav.mono e2
     have hle := hle.trans e2
     have hk1 := hk1.mono e2
     have hnm := hnm.mono e2
     refine ⟨(.inr heldx), ?_⟩
     first | refine Da 12 rfl (y_ixD rfl rfl _ rfl) ?_ | refine Da 12 rfl (y_ixP rfl rfl _ rfl) ?_
     refine d_st 13 rfl (by kernel_rfl) rfl rfl rfl rfl rfl .free (.inl (by kernel_rfl)) ?_
     refine d_done (by kernel_rfl) ?_
     refine s_inBlock ?_
     refine o_enter rfl ?_
     refine o_arith rfl rfl rfl (by omega) .free rfl ?_
     refine Om rfl (o_done ?_)
     refine s_round ?_
     refine Se rfl ?_
     refine o_cmp rfl rfl rfl .free rfl ?_
     refine o_done (s_seq ?_)
     refine s_condF rfl (by first | rfl | decide | (simp; done) | omega) ?_
     refine s_exit rfl ?_
     refine Se rfl ?_
     refine o_lOS rfl .free rfl ?_
     refine o_st rfl rfl rfl rfl .free ?_
     refine o_done ?_
     refine s_mem (fun w h => h.f2) (s_freeze ?_)
     intro hz
     have hf := hf.mono hz
     refine s_ret (.c rfl .nil) ?_
     subst hn1e hn2e
     exact ⟨_, _, hle.trans hz, fun w h => Mem.sub (L' := pn bp ov av cv _ _ :: L) (by repeat (first | exact List.Sublist.refl _ | apply List.Sublist.cons_cons | apply List.Sublist.cons)) h, _, rfl, .mk' rfl (.cons (hf.as 0 (.node tFun []) (by omega) rfl) (.cons (.ofAtom hnl1) (.cons (.ofAtom hnl2) (.cons (hf.as 3 (s.tree) (by omega) rfl) (.cons (hf.as 4 (u.tree) (by omega) rfl) (.cons (hr_0.mono hz) (.nil))))))) (fun y hy => by cases hy; exact still_set (xs := [_, _, _, _, _, _, _, _, _, _, _, _])) (by simp) hcc (by simp [maxN]) (by simp [maxN]), by rw [show g + (2 + b.nb) = g + 1 + 1 + b.nb by omega]; rfl⟩
    ·skip
     refine i_call 11 rfl rfl rfl .free rfl (f_atom n2 hnl2 _ _) ?_
     rintro _ _ _ _ ⟨rfl, rfl, rfl⟩
     refine ⟨(.inr heldx), ?_⟩
     first | refine Da 12 rfl (y_ixD rfl rfl 1 rfl) ?_ | refine Da 12 rfl (y_ixP rfl rfl 1 rfl) ?_
     refine d_two 3 13 (by kernel_rfl) ?_ ?_
     ·skip
      refine i_yld 3 rfl rfl (y_lO1 rfl) .free rfl (.inr heldx) ?_
      refine d_st 13 rfl (by kernel_rfl) rfl rfl rfl rfl rfl .free (.inl (by kernel_rfl)) ?_
      first | refine d_takeA 14 rfl (by kernel_rfl) rfl (.inl (by kernel_rfl)) (y_ixD rfl rfl 2 rfl) .free rfl ?_ | refine d_takeA 14 rfl (by kernel_rfl) rfl (.inl (by kernel_rfl)) (y_ixP rfl rfl 2 rfl) .free rfl ?_
      refine d_st 15 rfl (by kernel_rfl) rfl rfl rfl rfl rfl .free (.inl (by kernel_rfl)) ?_
      refine d_done (by kernel_rfl) ?_
      refine s_inBlock ?_
      refine s_seq (Se rfl ?_)
      refine o_lOS rfl .free rfl ?_
      refine o_call rfl .free rfl (f_form_kids hf.rep _) ?_
      rintro _ J _ e0 ⟨ok, ck, rfl, hk1, rfl⟩
      have hf := hf.mono e0
      have hfr := hfr.mono e0
      have hto := hto.mono e0
      have hav := hav.mono e0
      have hle := hle.trans e0
      rw [hki] at hk1
      rw [hki]
      have hnm := hnm.mono e0
      refine o_len_slice rfl .free rfl ?_
      refine Om rfl (o_done (s_block ?_))
      refine s_loop ?_
      refine Se rfl ?_
      refine o_cmp rfl rfl rfl .free rfl ?_
      refine o_done (s_seq ?_)
      refine s_condT rfl (by first | rfl | decide | (simp; done) | omega) ?_
      refine s_skip (s_seq (s_block (Se rfl ?_)))
      first | refine o_ixD rfl rfl _ rfl .free rfl ?_ | refine o_ixP rfl rfl _ rfl .free rfl ?_
      refine o_lI1 rfl .free rfl ?_
      refine Oa rfl (o_done (Se rfl (Om rfl (Om rfl (Oa rfl (Oa rfl (o_done (s_seq (Se rfl ?_)))))))))
      refine o_lOS rfl .free rfl ?_
      refine Om rfl ?_
      refine o_call rfl .free rfl (f_form_bound hf.rep hok0 _ _) ?_
      rintro _ J1 _ e1 ⟨o1, k1, rfl, hs1, rfl⟩
      have hf := hf.mono e1
      have hfr := hfr.mono e1
      have hto := hto.mono e1
      have hav := hav.mono e1
      have hle := hle.trans e1
      have hk1 := hk1.mono e1
      have hnm := hnm.mono e1
      refine Oa rfl (o_done (Se rfl (Om rfl ?_)))
      refine o_len_slice rfl .free rfl ?_
      refine o_cmp rfl rfl rfl .free rfl ?_
      refine o_done ?_
      first | refine s_tp rfl (by simp [Ex.binds]) ?_ | refine s_tn rfl (by simp [Ex.binds]) ?_ | refine s_true (by simp [look, opd, *]) ?_
      refine o_enter rfl ?_
      refine Om rfl (Om rfl ?_)
      refine o_lits rfl rfl (by rfl) (by rfl) (by rfl) (by decide) (by decide) (by rfl) .free rfl ?_
      intro b87
      refine o_freeze ?_
      intro ez
      have hf := hf.mono ez
      have hfr := hfr.mono ez
      have hto := hto.mono ez
      have hav := hav.mono ez
      have hle := hle.trans ez
      have hk1 := hk1.mono ez
      have hnm := hnm.mono ez
      refine o_call rfl .free rfl (f_slices_Concat (still_set (xs := [.slice of f.length cf, .slice o1 (List.length _) k1]) (ys := [])) hfr (hs1.mono ez) (Ex.binds_room0 (by omega)) _) ?_
      rintro _ J3 _ e3 ⟨o3, k3, rfl, hs3, rfl⟩
      have hf := hf.mono e3
      have hfr := hfr.mono e3
      have hto := hto.mono e3
      have hav := hav.mono e3
      have hle := hle.trans e3
      have hk1 := hk1.mono e3
      have hnm := hnm.mono e3
      refine Om rfl (Om rfl ?_)
      refine o_lits rfl rfl (by rfl) (by rfl) (by rfl) (by decide) (by decide) (by rfl) .free rfl ?_
      intro b91
      refine o_freeze ?_
      intro ey
      have hf := hf.mono ey
      have hfr := hfr.mono ey
      have hto := hto.mono ey
      have hav := hav.mono ey
      have hle := hle.trans ey
      have hk1 := hk1.mono ey
      have hnm := hnm.mono ey
      have hs3 := hs3.mono ey
      refine o_call rfl .free rfl (f_slices_Concat (m := [n1, n2]) (still_set (xs := [.slice ot t.length ct, .slice (some ⟨_, 0, none⟩) (List.length _) _]) (ys := [])) hto hnm (show t.length + 2 ≤ maxN by unfold maxN; omega) _) ?_
      rintro _ J4 _ e4 ⟨o4, k4, rfl, hs4, rfl⟩
      have hf := hf.mono e4
      have hfr := hfr.mono e4
      have hto := hto.mono e4
      have hav := hav.mono e4
      have hle := hle.trans e4
      have hk1 := hk1.mono e4
      have hnm := hnm.mono e4
      have hs3 := hs3.mono e4
      refine Oa rfl (Oa rfl (o_done ?_))
      refine s_here fun hlr => ?_
      have hpl := b.pl_hits av (f ++ [h1, z]) (t ++ [n1, n2]) (fr 120 av (fr 120 av k + 1) + 1)
      refine d_tl 14 rfl rfl ?_
      refine Da 0 rfl (y_fieldAddr rfl) ?_
      refine Dt 1 [13] rfl (y_lO1 rfl) ?_
      refine Da 2 rfl (y_move rfl) ?_
      refine Da 3 rfl (y_move rfl) ?_
      refine Da 4 rfl (y_fieldAddr rfl) ?_
      refine Dt 5 [13] rfl (y_lO1 rfl) ?_
      refine Da 6 rfl (y_move rfl) ?_
      first | refine Da 7 rfl (y_ixD rfl rfl _ rfl) ?_ | refine Da 7 rfl (y_ixP rfl rfl _ rfl) ?_
      refine Dt 8 [13] rfl (y_lIS rfl) ?_
      refine Da 9 rfl (y_move rfl) ?_
      refine Da 10 rfl (y_move rfl) ?_
      refine d_call 11 rfl (by kernel_rfl) rfl rfl .free rfl (ihn (f := f ++ [h1, z]) (t := t ++ [n1, n2]) (by omega) (hf.as 5 b.tree (by omega) rfl) hok.2 hs3 hs4 (by simp [hft]) (hnf.add (by intro y hy; simp only [List.mem_cons, List.not_mem_nil, or_false] at hy; rcases hy with rfl | rfl; exact hok.1.1.1.1.1; exact hok.1.1.1.1.2)) (by first | omega | (simp only [List.length_append, List.length_cons, List.length_nil]; omega)) hav bp _ _ (by omega) (by omega) _) ?_
      rintro _ J2 _ e2 ⟨cs2, rfl, hr_0, rfl⟩
      obtain ⟨o2, k2, _, rfl, -⟩ := hr_0.open
      have hlr := hlr.trans e2
      have hf := hf.mono e2
      have hfr := hfr.mono e2
      have hto := hto.mono e2
      have hav := hav.mono e2
      have hle := hle.trans e2
      have hk1 := hk1.mono e2
      have hnm := hnm.mono e2
      refine ⟨(.inr heldx), ?_⟩
      first | refine Da 12 rfl (y_ixD rfl rfl _ rfl) ?_ | refine Da 12 rfl (y_ixP rfl rfl _ rfl) ?_
      refine d_st 13 rfl (by kernel_rfl) rfl rfl rfl rfl rfl .free (.inl (by kernel_rfl)) ?_
      refine d_done (by kernel_rfl) ?_
      refine s_inBlock ?_
      refine o_enter rfl ?_
      refine o_arith rfl rfl rfl (by omega) .free rfl ?_
      refine Om rfl (o_done ?_)
      refine s_round ?_
      refine Se rfl ?_
      refine o_cmp rfl rfl rfl .free rfl ?_
      refine o_done (s_seq ?_)
      refine s_condF rfl (by first | rfl | decide | (simp; done) | omega) ?_
      refine s_exit rfl ?_
      refine Se rfl ?_
      refine o_lOS rfl .free rfl ?_
      refine o_st rfl rfl rfl rfl .free ?_
      refine o_done ?_
      refine s_mem (fun w h => h.f2) (s_freeze ?_)
      intro hz
      have hf := hf.mono hz
      refine s_ret (.c rfl .nil) ?_
      subst hn1e hn2e
      exact ⟨_, _, hle.trans hz, fun w h => Mem.sub (L' := pn bp ov av cv _ _ :: L) (by repeat (first | exact List.Sublist.refl _ | apply List.Sublist.cons_cons | apply List.Sublist.cons)) h, _, rfl, .mk' rfl (.cons (hf.as 0 (.node tFun []) (by omega) rfl) (.cons (.ofAtom hnl1) (.cons (.ofAtom hnl2) (.cons (hf.as 3 (s.tree) (by omega) rfl) (.cons (hf.as 4 (u.tree) (by omega) rfl) (.cons (hr_0.mono hz) (.nil))))))) (fun y hy => by cases hy; exact still_set (xs := [_, _, _, _, _, _, _, _, _, _, _, _])) (by simp) hcc (by simp [maxN]) (by simp [maxN]), by rw [show g + (2 + b.nb) = g + 1 + 1 + b.nb by omega]; rfl⟩
     ·skip
      refine i_st 13 rfl rfl rfl rfl rfl rfl .free (.inl (by kernel_rfl)) ?_
      refine d_yld 3 rfl (by kernel_rfl) rfl (y_lO1 rfl) .free rfl (.inl (by kernel_rfl)) ?_
      first | refine d_takeA 14 rfl (by kernel_rfl) rfl (.inl (by kernel_rfl)) (y_ixD rfl rfl 2 rfl) .free rfl ?_ | refine d_takeA 14 rfl (by kernel_rfl) rfl (.inl (by kernel_rfl)) (y_ixP rfl rfl 2 rfl) .free rfl ?_
      refine d_st 15 rfl (by kernel_rfl) rfl rfl rfl rfl rfl .free (.inl (by kernel_rfl)) ?_
      refine d_done (by kernel_rfl) ?_
      refine s_inBlock ?_
      refine s_seq (Se rfl ?_)
      refine o_lOS rfl .free rfl ?_
      refine o_call rfl .free rfl (f_form_kids hf.rep _) ?_
      rintro _ J _ e0 ⟨ok, ck, rfl, hk1, rfl⟩
      have hf := hf.mono e0
      have hfr := hfr.mono e0
      have hto := hto.mono e0
      have hav := hav.mono e0
      have hle := hle.trans e0
      rw [hki] at hk1
      rw [hki]
      have hnm := hnm.mono e0
      refine o_len_slice rfl .free rfl ?_
      refine Om rfl (o_done (s_block ?_))
      refine s_loop ?_
      refine Se rfl ?_
      refine o_cmp rfl rfl rfl .free rfl ?_
      refine o_done (s_seq ?_)
      refine s_condT rfl (by first | rfl | decide | (simp; done) | omega) ?_
      refine s_skip (s_seq (s_block (Se rfl ?_)))
      first | refine o_ixD rfl rfl _ rfl .free rfl ?_ | refine o_ixP rfl rfl _ rfl .free rfl ?_
      refine o_lI1 rfl .free rfl ?_
      refine Oa rfl (o_done (Se rfl (Om rfl (Om rfl (Oa rfl (Oa rfl (o_done (s_seq (Se rfl ?_)))))))))
      refine o_lOS rfl .free rfl ?_
      refine Om rfl ?_
      refine o_call rfl .free rfl (f_form_bound hf.rep hok0 _ _) ?_
      rintro _ J1 _ e1 ⟨o1, k1, rfl, hs1, rfl⟩
      have hf := hf.mono e1
      have hfr := hfr.mono e1
      have hto := hto.mono e1
      have hav := hav.mono e1
      have hle := hle.trans e1
      have hk1 := hk1.mono e1
      have hnm := hnm.mono e1
      refine Oa rfl (o_done (Se rfl (Om rfl ?_)))
      refine o_len_slice rfl .free rfl ?_
      refine o_cmp rfl rfl rfl .free rfl ?_
      refine o_done ?_
      first | refine s_tp rfl (by simp [Ex.binds]) ?_ | refine s_tn rfl (by simp [Ex.binds]) ?_ | refine s_true (by simp [look, opd, *]) ?_
      refine o_enter rfl ?_
      refine Om rfl (Om rfl ?_)
      refine o_lits rfl rfl (by rfl) (by rfl) (by rfl) (by decide) (by decide) (by rfl) .free rfl ?_
      intro b87
      refine o_freeze ?_
      intro ez
      have hf := hf.mono ez
      have hfr := hfr.mono ez
      have hto := hto.mono ez
      have hav := hav.mono ez
      have hle := hle.trans ez
      have hk1 := hk1.mono ez
      have hnm := hnm.mono ez
      refine o_call rfl .free rfl (f_slices_Concat (still_set (xs := [.slice of f.length cf, .slice o1 (List.length _) k1]) (ys := [])) hfr (hs1.mono ez) (Ex.binds_room0 (by omega)) _) ?_
      rintro _ J3 _ e3 ⟨o3, k3, rfl, hs3, rfl⟩
      have hf := hf.mono e3
      have hfr := hfr.mono e3
      have hto := hto.mono e3
      have hav := hav.mono e3
      have hle := hle.trans e3
      have hk1 := hk1.mono e3
      have hnm := hnm.mono e3
      refine Om rfl (Om rfl ?_)
      refine o_lits rfl rfl (by rfl) (by rfl) (by rfl) (by decide) (by decide) (by rfl) .free rfl ?_
      intro b91
      refine o_freeze ?_
      intro ey
      have hf := hf.mono ey
      have hfr := hfr.mono ey
      have hto := hto.mono ey
      have hav := hav.mono ey
      have hle := hle.trans ey
      have hk1 := hk1.mono ey
      have hnm := hnm.mono ey
      have hs3 := hs3.mono ey
      refine o_call rfl .free rfl (f_slices_Concat (m := [n1, n2]) (still_set (xs := [.slice ot t.length ct, .slice (some ⟨_, 0, none⟩) (List.length _) _]) (ys := [])) hto hnm (show t.length + 2 ≤ maxN by unfold maxN; omega) _) ?_
      rintro _ J4 _ e4 ⟨o4, k4, rfl, hs4, rfl⟩
      have hf := hf.mono e4
      have hfr := hfr.mono e4
      have hto := hto.mono e4
      have hav := hav.mono e4
      have hle := hle.trans e4
      have hk1 := hk1.mono e4
      have hnm := hnm.mono e4
      have hs3 := hs3.mono e4
      refine Oa rfl (Oa rfl (o_done ?_))
      refine s_here fun hlr => ?_
      have hpl := b.pl_hits av (f ++ [h1, z]) (t ++ [n1, n2]) (fr 120 av (fr 120 av k + 1) + 1)
      refine d_tl 14 rfl rfl ?_
      refine Da 0 rfl (y_fieldAddr rfl) ?_
      refine Dt 1 [13] rfl (y_lO1 rfl) ?_
      refine Da 2 rfl (y_move rfl) ?_
      refine Da 3 rfl (y_move rfl) ?_
      refine Da 4 rfl (y_fieldAddr rfl) ?_
      refine Dt 5 [13] rfl (y_lO1 rfl) ?_
      refine Da 6 rfl (y_move rfl) ?_
      first | refine Da 7 rfl (y_ixD rfl rfl _ rfl) ?_ | refine Da 7 rfl (y_ixP rfl rfl _ rfl) ?_
      refine Dt 8 [13] rfl (y_lIS rfl) ?_
      refine Da 9 rfl (y_move rfl) ?_
      refine Da 10 rfl (y_move rfl) ?_
      refine d_call 11 rfl (by kernel_rfl) rfl rfl .free rfl (ihn (f := f ++ [h1, z]) (t := t ++ [n1, n2]) (by omega) (hf.as 5 b.tree (by omega) rfl) hok.2 hs3 hs4 (by simp [hft]) (hnf.add (by intro y hy; simp only [List.mem_cons, List.not_mem_nil, or_false] at hy; rcases hy with rfl | rfl; exact hok.1.1.1.1.1; exact hok.1.1.1.1.2)) (by first | omega | (simp only [List.length_append, List.length_cons, List.length_nil]; omega)) hav bp _ _ (by omega) (by omega) _) ?_
      rintro _ J2 _ e2 ⟨cs2, rfl, hr_0, rfl⟩
      obtain ⟨o2, k2, _, rfl, -⟩ := hr_0.open
      have hlr := hlr.trans e2
      have hf := hf.mono e2
      have hfr := hfr.mono e2
      have hto := hto.mono e2
      have hav := hav.mono e2
      have hle := hle.trans e2
      have hk1 := hk1.mono e2
      have hnm := hnm.mono e2
      refine ⟨(.inr heldx), ?_⟩
      first | refine Da 12 rfl (y_ixD rfl rfl _ rfl) ?_ | refine Da 12 rfl (y_ixP rfl rfl _ rfl) ?_
      refine d_st 13 rfl (by kernel_rfl) rfl rfl rfl rfl rfl .free (.inl (by kernel_rfl)) ?_
      refine d_done (by kernel_rfl) ?_
      refine s_inBlock ?_
      refine o_enter rfl ?_
      refine o_arith rfl rfl rfl (by omega) .free rfl ?_
      refine Om rfl (o_done ?_)
      refine s_round ?_
      refine Se rfl ?_
      refine o_cmp rfl rfl rfl .free rfl ?_
      refine o_done (s_seq ?_)
      refine s_condF rfl (by first | rfl | decide | (simp; done) | omega) ?_
      refine s_exit rfl ?_
      refine Se rfl ?_
      refine o_lOS rfl .free rfl ?_
      refine o_st rfl rfl rfl rfl .free ?_
      refine o_done ?_
      refine s_mem (fun w h => h.f2) (s_freeze ?_)
      intro hz
      have hf := hf.mono hz
      refine s_ret (.c rfl .nil) ?_
      subst hn1e hn2e
      exact ⟨_, _, hle.trans hz, fun w h => Mem.sub (L' := pn bp ov av cv _ _ :: L) (by repeat (first | exact List.Sublist.refl _ | apply List.Sublist.cons_cons | apply List.Sublist.cons)) h, _, rfl, .mk' rfl (.cons (hf.as 0 (.node tFun []) (by omega) rfl) (.cons (.ofAtom hnl1) (.cons (.ofAtom hnl2) (.cons (hf.as 3 (s.tree) (by omega) rfl) (.cons (hf.as 4 (u.tree) (by omega) rfl) (.cons (hr_0.mono hz) (.nil))))))) (fun y hy => by cases hy; exact still_set (xs := [_, _, _, _, _, _, _, _, _, _, _, _])) (by simp) hcc (by simp [maxN]) (by simp [maxN]), by rw [show g + (2 + b.nb) = g + 1 + 1 + b.nb by omega]; rfl⟩
  ·skip
   have hlen : (Ex.un o a).tree.parts.length = 2 := rfl
   have hki := kids_un o a
   have hhd : (Ex.un o a).tree.head = o.txt := rfl
   simp only [Ex.un.sizeOf_spec] at hlt
   simp only [Ex.ok, Bool.and_eq_true, decide_eq_true_eq] at hok
   simp only [Ex.nb] at hk hg ⊢
   simp only [Ex.size] at hfl
   obtain ⟨_, hrl⟩ : ∃ _ : True, RepL I (Ex.un o a).tree.parts _ := ⟨trivial, hcl⟩
   simp only [show (Ex.un o a).tree.parts = [.node o.txt [], a.tree] from rfl, cellsF, List.cons_append, List.nil_append] at hrl ⊢
   refine s_mem (fun w h => h.f4) ?_
   refine o_enter rfl ?_
   refine Oa rfl (o_done (s_seq (Se rfl ?_)))
   refine o_lOS rfl .free rfl ?_
   refine o_call rfl .free rfl (f_form_head hf.rep _) ?_
   rintro _ _ _ _ ⟨rfl, rfl, rfl⟩
   refine o_done (s_block (Se rfl ?_))
   refine o_cmps rfl rfl rfl .free rfl ?_
   refine Oa rfl (o_done ?_)
   first | refine s_fp rfl (by rw [hhd]; cases o <;> decide) ?_ | refine s_fn rfl (by rw [hhd]; cases o <;> decide) ?_ | refine s_false (by simp [look, opd, *]) ?_
   refine Se rfl ?_
   refine o_cmps rfl rfl rfl .free rfl ?_
   refine Oa rfl (o_done ?_)
   first | refine s_fp rfl (by rw [hhd]; cases o <;> decide) ?_ | refine s_fn rfl (by rw [hhd]; cases o <;> decide) ?_ | refine s_false (by simp [look, opd, *]) ?_
   refine s_skip ?_
   refine s_inBlock ?_
   refine s_seq (Se rfl ?_)
   refine o_lOS rfl .free rfl ?_
   refine o_call rfl .free rfl (f_form_kids hf.rep _) ?_
   rintro _ J _ e0 ⟨ok, ck, rfl, hk1, rfl⟩
   have hf := hf.mono e0
   have hfr := hfr.mono e0
   have hto := hto.mono e0
   have hav := hav.mono e0
   have hle := hle.trans e0
   rw [hki] at hk1
   rw [hki]
   refine o_len_slice rfl .free rfl ?_
   refine Om rfl (o_done (s_block ?_))
   refine s_loop ?_
   refine Se rfl ?_
   refine o_cmp rfl rfl rfl .free rfl ?_
   refine o_done (s_seq ?_)
   refine s_condT rfl (by first | rfl | decide | (simp; done) | omega) ?_
   refine s_skip (s_seq (s_block (Se rfl ?_)))
   first | refine o_ixD rfl rfl _ rfl .free rfl ?_ | refine o_ixP rfl rfl _ rfl .free rfl ?_
   refine o_lI1 rfl .free rfl ?_
   refine Oa rfl (o_done (Se rfl (Om rfl (Om rfl (Oa rfl (Oa rfl (o_done (s_seq (Se rfl ?_)))))))))
   refine o_lOS rfl .free rfl ?_
   refine Om rfl ?_
   refine o_call rfl .free rfl (f_form_bound hf.rep hok0 _ _) ?_
   rintro _ J1 _ e1 ⟨o1, k1, rfl, hs1, rfl⟩
   have hf := hf.mono e1
   have hfr := hfr.mono e1
   have hto := hto.mono e1
   have hav := hav.mono e1
   have hle := hle.trans e1
   have hk1 := hk1.mono e1
   refine Oa rfl (o_done (Se rfl (Om rfl ?_)))
   refine o_len_slice rfl .free rfl ?_
   refine o_cmp rfl rfl rfl .free rfl ?_
   refine o_done ?_
   first | refine s_fp rfl (by simp [Ex.binds]) ?_ | refine s_fn rfl (by simp [Ex.binds]) ?_ | refine s_false (by simp [look, opd, *]) ?_
   refine s_skip ?_
   refine s_here fun hlr => ?_
   have hpl := a.pl_hits av (f) (t) k
   refine d_tl 14 rfl rfl ?_
   refine Da 0 rfl (y_fieldAddr rfl) ?_
   refine Dt 1 [13] rfl (y_lO1 rfl) ?_
   refine Da 2 rfl (y_move rfl) ?_
   refine Da 3 rfl (y_move rfl) ?_
   refine Da 4 rfl (y_fieldAddr rfl) ?_
   refine Dt 5 [13] rfl (y_lO1 rfl) ?_
   refine Da 6 rfl (y_move rfl) ?_
   first | refine Da 7 rfl (y_ixD rfl rfl _ rfl) ?_ | refine Da 7 rfl (y_ixP rfl rfl _ rfl) ?_
   refine Dt 8 [13] rfl (y_lIS rfl) ?_
   refine Da 9 rfl (y_move rfl) ?_
   refine Da 10 rfl (y_move rfl) ?_
   refine d_call 11 rfl (by kernel_rfl) rfl rfl .free rfl (ihn (f := f) (t := t) (by omega) (hf.as 1 a.tree (by omega) rfl) hok hfr hto (by simp [hft]) hnf (by first | omega | (simp only [List.length_append, List.length_cons, List.length_nil]; omega)) hav bp _ _ (by omega) (by omega) _) ?_
   rintro _ J2 _ e2 ⟨cs2, rfl, hr_0, rfl⟩
   obtain ⟨o2, k2, _, rfl, -⟩ := hr_0.open
   have hlr := hlr.trans e2
   have hf := hf.mono e2
   have hfr := hfr.mono e2
   have hto := hto.mono e2
   have hav := hav.mono e2
   have hle := hle.trans e2
   have hk1 := hk1.mono e2
   refine ⟨(.inr heldx), ?_⟩
   first | refine Da 12 rfl (y_ixD rfl rfl _ rfl) ?_ | refine Da 12 rfl (y_ixP rfl rfl _ rfl) ?_
   refine d_st 13 rfl (by kernel_rfl) rfl rfl rfl rfl rfl .free (.inl (by kernel_rfl)) ?_
   refine d_done (by kernel_rfl) ?_
   refine s_inBlock ?_
   refine o_enter rfl ?_
   refine o_arith rfl rfl rfl (by omega) .free rfl ?_
   refine Om rfl (o_done ?_)
   refine s_round ?_
   refine Se rfl ?_
   refine o_cmp rfl rfl rfl .free rfl ?_
   refine o_done (s_seq ?_)
   refine s_condF rfl (by first | rfl | decide | (simp; done) | omega) ?_
   refine s_exit rfl ?_
   refine Se rfl ?_
   refine o_lOS rfl .free rfl ?_
   refine o_st rfl rfl rfl rfl .free ?_
   refine o_done ?_
   refine s_mem (fun w h => h.f2) (s_freeze ?_)
   intro hz
   have hf := hf.mono hz
   refine s_ret (.c rfl .nil) ?_
   exact ⟨_, _, hle.trans hz, fun w h => Mem.sub (L' := pn bp ov av cv _ _ :: L) (by repeat (first | exact List.Sublist.refl _ | apply List.Sublist.cons_cons | apply List.Sublist.cons)) h, _, rfl, .mk' rfl (.cons (hf.as 0 (.node o.txt []) (by omega) rfl) (.cons (hr_0.mono hz) (.nil))) (fun y hy => by cases hy; exact still_set (xs := [_, _, _, _])) (by simp) hcc (by simp [maxN]) (by simp [maxN]), by first | rfl | (simp only [Nat.add_assoc]; rfl)⟩
theorem f_form_plain {I : Heap} {e : Ex} {cs : List Value} (h : Rep I e.tree cs) (hfine : e.fine = true) (L : Own) : Fun Tryz.prog 36 [.agg cs.toArray] I L (fun v I' L' => ∃ ds, v = .tuple #[.agg (List.toArray ds), .bool true] ∧ Rep I' e.plain.tree ds ∧ L = L') := by
 obtain ⟨oa, c, oaf, cf, rfl, hf⟩ := h.at'
 have hpf := plain_fine hfine
 have hf2 := hfine
 simp only [Ex.fine, Bool.and_eq_true, decide_eq_true_eq, Tree.fits] at hf2
 have hf3 := hpf
 simp only [Ex.fine, Bool.and_eq_true, decide_eq_true_eq, Tree.fits] at hf3
 have hroom := plain_room hf2.1.2
 refine fun_intro (by simp) ?_
 refine Se rfl ?_
 refine o_box rfl rfl .free rfl ?_
 intro b1
 refine o_alloc .free rfl ?_
 intro b2
 refine Oa rfl (o_done (Se rfl ?_))
 refine o_lOS rfl .free rfl ?_
 refine o_call rfl .free rfl (f_form_freeNames hf.rep hf2.1.1 (by omega) _) ?_
 rintro _ J1 _ e1 ⟨ov, cv, rfl, hav, rfl⟩
 have hf := hf.mono e1
 refine o_struct rfl rfl rfl .free rfl ?_
 refine o_box rfl rfl .free rfl ?_
 intro b9
 refine Oa rfl (o_done (Se rfl (Om rfl ?_)))
 refine o_lOS rfl .free rfl ?_
 refine o_mem (L' := pn b9 ov e.free cv 0 0 :: _) (fun w h => h) ?_
 refine o_call rfl .free rfl (f_plainer_expr _ (Nat.lt_succ_self _) hf.rep hf2.1.1 (strs_nil _) (strs_nil _) rfl (fun s hs => by cases hs) (by simp; omega) hav b9 0 0 (by omega) (by omega) _) ?_
 rintro _ J2 _ e2 ⟨ds, rfl, hr, rfl⟩
 have hr : Rep J2 e.plain.tree ds := hr
 obtain ⟨od, cd, _, rfl, -⟩ := hr.open
 have hle := e1.trans e2
 unfold pn
 refine o_alloc .free rfl ?_
 intro b5
 refine o_st rfl rfl rfl rfl .free ?_
 refine o_done (s_seq ?_)
 refine d_all 12 rfl rfl ?_
 refine Dt 0 [10] rfl (y_lOS rfl) ?_
 refine Da 1 rfl (y_move rfl) ?_
 refine Da 2 rfl (y_nilCheck rfl) ?_
 first | refine Da 3 rfl (y_fieldAddr rfl) ?_ | refine Da 3 rfl (y_fieldAddr' rfl) ?_
 refine Dt 4 [5, 6, 8, 10] rfl (y_lJ rfl) ?_
 refine Da 5 rfl (y_cmp rfl rfl rfl) ?_
 refine Da 6 rfl (y_move rfl) ?_
 apply d_and 19 22 rfl
 ·intro g3_7 hk
  try simp only [nb] at g3_7
  refine d_take 7 [8, 10] rfl (by kernel_rfl) rfl heldx (y_lOS rfl) (.met rfl rfl) rfl ?_
  refine d_call 8 rfl (by kernel_rfl) rfl rfl (.met rfl rfl) rfl (f_fine hr hf3.1.1 (by omega) _) ?_
  rintro _ _ _ _ ⟨rfl, rfl, rfl⟩
  refine ⟨(.inr heldx), ?_⟩
  refine Da 9 rfl (y_pick_true rfl rfl) ?_
  exact d_fin 2 rfl rfl hk
 ·intro _ hk
  refine Ds 7 rfl rfl rfl ?_
  refine Ds 8 rfl rfl rfl ?_
  refine Da 9 rfl (y_pick_false rfl rfl) ?_
  exact d_fin 2 rfl rfl hk
 refine d_st 10 rfl (by kernel_rfl) rfl rfl rfl rfl rfl .free (.inl (by kernel_rfl)) ?_
 refine d_takeA 11 rfl (by kernel_rfl) rfl (.inl (by kernel_rfl)) (y_assign rfl) .free rfl ?_
 refine d_done (by kernel_rfl) ?_
 refine s_ret (.c rfl (.tmp rfl .nil)) ?_
 refine ⟨J2, L, hle, drops, _, ?_, hr, rfl⟩
 rw [hpf]; simp [retOne]; omega
/-- The maker's cell, the maker, its map. -/
def NT (bp b bq : Nat) (l : List Txt) : Own := [(bp, .cells [.pointer (some ⟨b, 0, none⟩)].toArray 52 (0, 0)), nz b bq 0 0, (bq, metObj l)]
theorem f_form_normal_1 (bp b bq : Nat) (l seen : List Txt) (s : Txt) (I : Heap) (L : Own) (hx : l = addAll [] seen) : Fun Tryz.prog 38 [.string (str s), .pointer (some ⟨bp, 0, none⟩)] I (NT bp b bq l ++ L) (fun v I' L' => v = .tuple #[] ∧ ∃ y, y = addAll [] (seen ++ [s]) ∧ L' = NT bp b bq y ++ L) := by
 unfold NT nz
 simp only [List.cons_append, List.nil_append]
 refine fun_intro (by simp) ?_
 refine o_enter rfl ?_
 refine o_load rfl (loads_own1 (cs := [.pointer (some ⟨b, 0, none⟩)]) m0 (by rfl) (by rfl)) .free rfl ?_
 refine o_nilCheck rfl .free rfl ?_
 first | refine o_fieldAddr rfl .free rfl ?_ | refine o_fieldAddr' rfl .free rfl ?_
 refine o_load rfl (loads_own1 (cs := [.map (some bq), .int .i64 (0 : Nat), .int .i64 (0 : Nat)]) m1 (by rfl) (by rfl)) .free rfl ?_
 refine Om rfl ?_
 refine o_mapAdd rfl rfl rfl u2 .free ?_
 refine o_done ?_
 refine s_end .nil ?_
 exact ⟨I, _, .refl _, fun w h => h, rfl, addOnce l s, by rw [addAll_append, ← hx]; rfl, rfl⟩
theorem nt_teller (bp b bq : Nat) : ATeller Tryz.prog 38 [.pointer (some ⟨bp, 0, none⟩)] (List Txt) (NT bp b bq) (fun l seen _ => l = addAll [] seen) :=
 ⟨fun x seen s I L hx _ _ => f_form_normal_1 bp b bq x seen s I L hx, fun _ _ _ _ _ h => h⟩
theorem Mem.w2 {I : Heap} {a b p : Nat × Obj} {L : Own} {w : World} (h : Mem I (p :: a :: b :: L) w) : Mem I (a :: b :: p :: L) w := h.perm (List.perm_append_comm_assoc [p] [a, b] L)
theorem f_form_normal {I : Heap} (ht : Tab I) {e : Ex} {cs : List Value} (h : Rep I e.tree cs) (hfine : e.fine = true) (L : Own) : Fun Tryz.prog 22 [.agg cs.toArray] I L (fun v I' L' => ∃ ds, v = .tuple #[.agg (List.toArray ds), .bool e.normal.fine] ∧ Rep I' e.normal.tree ds ∧ L = L') := by
 obtain ⟨oa, c, oaf, cf, rfl, hf⟩ := h.at'
 have hpf := plain_fine hfine
 have hf3 := hpf
 simp only [Ex.fine, Bool.and_eq_true, decide_eq_true_eq, Tree.fits] at hf3
 have hroom := made_room hfine
 have hps : e.plain.size ≤ 120 := hf3.1.2
 have hnok := normal_ok hfine
 have hnl := normal_len hfine
 have hnn := normal_next hfine
 refine fun_intro (by simp) ?_
 refine Se rfl ?_
 refine o_box rfl rfl .free rfl ?_
 intro b1
 refine o_alloc .free rfl ?_
 intro b2
 refine Oa rfl (o_done (Se rfl ?_))
 refine o_lOS rfl .free rfl ?_
 refine o_call rfl .free rfl (f_form_plain hf.rep hfine _) ?_
 rintro _ J1 _ e1 ⟨ds, rfl, hr, rfl⟩
 obtain ⟨o1, k1, _, rfl, -⟩ := hr.open
 have ht := ht.mono e1
 refine Om rfl ?_
 refine o_extract rfl rfl .free rfl ?_
 refine o_extract rfl rfl .free rfl ?_
 refine o_alloc .free rfl ?_
 intro b4
 refine o_st rfl rfl rfl rfl .free ?_
 refine Oa rfl (o_done (s_seq (Se rfl (Om rfl ?_))))
 refine o_not rfl .free rfl ?_
 refine o_done ?_
 first | refine s_fp rfl (by simp) ?_ | refine s_fn rfl (by simp) ?_ | refine s_false (by simp [look, opd, *]) ?_
 refine s_skip (Se rfl ?_)
 refine o_makeMap .free rfl ?_
 intro bq
 refine o_struct rfl rfl rfl .free rfl ?_
 refine o_box rfl rfl .free rfl ?_
 intro b18
 refine o_alloc .free rfl ?_
 intro b6
 refine o_st rfl rfl rfl rfl .free ?_
 refine o_done (Se rfl ?_)
 refine o_lOS rfl .free rfl ?_
 refine o_makeFunc rfl rfl .free rfl ?_
 refine o_mem (L' := NT b6 b18 bq [] ++ _) (fun w h => h) ?_
 refine o_call rfl .free rfl (f_form_atoms (nt_teller b6 b18 bq) _ (Nat.lt_succ_self _) hr [] [] (by simp only [List.length_nil, Ex.tree_size]; omega) rfl _) ?_
 rintro _ J2 _ e2 ⟨rfl, tk, htk, rfl⟩
 have ht := ht.mono e2
 have hr := hr.mono e2
 obtain rfl : tk = e.tk := htk
 simp only [NT, List.cons_append, List.nil_append]
 refine o_done (Se rfl ?_)
 refine o_lO1 rfl .free rfl ?_
 refine o_lOS rfl .free rfl ?_
 refine o_mem (fun w h => Mem.w2 h) ?_
 refine o_call rfl .free rfl (nnormal_of (nmake_all _) ht (Nat.lt_succ_self _) hr hf3.1.1 e.tk b18 bq 0 0 (by omega) (by omega) (by omega) _) ?_
 rintro _ J3 _ e3 ⟨ms, rfl, hr3, rfl⟩
 have hr3 : Rep J3 e.normal.tree ms := hr3
 obtain ⟨o3, k3, _, rfl, -⟩ := hr3.open
 have hle := (e1.trans e2).trans e3
 rw [Nat.zero_add]
 have hge : (e.plain.mk e.tk 0).g = e.made.g := rfl
 rw [hge]
 unfold nz
 refine o_alloc .free rfl ?_
 intro b7
 refine o_st rfl rfl rfl rfl .free ?_
 refine o_done (s_seq ?_)
 refine d_all 12 rfl rfl ?_
 refine Dt 0 [10] rfl (y_lOS rfl) ?_
 refine Dt 1 [2, 3, 4, 5, 6, 8, 10] rfl (y_lO1 rfl) ?_
 refine Da 2 rfl (y_nilCheck rfl) ?_
 first | refine Da 3 rfl (y_fieldAddr rfl) ?_ | refine Da 3 rfl (y_fieldAddr' rfl) ?_
 refine Dt 4 [5, 6, 8, 10] rfl (y_lJ rfl) ?_
 refine Da 5 rfl (y_cmp rfl rfl rfl) ?_
 refine Da 6 rfl (y_move rfl) ?_
 apply d_and 31 34 rfl
 ·intro g7_7 hk
  try simp only [nb] at g7_7
  refine d_take 7 [8, 10] rfl (by kernel_rfl) rfl heldx (y_lOS rfl) (.met rfl rfl) rfl ?_
  refine d_call 8 rfl (by kernel_rfl) rfl rfl (.met rfl rfl) rfl (f_fine hr3 hnok (by omega) _) ?_
  rintro _ _ _ _ ⟨rfl, rfl, rfl⟩
  refine ⟨(.inr heldx), ?_⟩
  refine Da 9 rfl (y_pick_true rfl rfl) ?_
  exact d_fin 2 rfl rfl hk
 ·intro _ hk
  refine Ds 7 rfl rfl rfl ?_
  refine Ds 8 rfl rfl rfl ?_
  refine Da 9 rfl (y_pick_false rfl rfl) ?_
  exact d_fin 2 rfl rfl hk
 refine d_st 10 rfl (by kernel_rfl) rfl rfl rfl rfl rfl .free (.inl (by kernel_rfl)) ?_
 refine d_takeA 11 rfl (by kernel_rfl) rfl (.inl (by kernel_rfl)) (y_assign rfl) .free rfl ?_
 refine d_done (by kernel_rfl) ?_
 refine s_ret (.c rfl (.tmp rfl .nil)) ?_
 refine ⟨J3, L, hle, drops, _, ?_, hr3, rfl⟩
 cases hfn : e.normal.fine with
 | false => simp [retOne, hfn]
 | true => have := (hnn hfn).1; simp [retOne, hfn]; omega
theorem f_NormalOf (s : Txt) (hs : s.length ≤ maxN) {I : Heap} (ht : Tab I) (L : Own) : Fun Tryz.prog 8 [.string (str s)] I L (EL (nfOf s) L) := by
 refine fun_intro (by simp) ?_
 refine Se rfl (Oa rfl (Oa rfl (o_done (Se rfl (Om rfl ?_)))))
 refine o_call rfl .free rfl (f_readExpr s hs _ _) ?_
 rintro _ J _ hleJ ⟨t, cs, ok, rfl, hrep, rfl, hpf⟩
 obtain ⟨oc, cc, _, rfl, -⟩ := hrep.open
 refine Om rfl ?_
 refine o_extract rfl rfl .free rfl ?_
 refine o_extract rfl rfl .free rfl ?_
 refine o_alloc .free rfl ?_
 intro b4
 refine o_st rfl rfl rfl rfl .free ?_
 refine Oa rfl (o_done (s_seq (Se rfl (Om rfl ?_))))
 refine o_not rfl .free rfl ?_
 refine o_done ?_
 refine s_cond rfl ?_ ?_
 ·intro c0
  try simp only [nb] at c0
  refine Se rfl (Oa rfl (Oa rfl (o_done ?_)))
  refine s_ret (.tmp rfl (.tmp rfl .nil)) ?_
  exact ⟨J, L, hleJ, drops, by rw [nfOf_none (RX_none hpf c0)]; rfl, rfl⟩
 intro c0
 try simp only [nb] at c0
 obtain ⟨e, he, rfl, hok, hlen, hfine, htxt⟩ := RX_some hpf c0
 have hnf := nfOf_some he
 have hnok := normal_ok hfine
 have hnl := normal_len hfine
 refine s_skip (Se rfl ?_)
 refine o_lOS rfl .free rfl ?_
 refine o_call rfl .free rfl (f_form_normal (ht.mono hleJ) hrep hfine _) ?_
 rintro _ J2 _ e2 ⟨ds, rfl, hr, rfl⟩
 obtain ⟨od, cd, _, rfl, -⟩ := hr.open
 have hle := hleJ.trans e2
 refine Om rfl ?_
 refine o_extract rfl rfl .free rfl ?_
 refine o_extract rfl rfl .free rfl ?_
 refine o_alloc .free rfl ?_
 intro b6
 refine o_st rfl rfl rfl rfl .free ?_
 refine Oa rfl (o_done (s_seq (Se rfl (Om rfl ?_))))
 refine o_not rfl .free rfl ?_
 refine o_done ?_
 refine s_cond rfl ?_ ?_
 ·intro c1
  try simp only [nb] at c1
  refine Se rfl (Oa rfl (Oa rfl (o_done ?_)))
  refine s_ret (.tmp rfl (.tmp rfl .nil)) ?_
  exact ⟨J2, L, hle, drops, by rw [hnf, if_neg (by simpa using c1)]; rfl, rfl⟩
 intro c1
 try simp only [nb] at c1
 refine s_skip (Se rfl ?_)
 refine o_lOS rfl .free rfl ?_
 refine o_call rfl .free rfl (f_form_text hr (by rw [Tree.text_len]; unfold maxN; omega) _) ?_
 rintro _ _ _ _ ⟨rfl, rfl, rfl⟩
 refine Oa rfl (Oa rfl (o_done ?_))
 refine s_ret (.tmp rfl (.tmp rfl .nil)) ?_
 exact ⟨J2, L, hle, drops, by rw [hnf, if_pos (by simpa using c1)]; rfl, rfl⟩
theorem lastAt_app {l r : List Txt} {y : Txt} : ∀ {n : Nat}, n ≤ l.length → lastAt (l ++ r) y n = lastAt l y n
 | 0, _ => rfl
 | n + 1, h => by
  simp only [lastAt]
  rw [show (l ++ r).getD n [] = l.getD n [] by simp [List.getElem?_append_left (show n < l.length by omega)], lastAt_app (by omega)]
theorem lastIdx_add (l : List Txt) (x y : Txt) : lastIdx (l ++ [x]) y = if x = y then some l.length else lastIdx l y := by
 unfold lastIdx
 rw [show (l ++ [x]).length = l.length + 1 by simp]
 simp only [lastAt]
 rw [show (l ++ [x]).getD l.length [] = x by simp, lastAt_app (Nat.le_refl _)]
theorem lastIdx_app (l : List Txt) (y : Txt) : ∀ (a : List Txt), lastIdx (l ++ a) y = match lastIdx a y with | some i => some (l.length + i) | none => lastIdx l y := by
 intro a
 induction a generalizing l with
 | nil => rw [List.append_nil]; rfl
 | cons x a ih =>
  have h1 := ih (l ++ [x])
  have h2 := ih [x]
  rw [List.append_assoc] at h1
  simp only [List.cons_append, List.nil_append] at h1 h2
  rw [h1, h2, lastIdx_add]
  have h3 := lastIdx_add [] x y
  simp only [List.nil_append, List.length_nil] at h3
  rw [h3]
  cases lastIdx a y with
  | some i => simp only [List.length_append, List.length_cons, List.length_nil]; congr 1; omega
  | none =>
   simp only
   by_cases e : x = y
   ·rw [if_pos e, if_pos e]; simp
   ·rw [if_neg e, if_neg e]; rfl
theorem lastIdx_lt {l : List Txt} {y : Txt} {i : Nat} (h : lastIdx l y = some i) : i < l.length ∧ l.getD i [] = y := lastAt_lt h
theorem lastIdx_none {l : List Txt} {y : Txt} : lastIdx l y = none ↔ y ∉ l := by
 induction l with
 | nil => simp [lastIdx, lastAt]
 | cons x l ih =>
  have h := lastIdx_app [x] y l
  simp only [List.cons_append, List.nil_append] at h
  rw [h]
  have h3 := lastIdx_add [] x y
  simp only [List.nil_append, List.length_nil] at h3
  rw [h3]
  cases hl : lastIdx l y with
  | some i =>
   have := lastAt_mem hl
   simp [this]
  | none =>
   rw [hl] at ih
   have h4 : y ∉ l := ih.1 rfl
   by_cases e : x = y
   ·simp [e]
   ·rw [if_neg e]
    simp only [List.mem_cons, not_or]
    exact ⟨fun _ => ⟨fun e' => e e'.symm, h4⟩, fun _ => rfl⟩
theorem lastIdx_nodup {l : List Txt} (h : l.Nodup) {i : Nat} (hi : i < l.length) : lastIdx l (l.getD i []) = some i := by
 cases hx : lastIdx l (l.getD i []) with
 | none =>
  rw [lastIdx_none] at hx
  exact absurd (by rw [show l.getD i [] = l[i] by simp [hi]]; exact List.getElem_mem hi) hx
 | some j =>
  obtain ⟨h1, h2⟩ := lastIdx_lt hx
  rw [show l.getD j [] = l[j] by simp [h1], show l.getD i [] = l[i] by simp [hi]] at h2
  rw [(List.getElem_inj h).1 h2]
/-- A bound name, told by its place. -/
def bnd (i : Nat) : Txt := 0 :: List.replicate i 0
theorem bnd_inj {i j : Nat} (h : bnd i = bnd j) : i = j := by
 have := congrArg List.length h
 simpa [bnd] using this
theorem bnd_name (i : Nat) : isName (bnd i) = false := by simp [bnd, isName, lower]
theorem bnd_ne {s : Txt} (h : isName s = true) (i : Nat) : bnd i ≠ s := fun e => by rw [← e, bnd_name] at h; cases h
def Ex.db : Ex → List Txt → Ex
 | .num s, _ => .num s
 | .name s, a => .name (match lastIdx a s with | some i => bnd i | none => s)
 | .bin o a b, l => .bin o (a.db l) (b.db l)
 | .ite a b c, l => .ite (a.db l) (b.db l) (c.db l)
 | .lt x a b, l => .lt [] (a.db l) (b.db (l ++ [x]))
 | .fn g x s t b, l => .fn [] [] s t (b.db (l ++ [g, x]))
 | .un o a, l => .un o (a.db l)
/-- Alike, as the program asks it. -/
def Ex.alk : Ex → Ex → List Txt → List Txt → Bool
 | .num s, .num t, _, _ => decide (s = t)
 | .name s, .name t, a, b => decide (lastIdx a s = lastIdx b t) && ((lastIdx a s).isSome || decide (s = t))
 | .bin o p q, .bin o' p' q', a, b => decide (o.txt = o'.txt) && p.alk p' a b && q.alk q' a b
 | .ite p q r, .ite p' q' r', a, b => p.alk p' a b && q.alk q' a b && r.alk r' a b
 | .lt x p q, .lt x' p' q', a, b => p.alk p' a b && q.alk q' (a ++ [x]) (b ++ [x'])
 | .fn g x s t q, .fn g' x' s' t' q', a, b => decide (s = s') && decide (t = t') && q.alk q' (a ++ [g, x]) (b ++ [g', x'])
 | .un o p, .un o' p', a, b => decide (o.txt = o'.txt) && p.alk p' a b
 | _, _, _, _ => false
theorem B5.txt_iff {o o' : B5} : o.txt = o'.txt ↔ o = o' := ⟨B5.txt_inj, fun e => by rw [e]⟩
theorem U2.txt_iff {o o' : U2} : o.txt = o'.txt ↔ o = o' := ⟨U2.txt_inj, fun e => by rw [e]⟩
theorem Ex.alk_db : ∀ {e e' : Ex} {a b : List Txt}, e.ok = true → e'.ok = true → (e.alk e' a b = true ↔ e.db a = e'.db b) := by
 intro e
 induction e with
 | num s => intro e' a b h h'; cases e' <;> simp [Ex.alk, Ex.db]
 | name s =>
  intro e' a b h h'
  cases e' <;> simp only [Ex.alk, Ex.db, reduceCtorEq, Bool.false_eq_true]
  rename_i t
  simp only [Ex.ok] at h h'
  simp only [Bool.and_eq_true, Bool.or_eq_true, decide_eq_true_eq, Ex.name.injEq]
  cases hs : lastIdx a s with
  | none => cases ht : lastIdx b t with
   | none => simp
   | some j => simp only [reduceCtorEq, false_and, false_iff]; exact fun e => bnd_ne h j e.symm
  | some i => cases ht : lastIdx b t with
   | none => simp only [reduceCtorEq, false_and, false_iff]; exact fun e => bnd_ne h' i e
   | some j => simp only [Option.some.injEq, Option.isSome_some, true_or, and_true]; exact ⟨fun e => by rw [e], bnd_inj⟩
 | bin o p q ih1 ih2 =>
  intro e' a b h h'
  cases e' <;> simp only [Ex.alk, Ex.db, reduceCtorEq, Bool.false_eq_true]
  simp only [Ex.ok, Bool.and_eq_true] at h h'
  simp only [Bool.and_eq_true, decide_eq_true_eq, Ex.bin.injEq, B5.txt_iff, ih1 h.1 h'.1, ih2 h.2 h'.2, and_assoc]
 | ite p q r ih1 ih2 ih3 =>
  intro e' a b h h'
  cases e' <;> simp only [Ex.alk, Ex.db, reduceCtorEq, Bool.false_eq_true]
  simp only [Ex.ok, Bool.and_eq_true] at h h'
  simp only [Bool.and_eq_true, Ex.ite.injEq, ih1 h.1.1 h'.1.1, ih2 h.1.2 h'.1.2, ih3 h.2 h'.2, and_assoc]
 | lt x p q ih1 ih2 =>
  intro e' a b h h'
  cases e' <;> simp only [Ex.alk, Ex.db, reduceCtorEq, Bool.false_eq_true]
  simp only [Ex.ok, Bool.and_eq_true] at h h'
  simp only [Bool.and_eq_true, Ex.lt.injEq, ih1 h.1.2 h'.1.2, ih2 h.2 h'.2, true_and]
 | fn g x s t q ih =>
  intro e' a b h h'
  cases e' <;> simp only [Ex.alk, Ex.db, reduceCtorEq, Bool.false_eq_true]
  simp only [Ex.ok, Bool.and_eq_true] at h h'
  simp only [Bool.and_eq_true, decide_eq_true_eq, Ex.fn.injEq, ih h.2 h'.2, true_and, and_assoc]
 | un o p ih =>
  intro e' a b h h'
  cases e' <;> simp only [Ex.alk, Ex.db, reduceCtorEq, Bool.false_eq_true]
  simp only [Ex.ok] at h h'
  simp only [Bool.and_eq_true, decide_eq_true_eq, Ex.un.injEq, U2.txt_iff, ih h h']
/-- Names that plain names are given: new, each once. -/
def freshT (av t : List Txt) (n : Nat) : Prop := t.Nodup ∧ ∀ x ∈ t, x ∉ av ∧ ∃ k, k < n ∧ x = nm 120 k
theorem freshT.up {av t : List Txt} {n m : Nat} (h : freshT av t n) (hm : n ≤ m) : freshT av t m := ⟨h.1, fun x hx => by obtain ⟨h1, k, h2, h3⟩ := h.2 x hx; exact ⟨h1, k, by omega, h3⟩⟩
theorem freshT.add {av t : List Txt} {n k : Nat} (h : freshT av t n) (hk : n ≤ k) (ha : nm 120 k ∉ av) : freshT av (t ++ [nm 120 k]) (k + 1) := by
 refine ⟨?_, fun x hx => ?_⟩
 ·rw [List.nodup_append]
  refine ⟨h.1, by simp, ?_⟩
  intro x hx y hy e
  simp only [List.mem_singleton] at hy
  subst hy; subst e
  obtain ⟨_, j, hj, e⟩ := h.2 _ hx
  have := nm_inj e
  omega
 ·rcases List.mem_append.1 hx with hx | hx
  ·obtain ⟨h1, j, h2, h3⟩ := h.2 x hx; exact ⟨h1, j, by omega, h3⟩
  ·simp only [List.mem_singleton] at hx; subst hx; exact ⟨ha, k, by omega, rfl⟩
/-- An expression is alike to its plain one. -/
theorem Ex.db_pl {av : List Txt} : ∀ {e : Ex} {f t : List Txt} {n : Nat}, f.length = t.length → freshT av t n → (∀ x ∈ e.occ f, x ∈ av) → (e.pl av f t n).1.db t = e.db f := by
 intro e
 induction e with
 | num s => intro f t n _ _ _; rfl
 | name s =>
  intro f t n hft hfr ho
  simp only [Ex.pl, Ex.db]
  cases hs : lastIdx f s with
  | none =>
   have h1 : s ∉ f := lastIdx_none.1 hs
   have h2 := ho s (by simp [Ex.occ, h1])
   have h3 : lastIdx t s = none := lastIdx_none.2 fun hm => (hfr.2 s hm).1 h2
   simp only [h3]
  | some i =>
   have h1 := (lastIdx_lt hs).1
   simp only [lastIdx_nodup hfr.1 (show i < t.length by omega)]
 | bin o p q ih1 ih2 =>
  intro f t n hft hfr ho
  simp only [Ex.occ, List.mem_append] at ho
  simp only [Ex.pl, Ex.db, ih1 hft hfr fun x hx => ho x (.inl hx), ih2 hft (hfr.up (p.pl_hits av f t n).1) fun x hx => ho x (.inr hx)]
 | ite p q r ih1 ih2 ih3 =>
  intro f t n hft hfr ho
  simp only [Ex.occ, List.mem_append] at ho
  have h1 := (p.pl_hits av f t n).1
  have h2 := (q.pl_hits av f t (p.pl av f t n).2).1
  simp only [Ex.pl, Ex.db, ih1 hft hfr fun x hx => ho x (.inl (.inl hx)), ih2 hft (hfr.up h1) fun x hx => ho x (.inl (.inr hx)), ih3 hft (hfr.up (Nat.le_trans h1 h2)) fun x hx => ho x (.inr hx)]
 | lt x p q ih1 ih2 =>
  intro f t n hft hfr ho
  simp only [Ex.occ, List.mem_append] at ho
  obtain ⟨f1, f2, f3⟩ := fr_facts 120 av n
  have h1 := (p.pl_hits av f t (fr 120 av n + 1)).1
  simp only [Ex.pl, Ex.db, ih1 hft (hfr.up (show n ≤ fr 120 av n + 1 by omega)) fun x hx => ho x (.inl hx),
   ih2 (f := f ++ [x]) (t := t ++ [nm 120 (fr 120 av n)]) (by simp [hft]) ((hfr.add f2 f1).up h1) fun x hx => ho x (.inr hx)]
 | fn g x s u q ih =>
  intro f t n hft hfr ho
  simp only [Ex.occ] at ho
  obtain ⟨f1, f2, f3⟩ := fr_facts 120 av n
  obtain ⟨g1, g2, g3⟩ := fr_facts 120 av (fr 120 av n + 1)
  have hh := ((hfr.add f2 f1).add g2 g1)
  rw [List.append_assoc] at hh
  simp only [List.cons_append, List.nil_append] at hh
  simp only [Ex.pl, Ex.db, ih (f := f ++ [g, x]) (t := t ++ [nm 120 (fr 120 av n), nm 120 (fr 120 av (fr 120 av n + 1))]) (by simp [hft]) hh ho]
 | un o p ih =>
  intro f t n hft hfr ho
  simp only [Ex.occ] at ho
  simp only [Ex.pl, Ex.db, ih hft hfr ho]
theorem plain_db (e : Ex) : e.plain.db [] = e.db [] := Ex.db_pl rfl ⟨by simp, by simp⟩ fun x hx => Ex.free_mem.2 hx
/-- The free names of what is told by places. -/
def Ex.fv : Ex → List Txt
 | .num _ => []
 | .name s => if isName s = true then [s] else []
 | .bin _ a b => a.fv ++ b.fv
 | .ite a b c => a.fv ++ b.fv ++ c.fv
 | .lt _ a b => a.fv ++ b.fv
 | .fn _ _ _ _ b => b.fv
 | .un _ a => a.fv
theorem Ex.occ_db : ∀ {e : Ex} {a : List Txt}, e.ok = true → e.occ a = (e.db a).fv := by
 intro e
 induction e with
 | num s => intro a _; rfl
 | name s =>
  intro a h
  simp only [Ex.ok] at h
  simp only [Ex.occ, Ex.db, Ex.fv]
  cases hs : lastIdx a s with
  | none => simp only [if_pos h]; rw [if_neg (lastIdx_none.1 hs)]
  | some i => simp only [bnd_name, Bool.false_eq_true, if_false]; rw [if_pos (lastAt_mem hs)]
 | bin o p q ih1 ih2 => intro a h; simp only [Ex.ok, Bool.and_eq_true] at h; simp only [Ex.occ, Ex.db, Ex.fv, ih1 h.1, ih2 h.2]
 | ite p q r ih1 ih2 ih3 => intro a h; simp only [Ex.ok, Bool.and_eq_true] at h; simp only [Ex.occ, Ex.db, Ex.fv, ih1 h.1.1, ih2 h.1.2, ih3 h.2]
 | lt x p q ih1 ih2 => intro a h; simp only [Ex.ok, Bool.and_eq_true] at h; simp only [Ex.occ, Ex.db, Ex.fv, ih1 h.1.2, ih2 h.2]
 | fn g x s u q ih => intro a h; simp only [Ex.ok, Bool.and_eq_true] at h; simp only [Ex.occ, Ex.db, Ex.fv, ih h.2]
 | un o p ih => intro a h; simp only [Ex.ok] at h; simp only [Ex.occ, Ex.db, Ex.fv, ih h]
/-- Two expressions that are alike. -/
def Ex.as (e e' : Ex) : Prop := e.db [] = e'.db []
theorem Ex.as.free {e e' : Ex} (h : e.as e') (ho : e.ok = true) (ho' : e'.ok = true) : e.free = e'.free ∧ e.occ [] = e'.occ [] := by
 have h1 : e.occ [] = e'.occ [] := by rw [Ex.occ_db ho, Ex.occ_db ho', show e.db [] = e'.db [] from h]
 exact ⟨by unfold Ex.free; rw [h1], h1⟩
theorem Ex.plain_as (e : Ex) : e.plain.as e := plain_db e
/-- Sizes. -/
theorem Ex.db_size : ∀ (e : Ex) (a : List Txt), (e.db a).size = e.size ∧ (e.db a).tree.depth = e.tree.depth := by
 intro e
 induction e with
 | num s => intro a; exact ⟨rfl, rfl⟩
 | name s => intro a; exact ⟨rfl, rfl⟩
 | bin o p q ih1 ih2 => intro a; obtain ⟨h1, h2⟩ := ih1 a; obtain ⟨h3, h4⟩ := ih2 a; simp only [Ex.db, Ex.size, Ex.tree, Tree.depth, depthL, List.isEmpty_cons, cond_false, h1, h2, h3, h4, and_self]
 | ite p q r ih1 ih2 ih3 => intro a; obtain ⟨h1, h2⟩ := ih1 a; obtain ⟨h3, h4⟩ := ih2 a; obtain ⟨h5, h6⟩ := ih3 a; simp only [Ex.db, Ex.size, Ex.tree, Tree.depth, depthL, List.isEmpty_cons, cond_false, h1, h2, h3, h4, h5, h6, and_self]
 | lt x p q ih1 ih2 => intro a; obtain ⟨h1, h2⟩ := ih1 a; obtain ⟨h3, h4⟩ := ih2 (a ++ [x]); simp only [Ex.db, Ex.size, Ex.tree, Tree.depth, depthL, List.isEmpty_cons, List.isEmpty_nil, cond_true, cond_false, h1, h2, h3, h4, and_self]
 | fn g x s u q ih => intro a; obtain ⟨h1, h2⟩ := ih (a ++ [g, x]); simp only [Ex.db, Ex.size, Ex.tree, Tree.depth, depthL, List.isEmpty_cons, List.isEmpty_nil, cond_true, cond_false, h1, h2, and_self]
 | un o p ih => intro a; obtain ⟨h1, h2⟩ := ih a; simp only [Ex.db, Ex.size, Ex.tree, Tree.depth, depthL, List.isEmpty_cons, cond_false, h1, h2, and_self]
theorem Ex.as.size {e e' : Ex} (h : e.as e') : e.size = e'.size ∧ e.tree.depth = e'.tree.depth := by
 have h1 := e.db_size []
 have h2 := e'.db_size []
 rw [show e.db [] = e'.db [] from h] at h1
 exact ⟨h1.1.symm.trans h2.1, h1.2.symm.trans h2.2⟩
/-- Closed expressions look the same behind any names. -/
theorem Ex.db_in : ∀ {v : Ex} {a b c : List Txt}, a.length = b.length → v.occ c = [] → v.db (a ++ c) = v.db (b ++ c) := by
 intro v
 induction v with
 | num s => intro a b c _ _; rfl
 | name s =>
  intro a b c hl h
  simp only [Ex.occ] at h
  have hc : s ∈ c := by
   by_cases hm : s ∈ c
   ·exact hm
   ·rw [if_neg hm] at h; cases h
  simp only [Ex.db, lastIdx_app]
  cases hs : lastIdx c s with
  | none => exact absurd hc (lastIdx_none.1 hs)
  | some i => simp only [hl]
 | bin o p q ih1 ih2 => intro a b c hl h; simp only [Ex.occ, List.append_eq_nil_iff] at h; simp only [Ex.db, ih1 hl h.1, ih2 hl h.2]
 | ite p q r ih1 ih2 ih3 => intro a b c hl h; simp only [Ex.occ, List.append_eq_nil_iff] at h; simp only [Ex.db, ih1 hl h.1.1, ih2 hl h.1.2, ih3 hl h.2]
 | lt x p q ih1 ih2 => intro a b c hl h; simp only [Ex.occ, List.append_eq_nil_iff] at h; simp only [Ex.db, List.append_assoc, ih1 hl h.1, ih2 hl h.2]
 | fn g x s u q ih => intro a b c hl h; simp only [Ex.occ] at h; simp only [Ex.db, List.append_assoc, ih hl h]
 | un o p ih => intro a b c hl h; simp only [Ex.occ] at h; simp only [Ex.db, ih hl h]
theorem Ex.db_cl {v : Ex} (h : v.occ [] = []) {a b : List Txt} (hl : a.length = b.length) : v.db a = v.db b := by
 have := Ex.db_in (v := v) (c := []) hl h
 simpa using this
/-- Something put for a name, unless it is bound around. -/
def Ex.putIf (e : Ex) (n : Txt) (v : Ex) (a : List Txt) : Ex := if n ∈ a then e else e.put n v
theorem putIf_in {e : Ex} {n : Txt} {v : Ex} {a : List Txt} (h : n ∈ a) : e.putIf n v a = e := if_pos h
theorem putIf_out {e : Ex} {n : Txt} {v : Ex} {a : List Txt} (h : n ∉ a) : e.putIf n v a = e.put n v := if_neg h
theorem putIf_bin (o : B5) (p q : Ex) (n : Txt) (v : Ex) (a : List Txt) : (Ex.bin o p q).putIf n v a = .bin o (p.putIf n v a) (q.putIf n v a) := by unfold Ex.putIf; split <;> rfl
theorem putIf_ite (p q r : Ex) (n : Txt) (v : Ex) (a : List Txt) : (Ex.ite p q r).putIf n v a = .ite (p.putIf n v a) (q.putIf n v a) (r.putIf n v a) := by unfold Ex.putIf; split <;> rfl
theorem putIf_un (o : U2) (p : Ex) (n : Txt) (v : Ex) (a : List Txt) : (Ex.un o p).putIf n v a = .un o (p.putIf n v a) := by unfold Ex.putIf; split <;> rfl
theorem putIf_lt (x : Txt) (p q : Ex) (n : Txt) (v : Ex) (a : List Txt) : (Ex.lt x p q).putIf n v a = .lt x (p.putIf n v a) (q.putIf n v (a ++ [x])) := by
 unfold Ex.putIf
 simp only [List.mem_append, List.mem_singleton, Ex.put]
 by_cases h : n ∈ a
 ·simp [h]
 ·by_cases h2 : x = n
  ·subst h2; simp [h]
  ·have h3 : ¬ n = x := fun e => h2 e.symm
   simp [h, h2, h3]
theorem putIf_fn (g x : Txt) (s u : Ty) (q : Ex) (n : Txt) (v : Ex) (a : List Txt) : (Ex.fn g x s u q).putIf n v a = .fn g x s u (q.putIf n v (a ++ [g, x])) := by
 unfold Ex.putIf
 simp only [List.mem_append, List.mem_cons, List.not_mem_nil, or_false, Ex.put]
 by_cases h : n ∈ a
 ·simp [h]
 ·by_cases h2 : g = n ∨ x = n
  ·have : n = g ∨ n = x := h2.imp Eq.symm Eq.symm
   simp [h, h2, this]
  ·have : ¬ (n = g ∨ n = x) := fun e => h2 (e.imp Eq.symm Eq.symm)
   simp [h, h2, this]
theorem Ex.put_db {n : Txt} {v : Ex} (hv : v.occ [] = []) : ∀ {e e' : Ex} {a b : List Txt}, a.length = b.length → e.ok = true → e'.ok = true → e.db a = e'.db b → (e.putIf n v a).db a = (e'.putIf n v b).db b := by
 intro e
 induction e with
 | num s => intro e' a b hl h h' hd; cases e' <;> simp only [Ex.db, reduceCtorEq] at hd; cases hd; unfold Ex.putIf; split <;> split <;> rfl
 | name s =>
  intro e' a b hl h h' hd
  cases e' <;> simp only [Ex.db, reduceCtorEq] at hd
  rename_i s'
  simp only [Ex.ok] at h h'
  simp only [Ex.name.injEq] at hd
  cases hs : lastIdx a s with
  | none => cases ht : lastIdx b s' with
   | none =>
    rw [hs, ht] at hd; simp only at hd; subst hd
    have h1 := lastIdx_none.1 hs
    have h2 := lastIdx_none.1 ht
    by_cases e : s = n
    ·subst e
     rw [putIf_out h1, putIf_out h2]
     simp only [Ex.put, if_true]
     exact Ex.db_cl hv hl
    ·have h3 : ∀ c, (Ex.name s).putIf n v c = .name s := fun c => by unfold Ex.putIf; split <;> simp [Ex.put, e]
     rw [h3, h3]; simp only [Ex.db, hs, ht]
   | some j => rw [hs, ht] at hd; exact absurd hd.symm (bnd_ne h j)
  | some i => cases ht : lastIdx b s' with
   | none => rw [hs, ht] at hd; exact absurd hd (bnd_ne h' i)
   | some j =>
    rw [hs, ht] at hd
    have h3 : ∀ {c : List Txt} {z : Txt}, z ∈ c → (Ex.name z).putIf n v c = .name z := fun {c z} hz => by
     by_cases e : z = n
     ·subst e; exact putIf_in hz
     ·unfold Ex.putIf; split <;> simp [Ex.put, e]
    rw [h3 (lastAt_mem hs), h3 (lastAt_mem ht)]
    simp only [Ex.db, hs, ht, bnd_inj hd]
 | bin o p q ih1 ih2 =>
  intro e' a b hl h h' hd
  cases e' <;> simp only [Ex.db, reduceCtorEq] at hd
  simp only [Ex.ok, Bool.and_eq_true] at h h'
  simp only [Ex.bin.injEq] at hd
  simp only [putIf_bin, Ex.db, ih1 hl h.1 h'.1 hd.2.1, ih2 hl h.2 h'.2 hd.2.2, hd.1]
 | ite p q r ih1 ih2 ih3 =>
  intro e' a b hl h h' hd
  cases e' <;> simp only [Ex.db, reduceCtorEq] at hd
  simp only [Ex.ok, Bool.and_eq_true] at h h'
  simp only [Ex.ite.injEq] at hd
  simp only [putIf_ite, Ex.db, ih1 hl h.1.1 h'.1.1 hd.1, ih2 hl h.1.2 h'.1.2 hd.2.1, ih3 hl h.2 h'.2 hd.2.2]
 | lt x p q ih1 ih2 =>
  intro e' a b hl h h' hd
  cases e' <;> simp only [Ex.db, reduceCtorEq] at hd
  rename_i x' p' q'
  simp only [Ex.ok, Bool.and_eq_true] at h h'
  simp only [Ex.lt.injEq] at hd
  simp only [putIf_lt, Ex.db, ih1 hl h.1.2 h'.1.2 hd.2.1, ih2 (a := a ++ [x]) (b := b ++ [x']) (by simp [hl]) h.2 h'.2 hd.2.2]
 | fn g x s u q ih =>
  intro e' a b hl h h' hd
  cases e' <;> simp only [Ex.db, reduceCtorEq] at hd
  rename_i g' x' s' u' q'
  simp only [Ex.ok, Bool.and_eq_true] at h h'
  simp only [Ex.fn.injEq] at hd
  simp only [putIf_fn, Ex.db, ih (a := a ++ [g, x]) (b := b ++ [g', x']) (by simp [hl]) h.2 h'.2 hd.2.2.2.2, hd.2.2.1, hd.2.2.2.1]
 | un o p ih =>
  intro e' a b hl h h' hd
  cases e' <;> simp only [Ex.db, reduceCtorEq] at hd
  simp only [Ex.ok] at h h'
  simp only [Ex.un.injEq] at hd
  simp only [putIf_un, Ex.db, ih hl h h' hd.2, hd.1]
theorem Ex.as.put {e e' : Ex} (h : e.as e') (ho : e.ok = true) (ho' : e'.ok = true) {n : Txt} {v : Ex} (hv : v.occ [] = []) : (e.put n v).as (e'.put n v) := by
 have := Ex.put_db (n := n) hv (a := []) (b := []) rfl ho ho' h
 rwa [putIf_out (by simp), putIf_out (by simp)] at this
/- Types of alike expressions. -/
theorem ty_bin (o : B5) (a b : Ex) (l : List Txt) (m : List Ty) : (Ex.bin o a b).ty l m = (a.ty l m).bind fun s => (b.ty l m).bind fun t => o.ty s t := by
 unfold Ex.ty; simp only [Ex.chk]
 cases a.chk l m with
 | error x => rfl
 | ok s => cases b.chk l m with
  | error x => rfl
  | ok t => simp only [Option.bind_some]; cases o.ty s t <;> rfl
theorem ty_ite (a b c : Ex) (l : List Txt) (m : List Ty) : (Ex.ite a b c).ty l m = (a.ty l m).bind fun s => (b.ty l m).bind fun t => (c.ty l m).bind fun u => if s = .i ∧ t = u then some t else none := by
 unfold Ex.ty; simp only [Ex.chk]
 cases a.chk l m with
 | error x => rfl
 | ok s => cases b.chk l m with
  | error x => rfl
  | ok t => cases c.chk l m with
   | error x => rfl
   | ok u =>
    simp only [Option.bind_some]
    by_cases h : s = .i ∧ t = u
    ·rw [if_pos h, if_pos h]
    ·rw [if_neg h, if_neg h]
theorem ty_lt (x : Txt) (a b : Ex) (l : List Txt) (m : List Ty) : (Ex.lt x a b).ty l m = (a.ty l m).bind fun s => b.ty (l ++ [x]) (m ++ [s]) := by
 unfold Ex.ty; simp only [Ex.chk]
 cases a.chk l m <;> rfl
theorem ty_fn (f x : Txt) (s t : Ty) (b : Ex) (l : List Txt) (m : List Ty) : (Ex.fn f x s t b).ty l m = if (Ty.fn s t).size ≤ 16 then (b.ty (l ++ [f, x]) (m ++ [.fn s t, s])).bind fun u => if u = t then some (.fn s t) else none else none := by
 unfold Ex.ty; simp only [Ex.chk]
 by_cases h : (Ty.fn s t).size ≤ 16
 ·rw [if_pos h, if_pos h]
  cases b.chk (l ++ [f, x]) (m ++ [.fn s t, s]) with
  | error x => rfl
  | ok u =>
   simp only [Option.bind_some]
   by_cases h : u = t
   ·rw [if_pos h, if_pos h]
   ·rw [if_neg h, if_neg h]
 ·rw [if_neg h, if_neg h]
theorem ty_un (o : U2) (a : Ex) (l : List Txt) (m : List Ty) : (Ex.un o a).ty l m = (a.ty l m).bind fun s => o.ty s := by
 unfold Ex.ty; simp only [Ex.chk]
 cases a.chk l m with
 | error x => rfl
 | ok s => simp only [Option.bind_some]; cases o.ty s <;> rfl
theorem ty_name (s : Txt) (l : List Txt) (m : List Ty) : (Ex.name s).ty l m = tyLook l m s := by
 unfold Ex.ty; simp only [Ex.chk]
 cases tyLook l m s <;> rfl
theorem tyLook_app {l a : List Txt} {m k : List Ty} (h : l.length = m.length) (s : Txt) : tyLook (l ++ a) (m ++ k) s = match lastIdx a s with | some i => k[i]? | none => tyLook l m s := by
 unfold tyLook
 rw [lastIdx_app]
 cases hs : lastIdx a s with
 | some i => simp only [Option.bind_some, h]; rw [List.getElem?_append_right (by omega)]; congr 1; omega
 | none =>
  simp only
  cases hi : lastIdx l s with
  | none => rfl
  | some i =>
   have := (lastIdx_lt hi).1
   simp only [Option.bind_some]; rw [List.getElem?_append_left (by omega)]
theorem Ex.ty_db {l : List Txt} {m : List Ty} (hlm : l.length = m.length) : ∀ {e e' : Ex} {a b : List Txt} {k : List Ty}, a.length = k.length → b.length = k.length → e.ok = true → e'.ok = true → e.db a = e'.db b → e.ty (l ++ a) (m ++ k) = e'.ty (l ++ b) (m ++ k) := by
 intro e
 induction e with
 | num s => intro e' a b k h1 h2 h h' hd; cases e' <;> simp only [Ex.db, reduceCtorEq] at hd; rfl
 | name s =>
  intro e' a b k h1 h2 h h' hd
  cases e' <;> simp only [Ex.db, reduceCtorEq] at hd
  rename_i s'
  simp only [Ex.ok] at h h'
  simp only [Ex.name.injEq] at hd
  rw [ty_name, ty_name, tyLook_app hlm, tyLook_app hlm]
  cases hs : lastIdx a s with
  | none => cases ht : lastIdx b s' with
   | none => rw [hs, ht] at hd; simp only at hd; subst hd; rfl
   | some j => rw [hs, ht] at hd; exact absurd hd.symm (bnd_ne h j)
  | some i => cases ht : lastIdx b s' with
   | none => rw [hs, ht] at hd; exact absurd hd (bnd_ne h' i)
   | some j => rw [hs, ht] at hd; rw [bnd_inj hd]
 | bin o p q ih1 ih2 =>
  intro e' a b k h1 h2 h h' hd
  cases e' <;> simp only [Ex.db, reduceCtorEq] at hd
  simp only [Ex.ok, Bool.and_eq_true] at h h'
  simp only [Ex.bin.injEq] at hd
  rw [ty_bin, ty_bin, ih1 h1 h2 h.1 h'.1 hd.2.1, ih2 h1 h2 h.2 h'.2 hd.2.2, hd.1]
 | ite p q r ih1 ih2 ih3 =>
  intro e' a b k h1 h2 h h' hd
  cases e' <;> simp only [Ex.db, reduceCtorEq] at hd
  simp only [Ex.ok, Bool.and_eq_true] at h h'
  simp only [Ex.ite.injEq] at hd
  rw [ty_ite, ty_ite, ih1 h1 h2 h.1.1 h'.1.1 hd.1, ih2 h1 h2 h.1.2 h'.1.2 hd.2.1, ih3 h1 h2 h.2 h'.2 hd.2.2]
 | lt x p q ih1 ih2 =>
  intro e' a b k h1 h2 h h' hd
  cases e' <;> simp only [Ex.db, reduceCtorEq] at hd
  rename_i x' p' q'
  simp only [Ex.ok, Bool.and_eq_true] at h h'
  simp only [Ex.lt.injEq] at hd
  rw [ty_lt, ty_lt, ih1 h1 h2 h.1.2 h'.1.2 hd.2.1]
  congr 1; funext s
  have := ih2 (a := a ++ [x]) (b := b ++ [x']) (k := k ++ [s]) (by simp [h1]) (by simp [h2]) h.2 h'.2 hd.2.2
  simpa only [List.append_assoc] using this
 | fn g x s u q ih =>
  intro e' a b k h1 h2 h h' hd
  cases e' <;> simp only [Ex.db, reduceCtorEq] at hd
  rename_i g' x' s' u' q'
  simp only [Ex.ok, Bool.and_eq_true] at h h'
  simp only [Ex.fn.injEq] at hd
  obtain ⟨-, -, rfl, rfl, hd⟩ := hd
  have := ih (a := a ++ [g, x]) (b := b ++ [g', x']) (k := k ++ [.fn s u, s]) (by simp [h1]) (by simp [h2]) h.2 h'.2 hd
  simp only [← List.append_assoc] at this
  rw [ty_fn, ty_fn, this]
 | un o p ih =>
  intro e' a b k h1 h2 h h' hd
  cases e' <;> simp only [Ex.db, reduceCtorEq] at hd
  simp only [Ex.ok] at h h'
  simp only [Ex.un.injEq] at hd
  rw [ty_un, ty_un, ih h1 h2 h h' hd.2, hd.1]
theorem Ex.as.ty {e e' : Ex} (h : e.as e') (ho : e.ok = true) (ho' : e'.ok = true) {l : List Txt} {m : List Ty} (hlm : l.length = m.length) : e.ty l m = e'.ty l m := by
 have := Ex.ty_db hlm (a := []) (b := []) (k := []) rfl rfl ho ho' h
 simpa using this
theorem Ex.as.hd {e e' : Ex} (h : e.as e') : e.hd = e'.hd := by
 have h : e.db [] = e'.db [] := h
 cases e <;> cases e' <;> simp only [Ex.db, reduceCtorEq] at h <;> first
  | rfl
  | (simp only [Ex.bin.injEq] at h; simp only [Ex.hd, h.1]; rfl)
  | (simp only [Ex.un.injEq] at h; simp only [Ex.hd, h.1]; rfl)
theorem Ex.as.symm {e e' : Ex} (h : e.as e') : e'.as e := Eq.symm h
theorem Ex.as.trans {e e' e'' : Ex} (h : e.as e') (h' : e'.as e'') : e.as e'' := Eq.trans h h'
def nul : Ex := .num [48]
/-- Nought put for each of these names. -/
def Ex.puts (e : Ex) (l : List Txt) : Ex := l.foldl (fun e n => e.put n nul) e
/-- How often a name stands free. -/
def countOf (s n : Txt) : Int := match exOf s with
 | some e => if isName n = true then (((e.occ []).count n : Nat) : Int) else -1
 | none => -1
/-- What 'ExprAlike' answers. -/
def alikeOf (a b : Txt) : Bool := match exOf a, exOf b with
 | some e, some f => e.alk f [] []
 | _, _ => false
theorem alikeOf_some {a b : Txt} {e f : Ex} (h : exOf a = some e) (h' : exOf b = some f) : alikeOf a b = e.alk f [] [] := by unfold alikeOf; rw [h, h']
theorem alikeOf_as {a b : Txt} {e f : Ex} (h : exOf a = some e) (h' : exOf b = some f) : alikeOf a b = true ↔ e.as f := by
 rw [alikeOf_some h h']
 exact Ex.alk_db (exOf_is h).2.1 (exOf_is h').2.1
theorem exOf_plain {s : Txt} {e : Ex} (h : exOf s = some e) : exOf e.plain.tree.text = some e.plain := exOf_fine (plain_fine (exOf_is h).1)
theorem Ex.pl_bare {av : List Txt} (e : Ex) (f t : List Txt) (n : Nat) : (e.pl av f t n).1.bare = e.bare := by cases e <;> rfl
theorem Ex.pl_norm {av : List Txt} : ∀ (e : Ex) (f t : List Txt) (n : Nat) (b : Bool), (e.pl av f t n).1.norm b = e.norm b
 | .num s, f, t, n, b => rfl
 | .name s, f, t, n, b => rfl
 | .bin o p q, f, t, n, b => by simp only [Ex.pl, Ex.norm, Ex.pl_bare]
 | .ite p q r, f, t, n, b => by simp only [Ex.pl, Ex.norm, Ex.pl_bare, Ex.pl_norm q, Ex.pl_norm r]
 | .lt x p q, f, t, n, b => by simp only [Ex.pl, Ex.norm, Ex.pl_norm p, Ex.pl_norm q]
 | .fn g x s u q, f, t, n, b => by simp only [Ex.pl, Ex.norm, Ex.pl_norm q]
 | .un o p, f, t, n, b => by simp only [Ex.pl, Ex.norm, Ex.pl_bare]
theorem Ex.pl_nl {av : List Txt} : ∀ (e : Ex) (f t : List Txt) (n : Nat), (e.pl av f t n).1.nl = e.nl
 | .num s, f, t, n => rfl
 | .name s, f, t, n => rfl
 | .bin o p q, f, t, n => by simp only [Ex.pl, Ex.nl, Ex.pl_nl p, Ex.pl_nl q]
 | .ite p q r, f, t, n => by simp only [Ex.pl, Ex.nl, Ex.pl_nl p, Ex.pl_nl q, Ex.pl_nl r]
 | .lt x p q, f, t, n => by simp only [Ex.pl, Ex.nl, Ex.pl_nl p, Ex.pl_nl q]
 | .fn g x s u q, f, t, n => by simp only [Ex.pl, Ex.nl, Ex.pl_nl q]
 | .un o p, f, t, n => by simp only [Ex.pl, Ex.nl, Ex.pl_nl p]
theorem mk_bare {tk : List Txt} {e : Ex} (h : e.bare = true) (n : Nat) : e.mk tk n = ⟨e, [], n, 0⟩ ∧ (e.mk tk n).pt tk = ⟨e, [], n, 0⟩ := by
 cases e with
 | num s => exact ⟨rfl, rfl⟩
 | name s => exact ⟨rfl, rfl⟩
 | bin o a b => cases h
 | ite a b c => cases h
 | lt x a b => cases h
 | fn f x s t b => cases h
 | un o a => cases h
theorem mk_norm (tk : List Txt) : ∀ (e : Ex), (e.norm false = true → ∀ n, e.mk tk n = ⟨e, [], n, 0⟩) ∧ (e.norm true = true → ∀ n, (e.mk tk n).all = e ∧ (e.mk tk n).n = n ∧ (e.mk tk n).g = 0)
 | .num s => ⟨fun _ _ => rfl, fun _ _ => ⟨rfl, rfl, rfl⟩⟩
 | .name s => ⟨fun _ _ => rfl, fun _ _ => ⟨rfl, rfl, rfl⟩⟩
 | .bin o a b => by
  have key : (a.bare && b.bare) = true → ∀ n, (Ex.bin o a b).mk tk n = ⟨.bin o a b, [], n, 0⟩ := fun h n => by
   simp only [Bool.and_eq_true] at h
   simp only [Ex.mk, (mk_bare h.1 n).2, (mk_bare h.2 n).2, List.append_nil]
  exact ⟨key, fun h n => by rw [key h n]; exact ⟨rfl, rfl, rfl⟩⟩
 | .ite a b c => by
  have key : (a.bare && b.norm true && c.norm true) = true → ∀ n, (Ex.ite a b c).mk tk n = ⟨.ite a b c, [], n, 0⟩ := fun h n => by
   simp only [Bool.and_eq_true] at h
   obtain ⟨q1, q2, q3⟩ := (mk_norm tk b).2 h.1.2 n
   obtain ⟨r1, r2, r3⟩ := (mk_norm tk c).2 h.2 n
   simp only [Ex.mk, (mk_bare h.1.1 n).2, q1, q2, q3, r1, r2, r3]
  exact ⟨key, fun h n => by rw [key h n]; exact ⟨rfl, rfl, rfl⟩⟩
 | .lt x a b => by
  refine ⟨fun h => by simp [Ex.norm] at h, fun h n => ?_⟩
  simp only [Ex.norm, Bool.true_and, Bool.and_eq_true] at h
  obtain ⟨q1, q2, q3⟩ := (mk_norm tk b).2 h.2 n
  have hp := (mk_norm tk a).1 h.1 n
  refine ⟨?_, by simp only [Ex.mk, hp, q2], by simp only [Ex.mk, hp, q3]⟩
  simp only [Ex.mk, hp, MK.all, List.nil_append, lets]
  unfold MK.all at q1
  rw [q1]
 | .fn f x s t b => by
  have key : b.norm true = true → ∀ n, (Ex.fn f x s t b).mk tk n = ⟨.fn f x s t b, [], n, 0⟩ := fun h n => by
   obtain ⟨q1, q2, q3⟩ := (mk_norm tk b).2 h n
   simp only [Ex.mk, q1, q2, q3]
  exact ⟨key, fun h n => by rw [key h n]; exact ⟨rfl, rfl, rfl⟩⟩
 | .un o a => by
  have key : a.bare = true → ∀ n, (Ex.un o a).mk tk n = ⟨.un o a, [], n, 0⟩ := fun h n => by
   simp only [Ex.mk, (mk_bare h n).2]
  exact ⟨key, fun h n => by rw [key h n]; exact ⟨rfl, rfl, rfl⟩⟩
theorem normal_norm {e : Ex} (h : e.norm true = true) : e.normal = e.plain := ((mk_norm e.tk e.plain).2 (by unfold Ex.plain; rw [Ex.pl_norm]; exact h) 0).1
/-- A normal expression's normal one is its plain one. -/
theorem nf_norm {s : Txt} {e : Ex} (h : exOf s = some e) (hn : e.norm true = true) : nfOf s = some e.plain.tree.text ∧ exOf e.plain.tree.text = some e.plain ∧ netsOf e.plain.tree.text = netsOf s ∧ alikeOf e.plain.tree.text s = true := by
 have hf := plain_fine (exOf_is h).1
 have hp := exOf_plain h
 have hpn : e.plain.norm true = true := by unfold Ex.plain; rw [Ex.pl_norm]; exact hn
 have h1 : normOf true s = some e := by unfold normOf; rw [h]; simp [hn]
 have h2 : normOf true e.plain.tree.text = some e.plain := by unfold normOf; rw [hp]; simp [hpn]
 refine ⟨by rw [nfOf_some h, normal_norm hn, if_pos hf], hp, ?_, (alikeOf_as hp h).2 e.plain_as⟩
 rw [netsOf_some h1, netsOf_some h2]
 unfold Ex.plain
 rw [Ex.pl_nl]
/-- A name or a numeral. -/
def bareT (s : Txt) : Bool := isNum s || isName s
theorem bare_plain {e : Ex} (h : e.bare = true) : e.plain = e := by
 cases e with
 | num s => rfl
 | name s => unfold Ex.plain; simp only [Ex.pl]; rfl
 | bin o a b => cases h
 | ite a b c => cases h
 | lt x a b => cases h
 | fn f x s t b => cases h
 | un o a => cases h
theorem bare_norm {e : Ex} (h : e.bare = true) (b : Bool) : e.norm b = true := by
 cases e with
 | num s => rfl
 | name s => rfl
 | bin o a b => cases h
 | ite a b c => cases h
 | lt x a b => cases h
 | fn f x s t b => cases h
 | un o a => cases h
theorem bare_fine {e : Ex} (h : e.ok = true) (hb : e.bare = true) : e.fine = true := by
 cases e with
 | num s =>
  have := isNum_len (show _ = true from h)
  simp only [Ex.fine, Tree.fits, Bool.and_eq_true, decide_eq_true_eq]
  exact ⟨⟨h, by simp [Ex.size]⟩, by simp [Ex.tree, Tree.depth, depthL], by simp [Ex.tree, Tree.len]; omega⟩
 | name s =>
  have := isName_len (show _ = true from h)
  simp only [Ex.fine, Tree.fits, Bool.and_eq_true, decide_eq_true_eq]
  exact ⟨⟨h, by simp [Ex.size]⟩, by simp [Ex.tree, Tree.depth, depthL], by simp [Ex.tree, Tree.len]; omega⟩
 | bin o a b => cases hb
 | ite a b c => cases hb
 | lt x a b => cases hb
 | fn f x s t b => cases hb
 | un o a => cases hb
theorem bareT_is {s : Txt} (h : bareT s = true) : ∃ e, exOf s = some e ∧ e.bare = true ∧ nfOf s = some s := by
 unfold bareT at h
 rw [Bool.or_eq_true] at h
 obtain ⟨e, he, hb, ho⟩ : ∃ e : Ex, e.tree.text = s ∧ e.bare = true ∧ e.ok = true := by
  rcases h with h | h
  ·exact ⟨.num s, rfl, rfl, h⟩
  ·exact ⟨.name s, rfl, rfl, h⟩
 have hx : exOf s = some e := by rw [← he, exOf_text ho, bare_fine ho hb]; rfl
 refine ⟨e, hx, hb, ?_⟩
 rw [(nf_norm hx (bare_norm hb true)).1, bare_plain hb, he]
/-- The number of the same rest from -500 on. -/
def shortN (n : Int) : Int := (n + 500) % 1000 - 500
def B5.calc (o : B5) (x y : Int) : Int := match o with
 | .add => x + y
 | .sub => x - y
 | _ => x * y
def B5.nums : B5 → Bool
 | .call => false
 | .pair => false
 | _ => true
def reck (o : B5) (a b : Txt) : Txt := intT (shortN (o.calc (numVal a) (numVal b)))
/-- The step of an expression whose evaluated parts are values. -/
def Ex.turn : Ex → Option Ex
 | .bin .call (.fn f x s t b) v => some ((b.put f (.fn f x s t b)).put x v)
 | .bin o (.num a) (.num b) => if o.nums = true then some (.num (reck o a b)) else none
 | .ite (.num a) b c => some (if a = [48] then b else c)
 | .lt x a b => some (b.put x a)
 | .un .fst (.bin .pair a b) => some a
 | .un .snd (.bin .pair a b) => some b
 | _ => none
def Ex.step : Ex → Option Ex
 | .bin o a b => if a.value = false then a.step.map fun c => .bin o c b else if b.value = false then b.step.map fun c => .bin o a c else (Ex.bin o a b).turn
 | .ite a b c => if a.value = false then a.step.map fun d => .ite d b c else (Ex.ite a b c).turn
 | .lt x a b => if a.value = false then a.step.map fun d => .lt x d b else (Ex.lt x a b).turn
 | .un o a => if a.value = false then a.step.map fun d => .un o d else (Ex.un o a).turn
 | _ => none
def U2.pick (o : U2) (p q : Ex) : Ex := match o with
 | .fst => p
 | .snd => q
/-- One step of a closed expression that is no value, if what it leads to fits. -/
def Ex.go (e : Ex) : Option Ex := if e.value = true then none else e.step.bind fun e' => if e'.fine = true then some e' else none
def stepOf (s : Txt) : Option Txt := (closedOf s).bind fun e => e.go.map fun e' => e'.tree.text
def stuckOf (s : Txt) : Bool := match closedOf s with
 | some e => !e.value && e.step.isNone
 | none => false
/-- Steps one behind another: what is reached, and how many there were. -/
def Ex.goes (e : Ex) : Nat → Ex × Nat
 | 0 => (e, 0)
 | n + 1 => match e.go with
  | some e' => ((e'.goes n).1, (e'.goes n).2 + 1)
  | none => (e, 0)
theorem f_BareIs (s : Txt) (hs : s.length ≤ maxN) (I : Heap) (L : Own) : Fun Tryz.prog 5 [.string (str s)] I L (Only (.bool (bareT s)) I L) := by
 refine fun_intro (by simp) ?_
 refine Se rfl (Oa rfl (o_done (Se rfl (Om rfl ?_))))
 refine o_call rfl .free rfl (f_isName s hs _ _) ?_
 rintro _ _ _ _ ⟨rfl, rfl, rfl⟩
 refine Om rfl ?_
 apply o_or 5 8 rfl
 ·intro g1_3 hk
  try simp only [nb] at g1_3
  refine o_move rfl (.met rfl rfl) rfl ?_
  refine o_call rfl (.met rfl rfl) rfl (f_isNumeral s hs _ _) ?_
  rintro _ _ _ _ ⟨rfl, rfl, rfl⟩
  refine o_pick_false rfl rfl .free rfl ?_
  exact o_fin 2 rfl rfl hk
 ·intro _ hk
  refine o_skips 2 rfl ?_
  refine o_pick_true rfl rfl .free rfl ?_
  exact o_fin 2 rfl rfl hk
 refine Oa rfl (o_done ?_)
 refine s_ret (.tmp rfl .nil) ?_
 refine only rfl ?_
 refine congrArg Value.bool ?_; unfold bareT; cases isNum s <;> cases isName s <;> rfl
theorem g_BareIs (s : Txt) (hs : s.length ≤ maxN) (I : Heap) (L : Own) : Fun Tryz.prog 6 [.string (str s)] I L (Only (.bool (bareT s)) I L) := by
 refine fun_intro (by simp) ?_
 refine Se rfl (Oa rfl (o_done (Se rfl (Om rfl ?_))))
 refine o_call rfl .free rfl (g_l2Number s hs _ _) ?_
 rintro _ _ _ _ ⟨rfl, rfl, rfl⟩
 refine Om rfl ?_
 refine o_extract rfl rfl .free rfl ?_
 refine o_extract rfl rfl .free rfl ?_
 refine Oa rfl (Oa rfl (o_done (Se rfl (Om rfl (Om rfl ?_)))))
 apply o_or 11 14 rfl
 ·intro g2_2 hk
  try simp only [nb] at g2_2
  refine o_move rfl (.met rfl rfl) rfl ?_
  refine o_call rfl (.met rfl rfl) rfl (g_l2Name s hs _ _) ?_
  rintro _ _ _ _ ⟨rfl, rfl, rfl⟩
  refine o_pick_false rfl rfl .free rfl ?_
  exact o_fin 2 rfl rfl hk
 ·intro _ hk
  refine o_skips 2 rfl ?_
  refine o_pick_true rfl rfl .free rfl ?_
  exact o_fin 2 rfl rfl hk
 refine Oa rfl (o_done ?_)
 refine s_ret (.tmp rfl .nil) ?_
 refine only rfl ?_
 refine congrArg Value.bool ?_; unfold bareT; cases isNum s <;> cases isName s <;> rfl
theorem law_FnBare {I : Heap} (ht : Tab I) {oa : Option Addr} {code : List UInt8} {c : Nat} (h : Bytes I oa code c) (L : Own) : Fun Tryz.prog 3 [.slice oa code.length c] I L (YES L) := by
 have hlen := h.len
 refine fun_intro (by simp) ?_
 refine Se rfl (Oa rfl (o_done (s_seq (Se rfl (Om rfl ?_)))))
 refine o_len_slice rfl .free rfl ?_
 refine o_cmp rfl rfl rfl .free rfl ?_
 refine o_done ?_
 refine s_cond rfl ?_ ?_
 ·intro c0
  try simp only [nb] at c0
  refine Se rfl (Oa rfl (o_done ?_))
  refine s_ret (.tmp rfl .nil) ?_
  exact ⟨I, L, .refl _, fun _ h => h, rfl, rfl⟩
 intro c0
 try simp only [nb] at c0
 refine s_skip (Se rfl (Om rfl ?_))
 refine o_call rfl .free rfl (g_DrawBareIs h _) ?_
 rintro _ J1 _ e1 ⟨s, rfl, hsl, rfl⟩
 have hs : s.length ≤ maxN := by unfold maxN; omega
 refine Oa rfl (o_done (Se rfl (Om rfl ?_)))
 refine o_call rfl .free rfl (f_BareIs s hs _ _) ?_
 rintro _ _ _ _ ⟨rfl, rfl, rfl⟩
 refine Oa rfl (o_done (Se rfl (Om rfl ?_)))
 refine o_call rfl .free rfl (g_BareIs s hs _ _) ?_
 rintro _ _ _ _ ⟨rfl, rfl, rfl⟩
 refine Oa rfl (o_done (s_seq (Se rfl (Om rfl (Om rfl ?_)))))
 refine o_cmpb rfl rfl rfl .free rfl ?_
 refine Om rfl ?_
 apply o_or 21 24 rfl
 ·intro g6_4 hk
  try simp only [nb] at g6_4
  refine o_move rfl (.met rfl rfl) rfl ?_
  refine o_not rfl (.met rfl rfl) rfl ?_
  refine o_pick_false rfl rfl .free rfl ?_
  exact o_fin 2 rfl rfl hk
 ·intro _ hk
  refine o_skips 2 rfl ?_
  refine o_pick_true rfl rfl .free rfl ?_
  exact o_fin 2 rfl rfl hk
 refine o_done ?_
 refine s_cond rfl ?_ ?_
 ·intro c1
  try simp only [nb] at c1
  refine Se rfl (Om rfl (Om rfl ?_))
  refine o_cmpb rfl rfl rfl .free rfl ?_
  refine Oa rfl (o_done ?_)
  refine s_ret (.tmp rfl .nil) ?_
  refine ⟨J1, L, e1, drops, ?_, rfl⟩
  simp [retOne]
 intro c1
 try simp only [nb] at c1
 obtain ⟨e, he, hb, hnf⟩ := bareT_is (s := s) (by simpa using c1)
 have hhd := headOf_some he
 have hh : e.hd = [110, 97, 109, 101] ∨ e.hd = [110, 117, 109, 98, 101, 114] := by
  cases e <;> first | exact .inl rfl | exact .inr rfl | cases hb
 have hn1 : exNorm false s = true := (exNorm_some he).trans (bare_norm hb false)
 have hn2 : exNorm true s = true := (exNorm_some he).trans (bare_norm hb true)
 clear c1
 refine s_skip (Se rfl (Om rfl ?_))
 refine o_call rfl .free rfl (f_ExprHead s hs _ _) ?_
 rintro _ J2 _ e2 ⟨rfl, rfl⟩
 refine Oa rfl (o_done (Se rfl (Om rfl ?_)))
 refine o_call rfl .free rfl (f_NormalOf s hs (ht.mono (e1.trans e2)) _) ?_
 rintro _ J3 _ e3 ⟨rfl, rfl⟩
 rw [hnf]
 simp only [Option.getD_some, Option.isSome_some]
 refine Om rfl ?_
 refine o_extract rfl rfl .free rfl ?_
 refine o_extract rfl rfl .free rfl ?_
 refine Oa rfl (Oa rfl (o_done (Se rfl (Om rfl (Om rfl ?_)))))
 apply o_and 36 40 rfl
 ·intro g10_2 hk
  try simp only [nb] at g10_2
  refine o_move rfl (.met rfl rfl) rfl ?_
  refine o_move rfl (.met rfl rfl) rfl ?_
  refine o_cmps rfl rfl rfl (.met rfl rfl) rfl ?_
  refine o_pick_true rfl rfl .free rfl ?_
  exact o_fin 3 rfl rfl hk
 ·intro _ hk
  refine o_skips 3 rfl ?_
  refine o_pick_false rfl rfl .free rfl ?_
  exact o_fin 3 rfl rfl hk
 refine Om rfl ?_
 apply o_and 41 44 rfl
 ·intro g10_7 hk
  try simp only [nb] at g10_7
  refine o_move rfl (.met rfl rfl) rfl ?_
  refine o_call rfl (.met rfl rfl) rfl (f_SimpleIs s hs _ _) ?_
  rintro _ J4 _ e4 ⟨rfl, rfl⟩
  refine o_mem (fun w h => Mem.le e4 h) ?_
  refine o_pick_true rfl rfl .free rfl ?_
  exact o_fin 2 rfl rfl hk
 ·intro _ hk
  refine o_skips 2 rfl ?_
  refine o_pick_false rfl rfl .free rfl ?_
  exact o_fin 2 rfl rfl hk
 refine Om rfl ?_
 apply o_and 45 48 rfl
 ·intro g10_11 hk
  try simp only [nb] at g10_11
  refine o_move rfl (.met rfl rfl) rfl ?_
  refine o_call rfl (.met rfl rfl) rfl (f_NormalIs s hs _ _) ?_
  rintro _ J5 _ e5 ⟨rfl, rfl⟩
  refine o_mem (fun w h => Mem.le e5 h) ?_
  refine o_pick_true rfl rfl .free rfl ?_
  exact o_fin 2 rfl rfl hk
 ·intro _ hk
  refine o_skips 2 rfl ?_
  refine o_pick_false rfl rfl .free rfl ?_
  exact o_fin 2 rfl rfl hk
 refine Om rfl ?_
 apply o_and 49 56 rfl
 ·intro g10_15 hk
  try simp only [nb] at g10_15
  refine o_move rfl (.met rfl rfl) rfl ?_
  refine o_cmps rfl rfl rfl (.met rfl rfl) rfl ?_
  refine o_move rfl (.met rfl rfl) rfl ?_
  apply o_or 52 55 rfl
  ·intro g10_18 hk
   try simp only [nb] at g10_18
   refine o_move rfl (.met rfl rfl) rfl ?_
   refine o_cmps rfl rfl rfl (.met rfl rfl) rfl ?_
   refine o_pick_false rfl rfl (.met rfl rfl) rfl ?_
   exact o_fin 2 rfl rfl hk
  ·intro _ hk
   refine o_skips 2 rfl ?_
   refine o_pick_true rfl rfl (.met rfl rfl) rfl ?_
   exact o_fin 2 rfl rfl hk
  refine o_pick_true rfl rfl .free rfl ?_
  exact o_fin 4 rfl rfl hk
 ·intro _ hk
  refine o_skips 6 rfl ?_
  refine o_pick_false rfl rfl .free rfl ?_
  exact o_fin 6 rfl rfl hk
 refine Oa rfl (o_done ?_)
 refine s_ret (.tmp rfl .nil) ?_
 refine ⟨J3, L, (e1.trans e2).trans e3, drops, ?_, rfl⟩
 rw [hn1, hn2, hhd]
 rcases hh with hh | hh <;> rw [hh] <;> simp [retOne]
/-- The variable has a type of as many whole numbers as the table. -/
def tabTyped (P : Program) (s : String) : Bool :=
 match P.globalNamed s with
 | some g => match (P.globals[g]?).map (·.type) with
  | some t => match P.underlying t with
   | some (.array n e) => (match P.underlying e with | some (.int .u64) => true | _ => false) && (P.cellsOf e == 1) && (P.cellsOf t == n)
   | _ => false
  | none => false
 | none => false
theorem tab_of {laid : List (String × DataW Unit)} {W : World} (h : laidMetH Tryz.prog laid W)
  (hk : (laid.filter fun x => x.1 == "internal/strconv.uint64pow10") = [("internal/strconv.uint64pow10", Lib.tabData .u64 Lib.pow10Tab)]) (ht : tabTyped Tryz.prog "internal/strconv.uint64pow10" = true) : Tab (ofWorld W) := by
 have h1 := h.filter (fun x => x.1 == "internal/strconv.uint64pow10")
 rw [hk] at h1
 have h1 : laidMet Tryz.prog [("internal/strconv.uint64pow10", Lib.tabData .u64 Lib.pow10Tab)] W := (laidMetH_iff.1 h1).1
 have h2 : Lib.TabIs Tryz.prog W "internal/strconv.uint64pow10" .u64 Lib.pow10Tab := by
  unfold tabTyped at ht
  split at ht
  ·rename_i g hg
   split at ht
   ·rename_i t hty
    split at ht
    ·rename_i n e hu
     simp only [Bool.and_eq_true, beq_iff_eq] at ht
     obtain ⟨⟨h3, h4⟩, h5⟩ := ht
     split at h3
     ·rename_i he
      exact Lib.tabIs_of_head hg hty hu he h4 h5 h1
     ·cases h3
    ·cases ht
   ·cases ht
  ·cases ht
 intro L w hm
 unfold Lib.TabIs World.var? at h2 ⊢
 cases hg : Tryz.prog.globalNamed "internal/strconv.uint64pow10" with
 | none => rw [hg] at h2; cases h2
 | some g =>
  rw [hg] at h2
  simp only [Option.bind_some] at h2 ⊢
  cases ho : W.heap[g]? with
  | none => rw [ho] at h2; cases h2
  | some o => rw [ho] at h2; rw [hm.1.1 g o ho]; exact h2
end Go.Proofs.YtliomdednakddaaGreatDoor
