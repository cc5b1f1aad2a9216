/- Normal expressions; heads of expressions. No conditions. -/
import Derived.Test.YtfddjcmeejjhiaaGreatDoorG5
namespace Go.Proofs.YtfddjcmeejjhiaaGreatDoor
set_option maxRecDepth 100000
set_option linter.unusedVariables false
set_option linter.unusedSimpArgs false

def Ex.bare : Ex → Bool
 | .num _ => true
 | .name _ => true
 | _ => false
/-- Normal ('true') or simple ('false'). -/
def Ex.norm : Ex → Bool → Bool
 | .num _, _ => true
 | .name _, _ => true
 | .bin _ a b, _ => a.bare && b.bare
 | .ite a b c, _ => a.bare && b.norm true && c.norm true
 | .lt _ a b, n => n && a.norm false && b.norm true
 | .fn _ _ _ _ b, _ => b.norm true
 | .un _ a, _ => a.bare
theorem Ex.of_let {e : Ex} (h : e.tree.head = tLet) : ∃ x a b, e = .lt x a b := by
 cases e with
 | num s => cases h
 | name s => cases h
 | bin o a b => exact absurd h o.txt_ne.2.1
 | un o a => exact absurd h o.txt_ne.2.1
 | ite a b c => exact absurd (show tIf = tLet from h) (by decide)
 | lt x a b => exact ⟨x, a, b, rfl⟩
 | fn f x s t b => exact absurd (show tFun = tLet from h) (by decide)
theorem Ex.of_fun {e : Ex} (h : e.tree.head = tFun) : ∃ f x s t b, e = .fn f x s t b := by
 cases e with
 | num s => cases h
 | name s => cases h
 | bin o a b => exact absurd h o.txt_ne.2.2.1
 | un o a => exact absurd h o.txt_ne.2.2.1
 | ite a b c => exact absurd (show tIf = tFun from h) (by decide)
 | lt x a b => exact absurd (show tLet = tFun from h) (by decide)
 | fn f x s t b => exact ⟨f, x, s, t, b, rfl⟩
theorem B5.txt_inj {o o' : B5} (h : o.txt = o'.txt) : o = o' := by have := congrArg B5.of h; rw [B5.of_txt, B5.of_txt] at this; exact Option.some.inj this
theorem U2.txt_inj {o o' : U2} (h : o.txt = o'.txt) : o = o' := by have := congrArg U2.of h; rw [U2.of_txt, U2.of_txt] at this; exact Option.some.inj this
theorem BU_ne (o : B5) (u : U2) : o.txt ≠ u.txt := by cases o <;> cases u <;> decide
theorem Ex.of_bin {e : Ex} {o : B5} (h : e.tree.head = o.txt) : ∃ a b, e = .bin o a b := by
 cases e with
 | num s => exact absurd h.symm o.txt_ne.2.2.2.2
 | name s => exact absurd h.symm o.txt_ne.2.2.2.2
 | bin o' a b => have := B5.txt_inj (o := o') (o' := o) h; subst this; exact ⟨a, b, rfl⟩
 | un u a => exact absurd h.symm (BU_ne o u)
 | ite a b c => exact absurd h.symm o.txt_ne.1
 | lt x a b => exact absurd h.symm o.txt_ne.2.1
 | fn f x s t b => exact absurd h.symm o.txt_ne.2.2.1
theorem kids_bin (o : B5) (a b : Ex) : kids (Ex.bin o a b).tree = [1, 2] := by cases o <;> rfl
theorem kids_un (o : U2) (a : Ex) : kids (Ex.un o a).tree = [1] := by cases o <;> rfl
theorem kids_ite (a b c : Ex) : kids (Ex.ite a b c).tree = [1, 2, 3] := rfl
theorem kids_lt' (x : Txt) (a b : Ex) : kids (Ex.lt x a b).tree = [2, 3] := rfl
theorem kids_fn (f x : Txt) (s t : Ty) (b : Ex) : kids (Ex.fn f x s t b).tree = [5] := rfl
theorem Ex.bare_atom {e : Ex} (h : e.ok = true) : decide (e.tree.atom = []) = !e.bare := by
 cases e with
 | num s => have h := isNum_ne h; simp [Ex.tree, Tree.atom, h, Ex.bare]
 | name s => have h := isName_ne h; simp [Ex.tree, Tree.atom, h, Ex.bare]
 | _ => rfl
theorem Ex.bare_parts {e : Ex} : e.bare = e.tree.parts.isEmpty := by cases e <;> rfl
theorem kids_len {t : Tree} (h : kids t ≠ []) : t.parts.length = (kidRange t.head).2 := by
 unfold kids at h
 split at h
 ·assumption
 ·exact absurd rfl h
theorem Tree.size_maxN {t : Tree} (h : t.len ≤ 12000 * 1000) : t.size ≤ maxN := by have := t.size_len; unfold maxN; omega
theorem f_form_isExpr : ∀ (n : Nat) {I : Heap} {t : Tree} {cs : List Value} (_ : SizeOf.sizeOf t < n) (_ : Rep I t cs) (_ : t.good = true) (_ : t.len ≤ 12000000) (L : Own),
  Fun Tryz.prog 110 [.agg cs.toArray] I L (Only (.bool t.ex.isSome) I L) := by
 intro n
 induction n with
 | zero => intro I t cs h; omega
 | succ n ihn =>
  intro I t cs hlt h hg hz L
  obtain ⟨oa, c, oaf, cf, rfl, hf⟩ := h.at'
  have hp := hf.len
  unfold maxN at hp
  refine fun_intro (by simp) ?_
  refine Se rfl ?_
  refine o_box rfl rfl .free rfl ?_
  intro b1
  refine Oa rfl (o_done (s_seq (Se rfl ?_)))
  refine o_lOS rfl .free rfl ?_
  refine o_call rfl .free rfl (f_form_isAtom h _) ?_
  rintro _ _ _ _ ⟨rfl, rfl, rfl⟩
  refine o_done ?_
  refine s_cond rfl ?_ ?_
  ·intro c0
   try simp only [nb] at c0
   refine Se rfl ?_
   refine o_lOS rfl .free rfl ?_
   refine o_call rfl .free rfl (f_form_isBare h _) ?_
   rintro _ _ _ _ ⟨rfl, rfl, rfl⟩
   refine Oa rfl (o_done (s_ret (.tmp rfl .nil) ?_))
   refine only rfl ?_
   have e : t.parts = [] := by simpa using c0
   refine congrArg Value.bool ?_
   cases t with
   | node a ps =>
    simp only [Tree.parts] at e
    subst e
    simp only [Tree.parts, Tree.atom, Tree.ex, List.isEmpty_nil, Bool.true_and]
    cases isName a <;> cases isNum a <;> rfl
  intro c0
  try simp only [nb] at c0
  have hne : t.parts ≠ [] := by simpa using c0
  refine s_skip (Se rfl ?_)
  refine o_lOS rfl .free rfl ?_
  refine o_call rfl .free rfl (f_form_kids h _) ?_
  rintro _ J _ e ⟨ok, ck, rfl, hk, rfl⟩
  have hf := hf.mono e
  refine Oa rfl (o_done (s_seq (Se rfl (Om rfl (On rfl (Oc rfl rfl rfl (o_done ?_)))))))
  refine s_cond rfl ?_ ?_
  ·intro c1
   try simp only [nb] at c1
   have hk0 : kids t = [] := List.length_eq_zero_iff.1 (by omega)
   refine Se rfl (Oa rfl (o_done (s_ret (.tmp rfl .nil) ?_)))
   refine done_fgt e drops ?_
   rw [kids_none hne hk0]; rfl
  intro c1
  try simp only [nb] at c1
  have hk0 : kids t ≠ [] := fun h0 => c1 (by rw [h0]; rfl)
  have hkl := kids_len hk0
  have hks := kids_some hk0
  have hkm := hk.cap
  have hk5 := kids_le t
  refine s_skip (s_seq (Se rfl (Om rfl (On rfl (Om rfl (o_done (s_block ?_)))))))
  refine s_while (X := Nat) (fun i => (kids t).length - i) (fun i => [(1, .pointer (some ⟨b1, 0, none⟩)), (17, .slice ok (kids t).length ck), (18, .int .i64 ((kids t).length : Nat)), (19, .int .i64 (i : Nat))]) (fun _ => J) (fun _ => (b1, .cells [.string (str t.atom), .slice oa t.parts.length c].toArray _ (0, 0)) :: L) (fun i => i ≤ (kids t).length ∧ ((kids t).take i).all (fun i => (t.pt i).ex.isSome) = true) 0 ⟨by omega, rfl⟩ ⟨rfl, rfl, rfl, rfl, trivial⟩ drops ?_
  rintro i ⟨hi, hall⟩ ih
  refine Se rfl (Oc rfl rfl rfl (o_done (s_seq ?_)))
  refine s_cond rfl ?_ ?_
  ·intro c2
   try simp only [nb] at c2
   have hki : (kids t).getD i 0 = (kids t)[i] := by simp [show i < (kids t).length by omega]
   have hkt : (kids t).getD i 0 < t.parts.length := by rw [hki]; exact (kids_lt (List.getElem_mem (show i < (kids t).length by omega))).1
   refine s_skip (s_seq (s_block (Se rfl ?_)))
   first | refine o_ixD rfl rfl _ rfl .free rfl ?_ | refine o_ixP rfl rfl _ rfl .free rfl ?_
   refine o_lI1 rfl .free rfl ?_
   refine Oa rfl (o_done (Se rfl (Oh rfl ?_)))
   refine o_lO1 rfl .free rfl ?_
   refine Om rfl ?_
   first | refine o_ixD rfl rfl _ rfl .free rfl ?_ | refine o_ixP rfl rfl _ rfl .free rfl ?_
   refine o_lIS rfl .free rfl ?_
   refine o_call rfl .free rfl (ihn (t := t.pt ((kids t).getD i 0)) (by have := t.pt_lt _ hkt; omega) (hf.rp _ hkt) (Tree.pt_good hg _ hkt) (by have := t.pt_len _ hkt; omega) _) ?_
   rintro _ _ _ _ ⟨rfl, rfl, rfl⟩
   refine o_not rfl .free rfl ?_
   refine o_done ?_
   refine s_cond rfl ?_ ?_
   ·intro c3
    try simp only [nb] at c3
    refine Se rfl (Oa rfl (o_done (s_ret (.tmp rfl .nil) ?_)))
    refine done_fgt e drops ?_
    rw [hks]
    have : (kids t).all (fun i => (t.pt i).ex.isSome) = false := by
     rw [List.all_eq_false]; exact ⟨_, List.getElem_mem (show i < (kids t).length by omega), by rw [← hki]; simpa using c3⟩
    rw [this]; rfl
   intro c3
   try simp only [nb] at c3
   refine s_skip (s_inBlock (o_enter rfl ?_))
   refine Or rfl rfl rfl ?_
   refine Om rfl (o_done ?_)
   refine s_env (E' := [(1, .pointer (some ⟨b1, 0, none⟩)), (17, .slice ok (kids t).length ck), (18, .int .i64 ((kids t).length : Nat)), (19, .int .i64 ((i + 1 : Nat)))]) ⟨rfl, rfl, rfl, rfl, trivial⟩ (ih (i + 1) ⟨by omega, ?_⟩ (by omega))
   rw [List.take_succ_eq_append_getElem (by omega), List.all_append, hall]
   simp only [List.all_cons, List.all_nil, Bool.and_true, Bool.true_and]
   rw [← hki]; simpa using c3
  intro c2
  try simp only [nb] at c2
  obtain rfl : i = (kids t).length := by omega
  rw [List.take_length] at hall
  rw [hall] at hks
  refine s_exit rfl ?_
  refine s_seq (Se rfl ?_)
  refine o_lOS rfl .free rfl ?_
  refine o_call rfl .free rfl (f_form_head hf.rep _) ?_
  rintro _ _ _ _ ⟨rfl, rfl, rfl⟩
  refine o_done (s_block (Se rfl (Od rfl rfl rfl (Oa rfl (o_done ?_)))))
  refine s_cond rfl ?_ ?_
  ·intro c4
   try simp only [nb] at c4
   have hl4 : t.parts.length = 4 := by rw [hkl, c4]; decide
   have ha1 := (hf.rp 1 (by omega)).atom_le
   refine Se rfl (Oh rfl ?_)
   refine o_lO1 rfl .free rfl ?_
   first | refine o_ixD rfl rfl 1 rfl .free rfl ?_ | refine o_ixP rfl rfl 1 rfl .free rfl ?_
   refine o_fieldAddr' rfl .free rfl ?_
   refine o_lIF rfl .free rfl ?_
   refine o_call rfl .free rfl (f_isName (t.pt 1).atom ha1 _ _) ?_
   rintro _ _ _ _ ⟨rfl, rfl, rfl⟩
   refine Oa rfl (o_done (s_ret (.tmp rfl .nil) ?_))
   refine done_fgt e drops ?_
   rw [hks, exTail, if_pos (show t.head = tLet from c4)]; rfl
  intro c4
  try simp only [nb] at c4
  refine Se rfl (Od rfl rfl rfl (Oa rfl (o_done ?_)))
  refine s_cond rfl ?_ ?_
  ·intro c5
   try simp only [nb] at c5
   have hl6 : t.parts.length = 6 := by rw [hkl, c5]; decide
   have ha1 := (hf.rp 1 (by omega)).atom_le
   have ha2 := (hf.rp 2 (by omega)).atom_le
   have hz3 := t.pt_len 3 (by omega)
   have hz4 := t.pt_len 4 (by omega)
   refine s_seq ?_
   refine d_all 12 rfl rfl ?_
   refine Da 0 rfl (y_fieldAddr rfl) ?_
   refine Dt 1 [12] rfl (y_lO1 rfl) ?_
   first | refine Da 2 rfl (y_ixD rfl rfl 1 rfl) ?_ | refine Da 2 rfl (y_ixP rfl rfl 1 rfl) ?_
   refine Da 3 rfl (y_fieldAddr' rfl) ?_
   refine Dt 4 [12] rfl (y_lIF rfl) ?_
   refine Da 5 rfl (y_fieldAddr rfl) ?_
   refine Dt 6 [12] rfl (y_lO1 rfl) ?_
   first | refine Da 7 rfl (y_ixD rfl rfl 2 rfl) ?_ | refine Da 7 rfl (y_ixP rfl rfl 2 rfl) ?_
   refine Da 8 rfl (y_fieldAddr' rfl) ?_
   refine Dt 9 [12] rfl (y_lIF rfl) ?_
   refine Da 10 rfl (y_assign rfl) ?_
   refine Da 11 rfl (y_assign rfl) ?_
   refine d_done (by kernel_rfl) ?_
   refine Se rfl (Om rfl ?_)
   refine o_call rfl .free rfl (f_isName (t.pt 1).atom ha1 _ _) ?_
   rintro _ _ _ _ ⟨rfl, rfl, rfl⟩
   refine Om rfl ?_
   apply o_and 55 58 rfl
   ·intro g17_3 hk
    try simp only [nb] at g17_3
    refine Ow rfl ?_
    refine o_call rfl (.met rfl rfl) rfl (f_isName (t.pt 2).atom ha2 _ _) ?_
    rintro _ _ _ _ ⟨rfl, rfl, rfl⟩
    refine Ot rfl rfl ?_
    exact o_fin 2 rfl rfl hk
   ·intro _ hk
    refine o_skips 2 rfl ?_
    refine Of rfl rfl ?_
    exact o_fin 2 rfl rfl hk
   refine Om rfl ?_
   apply o_and 59 63 rfl
   ·intro g17_7 hk
    try simp only [nb] at g17_7
    refine Ow rfl (Ow rfl ?_)
    refine o_cmps rfl rfl rfl (.met rfl rfl) rfl ?_
    refine Ot rfl rfl ?_
    exact o_fin 3 rfl rfl hk
   ·intro _ hk
    refine o_skips 3 rfl ?_
    refine Of rfl rfl ?_
    exact o_fin 3 rfl rfl hk
   refine Om rfl ?_
   apply o_and 64 70 rfl
   ·intro g17_12 hk
    try simp only [nb] at g17_12
    refine o_fieldAddr rfl (.met rfl rfl) rfl ?_
    refine o_lO1 rfl (.met rfl rfl) rfl ?_
    first | refine o_ixD rfl rfl 3 rfl (.met rfl rfl) rfl ?_ | refine o_ixP rfl rfl 3 rfl (.met rfl rfl) rfl ?_
    refine o_lIS rfl (.met rfl rfl) rfl ?_
    refine o_call rfl (.met rfl rfl) rfl (f_form_typed (hf.rp 3 (by omega)) (Tree.size_maxN (by omega)) _) ?_
    rintro _ _ _ _ ⟨rfl, rfl, rfl⟩
    refine Ot rfl rfl ?_
    exact o_fin 5 rfl rfl hk
   ·intro _ hk
    refine o_skips 5 rfl ?_
    refine Of rfl rfl ?_
    exact o_fin 5 rfl rfl hk
   refine Om rfl ?_
   apply o_and 71 77 rfl
   ·intro g17_19 hk
    try simp only [nb] at g17_19
    refine o_fieldAddr rfl (.met rfl rfl) rfl ?_
    refine o_lO1 rfl (.met rfl rfl) rfl ?_
    first | refine o_ixD rfl rfl 4 rfl (.met rfl rfl) rfl ?_ | refine o_ixP rfl rfl 4 rfl (.met rfl rfl) rfl ?_
    refine o_lIS rfl (.met rfl rfl) rfl ?_
    refine o_call rfl (.met rfl rfl) rfl (f_form_typed (hf.rp 4 (by omega)) (Tree.size_maxN (by omega)) _) ?_
    rintro _ _ _ _ ⟨rfl, rfl, rfl⟩
    refine Ot rfl rfl ?_
    exact o_fin 5 rfl rfl hk
   ·intro _ hk
    refine o_skips 5 rfl ?_
    refine Of rfl rfl ?_
    exact o_fin 5 rfl rfl hk
   refine Oa rfl (o_done (s_ret (.tmp rfl .nil) ?_))
   refine done_fgt e drops ?_
   rw [hks, exTail, if_neg (show ¬ t.head = tLet from c4), if_pos (show t.head = tFun from c5)]
   simp [retOne]
  intro c5
  try simp only [nb] at c5
  refine s_skip (s_inBlock (Se rfl (Oa rfl (o_done (s_ret (.tmp rfl .nil) ?_)))))
  refine done_fgt e drops ?_
  rw [hks, exTail, if_neg (show ¬ t.head = tLet from c4), if_neg (show ¬ t.head = tFun from c5)]; rfl
theorem good_ne {t : Tree} (hg : t.good = true) (h : t.atom = []) : t.parts ≠ [] ∧ 0 < t.parts.length := by
 have : t.parts ≠ [] := by rcases t.good_cases hg with hh | hh <;> simp_all
 exact ⟨this, List.length_pos_iff.2 this⟩
theorem good_nil {t : Tree} (hg : t.good = true) (h : t.atom ≠ []) : t.parts = [] := by rcases t.good_cases hg with hh | hh <;> simp_all
theorem head_at {t : Tree} (h : 0 < t.parts.length) : t.head = (t.pt 0).atom := by
 cases t with
 | node a ps => cases ps with
  | nil => simp [Tree.parts] at h
  | cons p ps => rfl
theorem ex_atom {t : Tree} (h : t.parts = []) : t.ex.isSome = (isName t.atom || isNum t.atom) := by
 cases t with
 | node a ps =>
  simp only [Tree.parts] at h
  subst h
  simp only [Tree.atom, Tree.ex]
  cases isName a <;> cases isNum a <;> rfl
/-- What the range of kids says of the head. -/
theorem range_facts (h : Txt) : (kidRange h).1 ≤ (kidRange h).2 ∧ (kidRange h).2 ≤ 6 ∧ ((kidRange h).1 = 0 → (kidRange h).2 = 0) ∧ ((kidRange h).1 ≠ 0 → (kidRange h).1 < (kidRange h).2) ∧ (1 < (kidRange h).1 ↔ h = tLet ∨ h = tFun) ∧ ((kidRange h).1 = 5 ↔ h = tFun) ∧ ((kidRange h).1 = 5 → (kidRange h).2 = 6) := by
 rcases kidRange_cases h with ⟨o, e, hr⟩ | ⟨e, hr⟩ | ⟨e, hr⟩ | ⟨e, hr⟩ | ⟨o, e, hr⟩ | ⟨hr, _, _, _, h4, h5⟩
 ·rw [hr, e]; have := o.txt_ne; simp [this]
 ·rw [hr, e]; simp; decide
 ·rw [hr, e]; simp; decide
 ·rw [hr, e]; simp
 ·rw [hr, e]; have := o.txt_ne; simp [this]
 ·rw [hr]; simp [h4, h5]
theorem kids_range {t : Tree} (h : t.parts.length = (kidRange t.head).2) : kids t = List.range' (kidRange t.head).1 ((kidRange t.head).2 - (kidRange t.head).1) := if_pos h

theorem g_l2Valid : ∀ (n : Nat) {I : Heap} {t : Tree} {cs : List Value} (_ : SizeOf.sizeOf t < n) (_ : Rep I t cs) (_ : t.good = true) (_ : t.len ≤ 12000000) (L : Own),
  Fun Tryz.prog 66 [.agg cs.toArray] I L (Only (.bool t.ex.isSome) I L) := by
 intro n
 induction n with
 | zero => intro I t cs h; omega
 | succ n ihn =>
  intro I t cs hlt h hg hz L
  obtain ⟨oa, c, oaf, cf, rfl, hf⟩ := h.at'
  have hp := hf.len
  have ha := hf.alen
  unfold maxN at hp
  refine fun_intro (by simp) ?_
  refine Se rfl ?_
  refine o_box rfl rfl .free rfl ?_
  intro b1
  refine Oa rfl (o_done (s_seq (Se rfl (Oh rfl ?_))))
  refine o_lO1 rfl .free rfl ?_
  refine Od rfl rfl rfl (o_done ?_)
  refine s_cond rfl ?_ ?_
  ·intro c0
   try simp only [nb] at c0
   refine Se rfl (Oh rfl ?_)
   refine o_lO1 rfl .free rfl ?_
   refine o_call rfl .free rfl (g_l2Number t.atom ha _ _) ?_
   rintro _ _ _ _ ⟨rfl, rfl, rfl⟩
   refine Om rfl (Oe rfl rfl (Oe rfl rfl (Oa rfl (Oa rfl (o_done (Se rfl (Om rfl (Om rfl ?_))))))))
   apply o_or 18 22 rfl
   ·intro g3_2 hk
    try simp only [nb] at g3_2
    refine o_fieldAddr rfl (.met rfl rfl) rfl ?_
    refine o_lO1 rfl (.met rfl rfl) rfl ?_
    refine o_call rfl (.met rfl rfl) rfl (g_l2Name t.atom ha _ _) ?_
    rintro _ _ _ _ ⟨rfl, rfl, rfl⟩
    refine Of rfl rfl ?_
    exact o_fin 3 rfl rfl hk
   ·intro _ hk
    refine o_skips 3 rfl ?_
    refine Ot rfl rfl ?_
    exact o_fin 3 rfl rfl hk
   refine Oa rfl (o_done (s_ret (.tmp rfl .nil) ?_))
   refine only rfl ?_
   rw [ex_atom (good_nil hg (by simpa using c0))]
   exact congrArg Value.bool (Bool.or_comm ..)
  intro c0
  try simp only [nb] at c0
  obtain ⟨hne, h0⟩ := good_ne hg (by simpa using c0)
  have hhd := head_at h0
  obtain ⟨k1, k2, k3, k4, k5, k6, k7⟩ := range_facts t.head
  refine s_skip (Se rfl (Oh rfl ?_))
  refine o_lO1 rfl .free rfl ?_
  first | refine o_ixD rfl rfl 0 rfl .free rfl ?_ | refine o_ixP rfl rfl 0 rfl .free rfl ?_
  refine o_fieldAddr' rfl .free rfl ?_
  refine o_lIF rfl .free rfl ?_
  refine o_call rfl .free rfl (g_l2Kids (t.pt 0).atom _ _) ?_
  rw [← hhd]; rintro _ _ _ _ ⟨rfl, rfl, rfl⟩
  refine Om rfl (Oe rfl rfl (Oe rfl rfl (Oa rfl (Oa rfl (o_done (s_seq (Se rfl (Om rfl (Oc rfl rfl rfl (Om rfl ?_))))))))))
  apply o_or 34 40 rfl
  ·intro g5_3 hk
   try simp only [nb] at g5_3
   refine o_fieldAddr rfl (.met rfl rfl) rfl ?_
   refine o_lO1 rfl (.met rfl rfl) rfl ?_
   refine o_len_slice rfl (.met rfl rfl) rfl ?_
   refine Ow rfl ?_
   refine o_cmp rfl rfl rfl (.met rfl rfl) rfl ?_
   refine Of rfl rfl ?_
   exact o_fin 5 rfl rfl hk
  ·intro _ hk
   refine o_skips 5 rfl ?_
   refine Ot rfl rfl ?_
   exact o_fin 5 rfl rfl hk
  refine o_done ?_
  refine s_cond rfl ?_ ?_
  ·intro c1
   try simp only [nb] at c1
   refine Se rfl (Oa rfl (o_done (s_ret (.tmp rfl .nil) ?_)))
   refine only rfl ?_
   have hk : kids t = [] := by
    unfold kids
    split
    ·have : (kidRange t.head).1 = 0 := by omega
     rw [this, k3 this]; rfl
    ·rfl
   rw [kids_none hne hk]; rfl
  intro c1
  try simp only [nb] at c1
  have hl : t.parts.length = (kidRange t.head).2 := by omega
  have hkr := kids_range hl
  have hk0 : kids t ≠ [] := by
   intro e; rw [e] at hkr; have := congrArg List.length hkr; simp at this; omega
  have hks := kids_some hk0
  refine s_skip (s_seq (Se rfl (Om rfl (Oc rfl rfl rfl (Om rfl ?_)))))
  apply o_and 43 51 rfl
  ·intro g7_3 hk
   try simp only [nb] at g7_3
   have hl1 : 1 < t.parts.length := by omega
   have ha1 := (hf.rp 1 hl1).atom_le
   refine o_fieldAddr rfl (.met rfl rfl) rfl ?_
   refine o_lO1 rfl (.met rfl rfl) rfl ?_
   first | refine o_ixD rfl rfl 1 rfl (.met rfl rfl) rfl ?_ | refine o_ixP rfl rfl 1 rfl (.met rfl rfl) rfl ?_
   refine o_fieldAddr' rfl (.met rfl rfl) rfl ?_
   refine o_lIF rfl (.met rfl rfl) rfl ?_
   refine o_call rfl (.met rfl rfl) rfl (g_l2Name (t.pt 1).atom ha1 _ _) ?_
   rintro _ _ _ _ ⟨rfl, rfl, rfl⟩
   refine o_not rfl (.met rfl rfl) rfl ?_
   refine Ot rfl rfl ?_
   exact o_fin 7 rfl rfl hk
  ·intro _ hk
   refine o_skips 7 rfl ?_
   refine Of rfl rfl ?_
   exact o_fin 7 rfl rfl hk
  refine o_done ?_
  refine s_cond rfl ?_ ?_
  ·intro c2
   try simp only [nb] at c2
   refine Se rfl (Oa rfl (o_done (s_ret (.tmp rfl .nil) ?_)))
   refine only rfl ?_
   have hl1 : 1 < t.parts.length := by omega
   have h1 : 1 < (kidRange t.head).1 := by omega
   rw [hks, exTail]
   rcases k5.1 h1 with e | e
   ·rw [if_pos e, c2.2]; simp [retOne]
   ·rw [if_neg (by rw [e]; decide), if_pos e, c2.2]; simp [retOne]
  intro c2
  try simp only [nb] at c2
  refine s_skip (s_seq (s_seq ?_))
  refine d_all 40 rfl rfl ?_
  refine Da 0 rfl (y_move rfl) ?_
  refine Da 1 rfl (y_cmp rfl rfl rfl) ?_
  refine Da 2 rfl (y_move rfl) ?_
  apply d_and 54 91 rfl
  ·intro g9_3 hk
   try simp only [nb] at g9_3
   have h56 : (kidRange t.head).1 = 5 := by omega
   have h6 := k7 h56
   have ha1 := (hf.rp 1 (by omega)).atom_le
   have ha2 := (hf.rp 2 (by omega)).atom_le
   have hz3 := t.pt_len 3 (by omega)
   have hz4 := t.pt_len 4 (by omega)
   have hg3 := Tree.pt_good hg 3 (by omega)
   have hg4 := Tree.pt_good hg 4 (by omega)
   refine d_takeA 3 rfl (by kernel_rfl) rfl (.inr heldx) (y_fieldAddr rfl) (.met rfl rfl) rfl ?_
   refine d_take 4 [40] rfl (by kernel_rfl) rfl heldx (y_lO1 rfl) (.met rfl rfl) rfl ?_
   first | refine d_takeA 5 rfl (by kernel_rfl) rfl (.inr heldx) (y_ixD rfl rfl 2 rfl) (.met rfl rfl) rfl ?_ | refine d_takeA 5 rfl (by kernel_rfl) rfl (.inr heldx) (y_ixP rfl rfl 2 rfl) (.met rfl rfl) rfl ?_
   refine d_takeA 6 rfl (by kernel_rfl) rfl (.inr heldx) (y_fieldAddr' rfl) (.met rfl rfl) rfl ?_
   refine d_take 7 [40] rfl (by kernel_rfl) rfl heldx (y_lIF rfl) (.met rfl rfl) rfl ?_
   refine d_call 8 rfl (by kernel_rfl) rfl rfl (.met rfl rfl) rfl (g_l2Name (t.pt 2).atom ha2 _ _) ?_
   rintro _ _ _ _ ⟨rfl, rfl, rfl⟩
   refine ⟨(.inr heldx), ?_⟩
   refine d_takeA 9 rfl (by kernel_rfl) rfl (.inr heldx) (y_not rfl) (.met rfl rfl) rfl ?_
   refine d_takeA 10 rfl (by kernel_rfl) rfl (.inr heldx) (y_move rfl) (.met rfl rfl) rfl ?_
   apply d_or 62 74 rfl
   ·intro g9_11 hk
    try simp only [nb] at g9_11
    refine d_takeA 11 rfl (by kernel_rfl) rfl (.inr heldx) (y_fieldAddr rfl) (.met rfl rfl) rfl ?_
    refine d_take 12 [40] rfl (by kernel_rfl) rfl heldx (y_lO1 rfl) (.met rfl rfl) rfl ?_
    first | refine d_takeA 13 rfl (by kernel_rfl) rfl (.inr heldx) (y_ixD rfl rfl 1 rfl) (.met rfl rfl) rfl ?_ | refine d_takeA 13 rfl (by kernel_rfl) rfl (.inr heldx) (y_ixP rfl rfl 1 rfl) (.met rfl rfl) rfl ?_
    refine d_takeA 14 rfl (by kernel_rfl) rfl (.inr heldx) (y_fieldAddr' rfl) (.met rfl rfl) rfl ?_
    refine d_take 15 [40] rfl (by kernel_rfl) rfl heldx (y_lIF rfl) (.met rfl rfl) rfl ?_
    refine d_takeA 16 rfl (by kernel_rfl) rfl (.inr heldx) (y_fieldAddr rfl) (.met rfl rfl) rfl ?_
    refine d_take 17 [40] rfl (by kernel_rfl) rfl heldx (y_lO1 rfl) (.met rfl rfl) rfl ?_
    first | refine d_takeA 18 rfl (by kernel_rfl) rfl (.inr heldx) (y_ixD rfl rfl 2 rfl) (.met rfl rfl) rfl ?_ | refine d_takeA 18 rfl (by kernel_rfl) rfl (.inr heldx) (y_ixP rfl rfl 2 rfl) (.met rfl rfl) rfl ?_
    refine d_takeA 19 rfl (by kernel_rfl) rfl (.inr heldx) (y_fieldAddr' rfl) (.met rfl rfl) rfl ?_
    refine d_take 20 [40] rfl (by kernel_rfl) rfl heldx (y_lIF rfl) (.met rfl rfl) rfl ?_
    refine d_takeA 21 rfl (by kernel_rfl) rfl (.inr heldx) (y_cmps rfl rfl rfl) (.met rfl rfl) rfl ?_
    refine d_takeA 22 rfl (by kernel_rfl) rfl (.inr heldx) (y_pick_false rfl rfl) (.met rfl rfl) rfl ?_
    exact d_fin 11 rfl rfl hk
   ·intro _ hk
    refine Ds 11 rfl rfl rfl ?_
    refine Ds 12 rfl rfl rfl ?_
    refine Ds 13 rfl rfl rfl ?_
    refine Ds 14 rfl rfl rfl ?_
    refine Ds 15 rfl rfl rfl ?_
    refine Ds 16 rfl rfl rfl ?_
    refine Ds 17 rfl rfl rfl ?_
    refine Ds 18 rfl rfl rfl ?_
    refine Ds 19 rfl rfl rfl ?_
    refine Ds 20 rfl rfl rfl ?_
    refine Ds 21 rfl rfl rfl ?_
    refine d_takeA 22 rfl (by kernel_rfl) rfl (.inr heldx) (y_pick_true rfl rfl) (.met rfl rfl) rfl ?_
    exact d_fin 11 rfl rfl hk
   refine d_takeA 23 rfl (by kernel_rfl) rfl (.inr heldx) (y_move rfl) (.met rfl rfl) rfl ?_
   apply d_or 75 82 rfl
   ·intro g9_24 hk
    try simp only [nb] at g9_24
    refine d_takeA 24 rfl (by kernel_rfl) rfl (.inr heldx) (y_fieldAddr rfl) (.met rfl rfl) rfl ?_
    refine d_take 25 [40] rfl (by kernel_rfl) rfl heldx (y_lO1 rfl) (.met rfl rfl) rfl ?_
    first | refine d_takeA 26 rfl (by kernel_rfl) rfl (.inr heldx) (y_ixD rfl rfl 3 rfl) (.met rfl rfl) rfl ?_ | refine d_takeA 26 rfl (by kernel_rfl) rfl (.inr heldx) (y_ixP rfl rfl 3 rfl) (.met rfl rfl) rfl ?_
    refine d_take 27 [40] rfl (by kernel_rfl) rfl heldx (y_lIS rfl) (.met rfl rfl) rfl ?_
    refine d_call 28 rfl (by kernel_rfl) rfl rfl (.met rfl rfl) rfl (g_l1Typed (hf.rp 3 (by omega)) hg3 (Tree.size_maxN (by omega)) _) ?_
    rintro _ _ _ _ ⟨rfl, rfl, rfl⟩
    refine ⟨(.inr heldx), ?_⟩
    refine d_takeA 29 rfl (by kernel_rfl) rfl (.inr heldx) (y_not rfl) (.met rfl rfl) rfl ?_
    refine d_takeA 30 rfl (by kernel_rfl) rfl (.inr heldx) (y_pick_false rfl rfl) (.met rfl rfl) rfl ?_
    exact d_fin 6 rfl rfl hk
   ·intro _ hk
    refine Ds 24 rfl rfl rfl ?_
    refine Ds 25 rfl rfl rfl ?_
    refine Ds 26 rfl rfl rfl ?_
    refine Ds 27 rfl rfl rfl ?_
    refine Ds 28 rfl rfl rfl ?_
    refine Ds 29 rfl rfl rfl ?_
    refine d_takeA 30 rfl (by kernel_rfl) rfl (.inr heldx) (y_pick_true rfl rfl) (.met rfl rfl) rfl ?_
    exact d_fin 6 rfl rfl hk
   refine d_takeA 31 rfl (by kernel_rfl) rfl (.inr heldx) (y_move rfl) (.met rfl rfl) rfl ?_
   apply d_or 83 90 rfl
   ·intro g9_32 hk
    try simp only [nb] at g9_32
    refine d_takeA 32 rfl (by kernel_rfl) rfl (.inr heldx) (y_fieldAddr rfl) (.met rfl rfl) rfl ?_
    refine d_take 33 [40] rfl (by kernel_rfl) rfl heldx (y_lO1 rfl) (.met rfl rfl) rfl ?_
    first | refine d_takeA 34 rfl (by kernel_rfl) rfl (.inr heldx) (y_ixD rfl rfl 4 rfl) (.met rfl rfl) rfl ?_ | refine d_takeA 34 rfl (by kernel_rfl) rfl (.inr heldx) (y_ixP rfl rfl 4 rfl) (.met rfl rfl) rfl ?_
    refine d_take 35 [40] rfl (by kernel_rfl) rfl heldx (y_lIS rfl) (.met rfl rfl) rfl ?_
    refine d_call 36 rfl (by kernel_rfl) rfl rfl (.met rfl rfl) rfl (g_l1Typed (hf.rp 4 (by omega)) hg4 (Tree.size_maxN (by omega)) _) ?_
    rintro _ _ _ _ ⟨rfl, rfl, rfl⟩
    refine ⟨(.inr heldx), ?_⟩
    refine d_takeA 37 rfl (by kernel_rfl) rfl (.inr heldx) (y_not rfl) (.met rfl rfl) rfl ?_
    refine d_takeA 38 rfl (by kernel_rfl) rfl (.inr heldx) (y_pick_false rfl rfl) (.met rfl rfl) rfl ?_
    exact d_fin 6 rfl rfl hk
   ·intro _ hk
    refine Ds 32 rfl rfl rfl ?_
    refine Ds 33 rfl rfl rfl ?_
    refine Ds 34 rfl rfl rfl ?_
    refine Ds 35 rfl rfl rfl ?_
    refine Ds 36 rfl rfl rfl ?_
    refine Ds 37 rfl rfl rfl ?_
    refine d_takeA 38 rfl (by kernel_rfl) rfl (.inr heldx) (y_pick_true rfl rfl) (.met rfl rfl) rfl ?_
    exact d_fin 6 rfl rfl hk
   refine Da 39 rfl (y_pick_true rfl rfl) ?_
   exact d_fin 13 rfl rfl hk
  ·intro _ hk
   refine Ds 3 rfl rfl rfl ?_
   refine Ds 4 rfl rfl rfl ?_
   refine Ds 5 rfl rfl rfl ?_
   refine Ds 6 rfl rfl rfl ?_
   refine Ds 7 rfl rfl rfl ?_
   refine Ds 8 rfl rfl rfl ?_
   refine Ds 9 rfl rfl rfl ?_
   refine Ds 10 rfl rfl rfl ?_
   refine d_takeskipu 11 rfl (by kernel_rfl) rfl (.inr heldx) rfl rfl rfl ?_
   refine d_takeskipu 12 rfl (by kernel_rfl) rfl (.inr heldx) rfl rfl rfl ?_
   refine d_takeskipu 13 rfl (by kernel_rfl) rfl (.inr heldx) rfl rfl rfl ?_
   refine d_takeskipu 14 rfl (by kernel_rfl) rfl (.inr heldx) rfl rfl rfl ?_
   refine d_takeskipu 15 rfl (by kernel_rfl) rfl (.inr heldx) rfl rfl rfl ?_
   refine d_takeskipu 16 rfl (by kernel_rfl) rfl (.inr heldx) rfl rfl rfl ?_
   refine d_takeskipu 17 rfl (by kernel_rfl) rfl (.inr heldx) rfl rfl rfl ?_
   refine d_takeskipu 18 rfl (by kernel_rfl) rfl (.inr heldx) rfl rfl rfl ?_
   refine d_takeskipu 19 rfl (by kernel_rfl) rfl (.inr heldx) rfl rfl rfl ?_
   refine d_takeskipu 20 rfl (by kernel_rfl) rfl (.inr heldx) rfl rfl rfl ?_
   refine d_takeskipu 21 rfl (by kernel_rfl) rfl (.inr heldx) rfl rfl rfl ?_
   refine Ds 22 rfl rfl rfl ?_
   refine Ds 23 rfl rfl rfl ?_
   refine d_takeskipu 24 rfl (by kernel_rfl) rfl (.inr heldx) rfl rfl rfl ?_
   refine d_takeskipu 25 rfl (by kernel_rfl) rfl (.inr heldx) rfl rfl rfl ?_
   refine d_takeskipu 26 rfl (by kernel_rfl) rfl (.inr heldx) rfl rfl rfl ?_
   refine d_takeskipu 27 rfl (by kernel_rfl) rfl (.inr heldx) rfl rfl rfl ?_
   refine d_takeskipu 28 rfl (by kernel_rfl) rfl (.inr heldx) rfl rfl rfl ?_
   refine d_takeskipu 29 rfl (by kernel_rfl) rfl (.inr heldx) rfl rfl rfl ?_
   refine Ds 30 rfl rfl rfl ?_
   refine Ds 31 rfl rfl rfl ?_
   refine d_takeskipu 32 rfl (by kernel_rfl) rfl (.inr heldx) rfl rfl rfl ?_
   refine d_takeskipu 33 rfl (by kernel_rfl) rfl (.inr heldx) rfl rfl rfl ?_
   refine d_takeskipu 34 rfl (by kernel_rfl) rfl (.inr heldx) rfl rfl rfl ?_
   refine d_takeskipu 35 rfl (by kernel_rfl) rfl (.inr heldx) rfl rfl rfl ?_
   refine d_takeskipu 36 rfl (by kernel_rfl) rfl (.inr heldx) rfl rfl rfl ?_
   refine d_takeskipu 37 rfl (by kernel_rfl) rfl (.inr heldx) rfl rfl rfl ?_
   refine Ds 38 rfl rfl rfl ?_
   refine Da 39 rfl (y_pick_false rfl rfl) ?_
   exact d_fin 36 rfl rfl hk
  refine d_done (by kernel_rfl) ?_
  refine s_cond rfl ?_ ?_
  ·intro c3
   try simp only [nb] at c3
   have h56 : (kidRange t.head).1 = 5 := by omega
   have h6 := k7 h56
   refine Se rfl (Oa rfl (o_done (s_ret (.tmp rfl .nil) ?_)))
   refine only rfl ?_
   have hh := k6.1 h56
   rw [hks, exTail, if_neg (by rw [hh]; decide), if_pos hh]
   have : (isName (t.pt 1).atom && isName (t.pt 2).atom && decide ((t.pt 1).atom ≠ (t.pt 2).atom) && (t.pt 3).typed && (t.pt 4).typed) = false := by
    have := c3.2
    grind
   rw [this]; simp [retOne]
  intro c3
  try simp only [nb] at c3
  have htail : exTail t = true := by
   unfold exTail
   by_cases e : t.head = tLet
   ·rw [if_pos e]
    have := k5.2 (.inl e)
    rcases c2 with h | h
    ·omega
    ·simpa using h
   ·rw [if_neg e]
    by_cases e' : t.head = tFun
    ·have h5 := k6.2 e'
     have h6 := k7 h5
     rw [if_pos e']
     grind
    ·rw [if_neg e']
  refine s_skip (s_seq (Se rfl (Om rfl (Oa rfl (o_done (s_block ?_))))))
  refine s_while (X := Nat) (fun j => (kids t).length - j) (fun j => [(1, .pointer (some ⟨b1, 0, none⟩)), (6, .int .i64 ((kidRange t.head).2 : Nat)), (7, .int .i64 (((kidRange t.head).1 + j : Nat)))]) (fun _ => I) (fun _ => (b1, .cells [.string (str t.atom), .slice oa t.parts.length c].toArray _ (0, 0)) :: L) (fun j => j ≤ (kids t).length ∧ ((kids t).take j).all (fun i => (t.pt i).ex.isSome) = true) 0 ⟨by omega, rfl⟩ ⟨rfl, rfl, rfl, trivial⟩ drops ?_
  rintro j ⟨hj, hall⟩ ih
  have hkl : (kids t).length = (kidRange t.head).2 - (kidRange t.head).1 := by rw [hkr, List.length_range']
  refine s_seq (Se rfl (Om rfl (Om rfl (Oc rfl rfl rfl (o_done ?_)))))
  refine s_cond rfl ?_ ?_
  ·intro c4
   try simp only [nb] at c4
   have hjl : j < (kids t).length := by omega
   have hkj : (kids t)[j] = (kidRange t.head).1 + j := by simp only [hkr, List.getElem_range']; omega
   have hkt : (kidRange t.head).1 + j < t.parts.length := by omega
   refine s_skip (s_seq (s_block (Se rfl (Oh rfl ?_))))
   refine o_lO1 rfl .free rfl ?_
   refine Om rfl ?_
   first | refine o_ixD rfl rfl _ rfl .free rfl ?_ | refine o_ixP rfl rfl _ rfl .free rfl ?_
   refine o_lIS rfl .free rfl ?_
   refine o_call rfl .free rfl (ihn (t := t.pt ((kidRange t.head).1 + j)) (by have := t.pt_lt _ hkt; omega) (hf.rp _ hkt) (Tree.pt_good hg _ hkt) (by have := t.pt_len _ hkt; omega) _) ?_
   rintro _ _ _ _ ⟨rfl, rfl, rfl⟩
   refine o_not rfl .free rfl ?_
   refine o_done ?_
   refine s_cond rfl ?_ ?_
   ·intro c5
    try simp only [nb] at c5
    refine Se rfl (Oa rfl (o_done (s_ret (.tmp rfl .nil) ?_)))
    refine only rfl ?_
    rw [hks]
    have : (kids t).all (fun i => (t.pt i).ex.isSome) = false := by
     rw [List.all_eq_false]; exact ⟨_, List.getElem_mem hjl, by rw [hkj]; simpa using c5⟩
    rw [this]; rfl
   intro c5
   try simp only [nb] at c5
   refine s_skip (s_inBlock (o_enter rfl (Om rfl ?_)))
   refine Or rfl rfl rfl ?_
   refine Oa rfl (o_done ?_)
   refine s_env (E' := [(1, .pointer (some ⟨b1, 0, none⟩)), (6, .int .i64 ((kidRange t.head).2 : Nat)), (7, .int .i64 (((kidRange t.head).1 + (j + 1) : Nat)))]) ⟨rfl, rfl, rfl, trivial⟩ (ih (j + 1) ⟨by omega, ?_⟩ (by omega))
   rw [List.take_succ_eq_append_getElem hjl, List.all_append, hall]
   simp only [List.all_cons, List.all_nil, Bool.and_true, Bool.true_and]
   rw [hkj]; simpa using c5
  intro c4
  try simp only [nb] at c4
  refine s_exit rfl ?_
  refine Se rfl (Oa rfl (o_done (s_ret (.tmp rfl .nil) ?_)))
  refine only rfl ?_
  obtain rfl : j = (kids t).length := by omega
  rw [List.take_length] at hall
  rw [hks, hall, htail]; rfl

/-- What has been written when 'i' parts are. -/
def outT (ps : List Tree) (i : Nat) : Txt := if i = 0 then [40] else openT (ps.take i)
theorem outT_succ (ps : List Tree) (i : Nat) (hi : i < ps.length) : outT ps (i + 1) = (if i = 0 then outT ps i else outT ps i ++ [32]) ++ ps[i].text := by
 unfold outT
 rw [if_neg (by omega), openT_take ps i hi]
 by_cases h : i = 0
 ·simp [h, openT]
 ·simp [h]
theorem outT_len (ps : List Tree) (i : Nat) (hi : i ≤ ps.length) : (outT ps i).length ≤ 1 + (openT ps).length := by
 unfold outT
 split
 ·simp
 ·have := openT_len ps i; omega
theorem g_l1Text : ∀ (n : Nat) {I : Heap} {t : Tree} {cs : List Value} (_ : SizeOf.sizeOf t < n) (_ : Rep I t cs) (_ : t.good = true) (_ : t.len ≤ 12000000) (L : Own),
  Fun Tryz.prog 39 [.agg cs.toArray] I L (Only (.string (str t.text)) I L) := by
 intro n
 induction n with
 | zero => intro I t cs h; omega
 | succ n ihn =>
  intro I t cs hlt h hg hz L
  obtain ⟨oa, c, oaf, cf, rfl, hf⟩ := h.at'
  have hp := hf.len
  unfold maxN at hp
  refine fun_intro (by simp) ?_
  refine Se rfl ?_
  refine o_box rfl rfl .free rfl ?_
  intro b1
  refine Oa rfl (o_done (s_seq (Se rfl (Oh rfl ?_))))
  refine o_lO1 rfl .free rfl ?_
  refine Od rfl rfl rfl (o_done ?_)
  refine s_cond rfl ?_ ?_
  ·intro c0
   try simp only [nb] at c0
   refine Se rfl (Oh rfl ?_)
   refine o_lO1 rfl .free rfl ?_
   refine Oa rfl (o_done (s_ret (.tmp rfl .nil) ?_))
   refine only rfl ?_
   rw [t.text_atom (good_nil hg (by simpa using c0))]; rfl
  intro c0
  try simp only [nb] at c0
  obtain ⟨hne, h0⟩ := good_ne hg (by simpa using c0)
  have htx := t.text_eq hne
  have htl := t.text_len
  rw [htx, List.length_append] at htl
  simp only [List.length_cons, List.length_nil] at htl
  refine s_skip (Se rfl (Oa rfl (o_done (s_seq (Se rfl (Oa rfl (o_done (s_block ?_))))))))
  refine s_while (X := Nat) (fun i => t.parts.length - i) (fun i => [(1, .pointer (some ⟨b1, 0, none⟩)), (3, .string (str (outT t.parts i))), (4, .int .i64 (i : Nat))]) (fun _ => I) (fun _ => (b1, .cells [.string (str t.atom), .slice oa t.parts.length c].toArray _ (0, 0)) :: L) (fun i => i ≤ t.parts.length) 0 (by omega) ⟨rfl, rfl, rfl, trivial⟩ drops ?_
  rintro i hi ih
  have hol := outT_len t.parts i hi
  refine s_seq (Se rfl (Om rfl (Oh rfl ?_)))
  refine o_lO1 rfl .free rfl ?_
  refine On rfl (Oc rfl rfl rfl (o_done ?_))
  refine s_cond rfl ?_ ?_
  ·intro c1
   try simp only [nb] at c1
   have hpl := t.pt_len i (by omega)
   have hos := outT_succ t.parts i (by omega)
   rw [← Tree.pt_at (by omega)] at hos
   have hpt := (t.pt i).text_len
   refine s_skip (s_seq (s_block (s_seq (Se rfl (Om rfl (Oc rfl rfl rfl (o_done ?_)))))))
   refine s_cond rfl ?_ ?_
   ·intro c2
    try simp only [nb] at c2
    refine o_enter rfl (Om rfl ?_)
    refine Ok rfl rfl ?_
    refine Oa rfl (o_done (o_enter rfl (Om rfl (Oh rfl ?_))))
    refine o_lO1 rfl .free rfl ?_
    refine Om rfl ?_
    first | refine o_ixD rfl rfl _ rfl .free rfl ?_ | refine o_ixP rfl rfl _ rfl .free rfl ?_
    refine o_lIS rfl .free rfl ?_
    refine o_call rfl .free rfl (ihn (t := t.pt i) (by have := t.pt_lt i (by omega); omega) (hf.rp i (by omega)) (Tree.pt_good hg i (by omega)) (by omega) _) ?_
    rintro _ _ _ _ ⟨rfl, rfl, rfl⟩
    refine Ok rfl rfl ?_
    refine Oa rfl (o_done (s_inBlock (o_enter rfl (Om rfl ?_))))
    refine Or rfl rfl rfl ?_
    refine Oa rfl (o_done ?_)
    refine s_env (E' := [(1, .pointer (some ⟨b1, 0, none⟩)), (3, .string (str (outT t.parts (i + 1)))), (4, .int .i64 ((i + 1 : Nat)))]) ⟨rfl, ?_, rfl, trivial⟩ (ih (i + 1) (by omega) (by omega))
    first
     | (rw [hos, if_neg (by omega)]; rfl)
     | (rw [hos, if_pos (by omega)]; rfl)
   intro c2
   try simp only [nb] at c2
   refine s_skip (o_enter rfl (Om rfl (Oh rfl ?_)))
   refine o_lO1 rfl .free rfl ?_
   refine Om rfl ?_
   first | refine o_ixD rfl rfl _ rfl .free rfl ?_ | refine o_ixP rfl rfl _ rfl .free rfl ?_
   refine o_lIS rfl .free rfl ?_
   refine o_call rfl .free rfl (ihn (t := t.pt i) (by have := t.pt_lt i (by omega); omega) (hf.rp i (by omega)) (Tree.pt_good hg i (by omega)) (by omega) _) ?_
   rintro _ _ _ _ ⟨rfl, rfl, rfl⟩
   refine Ok rfl rfl ?_
   refine Oa rfl (o_done (s_inBlock (o_enter rfl (Om rfl ?_))))
   refine Or rfl rfl rfl ?_
   refine Oa rfl (o_done ?_)
   refine s_env (E' := [(1, .pointer (some ⟨b1, 0, none⟩)), (3, .string (str (outT t.parts (i + 1)))), (4, .int .i64 ((i + 1 : Nat)))]) ⟨rfl, ?_, rfl, trivial⟩ (ih (i + 1) (by omega) (by omega))
   first
    | (rw [hos, if_neg (by omega)]; rfl)
    | (rw [hos, if_pos (by omega)]; rfl)
  intro c1
  try simp only [nb] at c1
  obtain rfl : i = t.parts.length := by omega
  have hpos : outT t.parts t.parts.length = openT t.parts := by unfold outT; rw [if_neg (by omega), List.take_length]
  rw [hpos]
  refine s_exit rfl ?_
  refine Se rfl (Om rfl ?_)
  refine Ok rfl rfl ?_
  refine Oa rfl (o_done (s_ret (.tmp rfl .nil) ?_))
  refine only rfl ?_
  rw [htx]; rfl

theorem f_form_isExpression {I : Heap} {t : Tree} {cs : List Value} (h : Rep I t cs) (hg : t.good = true) (hz : t.len ≤ 12000000) (L : Own) :
  Fun Tryz.prog 63 [.agg cs.toArray] I L (Only (.bool (decide (t.size ≤ 120) && t.fits && t.ex.isSome)) I L) := by
 obtain ⟨oa, c, oaf, cf, rfl, hf⟩ := h.at'
 refine fun_intro (by simp) ?_
 refine Se rfl ?_
 refine o_box rfl rfl .free rfl ?_
 intro b1
 refine Oa rfl (o_done (Se rfl ?_))
 refine o_lOS rfl .free rfl ?_
 refine o_call rfl .free rfl (f_form_size _ (Nat.lt_succ_self _) h (Tree.size_maxN hz) _) ?_
 rintro _ _ _ _ ⟨rfl, rfl, rfl⟩
 refine Oc rfl rfl rfl (Om rfl ?_)
 apply o_and 6 9 rfl
 ·intro g1_4 hk
  try simp only [nb] at g1_4
  refine o_lOS rfl (.met rfl rfl) rfl ?_
  refine o_call rfl (.met rfl rfl) rfl (f_form_fits h (by unfold maxN; omega) _) ?_
  rintro _ _ _ _ ⟨rfl, rfl, rfl⟩
  refine Ot rfl rfl ?_
  exact o_fin 2 rfl rfl hk
 ·intro _ hk
  refine o_skips 2 rfl ?_
  refine Of rfl rfl ?_
  exact o_fin 2 rfl rfl hk
 refine Om rfl ?_
 apply o_and 10 13 rfl
 ·intro g1_8 hk
  try simp only [nb] at g1_8
  refine o_lOS rfl (.met rfl rfl) rfl ?_
  refine o_call rfl (.met rfl rfl) rfl (f_form_isExpr _ (Nat.lt_succ_self _) h hg hz _) ?_
  rintro _ _ _ _ ⟨rfl, rfl, rfl⟩
  refine Ot rfl rfl ?_
  exact o_fin 2 rfl rfl hk
 ·intro _ hk
  refine o_skips 2 rfl ?_
  refine Of rfl rfl ?_
  exact o_fin 2 rfl rfl hk
 refine Oa rfl (o_done (s_ret (.tmp rfl .nil) ?_))
 refine only rfl ?_
 have e : decide ((t.size : Int) ≤ 120) = decide (t.size ≤ 120) := by rw [Bool.eq_iff_iff]; simp; omega
 simp only [retOne, e]

/-- What reading an expression returns. -/
def RX (p : Option Ex) (L : Own) : Post := fun v I' L' => ∃ t cs ok, v = .tuple #[.agg cs.toArray, .bool ok] ∧ Rep I' t cs ∧ L = L' ∧
  (match p with
   | some e => ok = true ∧ t = e.tree
   | none => ok = false)
theorem RD_some {s : Txt} {t : Tree} {ok : Bool} (hpf : match parse s with | some t0 => ok = true ∧ t = t0 | none => ok = false) (h : ok = true) : parse s = some t := by
 cases hp : parse s with
 | none => rw [hp] at hpf; simp [h] at hpf
 | some t0 => rw [hp] at hpf; rw [hpf.2]
theorem parse_good {s : Txt} {t : Tree} (h : parse s = some t) : t.good = true ∧ t.len ≤ 12000000 ∧ t.fits = true := by
 obtain ⟨h1, h2, h3⟩ := parse_fits h
 simp only [Tree.fits, Bool.and_eq_true, decide_eq_true_eq] at h1
 exact ⟨h2, by omega, by simp [Tree.fits, h1]⟩
theorem exOf_of {s : Txt} {t : Tree} {ok : Bool} (hpf : match parse s with | some t0 => ok = true ∧ t = t0 | none => ok = false) (b : Bool) (hb : b = (ok && (decide (t.size ≤ 120) && t.ex.isSome))) :
  match exOf s with | some e => b = true ∧ t = e.tree | none => b = false := by
 cases ok with
 | false =>
  have hp : parse s = none := by
   cases hp : parse s with
   | none => rfl
   | some t0 => rw [hp] at hpf; exact absurd hpf.1 (by simp)
  unfold exOf
  rw [hp]; simpa using hb
 | true =>
  have hp := RD_some hpf rfl
  have hx : exOf s = match t.ex with | some e => (if e.size ≤ 120 then some e else none) | none => none := by unfold exOf; rw [hp] <;> rfl
  cases he : t.ex with
  | none =>
   have h2 : exOf s = none := by rw [hx, he]
   rw [h2]; simpa [he] using hb
  | some e =>
   obtain ⟨rfl, _⟩ := Tree.ex_tree (parse_good hp).1 he
   rw [Ex.tree_size] at hb
   by_cases hz : e.size ≤ 120
   ·have h2 : exOf s = some e := by rw [hx, he]; exact if_pos hz
    rw [h2]; exact ⟨by rw [hb]; simp [hz, he], rfl⟩
   ·have h2 : exOf s = none := by rw [hx, he]; exact if_neg hz
    rw [h2]; simp [hb, hz]
theorem f_readExpr (s : Txt) (hs : s.length ≤ maxN) (I : Heap) (L : Own) : Fun Tryz.prog 41 [.string (str s)] I L (RX (exOf s) L) := by
 refine fun_intro (by simp) ?_
 refine Se rfl ?_
 refine o_alloc .free rfl ?_
 intro b2
 refine Oa rfl (o_done (Se rfl (Om rfl ?_)))
 refine o_call rfl .free rfl (f_read s hs _ _) ?_
 rintro _ J _ hleJ ⟨t, cs, ok, rfl, hrep, rfl, hpf⟩
 obtain ⟨oa, cc, vs, rfl, -⟩ := hrep.open
 refine Om rfl (Oe rfl rfl (Oe rfl rfl ?_))
 refine o_alloc .free rfl ?_
 intro b4
 refine o_st rfl rfl rfl rfl .free ?_
 refine Oa rfl (o_done (s_seq ?_))
 refine d_all 8 rfl rfl ?_
 refine Dt 0 [6] rfl (y_lOS rfl) ?_
 refine Da 1 rfl (y_move rfl) ?_
 refine Da 2 rfl (y_move rfl) ?_
 apply d_and 13 16 rfl
 ·intro g2_3 hk
  try simp only [nb] at g2_3
  obtain ⟨hg, hz, hfit⟩ := parse_good (RD_some hpf g2_3)
  refine d_take 3 [4, 6] rfl (by kernel_rfl) rfl heldx (y_lOS rfl) (.met rfl rfl) rfl ?_
  refine d_call 4 rfl (by kernel_rfl) rfl rfl (.met rfl rfl) rfl (f_form_isExpression hrep hg hz _) ?_
  rintro _ _ _ _ ⟨rfl, rfl, rfl⟩
  refine ⟨(.inr heldx), ?_⟩
  refine Da 5 rfl (y_pick_true rfl rfl) ?_
  exact d_fin 2 rfl rfl hk
 ·intro _ hk
  refine Ds 3 rfl rfl rfl ?_
  refine Ds 4 rfl rfl rfl ?_
  refine Da 5 rfl (y_pick_false rfl rfl) ?_
  exact d_fin 2 rfl rfl hk
 refine d_st 6 rfl (by kernel_rfl) rfl rfl rfl rfl rfl .free (.inl (by kernel_rfl)) ?_
 refine d_takeA 7 rfl (by kernel_rfl) rfl (.inl (by kernel_rfl)) (y_assign rfl) .free rfl ?_
 refine d_done (by kernel_rfl) ?_
 refine s_ret (.c rfl (.tmp rfl .nil)) ?_
 refine ⟨J, L, hleJ, fun _ h => h.drop.drop, t, _, _, rfl, hrep, rfl, exOf_of hpf _ ?_⟩
 cases ok with
 | false => rfl
 | true =>
  obtain ⟨hg, hz, hfit⟩ := parse_good (RD_some hpf rfl)
  simp [hfit]
theorem g_l2Parse' (s : Txt) (hs : s.length ≤ maxL) (I : Heap) (L : Own) : Fun Tryz.prog 34 [.string (str s)] I L (RX (exOf s) L) := by
 refine fun_intro (by simp) ?_
 refine Se rfl ?_
 refine o_alloc .free rfl ?_
 intro b2
 refine Oa rfl (o_done (Se rfl (Om rfl ?_)))
 refine o_call rfl .free rfl (g_l1Parse' s hs _ _) ?_
 rintro _ J _ hleJ ⟨t, cs, ok, rfl, hrep, rfl, hpf⟩
 obtain ⟨oa, cc, vs, rfl, -⟩ := hrep.open
 refine Om rfl (Oe rfl rfl (Oe rfl rfl ?_))
 refine o_alloc .free rfl ?_
 intro b4
 refine o_st rfl rfl rfl rfl .free ?_
 refine Oa rfl (o_done (s_seq ?_))
 refine d_all 13 rfl rfl ?_
 refine Dt 0 [11] rfl (y_lOS rfl) ?_
 refine Da 1 rfl (y_move rfl) ?_
 refine Da 2 rfl (y_move rfl) ?_
 apply d_and 13 16 rfl
 ·intro g2_3 hk
  try simp only [nb] at g2_3
  obtain ⟨hg, hz, hfit⟩ := parse_good (RD_some hpf g2_3)
  refine d_take 3 [4, 6, 8, 11] rfl (by kernel_rfl) rfl heldx (y_lOS rfl) (.met rfl rfl) rfl ?_
  refine d_call 4 rfl (by kernel_rfl) rfl rfl (.met rfl rfl) rfl (g_l2Valid _ (Nat.lt_succ_self _) hrep hg hz _) ?_
  rintro _ _ _ _ ⟨rfl, rfl, rfl⟩
  refine ⟨(.inr heldx), ?_⟩
  refine Da 5 rfl (y_pick_true rfl rfl) ?_
  exact d_fin 2 rfl rfl hk
 ·intro _ hk
  refine Ds 3 rfl rfl rfl ?_
  refine Ds 4 rfl rfl rfl ?_
  refine Da 5 rfl (y_pick_false rfl rfl) ?_
  exact d_fin 2 rfl rfl hk
 refine Da 6 rfl (y_move rfl) ?_
 apply d_and 17 21 rfl
 ·intro g2_7 hk
  try simp only [nb] at g2_7
  obtain ⟨hg, hz, hfit⟩ := parse_good (RD_some hpf g2_7.1)
  refine d_take 7 [8, 11] rfl (by kernel_rfl) rfl heldx (y_lOS rfl) (.met rfl rfl) rfl ?_
  refine d_call 8 rfl (by kernel_rfl) rfl rfl (.met rfl rfl) rfl (g_l1Size _ (Nat.lt_succ_self _) hrep hg (Tree.size_maxN hz) _) ?_
  rintro _ _ _ _ ⟨rfl, rfl, rfl⟩
  refine ⟨(.inr heldx), ?_⟩
  refine d_takeA 9 rfl (by kernel_rfl) rfl (.inr heldx) (y_cmp rfl rfl rfl) (.met rfl rfl) rfl ?_
  refine Da 10 rfl (y_pick_true rfl rfl) ?_
  exact d_fin 3 rfl rfl hk
 ·intro _ hk
  refine Ds 7 rfl rfl rfl ?_
  refine Ds 8 rfl rfl rfl ?_
  refine Ds 9 rfl rfl rfl ?_
  refine Da 10 rfl (y_pick_false rfl rfl) ?_
  exact d_fin 3 rfl rfl hk
 refine d_st 11 rfl (by kernel_rfl) rfl rfl rfl rfl rfl .free (.inl (by kernel_rfl)) ?_
 refine d_takeA 12 rfl (by kernel_rfl) rfl (.inl (by kernel_rfl)) (y_assign rfl) .free rfl ?_
 refine d_done (by kernel_rfl) ?_
 refine s_ret (.c rfl (.tmp rfl .nil)) ?_
 refine ⟨J, L, hleJ, fun _ h => h.drop.drop, t, _, _, rfl, hrep, rfl, exOf_of hpf _ ?_⟩
 have e : decide ((t.size : Int) ≤ 120) = decide (t.size ≤ 120) := by rw [Bool.eq_iff_iff]; simp; omega
 rw [e]
 cases ok <;> cases t.ex.isSome <;> simp
theorem g_ExprValid' (s : Txt) (hs : s.length ≤ maxL) (I : Heap) (L : Own) : Fun Tryz.prog 38 [.string (str s)] I L (Only (.bool (exOf s).isSome) I L) := by
 refine fun_intro (by simp) ?_
 refine Se rfl (Oa rfl (o_done (Se rfl (Om rfl ?_))))
 refine o_call rfl .free rfl (g_l2Parse' s hs _ _) ?_
 rintro _ J _ hleJ ⟨t, cs, ok, rfl, hrep, rfl, hpf⟩
 obtain ⟨oa, cc, vs, rfl, -⟩ := hrep.open
 refine Om rfl (Oe rfl rfl (Oe rfl rfl ?_))
 refine o_alloc .free rfl ?_
 intro b3
 refine o_st rfl rfl rfl rfl .free ?_
 refine Oa rfl (o_done (Se rfl (Om rfl (Oa rfl (o_done (s_ret (.tmp rfl .nil) ?_))))))
 refine done_fgt hleJ drops ?_
 refine congrArg Value.bool ?_
 cases hp : exOf s with
 | none => rw [hp] at hpf; exact hpf
 | some e => rw [hp] at hpf; exact hpf.1
section rules
variable {P : Program} {f : FuncId} {n : Nat} {I₀ : Heap} {Q : Post} {k : List Item} {E : Env} {I : Heap} {L : Own}
variable {ops : Array Oper} {d : Nat} {ty : TypeId} {pos : String} {af : Array Edge} {g : Option (Nat × Bool)} {l : List Oper}
theorem x_lits {T e : TypeId} {parts : Array (Nat × Operand)} {is : List Nat} {vs us : List Value} {m : Nat} {sz bb esz ebb : Nat} {z ez : List Value} {dd : TypeDesc} [ht : TyIs P T (.slice e) sz bb z] [hte : TyIs P e dd esz ebb ez]
  (hp : parts.toList.map (·.1) = is) (ho : opds E (parts.toList.map (·.2)) = some vs) (hr : is = List.range' 0 vs.length) (hm : vs.length = m) (hfl : flatN esz vs = some us) (hm0 : m * esz ≠ 0) (hm1 : m * esz ≤ 2 ^ 24) (hez : ez.length = esz)
  (a : Act) (w : World) (he : EnvOk E a) (hmm : Mem I L w) :
  ∃ w', (execOp a.eval ⟨some d, .buildSlice T m parts, ty, pos, af, g⟩).run P w = .ok (.value (.slice (some ⟨w.heap.size, 0, none⟩) m m)) w' ∧ Mem I ((w.heap.size, .cells us.toArray e (0, 0)) :: L) w' := by
 have hfill : Instr.fill (fun i => some (i * esz, esz)) ((Array.range (m * esz)).map (ez.toArray[· % ez.toArray.size]!)) (is.zip vs) = some us.toArray := by
  rw [hr]
  have := flat_fill (esz := esz) 0 [] (((Array.range (m * esz)).map (ez.toArray[· % ez.toArray.size]!)).toList) hfl (by simp) (by simp [hm])
  rw [List.nil_append, List.nil_append, Array.toArray_toList] at this
  exact this
 refine ⟨{ w with heap := w.heap.push (.cells us.toArray e (0, 0)) }, ?_, hmm.alloc _⟩
 have h1 : parts.map (fun (i, x) => (i, a.eval x)) = (is.zip vs).toArray := by
  apply Array.ext'
  have := he.evals ho
  rw [← hp, ← this]
  simp [List.zip_map', Function.comp_def]
 simp only [execOp]
 rw [h1]
 refine run_bind_ok (a := .slice (some ⟨w.heap.size, 0, none⟩) m m) (w' := { w with heap := w.heap.push (.cells us.toArray e (0, 0)) }) ?_ |>.trans rfl
 unfold Instr.buildSlice
 rw [run_bind_ok (run_underlying ht.und w)]
 simp only []
 rw [run_bind_ok (run_sizeOf hte w)]
 rw [if_neg (by omega), if_neg hm0]
 obtain ⟨zv, hz1, hz2⟩ := run_zero hte w
 have hz3 : zv.cells = ez.toArray := by rw [← hz2]
 simp only [bind_assoc, pure_bind]
 rw [run_bind_ok hz1, hz3]
 rw [hfill]
 rfl
theorem d_lits {S : World → Prop} {fuel : Nat} {listed listed' : Array Bool} (i : Nat) {T e : TypeId} {parts : Array (Nat × Operand)} {is : List Nat} {vs us : List Value} {m : Nat} {sz bb esz ebb : Nat} {z ez : List Value} {dd : TypeDesc} [ht : TyIs P T (.slice e) sz bb z] [hte : TyIs P e dd esz ebb ez]
  (hi : ops[i]? = some ⟨some d, .buildSlice T m parts, ty, pos, af, g⟩) (hc : decide (Region.ready .any ops listed = [i]) = true) (hl : listed' = listed.setIfInBounds i true)
  (hp : parts.toList.map (·.1) = is) (ho : opds E (parts.toList.map (·.2)) = some vs) (hr : is = List.range' 0 vs.length) (hm : vs.length = m) (hfl : flatN esz vs = some us) (hm0 : m * esz ≠ 0) (hm1 : m * esz ≤ 2 ^ 24) (hez : ez.length = esz)
  (hg : Wants ops E g) (hdn : Nat.blt d n = true) (hS : heldB ops listed' = true ∨ ∀ w, Mem I L w → S w)
  (h : ∀ b, RunW P f n I₀ Q ops S fuel listed' k ((d, .slice (some ⟨b, 0, none⟩) m m) :: E) I ((b, .cells us.toArray e (0, 0)) :: L)) : RunW P f n I₀ Q ops S (fuel + 1) listed k E I L := by
 refine d_stepX i hi hc hl rfl hdn (fun a he => hg.wanted a he) fun a w he hmm => ?_
 obtain ⟨w', h1, h2⟩ := x_lits (P := P) (T := T) (e := e) (d := d) (ty := ty) (pos := pos) (af := af) (g := g) hp ho hr hm hfl hm0 hm1 hez a w he hmm
 exact ⟨_, w', I, _, h1, h2, hS.imp id fun hS w hw => hS w hw.drop, h _⟩
theorem d_freeze {S : World → Prop} {fuel : Nat} {listed : Array Bool} {b : Nat} {o : Obj} (h : HLe I (I.set b o) → RunW P f n I₀ Q ops S fuel listed k E (I.set b o) L) : RunW P f n I₀ Q ops S fuel listed k E I ((b, o) :: L) :=
 fun a w ha hd he hm => h hm.freeze.2 a w ha hd he hm.freeze.1
theorem d_mem {S : World → Prop} {fuel : Nat} {listed : Array Bool} {I' : Heap} {L' : Own} (hm : ∀ w, Mem I L w → Mem I' L' w) (h : RunW P f n I₀ Q ops S fuel listed k E I' L') : RunW P f n I₀ Q ops S fuel listed k E I L :=
 fun a w ha hd he hw => h a w ha hd he (hm w hw)
end rules

/-- A list of forms in still memory. -/
structure Forms (I : Heap) (oa : Option Addr) (ts : List Tree) (c : Nat) : Prop where
 rep : ∃ vs, RepL I ts vs ∧ ∀ x, oa = some x → Still I x vs
 nil : oa = none → ts = []
 cap : ts.length ≤ c
 len : ts.length ≤ maxN
theorem Forms.mono {I I' : Heap} (hle : HLe I I') {oa : Option Addr} {ts : List Tree} {c : Nat} (h : Forms I oa ts c) : Forms I' oa ts c := by
 obtain ⟨⟨vs, h1, h2⟩, h3, h4, h5⟩ := h
 exact ⟨⟨vs, h1.mono hle, fun x hx => (h2 x hx).mono hle⟩, h3, h4, h5⟩
theorem Forms.form {I : Heap} {oa : Option Addr} {ts : List Tree} {c : Nat} (h : Forms I oa ts c) (a : Txt) (ha : a.length ≤ maxN) : Rep I (.node a ts) [.string (str a), .slice oa ts.length c] := by
 obtain ⟨⟨vs, h1, h2⟩, h3, h4, h5⟩ := h
 exact .mk h1 h2 h3 h4 ha h5
theorem FormAt.forms {I : Heap} {t : Tree} {oa : Option Addr} {c : Nat} {oaf : Nat → Option Addr} {cf : Nat → Nat} (h : FormAt I t oa c oaf cf) : Forms I oa t.parts c := by
 obtain ⟨oa', c', vs, he, hl, hs, hn, hc, ha, hp⟩ := h.rep.open
 simp only [List.cons.injEq, Value.slice.injEq, and_true, true_and] at he
 obtain ⟨rfl, rfl⟩ := he
 exact ⟨⟨vs, hl, hs⟩, hn, hc, hp⟩
theorem RepL.one {I : Heap} {t : Tree} {cs : List Value} (h : Rep I t cs) : RepL I [t] cs := by
 obtain ⟨oa, c, vs, rfl, _⟩ := h.open
 exact .cons h .nil
theorem Rep.vals {I : Heap} {t : Tree} {cs : List Value} (h : Rep I t cs) : cs.all plainCell = true := by
 obtain ⟨oa, c, vs, rfl, _⟩ := h.open; rfl
theorem RepL.two {I : Heap} {t u : Tree} {cs ds : List Value} (h : Rep I t cs) (h' : Rep I u ds) : RepL I [t, u] (cs ++ ds) := (RepL.one h).append (.one h')
def RP (t : Tree) (L : Own) : Post := fun v I' L' => ∃ cs, v = .agg (List.toArray cs) ∧ Rep I' t cs ∧ L = L'
theorem f_atom (s : Txt) (hs : s.length ≤ maxN) (I : Heap) (L : Own) : Fun Tryz.prog 86 [.string (str s)] I L (Only (.agg [.string (str s), .slice none 0 0].toArray) I L) := by
 refine fun_intro (by simp) ?_
 refine Se rfl ?_
 refine o_alloc .free rfl ?_
 intro b2
 refine o_done (Se rfl (Om rfl ?_))
 refine o_struct rfl rfl rfl .free rfl ?_
 refine o_st rfl rfl rfl rfl .free ?_
 refine o_done ?_
 refine s_ret (.c rfl .nil) ?_
 refine only rfl ?_
 rfl
section rules
variable {P : Program} {f : FuncId} {n : Nat} {I₀ : Heap} {Q : Post} {k : List Item} {E : Env} {I : Heap} {L : Own}
variable {ops : Array Oper} {d : Nat} {ty : TypeId} {pos : String} {af : Array Edge} {g : Option (Nat × Bool)} {l : List Oper}
theorem y_cap_slice {S : World → Prop} {x : Operand} {ad : Option Addr} {m c : Nat} {e T : TypeId} {sz bb : Nat} {z : List Value} [ht : TyIs P T (.slice e) sz bb z] (hx : opd E x = some (.slice ad m c)) : Yld P E S ⟨some d, .call ⟨.builtin .cap, #[x], #[T]⟩, ty, pos, af, g⟩ (.int .i64 (c : Nat)) := fun a w he _ => by
  simp only [execOp, resolve, List.map_toArray, List.map, he.eval hx]
  simp only [pure_bind, invoke, builtin, Builtin.cap_]
  refine run_bind_ok (a := _) (w' := w) ?_ |>.trans rfl
  simp only [List.getElem?_toArray, List.getElem?_cons_zero]
  rw [run_bind_ok (run_underlying ht.und w)]
  rfl
theorem o_cap_slice {x : Operand} {ad : Option Addr} {m c : Nat} {e T : TypeId} {sz bb : Nat} {z : List Value} [ht : TyIs P T (.slice e) sz bb z] (hx : opd E x = some (.slice ad m c)) (hg : Wants ops E g) (hdn : Nat.blt d n = true)
  (h : RunO P f n I₀ Q ops l k ((d, .int .i64 (c : Nat)) :: E) I L) : RunO P f n I₀ Q ops (⟨some d, .call ⟨.builtin .cap, #[x], #[T]⟩, ty, pos, af, g⟩ :: l) k E I L := o_yld (y_cap_slice hx) hg hdn h
theorem y_makeFunc {S : World → Prop} {kf : FuncId} {fst cap : Array Operand} {vs us : List Value} (hf : opds E fst.toList = some vs) (hc : opds E cap.toList = some us) : Yld P E S ⟨some d, .makeFunc (.func kf) fst cap, ty, pos, af, g⟩ (.func (.func kf) vs.toArray us.toArray) := fun a w he _ => by
  have h1 : fst.map a.eval = vs.toArray := Array.ext' (by simpa using he.evals hf)
  have h2 : cap.map a.eval = us.toArray := Array.ext' (by simpa using he.evals hc)
  simp only [execOp, h1, h2]
  rfl
theorem o_makeFunc {kf : FuncId} {fst cap : Array Operand} {vs us : List Value} (hf : opds E fst.toList = some vs) (hc : opds E cap.toList = some us) (hg : Wants ops E g) (hdn : Nat.blt d n = true)
  (h : RunO P f n I₀ Q ops l k ((d, .func (.func kf) vs.toArray us.toArray) :: E) I L) : RunO P f n I₀ Q ops (⟨some d, .makeFunc (.func kf) fst cap, ty, pos, af, g⟩ :: l) k E I L := o_yld (y_makeFunc hf hc) hg hdn h
theorem x_appendB {T T2 e : TypeId} {sz bb esz ebb sz2 bb2 : Nat} {z ez z2 : List Value} {dd dd2 : TypeDesc} [ht : TyIs P T (.slice e) sz bb z] [hte : TyIs P e dd esz ebb ez] [ht2 : TyIs P T2 dd2 sz2 bb2 z2]
  {x y : Operand} {B : Buf} {xs ys : List Value} {m c : Nat} {ad2 : Option Addr} {m2 c2 : Nat} {L₀ : Own} (hni : ∀ kk, dd2 ≠ .int kk) (hez : ez.length = esz)
  (hx : opd E x = some (bufVal m c B)) (hy : opd E y = some (.slice ad2 m2 c2)) (hB : BufOk esz m c xs B) (hL : ∀ w, Mem I L w → Mem I (bufOwn e xs B ++ L₀) w)
  (hyl : ys.length = m2 * esz) (hyr : ∀ a, ad2 = some a → Reads I L₀ a ys) (hyn : ad2 = none → ys = []) (hyp : ys.all plainCell = true) (hesz : 0 < esz)
  (hsize : (m + m2) ≤ 4294967296) (hbytes : ebb ≤ 1024) (a : Act) (w : World) (he : EnvOk E a) (hm : Mem I L w) :
  ∃ w' B' c', (execOp a.eval ⟨some d, .call ⟨.builtin .append, #[x, y], #[T, T2]⟩, T, pos, af, g⟩).run P w = .ok (.value (bufVal (m + m2) c' B')) w' ∧ BufOk esz (m + m2) c' (xs ++ ys) B' ∧ Mem I (bufOwn e (xs ++ ys) B' ++ L₀) w' := by
 by_cases hm2 : 0 < m2
 ·obtain ⟨w', B', c', hr, hne, hB', hm'⟩ := run_append (x := .slice ad2 m2 c2) ht hte hez ht2.und hni hB (hL w hm) hyl (fun _ => rfl) (fun w hw => run_firstCells hw hyl hyr hyn) hyp hm2 hesz hsize hbytes
  refine ⟨w', B', c', ?_, hB', hm'⟩
  simp only [execOp, resolve, List.map_toArray, List.map, he.eval hx, he.eval hy, pure_bind, invoke, builtin]
  exact run_bind_ok hr |>.trans rfl
 ·obtain rfl : m2 = 0 := by omega
  obtain rfl : ys = [] := List.eq_nil_of_length_eq_zero (by simpa using hyl)
  have hv : ∃ base cc, bufVal m c B = .slice base m cc ∧ m ≤ cc ∧ cc = c := by
   cases B with
   | none => obtain ⟨h1, h2, h3⟩ := hB; exact ⟨none, 0, by simp [bufVal, h2], by omega, h3.symm⟩
   | some p => exact ⟨_, c, rfl, hB.2.1, rfl⟩
  obtain ⟨base, cc, hbv, hmc, rfl⟩ := hv
  have := run_append0 (P := P) (T2 := T2) (base := base) (x := .slice ad2 0 c2) (w := w) ht hte ht2.und hni hmc rfl (run_firstCells (hL w hm) hyl (fun a _ v _ i hi => absurd hi (by simp)) hyn)
  refine ⟨w, B, cc, ?_, by simpa using hB, by simpa using hL w hm⟩
  simp only [execOp, resolve, List.map_toArray, List.map, he.eval hx, he.eval hy, pure_bind, invoke, builtin, hbv, Nat.add_zero]
  exact run_bind_ok this |>.trans rfl
theorem d_appendB {S : World → Prop} {fuel : Nat} {listed listed' : Array Bool} (i : Nat) {T T2 e : TypeId} {sz bb esz ebb sz2 bb2 : Nat} {z ez z2 : List Value} {dd dd2 : TypeDesc} [ht : TyIs P T (.slice e) sz bb z] [hte : TyIs P e dd esz ebb ez] [ht2 : TyIs P T2 dd2 sz2 bb2 z2]
  {x y : Operand} {B : Buf} {xs ys : List Value} {m c : Nat} {ad2 : Option Addr} {m2 c2 : Nat} {L₀ : Own}
  (hi : ops[i]? = some ⟨some d, .call ⟨.builtin .append, #[x, y], #[T, T2]⟩, T, pos, af, g⟩) (hc : decide (Region.ready .any ops listed = [i]) = true) (hl : listed' = listed.setIfInBounds i true) (hni : ∀ kk, dd2 ≠ .int kk) (hez : ez.length = esz)
  (hx : opd E x = some (bufVal m c B)) (hy : opd E y = some (.slice ad2 m2 c2)) (hB : BufOk esz m c xs B) (hL : ∀ w, Mem I L w → Mem I (bufOwn e xs B ++ L₀) w)
  (hyl : ys.length = m2 * esz) (hyr : ∀ a, ad2 = some a → Reads I L₀ a ys) (hyn : ad2 = none → ys = []) (hyp : ys.all plainCell = true) (hesz : 0 < esz)
  (hsize : (m + m2) ≤ 4294967296) (hbytes : ebb ≤ 1024) (hg : Wants ops E g) (hdn : Nat.blt d n = true) (hS : ∀ B', heldB ops listed' = true ∨ ∀ w, Mem I (bufOwn e (xs ++ ys) B' ++ L₀) w → S w)
  (h : ∀ B' c', BufOk esz (m + m2) c' (xs ++ ys) B' → RunW P f n I₀ Q ops S fuel listed' k ((d, bufVal (m + m2) c' B') :: E) I (bufOwn e (xs ++ ys) B' ++ L₀)) : RunW P f n I₀ Q ops S (fuel + 1) listed k E I L := by
 refine d_stepX i hi hc hl rfl hdn (fun a he => hg.wanted a he) fun a w he hm => ?_
 obtain ⟨w', B', c', h1, h2, h3⟩ := x_appendB (P := P) (T := T) (T2 := T2) (e := e) (d := d) (pos := pos) (af := af) (g := g) hni hez hx hy hB hL hyl hyr hyn hyp hesz hsize hbytes a w he hm
 exact ⟨_, w', I, _, h1, h3, hS B', h B' c' h2⟩
theorem d_lits0 {S : World → Prop} {fuel : Nat} {listed listed' : Array Bool} (i : Nat) {T e : TypeId} {sz bb esz ebb : Nat} {z ez : List Value} {dd : TypeDesc} [ht : TyIs P T (.slice e) sz bb z] [hte : TyIs P e dd esz ebb ez]
  (hi : ops[i]? = some ⟨some d, .buildSlice T 0 #[], ty, pos, af, g⟩) (hc : decide (Region.ready .any ops listed = [i]) = true) (hl : listed' = listed.setIfInBounds i true) (hg : Wants ops E g) (hdn : Nat.blt d n = true) (hS : heldB ops listed' = true ∨ ∀ w, Mem I L w → S w)
  (h : ∀ b, RunW P f n I₀ Q ops S fuel listed' k ((d, .slice (some ⟨b, 0, none⟩) 0 0) :: E) I ((b, .cells [].toArray e (0, 0)) :: L)) : RunW P f n I₀ Q ops S (fuel + 1) listed k E I L := by
 refine d_stepX i hi hc hl rfl hdn (fun a he => hg.wanted a he) fun a w he hm => ?_
 refine ⟨.slice (some ⟨w.heap.size, 0, none⟩) 0 0, { w with heap := w.heap.push (.cells [].toArray e (0, 0)) }, I, (w.heap.size, .cells [].toArray e (0, 0)) :: L, ?_, hm.alloc _, hS.imp id fun hS w hw => hS w hw.drop, h _⟩
 simp only [execOp]
 refine run_bind_ok (a := .slice (some ⟨w.heap.size, 0, none⟩) 0 0) (w' := { w with heap := w.heap.push (.cells [].toArray e (0, 0)) }) ?_ |>.trans rfl
 unfold Instr.buildSlice
 rw [run_bind_ok (run_underlying ht.und w)]
 simp only []
 rw [run_bind_ok (run_sizeOf hte w)]
 rw [if_neg (by omega), if_pos (by omega)]
 have e0 : ∀ h : Nat → Value, (Array.range 0).map h = #[] := fun h => by simp
 have e1 : (Array.map (fun x : Nat × Operand => (x.fst, a.eval x.snd)) #[]).toList = [] := by simp
 simp only [pure_bind, Nat.zero_mul, e0, e1]
 rfl
/-- 'append(nil, make([]T, m)...)'. -/
theorem o_appendN {T T2 e : TypeId} {sz bb esz ebb sz2 bb2 : Nat} {z ez z2 : List Value} {dd : TypeDesc} [ht : TyIs P T (.slice e) sz bb z] [hte : TyIs P e dd esz ebb ez] [ht2 : TyIs P T2 (.int .i64) sz2 bb2 z2]
  {x y : Operand} {m : Nat} {ad : Option Addr} (hez : ez.length = esz) (hx : opd E x = some (.slice ad 0 0)) (had : ad = none) (hy : opd E y = some (.int .i64 (m : Nat))) (hm0 : 0 < m) (hesz : 0 < esz) (hsize : m ≤ 4294967296) (hbytes : ebb ≤ 1024) (hg : Wants ops E g) (hdn : Nat.blt d n = true)
  (h : ∀ b Z c', Z.length = c' * esz → m ≤ c' → RunO P f n I₀ Q ops l k ((d, .slice (some ⟨b, 0, none⟩) m c') :: E) I ((b, .cells (List.toArray Z) e (0, 0)) :: L)) :
  RunO P f n I₀ Q ops (⟨some d, .call ⟨.builtin .append, #[x, y], #[T, T2]⟩, T, pos, af, g⟩ :: l) k E I L := by
 subst had
 refine o_stepX rfl hdn (fun a he => hg.wanted a he) fun a w he hm => ?_
 obtain ⟨einf, hein, hebb⟩ := run_bytesOf hte w
 let NC := (Question.appendCap m 0 e).cut (w.tape w.drawn (.appendCap m 0 e))
 let w1 : World := { w with drawn := w.drawn + 1 }
 have hNC : m ≤ NC := by simp [NC, Question.cut]
 obtain ⟨zv1, hz1, hz2⟩ := run_zero hte w1
 have hzs : zv1.cells.size = esz := by rw [← hez, ← hz2]; simp
 refine ⟨.slice (some ⟨w.heap.size, 0, none⟩) m NC, { w1 with heap := w1.heap.push (.cells (Builtin.zeroCells zv1.cells m ++ Builtin.zeroCells zv1.cells (NC - m)) e (0, 0)) }, I, _, ?_, hm.alloc _, h _ (Builtin.zeroCells zv1.cells m ++ Builtin.zeroCells zv1.cells (NC - m)).toList NC ?_ hNC⟩
 ·simp only [execOp, resolve, List.map_toArray, List.map, he.eval hx, he.eval hy, pure_bind, invoke, builtin]
  refine run_bind_ok (a := .slice (some ⟨w.heap.size, 0, none⟩) m NC) (w' := { w1 with heap := w1.heap.push (.cells (Builtin.zeroCells zv1.cells m ++ Builtin.zeroCells zv1.cells (NC - m)) e (0, 0)) }) ?_ |>.trans rfl
  unfold Builtin.append_
  simp only [List.getElem?_toArray, List.getElem?_cons_zero, List.getElem?_cons_succ]
  rw [run_bind_ok (run_underlying ht.und w)]
  simp only []
  rw [run_bind_ok (run_sizeOf hte w)]
  rw [run_bind_ok (run_underlying ht2.und w)]
  have hwr : IntKind.i64.wrap (m : Int) = (m : Int) := by simp [IntKind.wrap, IntKind.bits, IntKind.signed]; omega
  simp only [pure_bind, if_true, Bool.not_true, Bool.false_eq_true, if_false, asInt, asIntOf, hwr]
  have hneg : ¬ ((m : Int) < 0) := by omega
  simp only [hwr, if_neg hneg, pure_bind, bind_assoc]
  rw [run_bind_ok hein]
  have hbig : ¬ ((m : Int) * (einf.bytes : Int) > 2 ^ 48) := by
   rw [hebb]
   have : m * ebb ≤ 4294967296 * 1024 := Nat.mul_le_mul hsize hbytes
   rw [← Int.natCast_mul]; omega
  simp only [if_neg hbig, pure_bind, Int.toNat_natCast, Nat.zero_add]
  rw [if_neg (by omega)]
  have hmax : ¬ (((m : Nat) : Int) > IntKind.i64.max) := by simp [IntKind.max, IntKind.bits, IntKind.signed]; omega
  rw [run_bind_ok hein]
  simp only [hmax, false_and, if_false, pure_bind]
  rw [run_bind_ok hein]
  have hcap : ¬ (Builtin.nextslicecap m 0 * einf.bytes > 2 ^ 48) := by
   have h1 := nextcap_le m 0 (by omega)
   have h2 : Builtin.nextslicecap m 0 * einf.bytes ≤ (2 * m + 1000) * 1024 := Nat.mul_le_mul h1 (by omega)
   omega
  simp only [if_neg hcap, pure_bind]
  have hch : (choose (.appendCap m 0 e)).run P w = .ok NC w1 := by simp [choose, Sem.run, Question.forced, NC, w1]
  rw [run_bind_ok hch]
  obtain ⟨einf1, hein1, _⟩ := run_bytesOf hte w1
  rw [run_bind_ok hein1]
  have hroom : (askRoom (NC * einf1.bytes)).run P w1 = .ok () w1 := by unfold askRoom; split <;> rfl
  rw [run_bind_ok hroom]
  have hne : ¬ (m * esz = 0) := by
   have := Nat.mul_pos hm0 hesz; omega
  simp only [Builtin.firstCells, pure_bind, if_neg hne, bind_assoc]
  rw [run_bind_ok hz1]
  rw [run_bind_ok hz1]
  simp only [Array.empty_append]
  rfl
 ·simp only [Array.toList_append, List.length_append, Array.length_toList, zeroCells_size, hzs]
  rw [← Nat.add_mul]; congr 1; omega
end rules

/-- A list of texts that can be read where it lies: in still memory, or in a block of the call's own. -/
structure RStrs (I : Heap) (L : Own) (oa : Option Addr) (l : List Txt) : Prop where
 reads : ∀ a, oa = some a → Reads I L a (l.map sv)
 nil : oa = none → l.length = 0
 len : l.length ≤ maxN
theorem Strs.rd {I : Heap} {oa : Option Addr} {l : List Txt} {c : Nat} (h : Strs I oa l c) (L : Own) : RStrs I L oa l := ⟨h.reads, h.nil', h.len⟩
theorem RStrs.st {I : Heap} {L : Own} {oa : Option Addr} {l : List Txt} (h : RStrs I L oa l) (i : Nat) (hi : i < l.length) : Reads I L ((oad oa).add (i * 1)) [.string (str (l.getD i []))] := by
 obtain ⟨x, rfl⟩ : ∃ x, oa = some x := by
  cases oa with
  | none => have := h.nil rfl; omega
  | some x => exact ⟨x, rfl⟩
 intro w hw j hj
 obtain rfl : j = 0 := by simpa using hj
 have h1 := h.reads x rfl w hw i (by simpa using hi)
 have e : ((oad (some x)).add (i * 1)).add 0 = x.add i := by simp [oad, Addr.add]
 rw [e, h1]
 simp [sv, hi]
theorem RStrs.sub {I : Heap} {L L' : Own} {oa : Option Addr} {l : List Txt} (h : RStrs I L oa l) (hs : ∀ w, Mem I L' w → Mem I L w) : RStrs I L' oa l :=
 ⟨fun a ha w hw => h.reads a ha w (hs w hw), h.nil, h.len⟩
theorem buf_rd {I : Heap} {L : Own} {e : TypeId} {l : List Txt} {B : Buf} {m c : Nat} (hB : BufOk 1 m c (l.map sv) B) (hm : m = l.length) (hl : l.length ≤ maxN) :
  ∃ oa c', bufVal m c B = .slice oa l.length c' ∧ RStrs I (bufOwn e (l.map sv) B ++ L) oa l := by
 subst hm
 cases B with
 | none =>
  obtain ⟨h1, h2, h3⟩ := hB
  exact ⟨none, 0, by rw [bufVal, h2], ⟨by simp, fun _ => h2, hl⟩⟩
 | some p =>
  obtain ⟨b, sp⟩ := p
  refine ⟨some ⟨b, 0, none⟩, c, rfl, ⟨?_, by simp, hl⟩⟩
  intro a ha
  cases ha
  intro w hw i hi
  rw [cell_at (hw.2.1 _ (List.mem_append_left _ (List.mem_singleton.2 rfl))).1]
  simp only [Nat.zero_add, List.getElem?_toArray]
  rw [List.getElem?_append_left hi, List.getElem?_eq_getElem hi]
theorem f_slices_Index {I : Heap} {L : Own} {oa : Option Addr} {l : List Txt} (h : RStrs I L oa l) (c : Nat) (s : Txt) : Fun Tryz.prog 145 [.slice oa l.length c, .string (str s)] I L (fun v I' L' => ∃ i : Int, v = .int .i64 i ∧ (0 ≤ i ↔ s ∈ l) ∧ I = I' ∧ L = L') := by
 have hlen := h.len
 have hnil := h.nil
 unfold maxN at hlen
 refine fun_intro (by simp) ?_
 refine Se rfl (Oa rfl (o_done (s_seq (Se rfl (Om rfl (On rfl (Om rfl (o_done (s_block ?_)))))))))
 refine s_while (X := Nat) (fun i => l.length - i) (fun i => [(0, .slice oa l.length c), (1, .string (str s)), (7, .int .i64 (l.length : Nat)), (8, .int .i64 (i : Nat))]) (fun _ => I) (fun _ => L) (fun i => i ≤ l.length ∧ s ∉ l.take i) 0 ⟨by simp, by simp⟩ ⟨rfl, rfl, rfl, rfl, trivial⟩ (fun _ h => h) ?_
 rintro i ⟨hi, hs⟩ ih
 refine Se rfl (Oc rfl rfl rfl (o_done (s_seq ?_)))
 refine s_cond rfl ?_ ?_
 ·intro c0
  try simp only [nb] at c0
  have hgx : l.getD i [] = l[i] := by simp [show i < l.length by omega]
  have hst := h.st i (by omega)
  refine s_skip (s_seq (s_block (Se rfl (Om rfl (Oa rfl (o_done (Se rfl ?_)))))))
  iterate 3 refine Om rfl ?_
  first | refine o_ixD rfl rfl _ rfl .free rfl ?_ | refine o_ixP rfl rfl _ rfl .free rfl ?_
  refine o_lI1 rfl .free rfl ?_
  refine Od rfl rfl rfl (o_done ?_)
  refine s_cond rfl ?_ ?_
  ·intro c1
   try simp only [nb] at c1
   refine Se rfl (Om rfl (Oa rfl (o_done (s_ret (.tmp rfl .nil) ?_))))
   exact ⟨I, L, .refl _, fun _ h => h, _, rfl, ⟨fun _ => by rw [c1, hgx]; exact List.getElem_mem _, fun _ => by omega⟩, rfl, rfl⟩
  intro c1
  try simp only [nb] at c1
  refine s_skip (s_inBlock (o_enter rfl ?_))
  refine Or rfl rfl rfl ?_
  refine Om rfl (o_done ?_)
  refine s_env (E' := [(0, .slice oa l.length c), (1, .string (str s)), (7, .int .i64 (l.length : Nat)), (8, .int .i64 ((i + 1 : Nat)))]) ⟨rfl, rfl, rfl, rfl, trivial⟩ (ih (i + 1) ⟨by omega, ?_⟩ (by omega))
  rw [List.take_succ_eq_append_getElem (by omega), List.mem_append]
  rintro (h1 | h1)
  ·exact hs h1
  ·exact c1 (by rw [hgx]; exact List.mem_singleton.1 h1)
 intro c0
 try simp only [nb] at c0
 refine s_exit rfl ?_
 refine Se rfl (Oa rfl (o_done (s_ret (.tmp rfl .nil) ?_)))
 refine ⟨I, L, .refl _, fun _ h => h, _, rfl, ⟨fun h => by simp at h, fun h => ?_⟩, rfl, rfl⟩
 rw [List.take_of_length_le (by omega)] at hs
 exact absurd h hs
theorem f_slices_Contains {I : Heap} {L : Own} {oa : Option Addr} {l : List Txt} (h : RStrs I L oa l) (c : Nat) (s : Txt) : Fun Tryz.prog 107 [.slice oa l.length c, .string (str s)] I L (Only (.bool (decide (s ∈ l))) I L) := by
 refine fun_intro (by simp) ?_
 refine Se rfl (Oa rfl (o_done (Se rfl (Om rfl (Om rfl ?_)))))
 refine o_call rfl .free rfl (f_slices_Index h c s) ?_
 rintro _ _ _ _ ⟨i, rfl, hi, rfl, rfl⟩
 refine Oc rfl rfl rfl (Oa rfl (o_done (s_ret (.tmp rfl .nil) ?_)))
 refine only rfl ?_
 simp [retOne, hi]
theorem g_l1Has {I : Heap} {L : Own} {oa : Option Addr} {l : List Txt} (h : RStrs I L oa l) (c : Nat) (s : Txt) : Fun Tryz.prog 143 [.slice oa l.length c, .string (str s)] I L (Only (.bool (decide (s ∈ l))) I L) := by
 have hlen := h.len
 have hnil := h.nil
 unfold maxN at hlen
 refine fun_intro (by simp) ?_
 refine Se rfl (Oa rfl (o_done (s_seq (Se rfl (Oa rfl (o_done (s_block ?_)))))))
 refine s_while (X := Nat) (fun i => l.length - i) (fun i => [(0, .slice oa l.length c), (1, .string (str s)), (5, .int .i64 (i : Nat))]) (fun _ => I) (fun _ => L) (fun i => i ≤ l.length ∧ s ∉ l.take i) 0 ⟨by simp, by simp⟩ ⟨rfl, rfl, rfl, trivial⟩ (fun _ h => h) ?_
 rintro i ⟨hi, hs⟩ ih
 refine s_seq (Se rfl (Om rfl (Om rfl (On rfl (Oc rfl rfl rfl (o_done ?_))))))
 refine s_cond rfl ?_ ?_
 ·intro c0
  try simp only [nb] at c0
  have hgx : l.getD i [] = l[i] := by simp [show i < l.length by omega]
  have hst := h.st i (by omega)
  refine s_skip (s_seq (s_block (Se rfl (Om rfl (Om rfl ?_)))))
  first | refine o_ixD rfl rfl _ rfl .free rfl ?_ | refine o_ixP rfl rfl _ rfl .free rfl ?_
  refine o_lI1 rfl .free rfl ?_
  refine Om rfl (Od rfl rfl rfl (o_done ?_))
  refine s_cond rfl ?_ ?_
  ·intro c1
   try simp only [nb] at c1
   refine Se rfl (Oa rfl (o_done (s_ret (.tmp rfl .nil) ?_)))
   refine only rfl ?_
   have : s ∈ l := by rw [← c1, hgx]; exact List.getElem_mem _
   simp [retOne, this]
  intro c1
  try simp only [nb] at c1
  refine s_skip (s_inBlock (o_enter rfl (Om rfl ?_)))
  refine Or rfl rfl rfl ?_
  refine Oa rfl (o_done ?_)
  refine s_env (E' := [(0, .slice oa l.length c), (1, .string (str s)), (5, .int .i64 ((i + 1 : Nat)))]) ⟨rfl, rfl, rfl, trivial⟩ (ih (i + 1) ⟨by omega, ?_⟩ (by omega))
  rw [List.take_succ_eq_append_getElem (by omega), List.mem_append]
  rintro (h1 | h1)
  ·exact hs h1
  ·exact c1 (by rw [hgx]; exact (List.mem_singleton.1 h1).symm)
 intro c0
 try simp only [nb] at c0
 refine s_exit rfl ?_
 refine Se rfl (Oa rfl (o_done (s_ret (.tmp rfl .nil) ?_)))
 refine only rfl ?_
 have : s ∉ l := by rwa [List.take_of_length_le (by omega)] at hs
 simp [retOne, this]
theorem f_slices_Grow (m : Nat) (hm : m ≤ 4294967296) (I : Heap) (L : Own) : Fun Tryz.prog 165 [.slice none 0 0, .int .i64 (m : Nat)] I L
  (fun v I' L' => ∃ B c, v = bufVal 0 c B ∧ BufOk 1 0 c [] B ∧ I = I' ∧ L' = bufOwn 9 [] B ++ L) := by
 refine fun_intro (by simp) ?_
 refine Se rfl (Oa rfl (o_done (s_seq (Se rfl (Om rfl (Oc rfl rfl rfl (o_done ?_)))))))
 first | refine s_fp rfl (by omega) ?_ | refine s_fn rfl (by omega) ?_ | refine s_false (by simp [look, opd, *]) ?_
 refine s_skip (s_seq (Se rfl (Om rfl (Om rfl ?_))))
 refine o_cap_slice rfl .free rfl ?_
 refine Om rfl (On rfl ?_)
 refine Or rfl rfl rfl ?_
 refine Or rfl rfl rfl ?_
 refine Oa rfl (o_done (s_seq ?_))
 refine s_put (t := 1) (v' := .int .i64 (m : Nat)) rfl (by congr 1) ?_
 refine o_enter rfl (Om rfl (Oc rfl rfl rfl (o_done ?_)))
 refine s_cond rfl ?_ ?_
 ·intro c1
  try simp only [nb] at c1
  have hm0 : 0 < m := by omega
  refine o_enter rfl (Om rfl (Om rfl ?_))
  refine o_cap_slice rfl .free rfl ?_
  refine o_slice_slice rfl rfl rfl 0 _ rfl rfl (by first | omega | exact lt_of (by assumption) (by decide) | (simp; done) | (simp; omega) | decide | (simp at *; omega)) .free rfl ?_
  refine Om rfl ?_
  refine o_appendN (m := m) (by rfl) rfl rfl rfl (by omega) (by decide) hm (by decide) .free rfl ?_
  intro b Z c' hZ hmc
  refine Om rfl (On rfl ?_)
  refine o_slice_slice rfl rfl rfl 0 _ rfl rfl (by first | omega | exact lt_of (by assumption) (by decide) | (simp; done) | (simp; omega) | decide | (simp at *; omega)) .free rfl ?_
  refine Oa rfl (o_done (Se rfl (Om rfl (Oa rfl (o_done (s_ret (.tmp rfl .nil) ?_))))))
  first
   | exact ⟨I, _, .refl _, fun _ h => h, some (b, Z), c', by simp [retOne, bufVal, Addr.add], ⟨rfl, Nat.zero_le _, by simpa using hZ⟩, rfl, rfl⟩
   | exact ⟨I, _, .refl _, fun _ h => h, none, 0, rfl, ⟨rfl, rfl, rfl⟩, rfl, rfl⟩
 intro c1
 try simp only [nb] at c1
 refine s_skip (Se rfl (Om rfl (Oa rfl (o_done (s_ret (.tmp rfl .nil) ?_)))))
 first
  | exact ⟨I, _, .refl _, fun _ h => h, some (b, Z), c', by simp [retOne, bufVal, Addr.add], ⟨rfl, Nat.zero_le _, by simpa using hZ⟩, rfl, rfl⟩
  | exact ⟨I, _, .refl _, fun _ h => h, none, 0, rfl, ⟨rfl, rfl, rfl⟩, rfl, rfl⟩

/-- What makes a list of texts returns. -/
def SS (l : List Txt) (L : Own) : Post := fun v I' L' => ∃ oa c, v = .slice oa (List.length l) c ∧ Strs I' oa l c ∧ L = L'
theorem Strs.append {I : Heap} {oa ob : Option Addr} {l m : List Txt} {c c' : Nat} (h : Strs I oa l c) (h' : Strs I ob m c') : ∀ s ∈ l ++ m, s.length ≤ maxN := by
 intro s hs
 rcases List.mem_append.1 hs with hs | hs
 ·exact h.each s hs
 ·exact h'.each s hs
theorem f_slices_Concat {I : Heap} {oa ob : Option Addr} {l m : List Txt} {c c' : Nat} {x : Addr} (hx : Still I x [.slice oa l.length c, .slice ob m.length c']) (h : Strs I oa l c) (h' : Strs I ob m c') (hz : l.length + m.length ≤ maxN) (L : Own) :
  Fun Tryz.prog 144 [.slice (some x) 2 2] I L (SS (l ++ m) L) := by
 unfold maxN at hz
 have h0 : Still I ((oad (some x)).add (0 * 1)) [.slice oa l.length c] := hx.part (0 * 1) (by intro i hi; obtain rfl : i = 0 := (by simpa using hi); rfl)
 have h1 : Still I ((oad (some x)).add (1 * 1)) [.slice ob m.length c'] := hx.part (1 * 1) (by intro i hi; obtain rfl : i = 0 := (by simpa using hi); rfl)
 have hn : some x = none → 2 = 0 := by intro e; cases e
 refine fun_intro (by simp) ?_
 refine Se rfl (Oa rfl (o_done (Se rfl (Oa rfl (o_done (s_seq (Se rfl (Om rfl (On rfl (Om rfl (o_done (s_block ?_))))))))))))
 refine s_loop ?_
 refine Se rfl (Oc rfl rfl rfl (o_done (s_seq ?_)))
 refine s_condT rfl (by first | rfl | decide | (simp; done) | omega) ?_
 refine s_skip (s_seq (s_block (Se rfl ?_)))
 first | refine o_ixD rfl rfl _ rfl .free rfl ?_ | refine o_ixP rfl rfl _ rfl .free rfl ?_
 refine o_lI1 rfl .free rfl ?_
 refine Oa rfl (o_done (Se rfl (Om rfl (Om rfl (On rfl ?_)))))
 refine Or rfl rfl rfl ?_
 refine Oa rfl (o_done (Se rfl (Om rfl (Oc rfl rfl rfl (o_done ?_)))))
 first | refine s_fp rfl (by omega) ?_ | refine s_fn rfl (by omega) ?_ | refine s_false (by simp [look, opd, *]) ?_
 refine s_skip (s_inBlock (o_enter rfl ?_))
 refine Or rfl rfl rfl ?_
 refine Om rfl (o_done ?_)
 refine s_round ?_
 refine Se rfl (Oc rfl rfl rfl (o_done (s_seq ?_)))
 refine s_condT rfl (by first | rfl | decide | (simp; done) | omega) ?_
 refine s_skip (s_seq (s_block (Se rfl ?_)))
 first | refine o_ixD rfl rfl _ rfl .free rfl ?_ | refine o_ixP rfl rfl _ rfl .free rfl ?_
 refine o_lI1 rfl .free rfl ?_
 refine Oa rfl (o_done (Se rfl (Om rfl (Om rfl (On rfl ?_)))))
 refine Or rfl rfl rfl ?_
 refine Oa rfl (o_done (Se rfl (Om rfl (Oc rfl rfl rfl (o_done ?_)))))
 first | refine s_fp rfl (by omega) ?_ | refine s_fn rfl (by omega) ?_ | refine s_false (by simp [look, opd, *]) ?_
 refine s_skip (s_inBlock (o_enter rfl ?_))
 refine Or rfl rfl rfl ?_
 refine Om rfl (o_done ?_)
 refine s_round ?_
 refine Se rfl (Oc rfl rfl rfl (o_done (s_seq ?_)))
 refine s_condF rfl (by first | rfl | decide | (simp; done) | omega) ?_
 refine s_exit rfl ?_
 refine s_seq ?_
 refine s_put (t := 3) (v' := .int .i64 ((l.length + m.length : Nat))) rfl (by congr 1; omega) ?_
 refine o_enter rfl (Om rfl ?_)
 refine o_call rfl .free rfl (f_slices_Grow (l.length + m.length) hz _ _) ?_
 rintro _ _ _ _ ⟨B, c0, rfl, hB0, rfl, rfl⟩
 refine Oa rfl (o_done (s_seq (Se rfl (Om rfl (On rfl (Om rfl (o_done (s_block ?_))))))))
 refine s_loop ?_
 refine Se rfl (Oc rfl rfl rfl (o_done (s_seq ?_)))
 refine s_condT rfl (by first | rfl | decide | (simp; done) | omega) ?_
 refine s_skip (s_seq (s_block (Se rfl ?_)))
 first | refine o_ixD rfl rfl _ rfl .free rfl ?_ | refine o_ixP rfl rfl _ rfl .free rfl ?_
 refine o_lI1 rfl .free rfl ?_
 refine Oa rfl (o_done (o_enter rfl (Om rfl (Om rfl ?_))))
 refine o_appendB (B := B) (xs := []) (ys := l.map sv) (m := 0) (c := c0) (L₀ := L) (by intro kk; simp) (by rfl) rfl rfl hB0 (fun _ h => h) (by simp) h.reads h.none (sv_plain l) (by decide) (by omega) (by decide) .free rfl ?_
 intro B1 c1 hB1
 refine Oa rfl (o_done (s_inBlock (o_enter rfl ?_)))
 refine Or rfl rfl rfl ?_
 refine Om rfl (o_done ?_)
 refine s_round ?_
 refine Se rfl (Oc rfl rfl rfl (o_done (s_seq ?_)))
 refine s_condT rfl (by first | rfl | decide | (simp; done) | omega) ?_
 refine s_skip (s_seq (s_block (Se rfl ?_)))
 first | refine o_ixD rfl rfl _ rfl .free rfl ?_ | refine o_ixP rfl rfl _ rfl .free rfl ?_
 refine o_lI1 rfl .free rfl ?_
 refine Oa rfl (o_done (o_enter rfl (Om rfl (Om rfl ?_))))
 refine o_appendB (B := B1) (xs := l.map sv) (ys := m.map sv) (m := 0 + l.length) (c := c1) (L₀ := L) (by intro kk; simp) (by rfl) rfl rfl hB1 (fun _ h => h) (by simp) h'.reads h'.none (sv_plain m) (by decide) (by omega) (by decide) .free rfl ?_
 intro B2 c2 hB2
 refine Oa rfl (o_done (s_inBlock (o_enter rfl ?_)))
 refine Or rfl rfl rfl ?_
 refine Om rfl (o_done ?_)
 refine s_round ?_
 refine Se rfl (Oc rfl rfl rfl (o_done (s_seq ?_)))
 refine s_condF rfl (by first | rfl | decide | (simp; done) | omega) ?_
 refine s_exit rfl ?_
 refine s_seq ?_
 have hB3 : BufOk 1 (0 + l.length + m.length) c2 ((l ++ m).map sv) B2 := by simpa using hB2
 rw [← List.map_append]
 refine s_freezeStrs hB3 (by simp) (by simp [maxN]; omega) (h.append h') ?_
 intro I' oc c3 hle hbv hst
 refine s_put (t := 6) (v' := .slice oc (l ++ m).length c3) rfl hbv ?_
 refine o_enter rfl (Om rfl (Oa rfl (o_done (s_ret (.tmp rfl .nil) ?_))))
 exact ⟨I', L, hle, fun _ h => h, oc, c3, rfl, hst, rfl⟩
/-- A part of an expression's form, taken for what it is. -/
theorem FormAt.as {I : Heap} {t : Tree} {oa : Option Addr} {c : Nat} {oaf : Nat → Option Addr} {cf : Nat → Nat} (h : FormAt I t oa c oaf cf) (i : Nat) (u : Tree) (hi : i < t.parts.length) (hu : t.pt i = u) : Rep I u [.string (str u.atom), .slice (oaf i) u.parts.length (cf i)] := by
 subst hu; exact h.rp i hi
/-- An expression that a loop goes on with, and where it lies. -/
structure XS where
 e : Ex
 oa : Option Addr
 c : Nat
theorem g_l4Head {I : Heap} {t : Tree} {cs : List Value} (h : Rep I t cs) (hg : t.good = true) (L : Own) : Fun Tryz.prog 120 [.agg cs.toArray] I L (Only (.string (str t.head)) I L) := by
 obtain ⟨oa, c, oaf, cf, rfl, hf⟩ := h.at'
 refine fun_intro (by simp) ?_
 refine Se rfl ?_
 refine o_box rfl rfl .free rfl ?_
 intro b1
 refine Oa rfl (o_done (s_seq (Se rfl (Oh rfl ?_))))
 refine o_lO1 rfl .free rfl ?_
 refine Od rfl rfl rfl (Om rfl ?_)
 apply o_or 6 11 rfl
 ·intro g1_4 hk
  try simp only [nb] at g1_4
  refine o_fieldAddr rfl (.met rfl rfl) rfl ?_
  refine o_lO1 rfl (.met rfl rfl) rfl ?_
  refine o_len_slice rfl (.met rfl rfl) rfl ?_
  refine o_cmp rfl rfl rfl (.met rfl rfl) rfl ?_
  refine Of rfl rfl ?_
  exact o_fin 4 rfl rfl hk
 ·intro _ hk
  refine o_skips 4 rfl ?_
  refine Ot rfl rfl ?_
  exact o_fin 4 rfl rfl hk
 refine o_done ?_
 refine s_cond rfl ?_ ?_
 ·intro c0
  try simp only [nb] at c0
  refine Se rfl (Oa rfl (o_done (s_ret (.tmp rfl .nil) ?_)))
  refine only rfl ?_
  have : t.parts = [] := by
   rcases t.good_cases hg with hh | hh
   ·exact hh.1
   ·rcases c0 with h | h
    ·exact absurd hh.2 h
    ·exact List.length_eq_zero_iff.1 (by omega)
  simp [retOne, Tree.head, this]
 intro c0
 try simp only [nb] at c0
 have h0 : 0 < t.parts.length := by omega
 refine s_skip (Se rfl (Oh rfl ?_))
 refine o_lO1 rfl .free rfl ?_
 first | refine o_ixD rfl rfl 0 rfl .free rfl ?_ | refine o_ixP rfl rfl 0 rfl .free rfl ?_
 refine o_fieldAddr' rfl .free rfl ?_
 refine o_lIF rfl .free rfl ?_
 refine Oa rfl (o_done (s_ret (.tmp rfl .nil) ?_))
 refine only rfl ?_
 rw [head_at h0]; rfl
theorem Ex.atom_iff {e : Ex} (h : e.ok = true) : e.tree.atom = [] ↔ e.bare = false := by
 have := Ex.bare_atom h
 cases hb : e.bare <;> simp_all
section rules
variable {P : Program} {f : FuncId} {n : Nat} {I₀ : Heap} {Q : Post} {k : List Item} {E : Env} {I : Heap} {L : Own}
variable {ops : Array Oper} {d : Nat} {ty : TypeId} {pos : String} {af : Array Edge} {g : Option (Nat × Bool)} {l : List Oper}
theorem run_eqGuard_slice {op : BinOp} {T : TypeId} {x y : Operand} {a b : Option Addr} {m c m' c' : Nat} (w : World) : (eqGuard op T x y (.slice a m c) (.slice b m' c')).run P w = .ok () w := by
 unfold eqGuard; split <;> rfl
theorem y_eqlnilS {S : World → Prop} {T T' e sz bb : Nat} {z : List Value} [ht : TyIs P T (.slice e) sz bb z] {x y : Operand} {oa : Option Addr} {m c : Nat} (hx : opd E x = some (.slice oa m c)) (hy : opd E y = some (.slice none 0 0)) :
  Yld P E S ⟨some d, .binOp .eql T x y T', ty, pos, af, g⟩ (.bool oa.isNone) := fun ac w he _ => by
 simp only [execOp, he.eval hx, he.eval hy]
 refine run_bind_ok (a := _) (w' := w) ?_ |>.trans rfl
 rw [run_bind_ok (run_eqGuard_slice w)]
 have h : ∀ d : Nat, (Op.equalIn (d + 1) T (.slice oa m c) (.slice none 0 0)).run P w = .ok oa.isNone w := fun d => by
  unfold Op.equalIn
  rw [run_bind_ok (run_underlying ht.und w)]
  cases oa <;> rfl
 simp only [binOp, Op.equal]
 exact run_bind_ok (h 9999) |>.trans rfl
theorem o_eqlnilS {T T' e sz bb : Nat} {z : List Value} [ht : TyIs P T (.slice e) sz bb z] {x y : Operand} {oa : Option Addr} {m c : Nat} (hx : opd E x = some (.slice oa m c)) (hy : opd E y = some (.slice none 0 0)) (hg : Wants ops E g) (hdn : Nat.blt d n = true)
  (h : RunO P f n I₀ Q ops l k ((d, .bool oa.isNone) :: E) I L) : RunO P f n I₀ Q ops (⟨some d, .binOp .eql T x y T', ty, pos, af, g⟩ :: l) k E I L := o_yld (y_eqlnilS hx hy) hg hdn h
end rules

/-- The cells of forms, one behind the other. -/
def cellsF (oaf : Nat → Option Addr) (cf : Nat → Nat) : Nat → List Tree → List Value
 | _, [] => []
 | k, t :: ts => .string (str t.atom) :: .slice (oaf k) t.parts.length (cf k) :: cellsF oaf cf (k + 1) ts
theorem cellsF_congr {f f' : Nat → Option Addr} {g g' : Nat → Nat} : ∀ (ts : List Tree) (k : Nat), (∀ i, k ≤ i → f i = f' i ∧ g i = g' i) → cellsF f g k ts = cellsF f' g' k ts
 | [], _, _ => rfl
 | t :: ts, k, h => by
  simp only [cellsF]
  rw [(h k (Nat.le_refl _)).1, (h k (Nat.le_refl _)).2, cellsF_congr ts (k + 1) (fun i hi => h i (by omega))]
theorem RepL.cells {I : Heap} : ∀ {ts : List Tree} {vs : List Value} (k : Nat), RepL I ts vs → ∃ oaf cf, vs = cellsF oaf cf k ts
 | _, _, k, .nil => ⟨fun _ => none, fun _ => 0, rfl⟩
 | _, _, k, .cons (ts := ts) h hs => by
  obtain ⟨f, g, rfl⟩ := RepL.cells (k + 1) hs
  obtain ⟨oa, c, vs, he, _⟩ := h.open
  simp only [List.cons.injEq, and_true] at he
  obtain ⟨rfl, rfl⟩ := he
  refine ⟨fun i => if i = k then oa else f i, fun i => if i = k then c else g i, ?_⟩
  simp only [cellsF, if_true]
  congr 2
  exact cellsF_congr ts (k + 1) (fun i hi => by rw [if_neg (by omega), if_neg (by omega)]; exact ⟨rfl, rfl⟩)
theorem cellsF_get {f : Nat → Option Addr} {g : Nat → Nat} : ∀ (ts : List Tree) (k i : Nat) (hi : i < ts.length), (cellsF f g k ts)[i * 2]? = some (.string (str ts[i].atom)) ∧ (cellsF f g k ts)[i * 2 + 1]? = some (.slice (f (k + i)) ts[i].parts.length (g (k + i)))
 | [], _, _, hi => by simp at hi
 | t :: ts, k, 0, _ => ⟨rfl, rfl⟩
 | t :: ts, k, i + 1, hi => by
  obtain ⟨h1, h2⟩ := cellsF_get (f := f) (g := g) ts (k + 1) i (by simpa using hi)
  refine ⟨?_, ?_⟩
  ·rw [show (i + 1) * 2 = i * 2 + 1 + 1 by omega]; simpa [cellsF] using h1
  ·rw [show (i + 1) * 2 + 1 = i * 2 + 1 + 1 + 1 by omega, show k + (i + 1) = k + 1 + i by omega]; simpa [cellsF] using h2
/-- A form in memory, with all cells of its parts. -/
theorem Rep.cells {I : Heap} {t : Tree} {cs : List Value} (h : Rep I t cs) : ∃ oa c oaf cf, cs = [.string (str t.atom), .slice oa t.parts.length c] ∧ FormAt I t oa c oaf cf ∧ RepL I t.parts (cellsF oaf cf 0 t.parts) ∧ (∀ x, oa = some x → Still I x (cellsF oaf cf 0 t.parts)) := by
 obtain ⟨oa, c, vs, rfl, hl, hs, hn, hc, ha, hp⟩ := h.open
 obtain ⟨oaf, cf, rfl⟩ := hl.cells 0
 refine ⟨oa, c, oaf, cf, rfl, ⟨h, fun i hi => ?_, fun e => by rw [hn e]; rfl, hp, ha, hc⟩, hl, hs⟩
 obtain ⟨c1, c2, h1, h2, h3⟩ := hl.get i hi
 obtain ⟨h4, h5⟩ := cellsF_get (f := oaf) (g := cf) t.parts 0 i hi
 rw [h4] at h2
 rw [h5, Nat.zero_add] at h3
 cases h2; cases h3
 rw [Tree.pt_at hi]
 obtain ⟨x, rfl⟩ : ∃ x, oa = some x := by
  cases oa with
  | none => have := hn rfl; rw [this] at hi; simp at hi
  | some x => exact ⟨x, rfl⟩
 refine ⟨h1, (hs x rfl).part (i * 2) ?_⟩
 intro j hj
 match j, hj with
 | 0, _ => simpa using h4
 | 1, _ => simpa using h5

/-- What 'Clone' returns: a row of the call's own. -/
def CL (e : TypeId) (vs : List Value) (n : Nat) (I : Heap) (L : Own) : Post := fun v I' L' => ∃ b sp c, v = .slice (some ⟨b, 0, none⟩) n c ∧ n ≤ c ∧ I = I' ∧ L' = (b, .cells (vs ++ sp).toArray e (0, 0)) :: L
theorem f_slices_Clone {I : Heap} {x : Addr} {n c : Nat} {vs : List Value} (hs : Still I x vs) (hv : vs.length = n * 2) (hp : vs.all plainCell = true) (hn0 : 0 < n) (hn : n ≤ 4294967296) (L : Own) :
  Fun Tryz.prog 85 [.slice (some x) n c] I L (CL 39 vs n I L) := by
 refine fun_intro (by simp) ?_
 refine Se rfl (Oa rfl (o_done (s_seq (Se rfl (Om rfl ?_)))))
 refine o_eqlnilS rfl rfl .free rfl ?_
 refine o_done ?_
 first | refine s_fp rfl (by simp) ?_ | refine s_fn rfl (by simp) ?_ | refine s_false (by simp [look, opd, *]) ?_
 refine s_skip (Se rfl ?_)
 refine o_lits0 .free rfl ?_
 intro b5
 refine Om rfl ?_
 refine o_append (B := some (b5, [])) (xs := []) (ys := vs) (m := 0) (c := 0) (L₀ := L) (by intro kk; simp) (by rfl) rfl rfl ⟨rfl, Nat.le_refl _, rfl⟩ (fun _ h => h) (by omega) (fun a ha => by cases ha; exact hs.reads) (by simp) hp hn0 (by decide) (by omega) (by decide) .free rfl ?_
 intro b sp c' hB'
 refine Oa rfl (o_done (s_ret (.tmp rfl .nil) ?_))
 exact ⟨I, _, .refl _, fun _ h => h, b, sp, c', by rw [Nat.zero_add]; rfl, by have := hB'.2.1; omega, rfl, rfl⟩
abbrev Bds := List (Txt × Ex)
def lets : Bds → Ex → Ex
 | [], f => f
 | (x, e) :: bs, f => .lt x e (lets bs f)
def normOf (b : Bool) (s : Txt) : Option Ex := match exOf s with
 | some e => if e.norm b = true then some e else none
 | none => none
/-- Is it an expression, simple or normal? -/
def exNorm (b : Bool) (s : Txt) : Bool := (normOf b s).isSome
def pairOf (x s : Txt) : Txt × Ex := (x, (normOf false s).getD (.num []))
def pairsOf (l m : List Txt) : Bds := l.zipWith pairOf m
/-- What 'NormalJoin' returns. -/
def joinOf (l m : List Txt) (s : Txt) : Option Txt := match normOf true s with
 | none => none
 | some f => if l.length = m.length ∧ l.all isName = true ∧ m.all (exNorm false) = true ∧ (lets (pairsOf l m) f).fine = true then some (lets (pairsOf l m) f).tree.text else none

def BdsOk (bs : Bds) : Prop := ∀ p ∈ bs, isName p.1 = true ∧ p.2.ok = true ∧ p.2.norm false = true ∧ p.2.tree.len ≤ 12000
theorem RX_some {s : Txt} {t : Tree} {ok : Bool} (hpf : match exOf s with | some e => ok = true ∧ t = e.tree | none => ok = false) (h : ok = true) : ∃ e, exOf s = some e ∧ t = e.tree ∧ e.ok = true ∧ e.tree.len ≤ 12000 ∧ e.fine = true ∧ s = e.tree.text := by
 cases hx : exOf s with
 | none => rw [hx] at hpf; simp [h] at hpf
 | some e =>
  rw [hx] at hpf
  obtain ⟨h1, h2, h3⟩ := exOf_some hx
  have hfine := h2
  simp only [Ex.fine, Bool.and_eq_true, Tree.fits, decide_eq_true_eq] at h2
  exact ⟨e, rfl, hpf.2, h2.1.1, h2.2.2, hfine, h3⟩
theorem RX_none {s : Txt} {t : Tree} {ok : Bool} (hpf : match exOf s with | some e => ok = true ∧ t = e.tree | none => ok = false) (h : ok = false) : exOf s = none := by
 cases hx : exOf s with
 | none => rfl
 | some e => rw [hx] at hpf; simp [h] at hpf
/-- What reading a simple or a normal expression returns. -/
def RN (p : Option Ex) (L : Own) : Post := RX p L
/- Bindings in memory. -/
inductive BindL : Heap → Bds → List Value → Prop
 | nil {I : Heap} : BindL I [] []
 | cons {I : Heap} {x : Txt} {e : Ex} {bs : Bds} {c1 c2 : Value} {vs : List Value} (hx : x.length ≤ maxN) (h : Rep I e.tree [c1, c2]) (hs : BindL I bs vs) : BindL I ((x, e) :: bs) (.string (str x) :: c1 :: c2 :: vs)
theorem BindL.mono {I I' : Heap} (hle : HLe I I') {bs : Bds} {vs : List Value} (h : BindL I bs vs) : BindL I' bs vs := by
 induction h with
 | nil => exact .nil
 | cons hx h _ ih => exact .cons hx (h.mono hle) ih
theorem BindL.length {I : Heap} {bs : Bds} {vs : List Value} (h : BindL I bs vs) : vs.length = bs.length * 3 := by
 induction h with
 | nil => rfl
 | cons hx h _ ih => simp [ih]; omega
theorem BindL.plain {I : Heap} {bs : Bds} {vs : List Value} (h : BindL I bs vs) : vs.all plainCell = true := by
 induction h with
 | nil => rfl
 | cons hx h _ ih =>
  have h2 := h.vals
  simp only [List.all_cons, List.all_nil, Bool.and_true, Bool.and_eq_true] at h2 ⊢
  exact ⟨rfl, h2.1, h2.2, ih⟩
theorem BindL.append {I : Heap} {bs cs : Bds} {vs ws : List Value} (h : BindL I bs vs) (h' : BindL I cs ws) : BindL I (bs ++ cs) (vs ++ ws) := by
 induction h with
 | nil => exact h'
 | cons hx h _ ih => exact .cons hx h ih
theorem BindL.get {I : Heap} {bs : Bds} {vs : List Value} (h : BindL I bs vs) : ∀ i (hi : i < bs.length), ∃ c1 c2, Rep I bs[i].2.tree [c1, c2] ∧ bs[i].1.length ≤ maxN ∧ vs[i * 3]? = some (.string (str bs[i].1)) ∧ vs[i * 3 + 1]? = some c1 ∧ vs[i * 3 + 2]? = some c2 := by
 induction h with
 | nil => intro i hi; simp at hi
 | @cons x e bs c1 c2 vs hx h hs ih =>
  intro i hi
  cases i with
  | zero => exact ⟨c1, c2, h, hx, rfl, rfl, rfl⟩
  | succ i =>
   obtain ⟨d1, d2, h1, h2, h3, h4, h5⟩ := ih i (by simpa using hi)
   refine ⟨d1, d2, by simpa using h1, by simpa using h2, ?_, ?_, ?_⟩
   ·rw [show (i + 1) * 3 = i * 3 + 1 + 1 + 1 by omega]; simpa using h3
   ·rw [show (i + 1) * 3 + 1 = i * 3 + 1 + 1 + 1 + 1 by omega]; simpa using h4
   ·rw [show (i + 1) * 3 + 2 = i * 3 + 2 + 1 + 1 + 1 by omega]; simpa using h5
structure Binds (I : Heap) (oa : Option Addr) (bs : Bds) (c : Nat) : Prop where
 rep : ∃ vs, BindL I bs vs ∧ ∀ x, oa = some x → Still I x vs
 nil : oa = none → bs.length = 0
 cap : bs.length ≤ c
 len : bs.length ≤ maxN
theorem Binds.mono {I I' : Heap} (hle : HLe I I') {oa : Option Addr} {bs : Bds} {c : Nat} (h : Binds I oa bs c) : Binds I' oa bs c := by
 obtain ⟨⟨vs, h1, h2⟩, h3, h4, h5⟩ := h
 exact ⟨⟨vs, h1.mono hle, fun x hx => (h2 x hx).mono hle⟩, h3, h4, h5⟩
theorem Binds.at {I : Heap} {oa : Option Addr} {bs : Bds} {c : Nat} (h : Binds I oa bs c) (i : Nat) (hi : i < bs.length) :
  ∃ ob d, Rep I bs[i].2.tree [.string (str bs[i].2.tree.atom), .slice ob bs[i].2.tree.parts.length d] ∧ bs[i].1.length ≤ maxN ∧
   Still I ((oad oa).add (i * 3)) [.string (str bs[i].1), .string (str bs[i].2.tree.atom), .slice ob bs[i].2.tree.parts.length d] := by
 obtain ⟨⟨vs, h1, h2⟩, h3, h4, h5⟩ := h
 obtain ⟨c1, c2, r, hx, e1, e2, e3⟩ := h1.get i hi
 obtain ⟨ob, d, ws, he, _⟩ := r.open
 simp only [List.cons.injEq, and_true] at he
 obtain ⟨rfl, rfl⟩ := he
 obtain ⟨y, rfl⟩ : ∃ y, oa = some y := by
  cases oa with
  | none => have := h3 rfl; omega
  | some y => exact ⟨y, rfl⟩
 refine ⟨ob, d, r, hx, (h2 y rfl).part (i * 3) ?_⟩
 intro j hj
 match j, hj with
 | 0, _ => simpa using e1
 | 1, _ => simpa using e2
 | 2, _ => simpa using e3
/-- An expression that a loop has made, and where it lies. -/
structure YS where
 I : Heap
 k : Nat
 oa : Option Addr
 c : Nat
section rules
variable {P : Program} {f : FuncId} {n : Nat} {I₀ : Heap} {Q : Post} {k : List Item} {E : Env} {I : Heap} {L : Own}
variable {ops : Array Oper} {d : Nat} {ty : TypeId} {pos : String} {af : Array Edge} {g : Option (Nat × Bool)} {l : List Oper}
/-- Number 'i' comes up. -/
def RunI (P : Program) (f : FuncId) (n : Nat) (I₀ : Heap) (Q : Post) (ops : Array Oper) (S : World → Prop) (fuel : Nat) (listed : Array Bool) (i : Nat) (k : List Item) (E : Env) (I : Heap) (L : Own) : Prop :=
 ∀ a w, a.tmps.size = n → a.defers = [] → EnvOk E a → Mem I L w → wpOp P ops (QK P f n I₀ Q k) i (fun a' w' => Held ops S (listed.setIfInBounds i true) w' ∧ anyH P ops (QK P f n I₀ Q k) S fuel (listed.setIfInBounds i true) a' w') a w
theorem d_each {S : World → Prop} {fuel : Nat} {listed : Array Bool} (is : List Nat) (hc : decide (Region.ready .any ops listed = is) = true) (hne : is.isEmpty = false)
  (h : ∀ i ∈ is, RunI P f n I₀ Q ops S fuel listed i k E I L) : RunW P f n I₀ Q ops S (fuel + 1) listed k E I L := by
 have hr := of_decide_eq_true hc
 intro a w ha hd he hm
 refine ⟨fun h0 => (by rw [hr] at h0; rw [h0] at hne; cases hne), fun i hi => h i (hr ▸ hi) a w ha hd he hm⟩
theorem d_two {S : World → Prop} {fuel : Nat} {listed : Array Bool} (i j : Nat) (hc : decide (Region.ready .any ops listed = [i, j]) = true)
  (h1 : RunI P f n I₀ Q ops S fuel listed i k E I L) (h2 : RunI P f n I₀ Q ops S fuel listed j k E I L) : RunW P f n I₀ Q ops S (fuel + 1) listed k E I L :=
 d_each [i, j] hc rfl fun x hx => by
  simp only [List.mem_cons, List.not_mem_nil, or_false] at hx
  rcases hx with rfl | rfl
  ·exact h1
  ·exact h2
theorem d_three {S : World → Prop} {fuel : Nat} {listed : Array Bool} (i j m : Nat) (hc : decide (Region.ready .any ops listed = [i, j, m]) = true)
  (h1 : RunI P f n I₀ Q ops S fuel listed i k E I L) (h2 : RunI P f n I₀ Q ops S fuel listed j k E I L) (h3 : RunI P f n I₀ Q ops S fuel listed m k E I L) : RunW P f n I₀ Q ops S (fuel + 1) listed k E I L :=
 d_each [i, j, m] hc rfl fun x hx => by
  simp only [List.mem_cons, List.not_mem_nil, or_false] at hx
  rcases hx with rfl | rfl | rfl
  ·exact h1
  ·exact h2
  ·exact h3
theorem d_cutL {S : World → Prop} {fuel : Nat} {listed : Array Bool} {X : Type} (E' : X → Env) (I' : X → Heap) (L' : X → Own) (R : X → Prop)
  (hk : ∀ x, R x → RunS P f n I₀ Q k (E' x) (I' x) (L' x ++ L)) (h : (∀ x, R x → RunS P f n I₀ Q k (E' x) (I' x) (L' x ++ L)) → RunW P f n I₀ Q ops S fuel listed k E I L) : RunW P f n I₀ Q ops S fuel listed k E I L := h hk
theorem i_one {S : World → Prop} {fuel : Nat} {listed : Array Bool} (i : Nat) {o : Oper} (hi : ops[i]? = some o)
  {a : Act} {w : World} (hw : Region.wanted o (yielded ops a.tmps) = true)
  (h : o.wp P a w (fun a' w' => Held ops S (listed.setIfInBounds i true) w' ∧ anyH P ops (QK P f n I₀ Q k) S fuel (listed.setIfInBounds i true) a' w') (QK P f n I₀ Q k)) :
  wpOp P ops (QK P f n I₀ Q k) i (fun a' w' => Held ops S (listed.setIfInBounds i true) w' ∧ anyH P ops (QK P f n I₀ Q k) S fuel (listed.setIfInBounds i true) a' w') a w := by
 unfold wpOp
 simp only [hi, hw, if_true]
 exact .inl h
theorem i_stepX {S : World → Prop} {fuel : Nat} {listed listed' : Array Bool} (i : Nat) {o : Oper} (hi : ops[i]? = some o) (hl : listed' = listed.setIfInBounds i true)
  (hd : o.dst = some d) (hdn : Nat.blt d n = true) (hw : ∀ a, EnvOk E a → Region.wanted o (yielded ops a.tmps) = true)
  (hx : ∀ a w, EnvOk E a → Mem I L w → ∃ v w' I' L', (execOp a.eval o).run P w = .ok (.value v) w' ∧ Mem I' L' w' ∧ (heldB ops listed' = true ∨ ∀ w, Mem I' L' w → S w) ∧ RunW P f n I₀ Q ops S fuel listed' k ((d, v) :: E) I' L') :
  RunI P f n I₀ Q ops S fuel listed i k E I L := by
 intro a w ha hds he hm
 obtain ⟨v, w', I', L', hrun, hm', hS, h⟩ := hx a w he hm
 refine i_one i hi (hw a he) ?_
 simp only [Oper.wp, hrun, Oper.upon, hd]
 rw [← hl]
 exact ⟨hS.imp id fun h => h _ hm', h _ _ (by simp [Act.put, ha]) (by simpa [Act.put] using hds) (he.put (by rw [ha]; exact Nat.blt_eq ▸ hdn)) hm'⟩
theorem i_yld {S : World → Prop} {fuel : Nat} {listed listed' : Array Bool} (i : Nat) {op : Op} {v : Value} (hi : ops[i]? = some ⟨some d, op, ty, pos, af, g⟩) (hl : listed' = listed.setIfInBounds i true)
  (hx : Yld P E (Mem I L) ⟨some d, op, ty, pos, af, g⟩ v) (hg : Wants ops E g) (hdn : Nat.blt d n = true) (hS : heldB ops listed' = true ∨ ∀ w, Mem I L w → S w)
  (h : RunW P f n I₀ Q ops S fuel listed' k ((d, v) :: E) I L) : RunI P f n I₀ Q ops S fuel listed i k E I L :=
 i_stepX i hi hl rfl hdn (fun a he => hg.wanted a he) fun a w he hm => ⟨v, w, I, L, hx a w he hm, hm, hS, h⟩
theorem d_yld {S : World → Prop} {fuel : Nat} {listed listed' : Array Bool} (i : Nat) {op : Op} {v : Value} (hi : ops[i]? = some ⟨some d, op, ty, pos, af, g⟩) (hc : decide (Region.ready .any ops listed = [i]) = true) (hl : listed' = listed.setIfInBounds i true)
  (hx : Yld P E (Mem I L) ⟨some d, op, ty, pos, af, g⟩ v) (hg : Wants ops E g) (hdn : Nat.blt d n = true) (hS : heldB ops listed' = true ∨ ∀ w, Mem I L w → S w)
  (h : RunW P f n I₀ Q ops S fuel listed' k ((d, v) :: E) I L) : RunW P f n I₀ Q ops S (fuel + 1) listed k E I L :=
 d_stepX i hi hc hl rfl hdn (fun a he => hg.wanted a he) fun a w he hm => ⟨v, w, I, L, hx a w he hm, hm, hS, h⟩
theorem i_step_none {S : World → Prop} {fuel : Nat} {listed listed' : Array Bool} (i : Nat) {o : Oper} {I' : Heap} {L' : Own} (hi : ops[i]? = some o) (hl : listed' = listed.setIfInBounds i true)
  (hd : o.dst = none) (hw : ∀ a, EnvOk E a → Region.wanted o (yielded ops a.tmps) = true)
  (hx : ∀ a w, EnvOk E a → Mem I L w → ∃ w', ((execOp a.eval o).run P w = .ok .skip w' ∨ ∃ v, (execOp a.eval o).run P w = .ok (.value v) w') ∧ Mem I' L' w') (hS : heldB ops listed' = true ∨ ∀ w, Mem I' L' w → S w)
  (h : RunW P f n I₀ Q ops S fuel listed' k E I' L') : RunI P f n I₀ Q ops S fuel listed i k E I L := by
 intro a w ha hds he hm
 obtain ⟨w', hrun, hm'⟩ := hx a w he hm
 refine i_one i hi (hw a he) ?_
 rcases hrun with hrun | ⟨v, hrun⟩ <;>
 ·simp only [Oper.wp, hrun, Oper.upon, hd, Act.put]
  rw [← hl]
  exact ⟨hS.imp id fun h => h _ hm', h a w' ha hds he hm'⟩
theorem i_enterX {S : World → Prop} {fuel : Nat} {listed listed' : Array Bool} (i : Nat) {o : Oper} {kf : FuncId} {vs : List Value} {Q' : Post} (hi : ops[i]? = some o) (hl : listed' = listed.setIfInBounds i true)
  (hd : o.dst = some d) (hdn : Nat.blt d n = true) (hw : ∀ a, EnvOk E a → Region.wanted o (yielded ops a.tmps) = true)
  (hx : ∀ a w, EnvOk E a → (execOp a.eval o).run P w = .ok (.enter kf vs.toArray) w) (hF : Fun P kf vs I L Q')
  (h : ∀ v I' L', HLe I I' → Q' v I' L' → (heldB ops listed' = true ∨ ∀ w, Mem I' L' w → S w) ∧ RunW P f n I₀ Q ops S fuel listed' k ((d, v) :: E) I' L') : RunI P f n I₀ Q ops S fuel listed i k E I L := by
 intro a w ha hds he hm
 refine i_one i hi (hw a he) ?_
 simp only [Oper.wp, hx a w he, Oper.upon, hd]
 refine (hF.run w hm).mono fun e w' hE => ?_
 obtain ⟨v, I', L', rfl, hle, hm', hq⟩ := hE
 obtain ⟨hS, h⟩ := h v I' L' hle hq
 rw [← hl]
 exact ⟨hS.imp id fun h => h _ hm', h _ _ (by simp [Act.put, ha]) (by simpa [Act.put] using hds) (he.put (by rw [ha]; exact Nat.blt_eq ▸ hdn)) hm'⟩
theorem i_call {S : World → Prop} {fuel : Nat} {listed listed' : Array Bool} (i : Nat) {kf : FuncId} {args : Array Operand} {tys : Array TypeId} {vs : List Value} {Q' : Post} {c : Code} {m : Nat} {rs : List ResultVar} [hf : FnIs P kf c m rs]
  (hi : ops[i]? = some ⟨some d, .call ⟨.value (.func kf), args, tys⟩, ty, pos, af, g⟩) (hl : listed' = listed.setIfInBounds i true)
  (ha : opds E args.toList = some vs) (hg : Wants ops E g) (hdn : Nat.blt d n = true) (hF : Fun P kf vs I L Q')
  (h : ∀ v I' L', HLe I I' → Q' v I' L' → (heldB ops listed' = true ∨ ∀ w, Mem I' L' w → S w) ∧ RunW P f n I₀ Q ops S fuel listed' k ((d, v) :: E) I' L') : RunI P f n I₀ Q ops S fuel listed i k E I L :=
 i_enterX i hi hl rfl hdn (fun a he => hg.wanted a he) (x_call ha) hF h
theorem i_lits {S : World → Prop} {fuel : Nat} {listed listed' : Array Bool} (i : Nat) {T e : TypeId} {parts : Array (Nat × Operand)} {is : List Nat} {vs us : List Value} {m : Nat} {sz bb esz ebb : Nat} {z ez : List Value} {dd : TypeDesc} [ht : TyIs P T (.slice e) sz bb z] [hte : TyIs P e dd esz ebb ez]
  (hi : ops[i]? = some ⟨some d, .buildSlice T m parts, ty, pos, af, g⟩) (hl : listed' = listed.setIfInBounds i true)
  (hp : parts.toList.map (·.1) = is) (ho : opds E (parts.toList.map (·.2)) = some vs) (hr : is = List.range' 0 vs.length) (hm : vs.length = m) (hfl : flatN esz vs = some us) (hm0 : m * esz ≠ 0) (hm1 : m * esz ≤ 2 ^ 24) (hez : ez.length = esz)
  (hg : Wants ops E g) (hdn : Nat.blt d n = true) (hS : heldB ops listed' = true ∨ ∀ w, Mem I L w → S w)
  (h : ∀ b, RunW P f n I₀ Q ops S fuel listed' k ((d, .slice (some ⟨b, 0, none⟩) m m) :: E) I ((b, .cells us.toArray e (0, 0)) :: L)) : RunI P f n I₀ Q ops S fuel listed i k E I L := by
 refine i_stepX i hi hl rfl hdn (fun a he => hg.wanted a he) fun a w he hmm => ?_
 obtain ⟨w', h1, h2⟩ := x_lits (P := P) (T := T) (e := e) (d := d) (ty := ty) (pos := pos) (af := af) (g := g) hp ho hr hm hfl hm0 hm1 hez a w he hmm
 exact ⟨_, w', I, _, h1, h2, hS.imp id fun hS w hw => hS w hw.drop, h _⟩
theorem x_alloc {T : TypeId} {dd : TypeDesc} {sz bb : Nat} {z : List Value} [ht : TyIs P T dd sz bb z] (a : Act) (w : World) :
  (execOp a.eval ⟨some d, .alloc T, ty, pos, af, g⟩).run P w = .ok (.value (.pointer (some ⟨w.heap.size, 0, none⟩))) { w with heap := w.heap.push (.cells z.toArray T (0, 0)) } := by
 obtain ⟨v, hv, hz⟩ := run_zero ht w
 simp only [execOp, Instr.alloc]
 refine run_bind_ok (a := .pointer (some ⟨w.heap.size, 0, none⟩)) (w' := { w with heap := w.heap.push (.cells z.toArray T (0, 0)) }) ?_ |>.trans rfl
 rw [run_bind_ok hv]
 have : v.cells = z.toArray := by rw [← hz]
 simp only [newVar, newRow, newObj, this]
 rfl
theorem i_alloc {S : World → Prop} {fuel : Nat} {listed listed' : Array Bool} (i : Nat) {T : TypeId} {dd : TypeDesc} {sz bb : Nat} {z : List Value} [ht : TyIs P T dd sz bb z]
  (hi : ops[i]? = some ⟨some d, .alloc T, ty, pos, af, g⟩) (hl : listed' = listed.setIfInBounds i true) (hg : Wants ops E g) (hdn : Nat.blt d n = true) (hS : heldB ops listed' = true ∨ ∀ w, Mem I L w → S w)
  (h : ∀ b, RunW P f n I₀ Q ops S fuel listed' k ((d, .pointer (some ⟨b, 0, none⟩)) :: E) I ((b, .cells z.toArray T (0, 0)) :: L)) : RunI P f n I₀ Q ops S fuel listed i k E I L := by
 refine i_stepX i hi hl rfl hdn (fun a he => hg.wanted a he) fun a w he hm => ?_
 exact ⟨_, _, I, _, x_alloc (T := T) a w, hm.alloc _, hS.imp id fun hS w hw => hS w hw.drop, h _⟩
theorem d_alloc {S : World → Prop} {fuel : Nat} {listed listed' : Array Bool} (i : Nat) {T : TypeId} {dd : TypeDesc} {sz bb : Nat} {z : List Value} [ht : TyIs P T dd sz bb z]
  (hi : ops[i]? = some ⟨some d, .alloc T, ty, pos, af, g⟩) (hc : decide (Region.ready .any ops listed = [i]) = true) (hl : listed' = listed.setIfInBounds i true) (hg : Wants ops E g) (hdn : Nat.blt d n = true) (hS : heldB ops listed' = true ∨ ∀ w, Mem I L w → S w)
  (h : ∀ b, RunW P f n I₀ Q ops S fuel listed' k ((d, .pointer (some ⟨b, 0, none⟩)) :: E) I ((b, .cells z.toArray T (0, 0)) :: L)) : RunW P f n I₀ Q ops S (fuel + 1) listed k E I L :=
 d_each [i] hc rfl fun x hx => by
  obtain rfl := List.mem_singleton.1 hx
  exact i_alloc x hi hl hg hdn hS h
theorem i_store {S : World → Prop} {fuel : Nat} {listed listed' : Array Bool} (i : Nat) {T U : TypeId} {x y : Operand} {b off : Nat} {v : Value} {vs cs us : List Value} {L' : Own} {dd : TypeDesc} {sz bb : Nat} {z : List Value} [ht : TyIs P T dd sz bb z]
  (hi : ops[i]? = some ⟨none, .store T x y, ty, pos, af, g⟩) (hl' : listed' = listed.setIfInBounds i true)
  (hx : opd E x = some (.pointer (some ⟨b, off, none⟩))) (hy : opd E y = some v) (hv : valCells v = some vs) (hl : vs.length = sz) (hp : vs.all plainCell = true)
  (hu : Upd b (.cells us.toArray U (0, 0)) (.cells cs.toArray U (0, 0)) L L') (hus : putN off vs cs = some us) (hg : Wants ops E g) (hS : heldB ops listed' = true ∨ ∀ w, Mem I L' w → S w)
  (h : RunW P f n I₀ Q ops S fuel listed' k E I L') : RunI P f n I₀ Q ops S fuel listed i k E I L :=
 i_step_none i hi hl' rfl (fun a he => hg.wanted a he) (x_store hx hy hv hl hp hu hus) hS h
theorem i_st {S : World → Prop} {fuel : Nat} {listed listed' : Array Bool} (i : Nat) {T U : TypeId} {x y : Operand} {b off : Nat} {v : Value} {vs cs us : List Value} {L' : Own} {dd : TypeDesc} {sz bb : Nat} {z : List Value} [ht : TyIs P T dd sz bb z]
  (hi : ops[i]? = some ⟨none, .store T x y, ty, pos, af, g⟩) (hl' : listed' = listed.setIfInBounds i true)
  (hx : opd E x = some (.pointer (some ⟨b, off, none⟩))) (hy : opd E y = some v) (hv : valCells v = some vs) (hl : vs.length = sz) (hg : Wants ops E g) (hS : heldB ops listed' = true ∨ ∀ w, Mem I L' w → S w) (h : RunW P f n I₀ Q ops S fuel listed' k E I L')
  (hp : vs.all plainCell = true := by first | rfl | (simp only [List.toList_toArray, List.all_cons, List.all_nil, plainCell_buf, Bool.and_true, Bool.true_and] <;> rfl)) (hu : Upd b (.cells us.toArray U (0, 0)) (.cells cs.toArray U (0, 0)) L L' := by first | exact u0 | exact u1 | exact u2 | exact u3 | exact u4 | exact u5 | exact u6) (hus : putN off vs cs = some us := by rfl) : RunI P f n I₀ Q ops S fuel listed i k E I L := i_store i hi hl' hx hy hv hl hp hu hus hg hS h
end rules
end Go.Proofs.YtfddjcmeejjhiaaGreatDoor
