/- Expressions that are alike, by the program and by the reference. No conditions. -/
import Derived.Test.YtplalahnnoeidaaGreatDoorG13
namespace Go.Proofs.YtplalahnnoeidaaGreatDoor
set_option maxRecDepth 100000
set_option linter.unusedVariables false
set_option linter.unusedSimpArgs false

theorem Ex.alk_head {e f : Ex} {a b : List Txt} (h : e.alk f a b = true) : e.tree.head = f.tree.head ∧ e.tree.parts.length = f.tree.parts.length ∧ e.bare = f.bare := by
 cases e <;> cases f <;> simp only [Ex.alk, Bool.false_eq_true, Bool.and_eq_true, decide_eq_true_eq] at h <;> first
  | exact ⟨rfl, rfl, rfl⟩
  | exact ⟨h.1.1, rfl, rfl⟩
  | exact ⟨h.1, rfl, rfl⟩
theorem Ex.same_shape {e f : Ex} (he : e.bare = false) (hf : f.bare = false) (h : e.tree.head = f.tree.head) : (∃ o a b a' b', e = .bin o a b ∧ f = .bin o a' b') ∨ (∃ a b c a' b' c', e = .ite a b c ∧ f = .ite a' b' c') ∨ (∃ x a b x' a' b', e = .lt x a b ∧ f = .lt x' a' b') ∨
  (∃ g x s t b g' x' s' t' b', e = .fn g x s t b ∧ f = .fn g' x' s' t' b') ∨ (∃ o a a', e = .un o a ∧ f = .un o a') := by
 cases e with
 | num s => cases he
 | name s => cases he
 | bin o a b =>
  cases f with
  | num s => cases hf
  | name s => cases hf
  | bin o' a' b' => obtain rfl := B5.txt_inj (show o.txt = o'.txt from h); exact .inl ⟨o, a, b, a', b', rfl, rfl⟩
  | ite a' b' c' => exact absurd (show o.txt = tIf from h) o.txt_ne.1
  | lt x a' b' => exact absurd (show o.txt = tLet from h) o.txt_ne.2.1
  | fn g x s t b' => exact absurd (show o.txt = tFun from h) o.txt_ne.2.2.1
  | un u a' => exact absurd (show o.txt = u.txt from h) (BU_ne o u)
 | ite a b c =>
  cases f with
  | num s => cases hf
  | name s => cases hf
  | bin o' a' b' => exact absurd (show tIf = o'.txt from h).symm o'.txt_ne.1
  | ite a' b' c' => exact .inr (.inl ⟨a, b, c, a', b', c', rfl, rfl⟩)
  | lt x a' b' => exact absurd (show tIf = tLet from h) (by decide)
  | fn g x s t b' => exact absurd (show tIf = tFun from h) (by decide)
  | un u a' => exact absurd (show tIf = u.txt from h).symm u.txt_ne.1
 | lt x a b =>
  cases f with
  | num s => cases hf
  | name s => cases hf
  | bin o' a' b' => exact absurd (show tLet = o'.txt from h).symm o'.txt_ne.2.1
  | ite a' b' c' => exact absurd (show tLet = tIf from h) (by decide)
  | lt x' a' b' => exact .inr (.inr (.inl ⟨x, a, b, x', a', b', rfl, rfl⟩))
  | fn g x s t b' => exact absurd (show tLet = tFun from h) (by decide)
  | un u a' => exact absurd (show tLet = u.txt from h).symm u.txt_ne.2.1
 | fn g x s t b =>
  cases f with
  | num s => cases hf
  | name s => cases hf
  | bin o' a' b' => exact absurd (show tFun = o'.txt from h).symm o'.txt_ne.2.2.1
  | ite a' b' c' => exact absurd (show tFun = tIf from h) (by decide)
  | lt x a' b' => exact absurd (show tFun = tLet from h) (by decide)
  | fn g' x' s' t' b' => exact .inr (.inr (.inr (.inl ⟨g, x, s, t, b, g', x', s', t', b', rfl, rfl⟩)))
  | un u a' => exact absurd (show tFun = u.txt from h).symm u.txt_ne.2.2.1
 | un u a =>
  cases f with
  | num s => cases hf
  | name s => cases hf
  | bin o' a' b' => exact absurd (show o'.txt = u.txt from h.symm) (BU_ne o' u)
  | ite a' b' c' => exact absurd (show u.txt = tIf from h) u.txt_ne.1
  | lt x a' b' => exact absurd (show u.txt = tLet from h) u.txt_ne.2.1
  | fn g x s t b' => exact absurd (show u.txt = tFun from h) u.txt_ne.2.2.1
  | un u' a' => obtain rfl := U2.txt_inj (show u.txt = u'.txt from h); exact .inr (.inr (.inr (.inr ⟨u, a, a', rfl, rfl⟩)))
/-- Two atoms, one of them no name. -/
theorem alk_atoms {e f : Ex} {a b : List Txt} (he : e.bare = true) (hf : f.bare = true) (hoe : e.ok = true) (hof : f.ok = true) (ha : namesL a) (hb : namesL b) :
  e.alk f a b = (decide (idxVal (lastIdx a e.tree.atom) = idxVal (lastIdx b f.tree.atom)) && (decide (0 ≤ idxVal (lastIdx a e.tree.atom)) || decide (e.tree.atom = f.tree.atom))) := by
 have hnum : ∀ {l : List Txt} {s : Txt}, namesL l → isNum s = true → lastIdx l s = none := fun {l s} hl hs => lastIdx_none.2 fun hm => by
  have := name_not_num (hl s hm); rw [hs] at this; cases this
 have hix : ∀ {x y : Option Nat}, idxVal x = idxVal y ↔ x = y := fun {x y} => by
  cases x <;> cases y <;> simp [idxVal] <;> omega
 have hi0 : ∀ {x : Option Nat}, (0 ≤ idxVal x) ↔ x.isSome = true := fun {x} => by cases x <;> simp [idxVal]
 cases e with
 | num s =>
  have h1 := hnum ha (show isNum s = true from hoe)
  cases f with
  | num t =>
   have h2 := hnum hb (show isNum t = true from hof)
   simp only [Ex.alk, show (Ex.num s).tree.atom = s from rfl, show (Ex.num t).tree.atom = t from rfl, h1, h2]
   simp [idxVal]
  | name t =>
   simp only [Ex.alk, show (Ex.num s).tree.atom = s from rfl, show (Ex.name t).tree.atom = t from rfl, h1, hix, hi0]
   have : ¬ s = t := fun e => by
    have := name_not_num (show isName t = true from hof); rw [← e, show isNum s = true from hoe] at this; cases this
   simp [this]
  | _ => cases hf
 | name s =>
  cases f with
  | num t =>
   have h2 := hnum hb (show isNum t = true from hof)
   simp only [Ex.alk, show (Ex.name s).tree.atom = s from rfl, show (Ex.num t).tree.atom = t from rfl, h2, hix, hi0]
   have : ¬ s = t := fun e => by
    have := name_not_num (show isName s = true from hoe); rw [e, show isNum t = true from hof] at this; cases this
   cases lastIdx a s <;> simp [this]
  | name t =>
   simp only [Ex.alk, show (Ex.name s).tree.atom = s from rfl, show (Ex.name t).tree.atom = t from rfl, hix, hi0]
   cases lastIdx a s <;> simp
  | _ => cases hf
 | _ => cases he
theorem alk_mix {e f : Ex} {a b : List Txt} (h : e.bare ≠ f.bare) : e.alk f a b = false := by
 cases hx : e.alk f a b with
 | false => rfl
 | true => exact absurd (Ex.alk_head hx).2.2 h
def AL (x : Bool) (L : Own) : Post := fun v I' L' => v = .bool x ∧ L = L'
set_option maxHeartbeats 2000000 in
theorem f_alike : ∀ (n : Nat) {I : Heap} {e e' : Ex} {cs ds : List Value} (_ : SizeOf.sizeOf e < n) (_ : Rep I e.tree cs) (_ : e.ok = true) (_ : Rep I e'.tree ds) (_ : e'.ok = true) {f t : List Txt} {of ot : Option Addr} {cf ct : Nat} (_ : Strs I of f cf) (_ : Strs I ot t ct) (_ : namesL f) (_ : namesL t)
  (_ : f.length + 2 * e.size ≤ 100000) (_ : t.length + 2 * e'.size ≤ 100000) (L : Own),
  Fun Tryz.prog 19 [.agg cs.toArray, .agg ds.toArray, .slice of f.length cf, .slice ot t.length ct] I L (AL (e.alk e' f t) L) := by
 intro n
 induction n with
 | zero => intro I e e' cs ds h; omega
 | succ n ihn =>
  intro I e e' cs ds hlt h hok h' hok' f t of ot cf ct hfr hto hnf hnt hfl htl L
  obtain ⟨oa, c, oaf, cf1, rfl, hf⟩ := h.at'
  obtain ⟨ob, cb, obf, cb1, rfl, hg⟩ := h'.at'
  have hle : HLe I I := .refl _
  have ha := hf.alen
  have hb := hg.alen
  refine fun_intro (by simp) ?_
  refine Se rfl ?_
  refine o_box rfl rfl .free rfl ?_
  intro b4
  refine o_box rfl rfl .free rfl ?_
  intro b5
  refine Oa rfl (o_done (s_seq (Se rfl ?_)))
  refine o_lOS rfl .free rfl ?_
  refine o_call rfl .free rfl (f_form_isAtom hf.rep _) ?_
  rintro _ _ _ _ ⟨rfl, rfl, rfl⟩
  refine Om rfl ?_
  apply o_or 15 18 rfl
  ·intro g1_3 hk
   try simp only [nb] at g1_3
   refine o_lOS rfl (.met rfl rfl) rfl ?_
   refine o_call rfl (.met rfl rfl) rfl (f_form_isAtom hg.rep _) ?_
   rintro _ _ _ _ ⟨rfl, rfl, rfl⟩
   refine o_pick_false rfl rfl .free rfl ?_
   exact o_fin 2 rfl rfl hk
  ·intro _ hk
   refine o_skips 2 rfl ?_
   refine o_pick_true rfl rfl .free rfl ?_
   exact o_fin 2 rfl rfl hk
  refine o_done ?_
  refine s_cond rfl ?_ ?_
  ·intro c0
   try simp only [nb] at c0
   refine s_seq ?_
   refine d_all 10 rfl rfl ?_
   refine Da 0 rfl (y_move rfl) ?_
   refine Da 1 rfl (y_fieldAddr rfl) ?_
   refine Dt 2 [10] rfl (y_lO1 rfl) ?_
   refine Da 4 rfl (y_move rfl) ?_
   refine Da 5 rfl (y_fieldAddr rfl) ?_
   refine Dt 6 [10] rfl (y_lO1 rfl) ?_
   refine d_call 3 rfl (by kernel_rfl) rfl rfl .free rfl (f_lastIndex hfr e.tree.atom _) ?_
   rintro _ _ _ _ ⟨rfl, rfl, rfl⟩
   refine ⟨(.inr heldx), ?_⟩
   refine d_call 7 rfl (by kernel_rfl) rfl rfl .free rfl (f_lastIndex hto e'.tree.atom _) ?_
   rintro _ _ _ _ ⟨rfl, rfl, rfl⟩
   refine ⟨(.inr heldx), ?_⟩
   refine Da 8 rfl (y_assign rfl) ?_
   refine Da 9 rfl (y_assign rfl) ?_
   refine d_done (by kernel_rfl) ?_
   refine Se rfl ?_
   refine o_lOS rfl .free rfl ?_
   refine o_call rfl .free rfl (f_form_isAtom hf.rep _) ?_
   rintro _ _ _ _ ⟨rfl, rfl, rfl⟩
   refine Om rfl ?_
   apply o_and 29 32 rfl
   ·intro g3_3 hk
    try simp only [nb] at g3_3
    refine o_lOS rfl (.met rfl rfl) rfl ?_
    refine o_call rfl (.met rfl rfl) rfl (f_form_isAtom hg.rep _) ?_
    rintro _ _ _ _ ⟨rfl, rfl, rfl⟩
    refine o_pick_true rfl rfl .free rfl ?_
    exact o_fin 2 rfl rfl hk
   ·intro _ hk
    refine o_skips 2 rfl ?_
    refine o_pick_false rfl rfl .free rfl ?_
    exact o_fin 2 rfl rfl hk
   refine Om rfl ?_
   apply o_and 33 37 rfl
   ·intro g3_7 hk
    try simp only [nb] at g3_7
    refine o_move rfl (.met rfl rfl) rfl ?_
    refine o_move rfl (.met rfl rfl) rfl ?_
    refine o_cmp rfl rfl rfl (.met rfl rfl) rfl ?_
    refine o_pick_true rfl rfl .free rfl ?_
    exact o_fin 3 rfl rfl hk
   ·intro _ hk
    refine o_skips 3 rfl ?_
    refine o_pick_false rfl rfl .free rfl ?_
    exact o_fin 3 rfl rfl hk
   refine Om rfl ?_
   apply o_and 38 48 rfl
   ·intro g3_12 hk
    try simp only [nb] at g3_12
    refine o_move rfl (.met rfl rfl) rfl ?_
    refine o_cmp rfl rfl rfl (.met rfl rfl) rfl ?_
    refine o_move rfl (.met rfl rfl) rfl ?_
    apply o_or 41 47 rfl
    ·intro g3_15 hk
     try simp only [nb] at g3_15
     refine o_fieldAddr rfl (.met rfl rfl) rfl ?_
     refine o_lO1 rfl (.met rfl rfl) rfl ?_
     refine o_fieldAddr rfl (.met rfl rfl) rfl ?_
     refine o_lO1 rfl (.met rfl rfl) rfl ?_
     refine o_cmps rfl rfl rfl (.met rfl rfl) rfl ?_
     refine o_pick_false rfl rfl (.met rfl rfl) rfl ?_
     exact o_fin 5 rfl rfl hk
    ·intro _ hk
     refine o_skips 5 rfl ?_
     refine o_pick_true rfl rfl (.met rfl rfl) rfl ?_
     exact o_fin 5 rfl rfl hk
    refine o_pick_true rfl rfl .free rfl ?_
    exact o_fin 4 rfl rfl hk
   ·intro _ hk
    refine o_skips 9 rfl ?_
    refine o_pick_false rfl rfl .free rfl ?_
    exact o_fin 9 rfl rfl hk
   refine Oa rfl (o_done ?_)
   refine s_ret (.tmp rfl .nil) ?_
   refine ⟨I, L, .refl _, drops, ?_, rfl⟩
   by_cases h1 : e.bare = true
   ·by_cases h2 : e'.bare = true
    ·rw [alk_atoms h1 h2 hok hok' hnf hnt]
     rw [Ex.bare_parts] at h1 h2
     simp [retOne, h1, h2]
    ·rw [alk_mix (by rw [h1]; exact fun e => h2 e.symm)]
     rw [Ex.bare_parts] at h1 h2
     simp [retOne, h1, h2]
   ·rw [Ex.bare_parts] at h1
    by_cases h2 : e'.bare = true
    ·rw [alk_mix (by rw [h2, Ex.bare_parts]; exact h1)]
     simp [retOne, h1]
    ·rw [Ex.bare_parts] at h2
     exact absurd c0 (by simp [h1, h2])
  intro c0
  try simp only [nb] at c0
  have hbe : e.bare = false := by rw [Ex.bare_parts]; simpa using c0.1
  have hbe' : e'.bare = false := by rw [Ex.bare_parts]; simpa using c0.2
  refine s_skip (s_seq (s_seq ?_))
  refine d_all 14 rfl rfl ?_
  refine Dt 0 [14] rfl (y_lOS rfl) ?_
  refine Dt 2 [14] rfl (y_lOS rfl) ?_
  refine d_call 1 rfl (by kernel_rfl) rfl rfl .free rfl (f_form_head hf.rep _) ?_
  rintro _ _ _ _ ⟨rfl, rfl, rfl⟩
  refine ⟨(.inr heldx), ?_⟩
  refine d_call 3 rfl (by kernel_rfl) rfl rfl .free rfl (f_form_head hg.rep _) ?_
  rintro _ _ _ _ ⟨rfl, rfl, rfl⟩
  refine ⟨(.inr heldx), ?_⟩
  refine Da 4 rfl (y_cmps rfl rfl rfl) ?_
  refine Da 5 rfl (y_move rfl) ?_
  apply d_or 54 62 rfl
  ·intro g4_6 hk
   try simp only [nb] at g4_6
   refine d_takeA 6 rfl (by kernel_rfl) rfl (.inr heldx) (y_fieldAddr rfl) (.met rfl rfl) rfl ?_
   refine d_take 7 [14] rfl (by kernel_rfl) rfl heldx (y_lO1 rfl) (.met rfl rfl) rfl ?_
   refine d_takeA 8 rfl (by kernel_rfl) rfl (.inr heldx) (y_len_slice rfl) (.met rfl rfl) rfl ?_
   refine d_takeA 9 rfl (by kernel_rfl) rfl (.inr heldx) (y_fieldAddr rfl) (.met rfl rfl) rfl ?_
   refine d_take 10 [14] rfl (by kernel_rfl) rfl heldx (y_lO1 rfl) (.met rfl rfl) rfl ?_
   refine d_takeA 11 rfl (by kernel_rfl) rfl (.inr heldx) (y_len_slice rfl) (.met rfl rfl) rfl ?_
   refine d_takeA 12 rfl (by kernel_rfl) rfl (.inr heldx) (y_cmp rfl rfl rfl) (.met rfl rfl) rfl ?_
   refine Da 13 rfl (y_pick_false rfl rfl) ?_
   exact d_fin 7 rfl rfl hk
  ·intro _ hk
   refine Ds 6 rfl rfl rfl ?_
   refine Ds 7 rfl rfl rfl ?_
   refine Ds 8 rfl rfl rfl ?_
   refine Ds 9 rfl rfl rfl ?_
   refine Ds 10 rfl rfl rfl ?_
   refine Ds 11 rfl rfl rfl ?_
   refine Ds 12 rfl rfl rfl ?_
   refine Da 13 rfl (y_pick_true rfl rfl) ?_
   exact d_fin 7 rfl rfl hk
  refine d_done (by kernel_rfl) ?_
  refine s_cond rfl ?_ ?_
  ·intro c1
   try simp only [nb] at c1
   refine Se rfl (Oa rfl (o_done ?_))
   refine s_ret (.tmp rfl .nil) ?_
   refine ⟨I, L, .refl _, drops, ?_, rfl⟩
   have hx : e.alk e' f t = false := by
    cases hx : e.alk e' f t with
    | false => rfl
    | true =>
     have hy := Ex.alk_head hx
     exact absurd c1 (by simp [hy.1, hy.2.1])
   rw [hx]; rfl
  intro c1
  try simp only [nb] at c1
  have hsh := Ex.same_shape hbe hbe' (by simpa using c1.1)
  have hok0 := hok
  have hok0' := hok'
  refine s_skip (s_seq (s_seq ?_))
  rcases hsh with ⟨o, a, b, a', b', rfl, rfl⟩ | ⟨a, b, d, a', b', d', rfl, rfl⟩ | ⟨z, a, b, z', a', b', rfl, rfl⟩ | ⟨h1, z, s, u, b, h1', z', s', u', b', rfl, rfl⟩ | ⟨o, a, a', rfl, rfl⟩
  ·skip
   have hlen : (Ex.bin o a b).tree.parts.length = 3 := rfl
   have hlen' : (Ex.bin o a' b').tree.parts.length = 3 := rfl
   have hki := kids_bin o a b
   have hhd : (Ex.bin o a b).tree.head = o.txt := rfl
   have hx3 : ¬ (Ex.bin o a b).tree.head = [102, 117, 110] := o.txt_ne.2.2.1
   have hx4 : ¬ (Ex.bin o a' b').tree.head = [102, 117, 110] := o.txt_ne.2.2.1
   simp only [Ex.bin.sizeOf_spec] at hlt
   simp only [Ex.ok, Bool.and_eq_true, decide_eq_true_eq] at hok hok'
   simp only [Ex.size] at hfl htl
   refine d_all 27 rfl rfl ?_
   refine Dt 0 [27] rfl (y_lOS rfl) ?_
   refine d_call 1 rfl (by kernel_rfl) rfl rfl .free rfl (f_form_head hf.rep _) ?_
   rintro _ _ _ _ ⟨rfl, rfl, rfl⟩
   refine ⟨(.inr heldx), ?_⟩
   refine Da 2 rfl (y_cmps rfl rfl rfl) ?_
   refine Da 3 rfl (y_move rfl) ?_
   refine d_put (t := 66) rfl (v' := .bool false) (by first | simp [*] | (simp; omega)) ?_
   refine Ds 4 rfl rfl rfl ?_
   refine Ds 5 rfl rfl rfl ?_
   refine Ds 6 rfl rfl rfl ?_
   refine Ds 7 rfl rfl rfl ?_
   refine Ds 8 rfl rfl rfl ?_
   refine Ds 9 rfl rfl rfl ?_
   refine Ds 10 rfl rfl rfl ?_
   refine Ds 11 rfl rfl rfl ?_
   refine Ds 12 rfl rfl rfl ?_
   refine Ds 13 rfl rfl rfl ?_
   refine Ds 14 rfl rfl rfl ?_
   refine d_takeskipu 15 rfl (by kernel_rfl) rfl (.inr heldx) rfl rfl rfl ?_
   refine d_takeskipu 16 rfl (by kernel_rfl) rfl (.inr heldx) rfl rfl rfl ?_
   refine d_takeskipu 17 rfl (by kernel_rfl) rfl (.inr heldx) rfl rfl rfl ?_
   refine d_takeskipu 18 rfl (by kernel_rfl) rfl (.inr heldx) rfl rfl rfl ?_
   refine d_takeskipu 19 rfl (by kernel_rfl) rfl (.inr heldx) rfl rfl rfl ?_
   refine d_takeskipu 20 rfl (by kernel_rfl) rfl (.inr heldx) rfl rfl rfl ?_
   refine d_takeskipu 21 rfl (by kernel_rfl) rfl (.inr heldx) rfl rfl rfl ?_
   refine d_takeskipu 22 rfl (by kernel_rfl) rfl (.inr heldx) rfl rfl rfl ?_
   refine d_takeskipu 23 rfl (by kernel_rfl) rfl (.inr heldx) rfl rfl rfl ?_
   refine d_takeskipu 24 rfl (by kernel_rfl) rfl (.inr heldx) rfl rfl rfl ?_
   refine Ds 25 rfl rfl rfl ?_
   refine Da 26 rfl (y_pick_false rfl rfl) ?_
   refine d_done (by kernel_rfl) ?_
   refine s_false rfl ?_
   refine s_skip (s_seq (Se rfl ?_))
   refine o_lOS rfl .free rfl ?_
   refine o_call rfl .free rfl (f_form_kids hf.rep _) ?_
   rintro _ J _ e0 ⟨ok, ck, rfl, hk1, rfl⟩
   have hf := hf.mono e0
   have hg := hg.mono e0
   have hfr := hfr.mono e0
   have hto := hto.mono e0
   have hle := hle.trans e0
   rw [hki] at hk1
   rw [hki]
   refine o_len_slice rfl .free rfl ?_
   refine Om rfl (o_done (s_block ?_))
   refine s_loop ?_
   refine Se rfl ?_
   refine o_cmp rfl rfl rfl .free rfl ?_
   refine o_done (s_seq ?_)
   refine s_condT rfl (by first | rfl | decide | (simp; done) | omega) ?_
   refine s_skip (s_seq (s_block (Se rfl ?_)))
   first | refine o_ixD rfl rfl _ rfl .free rfl ?_ | refine o_ixP rfl rfl _ rfl .free rfl ?_
   refine o_lI1 rfl .free rfl ?_
   refine Oa rfl (o_done (s_seq ?_))
   refine d_all 24 rfl rfl ?_
   refine Da 0 rfl (y_fieldAddr rfl) ?_
   refine Dt 1 [24] rfl (y_lO1 rfl) ?_
   refine Da 2 rfl (y_move rfl) ?_
   first | refine Da 3 rfl (y_ixD rfl rfl _ rfl) ?_ | refine Da 3 rfl (y_ixP rfl rfl _ rfl) ?_
   refine Dt 4 [24] rfl (y_lIS rfl) ?_
   refine Da 5 rfl (y_fieldAddr rfl) ?_
   refine Dt 6 [24] rfl (y_lO1 rfl) ?_
   refine Da 7 rfl (y_move rfl) ?_
   first | refine Da 8 rfl (y_ixD rfl rfl _ rfl) ?_ | refine Da 8 rfl (y_ixP rfl rfl _ rfl) ?_
   refine Dt 9 [24] rfl (y_lIS rfl) ?_
   refine Da 10 rfl (y_move rfl) ?_
   refine Dt 11 [24] rfl (y_lOS rfl) ?_
   refine Da 12 rfl (y_move rfl) ?_
   refine Da 16 rfl (y_move rfl) ?_
   refine Dt 17 [24] rfl (y_lOS rfl) ?_
   refine Da 18 rfl (y_move rfl) ?_
   refine d_call 13 rfl (by kernel_rfl) rfl rfl .free rfl (f_form_bound hf.rep hok0 _ _) ?_
   rintro _ J1 _ e1 ⟨o1, k1, rfl, hs1, rfl⟩
   refine ⟨(.inr heldx), ?_⟩
   refine d_lits 14 rfl (by kernel_rfl) rfl rfl rfl (by rfl) (by rfl) (by rfl) (by decide) (by decide) (by rfl) .free rfl (.inr heldx) ?_
   intro b111
   refine d_freeze ?_
   intro hz
   have e2 := e1.trans hz
   refine d_call 15 rfl (by kernel_rfl) rfl rfl .free rfl (f_slices_Concat (still_set (xs := [.slice of f.length cf, .slice o1 (List.length _) k1]) (ys := [])) (hfr.mono e2) (hs1.mono hz) (Ex.binds_room0 (by omega)) _) ?_
   rintro _ J3 _ e3 ⟨o3, k3, rfl, hs3, rfl⟩
   have e4 := e2.trans e3
   refine ⟨(.inr heldx), ?_⟩
   refine d_call 19 rfl (by kernel_rfl) rfl rfl .free rfl (f_form_bound (hg.mono e4).rep hok0' _ _) ?_
   rintro _ J4 _ e5 ⟨o4, k4, rfl, hs4, rfl⟩
   have e45 := e4.trans e5
   refine ⟨(.inr heldx), ?_⟩
   refine d_lits 20 rfl (by kernel_rfl) rfl rfl rfl (by rfl) (by rfl) (by rfl) (by decide) (by decide) (by rfl) .free rfl (.inr heldx) ?_
   intro b117
   refine d_freeze ?_
   intro hy
   have e6 := e4.trans (e5.trans hy)
   refine d_call 21 rfl (by kernel_rfl) rfl rfl .free rfl (f_slices_Concat (still_set (xs := [.slice ot t.length ct, .slice o4 (List.length _) k4]) (ys := [])) (hto.mono e6) (hs4.mono hy) (Ex.binds_room0 (by omega)) _) ?_
   rintro _ J5 _ e7 ⟨o5, k5, rfl, hs5, rfl⟩
   have e8 := e6.trans e7
   have hs3 := hs3.mono (e5.trans (hy.trans e7))
   have hf3 := hf.mono e8
   have hg3 := hg.mono e8
   refine ⟨(.inr heldx), ?_⟩
   refine d_call 22 rfl (by kernel_rfl) rfl rfl .free rfl (ihn (f := f ++ []) (t := t ++ []) (by omega) (hf3.as 1 a.tree (by omega) rfl) hok.1 (hg3.as 1 a'.tree (by omega) rfl) hok'.1 hs3 hs5 (by simpa using hnf) (by simpa using hnt) (by first | omega | (simp only [List.length_append, List.length_cons, List.length_nil]; omega)) (by first | omega | (simp only [List.length_append, List.length_cons, List.length_nil]; omega)) _) ?_
   rintro _ J6 _ e9 ⟨rfl, rfl⟩
   have e10 := e8.trans e9
   simp only [List.append_nil]
   refine ⟨(.inr heldx), ?_⟩
   refine Da 23 rfl (y_not rfl) ?_
   refine d_done (by kernel_rfl) ?_
   refine s_cond rfl ?_ ?_
   ·intro c4
    try simp only [nb] at c4
    refine Se rfl (Oa rfl (o_done ?_))
    refine s_ret (.tmp rfl .nil) ?_
    refine ⟨_, L, hle.trans e10, drops, ?_, rfl⟩
    have hx : (Ex.bin o a b).alk (Ex.bin o a' b') f t = false := by
     simp only [Ex.alk]; simp [c4]
    rw [hx]; rfl
   intro c4
   try simp only [nb] at c4
   have hq0 := c4
   have hf := hf3.mono e9
   have hg := hg3.mono e9
   have hfr := hfr.mono e10
   have hto := hto.mono e10
   have hk1 := hk1.mono e10
   have hle := hle.trans e10
   refine s_skip ?_
   refine s_inBlock ?_
   refine o_enter rfl ?_
   refine o_arith rfl rfl rfl (by omega) .free rfl ?_
   refine Om rfl (o_done ?_)
   refine s_round ?_
   refine Se rfl ?_
   refine o_cmp rfl rfl rfl .free rfl ?_
   refine o_done (s_seq ?_)
   refine s_condT rfl (by first | rfl | decide | (simp; done) | omega) ?_
   refine s_skip (s_seq (s_block (Se rfl ?_)))
   first | refine o_ixD rfl rfl _ rfl .free rfl ?_ | refine o_ixP rfl rfl _ rfl .free rfl ?_
   refine o_lI1 rfl .free rfl ?_
   refine Oa rfl (o_done (s_seq ?_))
   refine d_all 24 rfl rfl ?_
   refine Da 0 rfl (y_fieldAddr rfl) ?_
   refine Dt 1 [24] rfl (y_lO1 rfl) ?_
   refine Da 2 rfl (y_move rfl) ?_
   first | refine Da 3 rfl (y_ixD rfl rfl _ rfl) ?_ | refine Da 3 rfl (y_ixP rfl rfl _ rfl) ?_
   refine Dt 4 [24] rfl (y_lIS rfl) ?_
   refine Da 5 rfl (y_fieldAddr rfl) ?_
   refine Dt 6 [24] rfl (y_lO1 rfl) ?_
   refine Da 7 rfl (y_move rfl) ?_
   first | refine Da 8 rfl (y_ixD rfl rfl _ rfl) ?_ | refine Da 8 rfl (y_ixP rfl rfl _ rfl) ?_
   refine Dt 9 [24] rfl (y_lIS rfl) ?_
   refine Da 10 rfl (y_move rfl) ?_
   refine Dt 11 [24] rfl (y_lOS rfl) ?_
   refine Da 12 rfl (y_move rfl) ?_
   refine Da 16 rfl (y_move rfl) ?_
   refine Dt 17 [24] rfl (y_lOS rfl) ?_
   refine Da 18 rfl (y_move rfl) ?_
   refine d_call 13 rfl (by kernel_rfl) rfl rfl .free rfl (f_form_bound hf.rep hok0 _ _) ?_
   rintro _ J1 _ e1 ⟨o1, k1, rfl, hs1, rfl⟩
   refine ⟨(.inr heldx), ?_⟩
   refine d_lits 14 rfl (by kernel_rfl) rfl rfl rfl (by rfl) (by rfl) (by rfl) (by decide) (by decide) (by rfl) .free rfl (.inr heldx) ?_
   intro b111
   refine d_freeze ?_
   intro hz
   have e2 := e1.trans hz
   refine d_call 15 rfl (by kernel_rfl) rfl rfl .free rfl (f_slices_Concat (still_set (xs := [.slice of f.length cf, .slice o1 (List.length _) k1]) (ys := [])) (hfr.mono e2) (hs1.mono hz) (Ex.binds_room0 (by omega)) _) ?_
   rintro _ J3 _ e3 ⟨o3, k3, rfl, hs3, rfl⟩
   have e4 := e2.trans e3
   refine ⟨(.inr heldx), ?_⟩
   refine d_call 19 rfl (by kernel_rfl) rfl rfl .free rfl (f_form_bound (hg.mono e4).rep hok0' _ _) ?_
   rintro _ J4 _ e5 ⟨o4, k4, rfl, hs4, rfl⟩
   have e45 := e4.trans e5
   refine ⟨(.inr heldx), ?_⟩
   refine d_lits 20 rfl (by kernel_rfl) rfl rfl rfl (by rfl) (by rfl) (by rfl) (by decide) (by decide) (by rfl) .free rfl (.inr heldx) ?_
   intro b117
   refine d_freeze ?_
   intro hy
   have e6 := e4.trans (e5.trans hy)
   refine d_call 21 rfl (by kernel_rfl) rfl rfl .free rfl (f_slices_Concat (still_set (xs := [.slice ot t.length ct, .slice o4 (List.length _) k4]) (ys := [])) (hto.mono e6) (hs4.mono hy) (Ex.binds_room0 (by omega)) _) ?_
   rintro _ J5 _ e7 ⟨o5, k5, rfl, hs5, rfl⟩
   have e8 := e6.trans e7
   have hs3 := hs3.mono (e5.trans (hy.trans e7))
   have hf3 := hf.mono e8
   have hg3 := hg.mono e8
   refine ⟨(.inr heldx), ?_⟩
   refine d_call 22 rfl (by kernel_rfl) rfl rfl .free rfl (ihn (f := f ++ []) (t := t ++ []) (by omega) (hf3.as 2 b.tree (by omega) rfl) hok.2 (hg3.as 2 b'.tree (by omega) rfl) hok'.2 hs3 hs5 (by simpa using hnf) (by simpa using hnt) (by first | omega | (simp only [List.length_append, List.length_cons, List.length_nil]; omega)) (by first | omega | (simp only [List.length_append, List.length_cons, List.length_nil]; omega)) _) ?_
   rintro _ J6 _ e9 ⟨rfl, rfl⟩
   have e10 := e8.trans e9
   simp only [List.append_nil]
   refine ⟨(.inr heldx), ?_⟩
   refine Da 23 rfl (y_not rfl) ?_
   refine d_done (by kernel_rfl) ?_
   refine s_cond rfl ?_ ?_
   ·intro c4
    try simp only [nb] at c4
    refine Se rfl (Oa rfl (o_done ?_))
    refine s_ret (.tmp rfl .nil) ?_
    refine ⟨_, L, hle.trans e10, drops, ?_, rfl⟩
    have hx : (Ex.bin o a b).alk (Ex.bin o a' b') f t = false := by
     simp only [Ex.alk]; simp [c4, hq0]
    rw [hx]; rfl
   intro c4
   try simp only [nb] at c4
   have hq1 := c4
   have hf := hf3.mono e9
   have hg := hg3.mono e9
   have hfr := hfr.mono e10
   have hto := hto.mono e10
   have hk1 := hk1.mono e10
   have hle := hle.trans e10
   refine s_skip ?_
   refine s_inBlock ?_
   refine o_enter rfl ?_
   refine o_arith rfl rfl rfl (by omega) .free rfl ?_
   refine Om rfl (o_done ?_)
   refine s_round ?_
   refine Se rfl ?_
   refine o_cmp rfl rfl rfl .free rfl ?_
   refine o_done (s_seq ?_)
   refine s_condF rfl (by first | rfl | decide | (simp; done) | omega) ?_
   refine s_exit rfl ?_
   refine Se rfl (Oa rfl (o_done ?_))
   refine s_ret (.tmp rfl .nil) ?_
   refine ⟨_, L, hle, drops, ?_, rfl⟩
   have hx : (Ex.bin o a b).alk (Ex.bin o a' b') f t = true := by
    simp only [Ex.alk]; simp [hq0, hq1]
   rw [hx]; rfl
  ·skip
   have hlen : (Ex.ite a b d).tree.parts.length = 4 := rfl
   have hlen' : (Ex.ite a' b' d').tree.parts.length = 4 := rfl
   have hki := kids_ite a b d
   have hhd : (Ex.ite a b d).tree.head = tIf := rfl
   have hx3 : ¬ (Ex.ite a b d).tree.head = [102, 117, 110] := (by decide : ¬ tIf = tFun)
   have hx4 : ¬ (Ex.ite a' b' d').tree.head = [102, 117, 110] := (by decide : ¬ tIf = tFun)
   simp only [Ex.ite.sizeOf_spec] at hlt
   simp only [Ex.ok, Bool.and_eq_true, decide_eq_true_eq] at hok hok'
   simp only [Ex.size] at hfl htl
   refine d_all 27 rfl rfl ?_
   refine Dt 0 [27] rfl (y_lOS rfl) ?_
   refine d_call 1 rfl (by kernel_rfl) rfl rfl .free rfl (f_form_head hf.rep _) ?_
   rintro _ _ _ _ ⟨rfl, rfl, rfl⟩
   refine ⟨(.inr heldx), ?_⟩
   refine Da 2 rfl (y_cmps rfl rfl rfl) ?_
   refine Da 3 rfl (y_move rfl) ?_
   refine d_put (t := 66) rfl (v' := .bool false) (by first | simp [*] | (simp; omega)) ?_
   refine Ds 4 rfl rfl rfl ?_
   refine Ds 5 rfl rfl rfl ?_
   refine Ds 6 rfl rfl rfl ?_
   refine Ds 7 rfl rfl rfl ?_
   refine Ds 8 rfl rfl rfl ?_
   refine Ds 9 rfl rfl rfl ?_
   refine Ds 10 rfl rfl rfl ?_
   refine Ds 11 rfl rfl rfl ?_
   refine Ds 12 rfl rfl rfl ?_
   refine Ds 13 rfl rfl rfl ?_
   refine Ds 14 rfl rfl rfl ?_
   refine d_takeskipu 15 rfl (by kernel_rfl) rfl (.inr heldx) rfl rfl rfl ?_
   refine d_takeskipu 16 rfl (by kernel_rfl) rfl (.inr heldx) rfl rfl rfl ?_
   refine d_takeskipu 17 rfl (by kernel_rfl) rfl (.inr heldx) rfl rfl rfl ?_
   refine d_takeskipu 18 rfl (by kernel_rfl) rfl (.inr heldx) rfl rfl rfl ?_
   refine d_takeskipu 19 rfl (by kernel_rfl) rfl (.inr heldx) rfl rfl rfl ?_
   refine d_takeskipu 20 rfl (by kernel_rfl) rfl (.inr heldx) rfl rfl rfl ?_
   refine d_takeskipu 21 rfl (by kernel_rfl) rfl (.inr heldx) rfl rfl rfl ?_
   refine d_takeskipu 22 rfl (by kernel_rfl) rfl (.inr heldx) rfl rfl rfl ?_
   refine d_takeskipu 23 rfl (by kernel_rfl) rfl (.inr heldx) rfl rfl rfl ?_
   refine d_takeskipu 24 rfl (by kernel_rfl) rfl (.inr heldx) rfl rfl rfl ?_
   refine Ds 25 rfl rfl rfl ?_
   refine Da 26 rfl (y_pick_false rfl rfl) ?_
   refine d_done (by kernel_rfl) ?_
   refine s_false rfl ?_
   refine s_skip (s_seq (Se rfl ?_))
   refine o_lOS rfl .free rfl ?_
   refine o_call rfl .free rfl (f_form_kids hf.rep _) ?_
   rintro _ J _ e0 ⟨ok, ck, rfl, hk1, rfl⟩
   have hf := hf.mono e0
   have hg := hg.mono e0
   have hfr := hfr.mono e0
   have hto := hto.mono e0
   have hle := hle.trans e0
   rw [hki] at hk1
   rw [hki]
   refine o_len_slice rfl .free rfl ?_
   refine Om rfl (o_done (s_block ?_))
   refine s_loop ?_
   refine Se rfl ?_
   refine o_cmp rfl rfl rfl .free rfl ?_
   refine o_done (s_seq ?_)
   refine s_condT rfl (by first | rfl | decide | (simp; done) | omega) ?_
   refine s_skip (s_seq (s_block (Se rfl ?_)))
   first | refine o_ixD rfl rfl _ rfl .free rfl ?_ | refine o_ixP rfl rfl _ rfl .free rfl ?_
   refine o_lI1 rfl .free rfl ?_
   refine Oa rfl (o_done (s_seq ?_))
   refine d_all 24 rfl rfl ?_
   refine Da 0 rfl (y_fieldAddr rfl) ?_
   refine Dt 1 [24] rfl (y_lO1 rfl) ?_
   refine Da 2 rfl (y_move rfl) ?_
   first | refine Da 3 rfl (y_ixD rfl rfl _ rfl) ?_ | refine Da 3 rfl (y_ixP rfl rfl _ rfl) ?_
   refine Dt 4 [24] rfl (y_lIS rfl) ?_
   refine Da 5 rfl (y_fieldAddr rfl) ?_
   refine Dt 6 [24] rfl (y_lO1 rfl) ?_
   refine Da 7 rfl (y_move rfl) ?_
   first | refine Da 8 rfl (y_ixD rfl rfl _ rfl) ?_ | refine Da 8 rfl (y_ixP rfl rfl _ rfl) ?_
   refine Dt 9 [24] rfl (y_lIS rfl) ?_
   refine Da 10 rfl (y_move rfl) ?_
   refine Dt 11 [24] rfl (y_lOS rfl) ?_
   refine Da 12 rfl (y_move rfl) ?_
   refine Da 16 rfl (y_move rfl) ?_
   refine Dt 17 [24] rfl (y_lOS rfl) ?_
   refine Da 18 rfl (y_move rfl) ?_
   refine d_call 13 rfl (by kernel_rfl) rfl rfl .free rfl (f_form_bound hf.rep hok0 _ _) ?_
   rintro _ J1 _ e1 ⟨o1, k1, rfl, hs1, rfl⟩
   refine ⟨(.inr heldx), ?_⟩
   refine d_lits 14 rfl (by kernel_rfl) rfl rfl rfl (by rfl) (by rfl) (by rfl) (by decide) (by decide) (by rfl) .free rfl (.inr heldx) ?_
   intro b111
   refine d_freeze ?_
   intro hz
   have e2 := e1.trans hz
   refine d_call 15 rfl (by kernel_rfl) rfl rfl .free rfl (f_slices_Concat (still_set (xs := [.slice of f.length cf, .slice o1 (List.length _) k1]) (ys := [])) (hfr.mono e2) (hs1.mono hz) (Ex.binds_room0 (by omega)) _) ?_
   rintro _ J3 _ e3 ⟨o3, k3, rfl, hs3, rfl⟩
   have e4 := e2.trans e3
   refine ⟨(.inr heldx), ?_⟩
   refine d_call 19 rfl (by kernel_rfl) rfl rfl .free rfl (f_form_bound (hg.mono e4).rep hok0' _ _) ?_
   rintro _ J4 _ e5 ⟨o4, k4, rfl, hs4, rfl⟩
   have e45 := e4.trans e5
   refine ⟨(.inr heldx), ?_⟩
   refine d_lits 20 rfl (by kernel_rfl) rfl rfl rfl (by rfl) (by rfl) (by rfl) (by decide) (by decide) (by rfl) .free rfl (.inr heldx) ?_
   intro b117
   refine d_freeze ?_
   intro hy
   have e6 := e4.trans (e5.trans hy)
   refine d_call 21 rfl (by kernel_rfl) rfl rfl .free rfl (f_slices_Concat (still_set (xs := [.slice ot t.length ct, .slice o4 (List.length _) k4]) (ys := [])) (hto.mono e6) (hs4.mono hy) (Ex.binds_room0 (by omega)) _) ?_
   rintro _ J5 _ e7 ⟨o5, k5, rfl, hs5, rfl⟩
   have e8 := e6.trans e7
   have hs3 := hs3.mono (e5.trans (hy.trans e7))
   have hf3 := hf.mono e8
   have hg3 := hg.mono e8
   refine ⟨(.inr heldx), ?_⟩
   refine d_call 22 rfl (by kernel_rfl) rfl rfl .free rfl (ihn (f := f ++ []) (t := t ++ []) (by omega) (hf3.as 1 a.tree (by omega) rfl) hok.1.1 (hg3.as 1 a'.tree (by omega) rfl) hok'.1.1 hs3 hs5 (by simpa using hnf) (by simpa using hnt) (by first | omega | (simp only [List.length_append, List.length_cons, List.length_nil]; omega)) (by first | omega | (simp only [List.length_append, List.length_cons, List.length_nil]; omega)) _) ?_
   rintro _ J6 _ e9 ⟨rfl, rfl⟩
   have e10 := e8.trans e9
   simp only [List.append_nil]
   refine ⟨(.inr heldx), ?_⟩
   refine Da 23 rfl (y_not rfl) ?_
   refine d_done (by kernel_rfl) ?_
   refine s_cond rfl ?_ ?_
   ·intro c4
    try simp only [nb] at c4
    refine Se rfl (Oa rfl (o_done ?_))
    refine s_ret (.tmp rfl .nil) ?_
    refine ⟨_, L, hle.trans e10, drops, ?_, rfl⟩
    have hx : (Ex.ite a b d).alk (Ex.ite a' b' d') f t = false := by
     simp only [Ex.alk]; simp [c4]
    rw [hx]; rfl
   intro c4
   try simp only [nb] at c4
   have hq0 := c4
   have hf := hf3.mono e9
   have hg := hg3.mono e9
   have hfr := hfr.mono e10
   have hto := hto.mono e10
   have hk1 := hk1.mono e10
   have hle := hle.trans e10
   refine s_skip ?_
   refine s_inBlock ?_
   refine o_enter rfl ?_
   refine o_arith rfl rfl rfl (by omega) .free rfl ?_
   refine Om rfl (o_done ?_)
   refine s_round ?_
   refine Se rfl ?_
   refine o_cmp rfl rfl rfl .free rfl ?_
   refine o_done (s_seq ?_)
   refine s_condT rfl (by first | rfl | decide | (simp; done) | omega) ?_
   refine s_skip (s_seq (s_block (Se rfl ?_)))
   first | refine o_ixD rfl rfl _ rfl .free rfl ?_ | refine o_ixP rfl rfl _ rfl .free rfl ?_
   refine o_lI1 rfl .free rfl ?_
   refine Oa rfl (o_done (s_seq ?_))
   refine d_all 24 rfl rfl ?_
   refine Da 0 rfl (y_fieldAddr rfl) ?_
   refine Dt 1 [24] rfl (y_lO1 rfl) ?_
   refine Da 2 rfl (y_move rfl) ?_
   first | refine Da 3 rfl (y_ixD rfl rfl _ rfl) ?_ | refine Da 3 rfl (y_ixP rfl rfl _ rfl) ?_
   refine Dt 4 [24] rfl (y_lIS rfl) ?_
   refine Da 5 rfl (y_fieldAddr rfl) ?_
   refine Dt 6 [24] rfl (y_lO1 rfl) ?_
   refine Da 7 rfl (y_move rfl) ?_
   first | refine Da 8 rfl (y_ixD rfl rfl _ rfl) ?_ | refine Da 8 rfl (y_ixP rfl rfl _ rfl) ?_
   refine Dt 9 [24] rfl (y_lIS rfl) ?_
   refine Da 10 rfl (y_move rfl) ?_
   refine Dt 11 [24] rfl (y_lOS rfl) ?_
   refine Da 12 rfl (y_move rfl) ?_
   refine Da 16 rfl (y_move rfl) ?_
   refine Dt 17 [24] rfl (y_lOS rfl) ?_
   refine Da 18 rfl (y_move rfl) ?_
   refine d_call 13 rfl (by kernel_rfl) rfl rfl .free rfl (f_form_bound hf.rep hok0 _ _) ?_
   rintro _ J1 _ e1 ⟨o1, k1, rfl, hs1, rfl⟩
   refine ⟨(.inr heldx), ?_⟩
   refine d_lits 14 rfl (by kernel_rfl) rfl rfl rfl (by rfl) (by rfl) (by rfl) (by decide) (by decide) (by rfl) .free rfl (.inr heldx) ?_
   intro b111
   refine d_freeze ?_
   intro hz
   have e2 := e1.trans hz
   refine d_call 15 rfl (by kernel_rfl) rfl rfl .free rfl (f_slices_Concat (still_set (xs := [.slice of f.length cf, .slice o1 (List.length _) k1]) (ys := [])) (hfr.mono e2) (hs1.mono hz) (Ex.binds_room0 (by omega)) _) ?_
   rintro _ J3 _ e3 ⟨o3, k3, rfl, hs3, rfl⟩
   have e4 := e2.trans e3
   refine ⟨(.inr heldx), ?_⟩
   refine d_call 19 rfl (by kernel_rfl) rfl rfl .free rfl (f_form_bound (hg.mono e4).rep hok0' _ _) ?_
   rintro _ J4 _ e5 ⟨o4, k4, rfl, hs4, rfl⟩
   have e45 := e4.trans e5
   refine ⟨(.inr heldx), ?_⟩
   refine d_lits 20 rfl (by kernel_rfl) rfl rfl rfl (by rfl) (by rfl) (by rfl) (by decide) (by decide) (by rfl) .free rfl (.inr heldx) ?_
   intro b117
   refine d_freeze ?_
   intro hy
   have e6 := e4.trans (e5.trans hy)
   refine d_call 21 rfl (by kernel_rfl) rfl rfl .free rfl (f_slices_Concat (still_set (xs := [.slice ot t.length ct, .slice o4 (List.length _) k4]) (ys := [])) (hto.mono e6) (hs4.mono hy) (Ex.binds_room0 (by omega)) _) ?_
   rintro _ J5 _ e7 ⟨o5, k5, rfl, hs5, rfl⟩
   have e8 := e6.trans e7
   have hs3 := hs3.mono (e5.trans (hy.trans e7))
   have hf3 := hf.mono e8
   have hg3 := hg.mono e8
   refine ⟨(.inr heldx), ?_⟩
   refine d_call 22 rfl (by kernel_rfl) rfl rfl .free rfl (ihn (f := f ++ []) (t := t ++ []) (by omega) (hf3.as 2 b.tree (by omega) rfl) hok.1.2 (hg3.as 2 b'.tree (by omega) rfl) hok'.1.2 hs3 hs5 (by simpa using hnf) (by simpa using hnt) (by first | omega | (simp only [List.length_append, List.length_cons, List.length_nil]; omega)) (by first | omega | (simp only [List.length_append, List.length_cons, List.length_nil]; omega)) _) ?_
   rintro _ J6 _ e9 ⟨rfl, rfl⟩
   have e10 := e8.trans e9
   simp only [List.append_nil]
   refine ⟨(.inr heldx), ?_⟩
   refine Da 23 rfl (y_not rfl) ?_
   refine d_done (by kernel_rfl) ?_
   refine s_cond rfl ?_ ?_
   ·intro c4
    try simp only [nb] at c4
    refine Se rfl (Oa rfl (o_done ?_))
    refine s_ret (.tmp rfl .nil) ?_
    refine ⟨_, L, hle.trans e10, drops, ?_, rfl⟩
    have hx : (Ex.ite a b d).alk (Ex.ite a' b' d') f t = false := by
     simp only [Ex.alk]; simp [c4, hq0]
    rw [hx]; rfl
   intro c4
   try simp only [nb] at c4
   have hq1 := c4
   have hf := hf3.mono e9
   have hg := hg3.mono e9
   have hfr := hfr.mono e10
   have hto := hto.mono e10
   have hk1 := hk1.mono e10
   have hle := hle.trans e10
   refine s_skip ?_
   refine s_inBlock ?_
   refine o_enter rfl ?_
   refine o_arith rfl rfl rfl (by omega) .free rfl ?_
   refine Om rfl (o_done ?_)
   refine s_round ?_
   refine Se rfl ?_
   refine o_cmp rfl rfl rfl .free rfl ?_
   refine o_done (s_seq ?_)
   refine s_condT rfl (by first | rfl | decide | (simp; done) | omega) ?_
   refine s_skip (s_seq (s_block (Se rfl ?_)))
   first | refine o_ixD rfl rfl _ rfl .free rfl ?_ | refine o_ixP rfl rfl _ rfl .free rfl ?_
   refine o_lI1 rfl .free rfl ?_
   refine Oa rfl (o_done (s_seq ?_))
   refine d_all 24 rfl rfl ?_
   refine Da 0 rfl (y_fieldAddr rfl) ?_
   refine Dt 1 [24] rfl (y_lO1 rfl) ?_
   refine Da 2 rfl (y_move rfl) ?_
   first | refine Da 3 rfl (y_ixD rfl rfl _ rfl) ?_ | refine Da 3 rfl (y_ixP rfl rfl _ rfl) ?_
   refine Dt 4 [24] rfl (y_lIS rfl) ?_
   refine Da 5 rfl (y_fieldAddr rfl) ?_
   refine Dt 6 [24] rfl (y_lO1 rfl) ?_
   refine Da 7 rfl (y_move rfl) ?_
   first | refine Da 8 rfl (y_ixD rfl rfl _ rfl) ?_ | refine Da 8 rfl (y_ixP rfl rfl _ rfl) ?_
   refine Dt 9 [24] rfl (y_lIS rfl) ?_
   refine Da 10 rfl (y_move rfl) ?_
   refine Dt 11 [24] rfl (y_lOS rfl) ?_
   refine Da 12 rfl (y_move rfl) ?_
   refine Da 16 rfl (y_move rfl) ?_
   refine Dt 17 [24] rfl (y_lOS rfl) ?_
   refine Da 18 rfl (y_move rfl) ?_
   refine d_call 13 rfl (by kernel_rfl) rfl rfl .free rfl (f_form_bound hf.rep hok0 _ _) ?_
   rintro _ J1 _ e1 ⟨o1, k1, rfl, hs1, rfl⟩
   refine ⟨(.inr heldx), ?_⟩
   refine d_lits 14 rfl (by kernel_rfl) rfl rfl rfl (by rfl) (by rfl) (by rfl) (by decide) (by decide) (by rfl) .free rfl (.inr heldx) ?_
   intro b111
   refine d_freeze ?_
   intro hz
   have e2 := e1.trans hz
   refine d_call 15 rfl (by kernel_rfl) rfl rfl .free rfl (f_slices_Concat (still_set (xs := [.slice of f.length cf, .slice o1 (List.length _) k1]) (ys := [])) (hfr.mono e2) (hs1.mono hz) (Ex.binds_room0 (by omega)) _) ?_
   rintro _ J3 _ e3 ⟨o3, k3, rfl, hs3, rfl⟩
   have e4 := e2.trans e3
   refine ⟨(.inr heldx), ?_⟩
   refine d_call 19 rfl (by kernel_rfl) rfl rfl .free rfl (f_form_bound (hg.mono e4).rep hok0' _ _) ?_
   rintro _ J4 _ e5 ⟨o4, k4, rfl, hs4, rfl⟩
   have e45 := e4.trans e5
   refine ⟨(.inr heldx), ?_⟩
   refine d_lits 20 rfl (by kernel_rfl) rfl rfl rfl (by rfl) (by rfl) (by rfl) (by decide) (by decide) (by rfl) .free rfl (.inr heldx) ?_
   intro b117
   refine d_freeze ?_
   intro hy
   have e6 := e4.trans (e5.trans hy)
   refine d_call 21 rfl (by kernel_rfl) rfl rfl .free rfl (f_slices_Concat (still_set (xs := [.slice ot t.length ct, .slice o4 (List.length _) k4]) (ys := [])) (hto.mono e6) (hs4.mono hy) (Ex.binds_room0 (by omega)) _) ?_
   rintro _ J5 _ e7 ⟨o5, k5, rfl, hs5, rfl⟩
   have e8 := e6.trans e7
   have hs3 := hs3.mono (e5.trans (hy.trans e7))
   have hf3 := hf.mono e8
   have hg3 := hg.mono e8
   refine ⟨(.inr heldx), ?_⟩
   refine d_call 22 rfl (by kernel_rfl) rfl rfl .free rfl (ihn (f := f ++ []) (t := t ++ []) (by omega) (hf3.as 3 d.tree (by omega) rfl) hok.2 (hg3.as 3 d'.tree (by omega) rfl) hok'.2 hs3 hs5 (by simpa using hnf) (by simpa using hnt) (by first | omega | (simp only [List.length_append, List.length_cons, List.length_nil]; omega)) (by first | omega | (simp only [List.length_append, List.length_cons, List.length_nil]; omega)) _) ?_
   rintro _ J6 _ e9 ⟨rfl, rfl⟩
   have e10 := e8.trans e9
   simp only [List.append_nil]
   refine ⟨(.inr heldx), ?_⟩
   refine Da 23 rfl (y_not rfl) ?_
   refine d_done (by kernel_rfl) ?_
   refine s_cond rfl ?_ ?_
   ·intro c4
    try simp only [nb] at c4
    refine Se rfl (Oa rfl (o_done ?_))
    refine s_ret (.tmp rfl .nil) ?_
    refine ⟨_, L, hle.trans e10, drops, ?_, rfl⟩
    have hx : (Ex.ite a b d).alk (Ex.ite a' b' d') f t = false := by
     simp only [Ex.alk]; simp [c4, hq0, hq1]
    rw [hx]; rfl
   intro c4
   try simp only [nb] at c4
   have hq2 := c4
   have hf := hf3.mono e9
   have hg := hg3.mono e9
   have hfr := hfr.mono e10
   have hto := hto.mono e10
   have hk1 := hk1.mono e10
   have hle := hle.trans e10
   refine s_skip ?_
   refine s_inBlock ?_
   refine o_enter rfl ?_
   refine o_arith rfl rfl rfl (by omega) .free rfl ?_
   refine Om rfl (o_done ?_)
   refine s_round ?_
   refine Se rfl ?_
   refine o_cmp rfl rfl rfl .free rfl ?_
   refine o_done (s_seq ?_)
   refine s_condF rfl (by first | rfl | decide | (simp; done) | omega) ?_
   refine s_exit rfl ?_
   refine Se rfl (Oa rfl (o_done ?_))
   refine s_ret (.tmp rfl .nil) ?_
   refine ⟨_, L, hle, drops, ?_, rfl⟩
   have hx : (Ex.ite a b d).alk (Ex.ite a' b' d') f t = true := by
    simp only [Ex.alk]; simp [hq0, hq1, hq2]
   rw [hx]; rfl
  ·skip
   have hlen : (Ex.lt z a b).tree.parts.length = 4 := rfl
   have hlen' : (Ex.lt z' a' b').tree.parts.length = 4 := rfl
   have hki := kids_lt' z a b
   have hhd : (Ex.lt z a b).tree.head = tLet := rfl
   have hx3 : ¬ (Ex.lt z a b).tree.head = [102, 117, 110] := (by decide : ¬ tLet = tFun)
   have hx4 : ¬ (Ex.lt z' a' b').tree.head = [102, 117, 110] := (by decide : ¬ tLet = tFun)
   simp only [Ex.lt.sizeOf_spec] at hlt
   simp only [Ex.ok, Bool.and_eq_true, decide_eq_true_eq] at hok hok'
   simp only [Ex.size] at hfl htl
   refine d_all 27 rfl rfl ?_
   refine Dt 0 [27] rfl (y_lOS rfl) ?_
   refine d_call 1 rfl (by kernel_rfl) rfl rfl .free rfl (f_form_head hf.rep _) ?_
   rintro _ _ _ _ ⟨rfl, rfl, rfl⟩
   refine ⟨(.inr heldx), ?_⟩
   refine Da 2 rfl (y_cmps rfl rfl rfl) ?_
   refine Da 3 rfl (y_move rfl) ?_
   refine d_put (t := 66) rfl (v' := .bool false) (by first | simp [*] | (simp; omega)) ?_
   refine Ds 4 rfl rfl rfl ?_
   refine Ds 5 rfl rfl rfl ?_
   refine Ds 6 rfl rfl rfl ?_
   refine Ds 7 rfl rfl rfl ?_
   refine Ds 8 rfl rfl rfl ?_
   refine Ds 9 rfl rfl rfl ?_
   refine Ds 10 rfl rfl rfl ?_
   refine Ds 11 rfl rfl rfl ?_
   refine Ds 12 rfl rfl rfl ?_
   refine Ds 13 rfl rfl rfl ?_
   refine Ds 14 rfl rfl rfl ?_
   refine d_takeskipu 15 rfl (by kernel_rfl) rfl (.inr heldx) rfl rfl rfl ?_
   refine d_takeskipu 16 rfl (by kernel_rfl) rfl (.inr heldx) rfl rfl rfl ?_
   refine d_takeskipu 17 rfl (by kernel_rfl) rfl (.inr heldx) rfl rfl rfl ?_
   refine d_takeskipu 18 rfl (by kernel_rfl) rfl (.inr heldx) rfl rfl rfl ?_
   refine d_takeskipu 19 rfl (by kernel_rfl) rfl (.inr heldx) rfl rfl rfl ?_
   refine d_takeskipu 20 rfl (by kernel_rfl) rfl (.inr heldx) rfl rfl rfl ?_
   refine d_takeskipu 21 rfl (by kernel_rfl) rfl (.inr heldx) rfl rfl rfl ?_
   refine d_takeskipu 22 rfl (by kernel_rfl) rfl (.inr heldx) rfl rfl rfl ?_
   refine d_takeskipu 23 rfl (by kernel_rfl) rfl (.inr heldx) rfl rfl rfl ?_
   refine d_takeskipu 24 rfl (by kernel_rfl) rfl (.inr heldx) rfl rfl rfl ?_
   refine Ds 25 rfl rfl rfl ?_
   refine Da 26 rfl (y_pick_false rfl rfl) ?_
   refine d_done (by kernel_rfl) ?_
   refine s_false rfl ?_
   refine s_skip (s_seq (Se rfl ?_))
   refine o_lOS rfl .free rfl ?_
   refine o_call rfl .free rfl (f_form_kids hf.rep _) ?_
   rintro _ J _ e0 ⟨ok, ck, rfl, hk1, rfl⟩
   have hf := hf.mono e0
   have hg := hg.mono e0
   have hfr := hfr.mono e0
   have hto := hto.mono e0
   have hle := hle.trans e0
   rw [hki] at hk1
   rw [hki]
   refine o_len_slice rfl .free rfl ?_
   refine Om rfl (o_done (s_block ?_))
   refine s_loop ?_
   refine Se rfl ?_
   refine o_cmp rfl rfl rfl .free rfl ?_
   refine o_done (s_seq ?_)
   refine s_condT rfl (by first | rfl | decide | (simp; done) | omega) ?_
   refine s_skip (s_seq (s_block (Se rfl ?_)))
   first | refine o_ixD rfl rfl _ rfl .free rfl ?_ | refine o_ixP rfl rfl _ rfl .free rfl ?_
   refine o_lI1 rfl .free rfl ?_
   refine Oa rfl (o_done (s_seq ?_))
   refine d_all 24 rfl rfl ?_
   refine Da 0 rfl (y_fieldAddr rfl) ?_
   refine Dt 1 [24] rfl (y_lO1 rfl) ?_
   refine Da 2 rfl (y_move rfl) ?_
   first | refine Da 3 rfl (y_ixD rfl rfl _ rfl) ?_ | refine Da 3 rfl (y_ixP rfl rfl _ rfl) ?_
   refine Dt 4 [24] rfl (y_lIS rfl) ?_
   refine Da 5 rfl (y_fieldAddr rfl) ?_
   refine Dt 6 [24] rfl (y_lO1 rfl) ?_
   refine Da 7 rfl (y_move rfl) ?_
   first | refine Da 8 rfl (y_ixD rfl rfl _ rfl) ?_ | refine Da 8 rfl (y_ixP rfl rfl _ rfl) ?_
   refine Dt 9 [24] rfl (y_lIS rfl) ?_
   refine Da 10 rfl (y_move rfl) ?_
   refine Dt 11 [24] rfl (y_lOS rfl) ?_
   refine Da 12 rfl (y_move rfl) ?_
   refine Da 16 rfl (y_move rfl) ?_
   refine Dt 17 [24] rfl (y_lOS rfl) ?_
   refine Da 18 rfl (y_move rfl) ?_
   refine d_call 13 rfl (by kernel_rfl) rfl rfl .free rfl (f_form_bound hf.rep hok0 _ _) ?_
   rintro _ J1 _ e1 ⟨o1, k1, rfl, hs1, rfl⟩
   refine ⟨(.inr heldx), ?_⟩
   refine d_lits 14 rfl (by kernel_rfl) rfl rfl rfl (by rfl) (by rfl) (by rfl) (by decide) (by decide) (by rfl) .free rfl (.inr heldx) ?_
   intro b111
   refine d_freeze ?_
   intro hz
   have e2 := e1.trans hz
   refine d_call 15 rfl (by kernel_rfl) rfl rfl .free rfl (f_slices_Concat (still_set (xs := [.slice of f.length cf, .slice o1 (List.length _) k1]) (ys := [])) (hfr.mono e2) (hs1.mono hz) (Ex.binds_room0 (by omega)) _) ?_
   rintro _ J3 _ e3 ⟨o3, k3, rfl, hs3, rfl⟩
   have e4 := e2.trans e3
   refine ⟨(.inr heldx), ?_⟩
   refine d_call 19 rfl (by kernel_rfl) rfl rfl .free rfl (f_form_bound (hg.mono e4).rep hok0' _ _) ?_
   rintro _ J4 _ e5 ⟨o4, k4, rfl, hs4, rfl⟩
   have e45 := e4.trans e5
   refine ⟨(.inr heldx), ?_⟩
   refine d_lits 20 rfl (by kernel_rfl) rfl rfl rfl (by rfl) (by rfl) (by rfl) (by decide) (by decide) (by rfl) .free rfl (.inr heldx) ?_
   intro b117
   refine d_freeze ?_
   intro hy
   have e6 := e4.trans (e5.trans hy)
   refine d_call 21 rfl (by kernel_rfl) rfl rfl .free rfl (f_slices_Concat (still_set (xs := [.slice ot t.length ct, .slice o4 (List.length _) k4]) (ys := [])) (hto.mono e6) (hs4.mono hy) (Ex.binds_room0 (by omega)) _) ?_
   rintro _ J5 _ e7 ⟨o5, k5, rfl, hs5, rfl⟩
   have e8 := e6.trans e7
   have hs3 := hs3.mono (e5.trans (hy.trans e7))
   have hf3 := hf.mono e8
   have hg3 := hg.mono e8
   refine ⟨(.inr heldx), ?_⟩
   refine d_call 22 rfl (by kernel_rfl) rfl rfl .free rfl (ihn (f := f ++ []) (t := t ++ []) (by omega) (hf3.as 2 a.tree (by omega) rfl) hok.1.2 (hg3.as 2 a'.tree (by omega) rfl) hok'.1.2 hs3 hs5 (by simpa using hnf) (by simpa using hnt) (by first | omega | (simp only [List.length_append, List.length_cons, List.length_nil]; omega)) (by first | omega | (simp only [List.length_append, List.length_cons, List.length_nil]; omega)) _) ?_
   rintro _ J6 _ e9 ⟨rfl, rfl⟩
   have e10 := e8.trans e9
   simp only [List.append_nil]
   refine ⟨(.inr heldx), ?_⟩
   refine Da 23 rfl (y_not rfl) ?_
   refine d_done (by kernel_rfl) ?_
   refine s_cond rfl ?_ ?_
   ·intro c4
    try simp only [nb] at c4
    refine Se rfl (Oa rfl (o_done ?_))
    refine s_ret (.tmp rfl .nil) ?_
    refine ⟨_, L, hle.trans e10, drops, ?_, rfl⟩
    have hx : (Ex.lt z a b).alk (Ex.lt z' a' b') f t = false := by
     simp only [Ex.alk]; simp [c4]
    rw [hx]; rfl
   intro c4
   try simp only [nb] at c4
   have hq0 := c4
   have hf := hf3.mono e9
   have hg := hg3.mono e9
   have hfr := hfr.mono e10
   have hto := hto.mono e10
   have hk1 := hk1.mono e10
   have hle := hle.trans e10
   refine s_skip ?_
   refine s_inBlock ?_
   refine o_enter rfl ?_
   refine o_arith rfl rfl rfl (by omega) .free rfl ?_
   refine Om rfl (o_done ?_)
   refine s_round ?_
   refine Se rfl ?_
   refine o_cmp rfl rfl rfl .free rfl ?_
   refine o_done (s_seq ?_)
   refine s_condT rfl (by first | rfl | decide | (simp; done) | omega) ?_
   refine s_skip (s_seq (s_block (Se rfl ?_)))
   first | refine o_ixD rfl rfl _ rfl .free rfl ?_ | refine o_ixP rfl rfl _ rfl .free rfl ?_
   refine o_lI1 rfl .free rfl ?_
   refine Oa rfl (o_done (s_seq ?_))
   refine d_all 24 rfl rfl ?_
   refine Da 0 rfl (y_fieldAddr rfl) ?_
   refine Dt 1 [24] rfl (y_lO1 rfl) ?_
   refine Da 2 rfl (y_move rfl) ?_
   first | refine Da 3 rfl (y_ixD rfl rfl _ rfl) ?_ | refine Da 3 rfl (y_ixP rfl rfl _ rfl) ?_
   refine Dt 4 [24] rfl (y_lIS rfl) ?_
   refine Da 5 rfl (y_fieldAddr rfl) ?_
   refine Dt 6 [24] rfl (y_lO1 rfl) ?_
   refine Da 7 rfl (y_move rfl) ?_
   first | refine Da 8 rfl (y_ixD rfl rfl _ rfl) ?_ | refine Da 8 rfl (y_ixP rfl rfl _ rfl) ?_
   refine Dt 9 [24] rfl (y_lIS rfl) ?_
   refine Da 10 rfl (y_move rfl) ?_
   refine Dt 11 [24] rfl (y_lOS rfl) ?_
   refine Da 12 rfl (y_move rfl) ?_
   refine Da 16 rfl (y_move rfl) ?_
   refine Dt 17 [24] rfl (y_lOS rfl) ?_
   refine Da 18 rfl (y_move rfl) ?_
   refine d_call 13 rfl (by kernel_rfl) rfl rfl .free rfl (f_form_bound hf.rep hok0 _ _) ?_
   rintro _ J1 _ e1 ⟨o1, k1, rfl, hs1, rfl⟩
   refine ⟨(.inr heldx), ?_⟩
   refine d_lits 14 rfl (by kernel_rfl) rfl rfl rfl (by rfl) (by rfl) (by rfl) (by decide) (by decide) (by rfl) .free rfl (.inr heldx) ?_
   intro b111
   refine d_freeze ?_
   intro hz
   have e2 := e1.trans hz
   refine d_call 15 rfl (by kernel_rfl) rfl rfl .free rfl (f_slices_Concat (still_set (xs := [.slice of f.length cf, .slice o1 (List.length _) k1]) (ys := [])) (hfr.mono e2) (hs1.mono hz) (Ex.binds_room0 (by omega)) _) ?_
   rintro _ J3 _ e3 ⟨o3, k3, rfl, hs3, rfl⟩
   have e4 := e2.trans e3
   refine ⟨(.inr heldx), ?_⟩
   refine d_call 19 rfl (by kernel_rfl) rfl rfl .free rfl (f_form_bound (hg.mono e4).rep hok0' _ _) ?_
   rintro _ J4 _ e5 ⟨o4, k4, rfl, hs4, rfl⟩
   have e45 := e4.trans e5
   refine ⟨(.inr heldx), ?_⟩
   refine d_lits 20 rfl (by kernel_rfl) rfl rfl rfl (by rfl) (by rfl) (by rfl) (by decide) (by decide) (by rfl) .free rfl (.inr heldx) ?_
   intro b117
   refine d_freeze ?_
   intro hy
   have e6 := e4.trans (e5.trans hy)
   refine d_call 21 rfl (by kernel_rfl) rfl rfl .free rfl (f_slices_Concat (still_set (xs := [.slice ot t.length ct, .slice o4 (List.length _) k4]) (ys := [])) (hto.mono e6) (hs4.mono hy) (Ex.binds_room0 (by omega)) _) ?_
   rintro _ J5 _ e7 ⟨o5, k5, rfl, hs5, rfl⟩
   have e8 := e6.trans e7
   have hs3 := hs3.mono (e5.trans (hy.trans e7))
   have hf3 := hf.mono e8
   have hg3 := hg.mono e8
   refine ⟨(.inr heldx), ?_⟩
   refine d_call 22 rfl (by kernel_rfl) rfl rfl .free rfl (ihn (f := f ++ [z]) (t := t ++ [z']) (by omega) (hf3.as 3 b.tree (by omega) rfl) hok.2 (hg3.as 3 b'.tree (by omega) rfl) hok'.2 hs3 hs5 (hnf.add (by intro y hy; rw [List.mem_singleton.1 hy]; exact hok.1.1)) (hnt.add (by intro y hy; rw [List.mem_singleton.1 hy]; exact hok'.1.1)) (by first | omega | (simp only [List.length_append, List.length_cons, List.length_nil]; omega)) (by first | omega | (simp only [List.length_append, List.length_cons, List.length_nil]; omega)) _) ?_
   rintro _ J6 _ e9 ⟨rfl, rfl⟩
   have e10 := e8.trans e9
   refine ⟨(.inr heldx), ?_⟩
   refine Da 23 rfl (y_not rfl) ?_
   refine d_done (by kernel_rfl) ?_
   refine s_cond rfl ?_ ?_
   ·intro c4
    try simp only [nb] at c4
    refine Se rfl (Oa rfl (o_done ?_))
    refine s_ret (.tmp rfl .nil) ?_
    refine ⟨_, L, hle.trans e10, drops, ?_, rfl⟩
    have hx : (Ex.lt z a b).alk (Ex.lt z' a' b') f t = false := by
     simp only [Ex.alk]; simp [c4, hq0]
    rw [hx]; rfl
   intro c4
   try simp only [nb] at c4
   have hq1 := c4
   have hf := hf3.mono e9
   have hg := hg3.mono e9
   have hfr := hfr.mono e10
   have hto := hto.mono e10
   have hk1 := hk1.mono e10
   have hle := hle.trans e10
   refine s_skip ?_
   refine s_inBlock ?_
   refine o_enter rfl ?_
   refine o_arith rfl rfl rfl (by omega) .free rfl ?_
   refine Om rfl (o_done ?_)
   refine s_round ?_
   refine Se rfl ?_
   refine o_cmp rfl rfl rfl .free rfl ?_
   refine o_done (s_seq ?_)
   refine s_condF rfl (by first | rfl | decide | (simp; done) | omega) ?_
   refine s_exit rfl ?_
   refine Se rfl (Oa rfl (o_done ?_))
   refine s_ret (.tmp rfl .nil) ?_
   refine ⟨_, L, hle, drops, ?_, rfl⟩
   have hx : (Ex.lt z a b).alk (Ex.lt z' a' b') f t = true := by
    simp only [Ex.alk]; simp [hq0, hq1]
   rw [hx]; rfl
  ·skip
   have hlen : (Ex.fn h1 z s u b).tree.parts.length = 6 := rfl
   have hlen' : (Ex.fn h1' z' s' u' b').tree.parts.length = 6 := rfl
   have hki := kids_fn h1 z s u b
   have hhd : (Ex.fn h1 z s u b).tree.head = tFun := rfl
   have hx3 :  (Ex.fn h1 z s u b).tree.head = [102, 117, 110] := rfl
   have hx4 :  (Ex.fn h1' z' s' u' b').tree.head = [102, 117, 110] := rfl
   simp only [Ex.fn.sizeOf_spec] at hlt
   simp only [Ex.ok, Bool.and_eq_true, decide_eq_true_eq] at hok hok'
   simp only [Ex.size] at hfl htl
   refine d_all 27 rfl rfl ?_
   refine Dt 0 [27] rfl (y_lOS rfl) ?_
   refine d_call 1 rfl (by kernel_rfl) rfl rfl .free rfl (f_form_head hf.rep _) ?_
   rintro _ _ _ _ ⟨rfl, rfl, rfl⟩
   refine ⟨(.inr heldx), ?_⟩
   refine Da 2 rfl (y_cmps rfl rfl rfl) ?_
   refine Da 3 rfl (y_move rfl) ?_
   refine d_put (t := 66) rfl (v' := .bool true) (by first | simp [*] | (simp; omega)) ?_
   refine d_takeA 4 rfl (by kernel_rfl) rfl (.inr heldx) (y_fieldAddr rfl) (.met rfl rfl) rfl ?_
   refine d_take 5 [27] rfl (by kernel_rfl) rfl heldx (y_lO1 rfl) (.met rfl rfl) rfl ?_
   first | refine d_takeA 6 rfl (by kernel_rfl) rfl (.inr heldx) (y_ixD rfl rfl 3 rfl) (.met rfl rfl) rfl ?_ | refine d_takeA 6 rfl (by kernel_rfl) rfl (.inr heldx) (y_ixP rfl rfl 3 rfl) (.met rfl rfl) rfl ?_
   refine d_take 7 [27] rfl (by kernel_rfl) rfl heldx (y_lIS rfl) (.met rfl rfl) rfl ?_
   refine d_takeA 8 rfl (by kernel_rfl) rfl (.inr heldx) (y_fieldAddr rfl) (.met rfl rfl) rfl ?_
   refine d_take 9 [27] rfl (by kernel_rfl) rfl heldx (y_lO1 rfl) (.met rfl rfl) rfl ?_
   first | refine d_takeA 10 rfl (by kernel_rfl) rfl (.inr heldx) (y_ixD rfl rfl 3 rfl) (.met rfl rfl) rfl ?_ | refine d_takeA 10 rfl (by kernel_rfl) rfl (.inr heldx) (y_ixP rfl rfl 3 rfl) (.met rfl rfl) rfl ?_
   refine d_take 11 [27] rfl (by kernel_rfl) rfl heldx (y_lIS rfl) (.met rfl rfl) rfl ?_
   refine d_call 12 rfl (by kernel_rfl) rfl rfl (.met rfl rfl) rfl (f_same_ty (hf.as 3 s.tree (by omega) rfl) (hg.as 3 s'.tree (by omega) rfl) _) ?_
   rintro _ _ _ _ ⟨rfl, rfl, rfl⟩
   refine ⟨(.inr heldx), ?_⟩
   refine d_takeA 13 rfl (by kernel_rfl) rfl (.inr heldx) (y_not rfl) (.met rfl rfl) rfl ?_
   refine d_takeA 14 rfl (by kernel_rfl) rfl (.inr heldx) (y_move rfl) (.met rfl rfl) rfl ?_
   apply d_or 77 88 rfl
   ·intro g6_15 hk
    try simp only [nb] at g6_15
    refine d_takeA 15 rfl (by kernel_rfl) rfl (.inr heldx) (y_fieldAddr rfl) (.met rfl rfl) rfl ?_
    refine d_take 16 [27] rfl (by kernel_rfl) rfl heldx (y_lO1 rfl) (.met rfl rfl) rfl ?_
    first | refine d_takeA 17 rfl (by kernel_rfl) rfl (.inr heldx) (y_ixD rfl rfl 4 rfl) (.met rfl rfl) rfl ?_ | refine d_takeA 17 rfl (by kernel_rfl) rfl (.inr heldx) (y_ixP rfl rfl 4 rfl) (.met rfl rfl) rfl ?_
    refine d_take 18 [27] rfl (by kernel_rfl) rfl heldx (y_lIS rfl) (.met rfl rfl) rfl ?_
    refine d_takeA 19 rfl (by kernel_rfl) rfl (.inr heldx) (y_fieldAddr rfl) (.met rfl rfl) rfl ?_
    refine d_take 20 [27] rfl (by kernel_rfl) rfl heldx (y_lO1 rfl) (.met rfl rfl) rfl ?_
    first | refine d_takeA 21 rfl (by kernel_rfl) rfl (.inr heldx) (y_ixD rfl rfl 4 rfl) (.met rfl rfl) rfl ?_ | refine d_takeA 21 rfl (by kernel_rfl) rfl (.inr heldx) (y_ixP rfl rfl 4 rfl) (.met rfl rfl) rfl ?_
    refine d_take 22 [27] rfl (by kernel_rfl) rfl heldx (y_lIS rfl) (.met rfl rfl) rfl ?_
    refine d_call 23 rfl (by kernel_rfl) rfl rfl (.met rfl rfl) rfl (f_same_ty (hf.as 4 u.tree (by omega) rfl) (hg.as 4 u'.tree (by omega) rfl) _) ?_
    rintro _ _ _ _ ⟨rfl, rfl, rfl⟩
    refine ⟨(.inr heldx), ?_⟩
    refine d_takeA 24 rfl (by kernel_rfl) rfl (.inr heldx) (y_not rfl) (.met rfl rfl) rfl ?_
    refine d_takeA 25 rfl (by kernel_rfl) rfl (.inr heldx) (y_pick_false rfl rfl) (.met rfl rfl) rfl ?_
    exact d_fin 10 rfl rfl hk
   ·intro _ hk
    refine Ds 15 rfl rfl rfl ?_
    refine Ds 16 rfl rfl rfl ?_
    refine Ds 17 rfl rfl rfl ?_
    refine Ds 18 rfl rfl rfl ?_
    refine Ds 19 rfl rfl rfl ?_
    refine Ds 20 rfl rfl rfl ?_
    refine Ds 21 rfl rfl rfl ?_
    refine Ds 22 rfl rfl rfl ?_
    refine Ds 23 rfl rfl rfl ?_
    refine Ds 24 rfl rfl rfl ?_
    refine d_takeA 25 rfl (by kernel_rfl) rfl (.inr heldx) (y_pick_true rfl rfl) (.met rfl rfl) rfl ?_
    exact d_fin 10 rfl rfl hk
   refine Da 26 rfl (y_pick_true rfl rfl) ?_
   refine d_done (by kernel_rfl) ?_
   refine s_cond rfl ?_ ?_
   ·intro c2
    try simp only [nb] at c2
    refine Se rfl (Oa rfl (o_done ?_))
    refine s_ret (.tmp rfl .nil) ?_
    refine ⟨I, L, .refl _, drops, ?_, rfl⟩
    have hx : (Ex.fn h1 z s u b).alk (Ex.fn h1' z' s' u' b') f t = false := by
     simp only [Ex.alk]
     rcases c2 with h | h <;> simp [h]
    rw [hx]; rfl
   intro c2
   try simp only [nb] at c2
   have hsu := c2
   refine s_skip (s_seq (Se rfl ?_))
   refine o_lOS rfl .free rfl ?_
   refine o_call rfl .free rfl (f_form_kids hf.rep _) ?_
   rintro _ J _ e0 ⟨ok, ck, rfl, hk1, rfl⟩
   have hf := hf.mono e0
   have hg := hg.mono e0
   have hfr := hfr.mono e0
   have hto := hto.mono e0
   have hle := hle.trans e0
   rw [hki] at hk1
   rw [hki]
   refine o_len_slice rfl .free rfl ?_
   refine Om rfl (o_done (s_block ?_))
   refine s_loop ?_
   refine Se rfl ?_
   refine o_cmp rfl rfl rfl .free rfl ?_
   refine o_done (s_seq ?_)
   refine s_condT rfl (by first | rfl | decide | (simp; done) | omega) ?_
   refine s_skip (s_seq (s_block (Se rfl ?_)))
   first | refine o_ixD rfl rfl _ rfl .free rfl ?_ | refine o_ixP rfl rfl _ rfl .free rfl ?_
   refine o_lI1 rfl .free rfl ?_
   refine Oa rfl (o_done (s_seq ?_))
   refine d_all 24 rfl rfl ?_
   refine Da 0 rfl (y_fieldAddr rfl) ?_
   refine Dt 1 [24] rfl (y_lO1 rfl) ?_
   refine Da 2 rfl (y_move rfl) ?_
   first | refine Da 3 rfl (y_ixD rfl rfl _ rfl) ?_ | refine Da 3 rfl (y_ixP rfl rfl _ rfl) ?_
   refine Dt 4 [24] rfl (y_lIS rfl) ?_
   refine Da 5 rfl (y_fieldAddr rfl) ?_
   refine Dt 6 [24] rfl (y_lO1 rfl) ?_
   refine Da 7 rfl (y_move rfl) ?_
   first | refine Da 8 rfl (y_ixD rfl rfl _ rfl) ?_ | refine Da 8 rfl (y_ixP rfl rfl _ rfl) ?_
   refine Dt 9 [24] rfl (y_lIS rfl) ?_
   refine Da 10 rfl (y_move rfl) ?_
   refine Dt 11 [24] rfl (y_lOS rfl) ?_
   refine Da 12 rfl (y_move rfl) ?_
   refine Da 16 rfl (y_move rfl) ?_
   refine Dt 17 [24] rfl (y_lOS rfl) ?_
   refine Da 18 rfl (y_move rfl) ?_
   refine d_call 13 rfl (by kernel_rfl) rfl rfl .free rfl (f_form_bound hf.rep hok0 _ _) ?_
   rintro _ J1 _ e1 ⟨o1, k1, rfl, hs1, rfl⟩
   refine ⟨(.inr heldx), ?_⟩
   refine d_lits 14 rfl (by kernel_rfl) rfl rfl rfl (by rfl) (by rfl) (by rfl) (by decide) (by decide) (by rfl) .free rfl (.inr heldx) ?_
   intro b111
   refine d_freeze ?_
   intro hz
   have e2 := e1.trans hz
   refine d_call 15 rfl (by kernel_rfl) rfl rfl .free rfl (f_slices_Concat (still_set (xs := [.slice of f.length cf, .slice o1 (List.length _) k1]) (ys := [])) (hfr.mono e2) (hs1.mono hz) (Ex.binds_room0 (by omega)) _) ?_
   rintro _ J3 _ e3 ⟨o3, k3, rfl, hs3, rfl⟩
   have e4 := e2.trans e3
   refine ⟨(.inr heldx), ?_⟩
   refine d_call 19 rfl (by kernel_rfl) rfl rfl .free rfl (f_form_bound (hg.mono e4).rep hok0' _ _) ?_
   rintro _ J4 _ e5 ⟨o4, k4, rfl, hs4, rfl⟩
   have e45 := e4.trans e5
   refine ⟨(.inr heldx), ?_⟩
   refine d_lits 20 rfl (by kernel_rfl) rfl rfl rfl (by rfl) (by rfl) (by rfl) (by decide) (by decide) (by rfl) .free rfl (.inr heldx) ?_
   intro b117
   refine d_freeze ?_
   intro hy
   have e6 := e4.trans (e5.trans hy)
   refine d_call 21 rfl (by kernel_rfl) rfl rfl .free rfl (f_slices_Concat (still_set (xs := [.slice ot t.length ct, .slice o4 (List.length _) k4]) (ys := [])) (hto.mono e6) (hs4.mono hy) (Ex.binds_room0 (by omega)) _) ?_
   rintro _ J5 _ e7 ⟨o5, k5, rfl, hs5, rfl⟩
   have e8 := e6.trans e7
   have hs3 := hs3.mono (e5.trans (hy.trans e7))
   have hf3 := hf.mono e8
   have hg3 := hg.mono e8
   refine ⟨(.inr heldx), ?_⟩
   refine d_call 22 rfl (by kernel_rfl) rfl rfl .free rfl (ihn (f := f ++ [h1, z]) (t := t ++ [h1', z']) (by omega) (hf3.as 5 b.tree (by omega) rfl) hok.2 (hg3.as 5 b'.tree (by omega) rfl) hok'.2 hs3 hs5 (hnf.add (by intro y hy; simp only [List.mem_cons, List.not_mem_nil, or_false] at hy; rcases hy with rfl | rfl; exact hok.1.1.1.1.1; exact hok.1.1.1.1.2)) (hnt.add (by intro y hy; simp only [List.mem_cons, List.not_mem_nil, or_false] at hy; rcases hy with rfl | rfl; exact hok'.1.1.1.1.1; exact hok'.1.1.1.1.2)) (by first | omega | (simp only [List.length_append, List.length_cons, List.length_nil]; omega)) (by first | omega | (simp only [List.length_append, List.length_cons, List.length_nil]; omega)) _) ?_
   rintro _ J6 _ e9 ⟨rfl, rfl⟩
   have e10 := e8.trans e9
   refine ⟨(.inr heldx), ?_⟩
   refine Da 23 rfl (y_not rfl) ?_
   refine d_done (by kernel_rfl) ?_
   refine s_cond rfl ?_ ?_
   ·intro c4
    try simp only [nb] at c4
    refine Se rfl (Oa rfl (o_done ?_))
    refine s_ret (.tmp rfl .nil) ?_
    refine ⟨_, L, hle.trans e10, drops, ?_, rfl⟩
    have hx : (Ex.fn h1 z s u b).alk (Ex.fn h1' z' s' u' b') f t = false := by
     simp only [Ex.alk]; simp [c4]
    rw [hx]; rfl
   intro c4
   try simp only [nb] at c4
   have hq0 := c4
   have hf := hf3.mono e9
   have hg := hg3.mono e9
   have hfr := hfr.mono e10
   have hto := hto.mono e10
   have hk1 := hk1.mono e10
   have hle := hle.trans e10
   refine s_skip ?_
   refine s_inBlock ?_
   refine o_enter rfl ?_
   refine o_arith rfl rfl rfl (by omega) .free rfl ?_
   refine Om rfl (o_done ?_)
   refine s_round ?_
   refine Se rfl ?_
   refine o_cmp rfl rfl rfl .free rfl ?_
   refine o_done (s_seq ?_)
   refine s_condF rfl (by first | rfl | decide | (simp; done) | omega) ?_
   refine s_exit rfl ?_
   refine Se rfl (Oa rfl (o_done ?_))
   refine s_ret (.tmp rfl .nil) ?_
   refine ⟨_, L, hle, drops, ?_, rfl⟩
   have hx : (Ex.fn h1 z s u b).alk (Ex.fn h1' z' s' u' b') f t = true := by
    simp only [Ex.alk]; simp [hq0, hsu]
   rw [hx]; rfl
  ·skip
   have hlen : (Ex.un o a).tree.parts.length = 2 := rfl
   have hlen' : (Ex.un o a').tree.parts.length = 2 := rfl
   have hki := kids_un o a
   have hhd : (Ex.un o a).tree.head = o.txt := rfl
   have hx3 : ¬ (Ex.un o a).tree.head = [102, 117, 110] := o.txt_ne.2.2.1
   have hx4 : ¬ (Ex.un o a').tree.head = [102, 117, 110] := o.txt_ne.2.2.1
   simp only [Ex.un.sizeOf_spec] at hlt
   simp only [Ex.ok, Bool.and_eq_true, decide_eq_true_eq] at hok hok'
   simp only [Ex.size] at hfl htl
   refine d_all 27 rfl rfl ?_
   refine Dt 0 [27] rfl (y_lOS rfl) ?_
   refine d_call 1 rfl (by kernel_rfl) rfl rfl .free rfl (f_form_head hf.rep _) ?_
   rintro _ _ _ _ ⟨rfl, rfl, rfl⟩
   refine ⟨(.inr heldx), ?_⟩
   refine Da 2 rfl (y_cmps rfl rfl rfl) ?_
   refine Da 3 rfl (y_move rfl) ?_
   refine d_put (t := 66) rfl (v' := .bool false) (by first | simp [*] | (simp; omega)) ?_
   refine Ds 4 rfl rfl rfl ?_
   refine Ds 5 rfl rfl rfl ?_
   refine Ds 6 rfl rfl rfl ?_
   refine Ds 7 rfl rfl rfl ?_
   refine Ds 8 rfl rfl rfl ?_
   refine Ds 9 rfl rfl rfl ?_
   refine Ds 10 rfl rfl rfl ?_
   refine Ds 11 rfl rfl rfl ?_
   refine Ds 12 rfl rfl rfl ?_
   refine Ds 13 rfl rfl rfl ?_
   refine Ds 14 rfl rfl rfl ?_
   refine d_takeskipu 15 rfl (by kernel_rfl) rfl (.inr heldx) rfl rfl rfl ?_
   refine d_takeskipu 16 rfl (by kernel_rfl) rfl (.inr heldx) rfl rfl rfl ?_
   refine d_takeskipu 17 rfl (by kernel_rfl) rfl (.inr heldx) rfl rfl rfl ?_
   refine d_takeskipu 18 rfl (by kernel_rfl) rfl (.inr heldx) rfl rfl rfl ?_
   refine d_takeskipu 19 rfl (by kernel_rfl) rfl (.inr heldx) rfl rfl rfl ?_
   refine d_takeskipu 20 rfl (by kernel_rfl) rfl (.inr heldx) rfl rfl rfl ?_
   refine d_takeskipu 21 rfl (by kernel_rfl) rfl (.inr heldx) rfl rfl rfl ?_
   refine d_takeskipu 22 rfl (by kernel_rfl) rfl (.inr heldx) rfl rfl rfl ?_
   refine d_takeskipu 23 rfl (by kernel_rfl) rfl (.inr heldx) rfl rfl rfl ?_
   refine d_takeskipu 24 rfl (by kernel_rfl) rfl (.inr heldx) rfl rfl rfl ?_
   refine Ds 25 rfl rfl rfl ?_
   refine Da 26 rfl (y_pick_false rfl rfl) ?_
   refine d_done (by kernel_rfl) ?_
   refine s_false rfl ?_
   refine s_skip (s_seq (Se rfl ?_))
   refine o_lOS rfl .free rfl ?_
   refine o_call rfl .free rfl (f_form_kids hf.rep _) ?_
   rintro _ J _ e0 ⟨ok, ck, rfl, hk1, rfl⟩
   have hf := hf.mono e0
   have hg := hg.mono e0
   have hfr := hfr.mono e0
   have hto := hto.mono e0
   have hle := hle.trans e0
   rw [hki] at hk1
   rw [hki]
   refine o_len_slice rfl .free rfl ?_
   refine Om rfl (o_done (s_block ?_))
   refine s_loop ?_
   refine Se rfl ?_
   refine o_cmp rfl rfl rfl .free rfl ?_
   refine o_done (s_seq ?_)
   refine s_condT rfl (by first | rfl | decide | (simp; done) | omega) ?_
   refine s_skip (s_seq (s_block (Se rfl ?_)))
   first | refine o_ixD rfl rfl _ rfl .free rfl ?_ | refine o_ixP rfl rfl _ rfl .free rfl ?_
   refine o_lI1 rfl .free rfl ?_
   refine Oa rfl (o_done (s_seq ?_))
   refine d_all 24 rfl rfl ?_
   refine Da 0 rfl (y_fieldAddr rfl) ?_
   refine Dt 1 [24] rfl (y_lO1 rfl) ?_
   refine Da 2 rfl (y_move rfl) ?_
   first | refine Da 3 rfl (y_ixD rfl rfl _ rfl) ?_ | refine Da 3 rfl (y_ixP rfl rfl _ rfl) ?_
   refine Dt 4 [24] rfl (y_lIS rfl) ?_
   refine Da 5 rfl (y_fieldAddr rfl) ?_
   refine Dt 6 [24] rfl (y_lO1 rfl) ?_
   refine Da 7 rfl (y_move rfl) ?_
   first | refine Da 8 rfl (y_ixD rfl rfl _ rfl) ?_ | refine Da 8 rfl (y_ixP rfl rfl _ rfl) ?_
   refine Dt 9 [24] rfl (y_lIS rfl) ?_
   refine Da 10 rfl (y_move rfl) ?_
   refine Dt 11 [24] rfl (y_lOS rfl) ?_
   refine Da 12 rfl (y_move rfl) ?_
   refine Da 16 rfl (y_move rfl) ?_
   refine Dt 17 [24] rfl (y_lOS rfl) ?_
   refine Da 18 rfl (y_move rfl) ?_
   refine d_call 13 rfl (by kernel_rfl) rfl rfl .free rfl (f_form_bound hf.rep hok0 _ _) ?_
   rintro _ J1 _ e1 ⟨o1, k1, rfl, hs1, rfl⟩
   refine ⟨(.inr heldx), ?_⟩
   refine d_lits 14 rfl (by kernel_rfl) rfl rfl rfl (by rfl) (by rfl) (by rfl) (by decide) (by decide) (by rfl) .free rfl (.inr heldx) ?_
   intro b111
   refine d_freeze ?_
   intro hz
   have e2 := e1.trans hz
   refine d_call 15 rfl (by kernel_rfl) rfl rfl .free rfl (f_slices_Concat (still_set (xs := [.slice of f.length cf, .slice o1 (List.length _) k1]) (ys := [])) (hfr.mono e2) (hs1.mono hz) (Ex.binds_room0 (by omega)) _) ?_
   rintro _ J3 _ e3 ⟨o3, k3, rfl, hs3, rfl⟩
   have e4 := e2.trans e3
   refine ⟨(.inr heldx), ?_⟩
   refine d_call 19 rfl (by kernel_rfl) rfl rfl .free rfl (f_form_bound (hg.mono e4).rep hok0' _ _) ?_
   rintro _ J4 _ e5 ⟨o4, k4, rfl, hs4, rfl⟩
   have e45 := e4.trans e5
   refine ⟨(.inr heldx), ?_⟩
   refine d_lits 20 rfl (by kernel_rfl) rfl rfl rfl (by rfl) (by rfl) (by rfl) (by decide) (by decide) (by rfl) .free rfl (.inr heldx) ?_
   intro b117
   refine d_freeze ?_
   intro hy
   have e6 := e4.trans (e5.trans hy)
   refine d_call 21 rfl (by kernel_rfl) rfl rfl .free rfl (f_slices_Concat (still_set (xs := [.slice ot t.length ct, .slice o4 (List.length _) k4]) (ys := [])) (hto.mono e6) (hs4.mono hy) (Ex.binds_room0 (by omega)) _) ?_
   rintro _ J5 _ e7 ⟨o5, k5, rfl, hs5, rfl⟩
   have e8 := e6.trans e7
   have hs3 := hs3.mono (e5.trans (hy.trans e7))
   have hf3 := hf.mono e8
   have hg3 := hg.mono e8
   refine ⟨(.inr heldx), ?_⟩
   refine d_call 22 rfl (by kernel_rfl) rfl rfl .free rfl (ihn (f := f ++ []) (t := t ++ []) (by omega) (hf3.as 1 a.tree (by omega) rfl) hok (hg3.as 1 a'.tree (by omega) rfl) hok' hs3 hs5 (by simpa using hnf) (by simpa using hnt) (by first | omega | (simp only [List.length_append, List.length_cons, List.length_nil]; omega)) (by first | omega | (simp only [List.length_append, List.length_cons, List.length_nil]; omega)) _) ?_
   rintro _ J6 _ e9 ⟨rfl, rfl⟩
   have e10 := e8.trans e9
   simp only [List.append_nil]
   refine ⟨(.inr heldx), ?_⟩
   refine Da 23 rfl (y_not rfl) ?_
   refine d_done (by kernel_rfl) ?_
   refine s_cond rfl ?_ ?_
   ·intro c4
    try simp only [nb] at c4
    refine Se rfl (Oa rfl (o_done ?_))
    refine s_ret (.tmp rfl .nil) ?_
    refine ⟨_, L, hle.trans e10, drops, ?_, rfl⟩
    have hx : (Ex.un o a).alk (Ex.un o a') f t = false := by
     simp only [Ex.alk]; simp [c4]
    rw [hx]; rfl
   intro c4
   try simp only [nb] at c4
   have hq0 := c4
   have hf := hf3.mono e9
   have hg := hg3.mono e9
   have hfr := hfr.mono e10
   have hto := hto.mono e10
   have hk1 := hk1.mono e10
   have hle := hle.trans e10
   refine s_skip ?_
   refine s_inBlock ?_
   refine o_enter rfl ?_
   refine o_arith rfl rfl rfl (by omega) .free rfl ?_
   refine Om rfl (o_done ?_)
   refine s_round ?_
   refine Se rfl ?_
   refine o_cmp rfl rfl rfl .free rfl ?_
   refine o_done (s_seq ?_)
   refine s_condF rfl (by first | rfl | decide | (simp; done) | omega) ?_
   refine s_exit rfl ?_
   refine Se rfl (Oa rfl (o_done ?_))
   refine s_ret (.tmp rfl .nil) ?_
   refine ⟨_, L, hle, drops, ?_, rfl⟩
   have hx : (Ex.un o a).alk (Ex.un o a') f t = true := by
    simp only [Ex.alk]; simp [hq0]
   rw [hx]; rfl
theorem f_ExprAlike (a b : Txt) (ha : a.length ≤ maxN) (hb : b.length ≤ maxN) (I : Heap) (L : Own) : Fun Tryz.prog 5 [.string (str a), .string (str b)] I L (fun v I' L' => v = .bool (alikeOf a b) ∧ L = L') := by
 refine fun_intro (by simp) ?_
 refine Se rfl (Oa rfl (o_done (Se rfl (Om rfl ?_))))
 refine o_call rfl .free rfl (f_readExpr a ha _ _) ?_
 rintro _ J _ e1 ⟨t1, cs1, ok1, rfl, hr1, rfl, hp1⟩
 obtain ⟨o1, k1, _, rfl, -⟩ := hr1.open
 refine Om rfl ?_
 refine o_extract rfl rfl .free rfl ?_
 refine o_extract rfl rfl .free rfl ?_
 refine o_alloc .free rfl ?_
 intro b5
 refine o_st rfl rfl rfl rfl .free ?_
 refine Oa rfl (o_done (Se rfl (Om rfl ?_)))
 refine o_call rfl .free rfl (f_readExpr b hb _ _) ?_
 rintro _ J2 _ e2 ⟨t2, cs2, ok2, rfl, hr2, rfl, hp2⟩
 obtain ⟨o2, k2, _, rfl, -⟩ := hr2.open
 refine Om rfl ?_
 refine o_extract rfl rfl .free rfl ?_
 refine o_extract rfl rfl .free rfl ?_
 refine o_alloc .free rfl ?_
 intro b7
 refine o_st rfl rfl rfl rfl .free ?_
 refine Oa rfl (o_done (Se rfl (Om rfl (Om rfl ?_))))
 apply o_and 20 22 rfl
 ·intro g3_2 hk
  try simp only [nb] at g3_2
  refine o_move rfl (.met rfl rfl) rfl ?_
  refine o_pick_true rfl rfl .free rfl ?_
  exact o_fin 1 rfl rfl hk
 ·intro _ hk
  refine o_skips 1 rfl ?_
  refine o_pick_false rfl rfl .free rfl ?_
  exact o_fin 1 rfl rfl hk
 refine Om rfl ?_
 apply o_and 23 27 rfl
 ·intro g3_5 hk
  try simp only [nb] at g3_5
  obtain ⟨e, he, rfl, hok1, -, hfi1, -⟩ := RX_some hp1 g3_5.1
  obtain ⟨e', he', rfl, hok2, -, hfi2, -⟩ := RX_some hp2 g3_5.2
  have hz1 := (exOf_is he).2.2.1
  have hz2 := (exOf_is he').2.2.1
  refine o_lOS rfl (.met rfl rfl) rfl ?_
  refine o_lOS rfl (.met rfl rfl) rfl ?_
  refine o_call rfl (.met rfl rfl) rfl (f_alike _ (Nat.lt_succ_self _) (hr1.mono e2) hok1 hr2 hok2 (strs_nil _) (strs_nil _) (by intro _ h; cases h) (by intro _ h; cases h) (by simp only [List.length_nil]; omega) (by simp only [List.length_nil]; omega) _) ?_
  rintro _ J3 _ e3 ⟨rfl, rfl⟩
  rw [show e.alk e' [] [] = alikeOf a b from (alikeOf_some he he').symm]
  refine o_mem (fun w h => Mem.le e3 h) ?_
  refine o_pick_true rfl rfl .free rfl ?_
  exact o_fin 3 rfl rfl hk
 ·intro _ hk
  refine o_skips 3 rfl ?_
  refine o_pick_false rfl rfl .free rfl ?_
  exact o_fin 3 rfl rfl hk
 refine Oa rfl (o_done ?_)
 refine s_ret (.tmp rfl .nil) ?_
 refine ⟨J2, L, e1.trans e2, drops, ?_, rfl⟩
 by_cases h1 : ok1 = true
 ·by_cases h2 : ok2 = true
  ·simp [retOne, h1, h2]
  ·rw [alikeOf_none (.inr (RX_none hp2 (by simpa using h2)))]; simp [retOne, h2]
 ·rw [alikeOf_none (.inl (RX_none hp1 (by simpa using h1)))]; simp [retOne, h1]
theorem g_ExprAlike (a b : Txt) (ha : a.length ≤ maxL) (hb : b.length ≤ maxL) (I : Heap) (L : Own) : Fun Tryz.prog 6 [.string (str a), .string (str b)] I L (fun v I' L' => v = .bool (alikeOf a b) ∧ L = L') := by
 refine fun_intro (by simp) ?_
 refine Se rfl (Oa rfl (o_done (Se rfl (Om rfl ?_))))
 refine o_call rfl .free rfl (g_ExprPlain a ha _ _) ?_
 rintro _ J _ e1 ⟨rfl, rfl⟩
 refine Om rfl ?_
 refine o_extract rfl rfl .free rfl ?_
 refine o_extract rfl rfl .free rfl ?_
 refine Oa rfl (Oa rfl (o_done (Se rfl (Om rfl ?_))))
 refine o_call rfl .free rfl (g_ExprPlain b hb _ _) ?_
 rintro _ J2 _ e2 ⟨rfl, rfl⟩
 refine Om rfl ?_
 refine o_extract rfl rfl .free rfl ?_
 refine o_extract rfl rfl .free rfl ?_
 refine Oa rfl (Oa rfl (o_done (Se rfl (Om rfl (Om rfl ?_)))))
 apply o_and 20 22 rfl
 ·intro g3_2 hk
  try simp only [nb] at g3_2
  refine o_move rfl (.met rfl rfl) rfl ?_
  refine o_pick_true rfl rfl .free rfl ?_
  exact o_fin 1 rfl rfl hk
 ·intro _ hk
  refine o_skips 1 rfl ?_
  refine o_pick_false rfl rfl .free rfl ?_
  exact o_fin 1 rfl rfl hk
 refine Om rfl ?_
 apply o_and 23 27 rfl
 ·intro g3_5 hk
  try simp only [nb] at g3_5
  refine o_move rfl (.met rfl rfl) rfl ?_
  refine o_move rfl (.met rfl rfl) rfl ?_
  refine o_cmps rfl rfl rfl (.met rfl rfl) rfl ?_
  refine o_pick_true rfl rfl .free rfl ?_
  exact o_fin 3 rfl rfl hk
 ·intro _ hk
  refine o_skips 3 rfl ?_
  refine o_pick_false rfl rfl .free rfl ?_
  exact o_fin 3 rfl rfl hk
 refine Oa rfl (o_done ?_)
 refine s_ret (.tmp rfl .nil) ?_
 refine ⟨J2, L, e1.trans e2, drops, ?_, rfl⟩
 rw [alike_plain]
 cases plainOf a <;> cases plainOf b <;> simp [retOne]
/-- What a loop over the kids has gathered. -/
structure GK where
 i : Nat
 B : Buf
 c : Nat
def Ex.ks (e : Ex) : List Txt := e.sub.map fun a => a.tree.text
theorem f_FormSize (s : Txt) (hs : s.length ≤ maxN) (I : Heap) (L : Own) : Fun Tryz.prog 12 [.string (str s)] I L (fun v I' L' => v = .int .i64 (sizeOfT s) ∧ L = L') := by
 refine fun_intro (by simp) ?_
 refine Se rfl (Oa rfl (o_done (Se rfl (Om rfl ?_))))
 refine o_call rfl .free rfl (f_read s hs _ _) ?_
 rintro _ J _ hleJ ⟨t, cs, ok, rfl, hrep, rfl, hpf⟩
 obtain ⟨oc, cc, _, rfl, -⟩ := hrep.open
 refine Om rfl ?_
 refine o_extract rfl rfl .free rfl ?_
 refine o_extract rfl rfl .free rfl ?_
 refine o_alloc .free rfl ?_
 intro b3
 refine o_st rfl rfl rfl rfl .free ?_
 refine Oa rfl (o_done (s_seq (Se rfl (Om rfl ?_))))
 refine o_not rfl .free rfl ?_
 refine o_done ?_
 refine s_cond rfl ?_ ?_
 ·intro c0
  try simp only [nb] at c0
  refine Se rfl (Oa rfl (o_done ?_))
  refine s_ret (.tmp rfl .nil) ?_
  refine ⟨J, L, hleJ, drops, ?_, rfl⟩
  have : parse s = none := by
   cases hp : parse s with
   | none => rfl
   | some t0 => rw [hp] at hpf; rw [hpf.1] at c0; cases c0
  rw [sizeOfT, this]; rfl
 intro c0
 try simp only [nb] at c0
 have hps := RD_some hpf c0
 have hpz := parse_size hps
 refine s_skip (Se rfl ?_)
 refine o_lOS rfl .free rfl ?_
 refine o_call rfl .free rfl (f_form_size _ (Nat.lt_succ_self _) hrep (by unfold maxN; omega) _) ?_
 rintro _ _ _ _ ⟨rfl, rfl, rfl⟩
 refine Oa rfl (o_done ?_)
 refine s_ret (.tmp rfl .nil) ?_
 refine ⟨J, L, hleJ, drops, ?_, rfl⟩
 rw [sizeOfT, hps]; rfl
theorem f_ExprHead (s : Txt) (hs : s.length ≤ maxN) (I : Heap) (L : Own) : Fun Tryz.prog 11 [.string (str s)] I L (fun v I' L' => v = .string (str (headOf s)) ∧ L = L') := by
 refine fun_intro (by simp) ?_
 refine Se rfl (Oa rfl (o_done (Se rfl (Om rfl ?_))))
 refine o_call rfl .free rfl (f_readExpr s hs _ _) ?_
 rintro _ J _ hleJ ⟨t, cs, ok, rfl, hrep, rfl, hpf⟩
 obtain ⟨oc, cc, oaf, cf, rfl, hf⟩ := hrep.at'
 refine Om rfl ?_
 refine o_extract rfl rfl .free rfl ?_
 refine o_extract rfl rfl .free rfl ?_
 refine o_alloc .free rfl ?_
 intro b3
 refine o_st rfl rfl rfl rfl .free ?_
 refine Oa rfl (o_done (s_seq (s_block (Se rfl (Om rfl ?_)))))
 refine o_not rfl .free rfl ?_
 refine Oa rfl (o_done ?_)
 refine s_cond rfl ?_ ?_
 ·intro c0
  try simp only [nb] at c0
  refine Se rfl (Oa rfl (o_done ?_))
  refine s_ret (.tmp rfl .nil) ?_
  refine ⟨J, L, hleJ, drops, ?_, rfl⟩
  have : exOf s = none := RX_none hpf c0
  rw [headOf, this]; rfl
 intro c0
 try simp only [nb] at c0
 obtain ⟨e, he, rfl, hok, hlen, hfine, htxt⟩ := RX_some hpf c0
 have hhe := headOf_some he
 refine Se rfl ?_
 refine o_lOS rfl .free rfl ?_
 refine o_call rfl .free rfl (f_form_isAtom hf.rep _) ?_
 rintro _ _ _ _ ⟨rfl, rfl, rfl⟩
 refine o_not rfl .free rfl ?_
 refine Oa rfl (o_done ?_)
 refine s_cond rfl ?_ ?_
 ·intro c1
  try simp only [nb] at c1
  refine Se rfl ?_
  refine o_lOS rfl .free rfl ?_
  refine o_call rfl .free rfl (f_form_head hf.rep _) ?_
  rintro _ _ _ _ ⟨rfl, rfl, rfl⟩
  refine Oa rfl (o_done ?_)
  refine s_ret (.tmp rfl .nil) ?_
  refine ⟨J, L, hleJ, drops, ?_, rfl⟩
  rw [hhe]
  cases e <;> first | rfl | cases c1
 intro c1
 try simp only [nb] at c1
 refine Se rfl ?_
 refine o_fieldAddr rfl .free rfl ?_
 refine o_lO1 rfl .free rfl ?_
 refine o_call rfl .free rfl (f_isName e.tree.atom (by have := e.tree.text_len; have := hf.rep.atom_le; exact this) _ _) ?_
 rintro _ _ _ _ ⟨rfl, rfl, rfl⟩
 refine Oa rfl (o_done ?_)
 refine s_cond rfl ?_ ?_
 ·intro c2
  try simp only [nb] at c2
  refine Se rfl (Oa rfl (o_done ?_))
  refine s_ret (.tmp rfl .nil) ?_
  refine ⟨J, L, hleJ, drops, ?_, rfl⟩
  rw [hhe]
  cases e with
  | name t => rfl
  | num t =>
   have h1 : isName t = true := c2
   have h2 := name_not_num h1
   rw [show isNum t = true from hok] at h2; cases h2
  | _ => cases c1
 intro c2
 try simp only [nb] at c2
 refine s_skip ?_
 refine s_inBlock ?_
 refine Se rfl (Oa rfl (o_done ?_))
 refine s_ret (.tmp rfl .nil) ?_
 refine ⟨J, L, hleJ, drops, ?_, rfl⟩
 rw [hhe]
 cases e with
 | num t => rfl
 | name t =>
  have h1 : isName t = true := hok
  rw [show isName (Ex.name t).tree.atom = isName t from rfl, h1] at c2; cases c2
 | _ => cases c1
/-- How far a count has come. -/
structure GM where
 i : Nat
 J : Heap
theorem x_sameTexts {I : Heap} {oa ob : Option Addr} {l m : List Txt} {c c' : Nat} (h : Strs I oa l c) (h' : Strs I ob m c') (L : Own) :
  Fun Tryz.prog 10 [.slice oa l.length c, .slice ob m.length c'] I L (Only (.bool (decide (l = m))) I L) := by
 have hlen := h.len
 have hlen' := h'.len
 unfold maxN at hlen hlen'
 refine fun_intro (by simp) ?_
 refine Se rfl (Oa rfl (o_done (s_seq (Se rfl (Om rfl ?_)))))
 refine o_len_slice rfl .free rfl ?_
 refine Om rfl ?_
 refine o_len_slice rfl .free rfl ?_
 refine o_cmp rfl rfl rfl .free rfl ?_
 refine o_done ?_
 refine s_cond rfl ?_ ?_
 ·intro c0
  try simp only [nb] at c0
  refine Se rfl (Oa rfl (o_done ?_))
  refine s_ret (.tmp rfl .nil) ?_
  refine only rfl ?_
  have : l ≠ m := by rintro rfl; exact c0 rfl
  simp [retOne, this]
 intro c0
 try simp only [nb] at c0
 refine s_skip (s_seq (Se rfl (Oa rfl (o_done (s_block ?_)))))
 refine s_while (X := Nat) (fun i => l.length - i) (fun i => [(0, .slice oa l.length c), (1, .slice ob m.length c'), (5, .int .i64 (i : Nat))]) (fun _ => I) (fun _ => L) (fun i => i ≤ l.length ∧ l.take i = m.take i) 0 ⟨Nat.zero_le _, by simp⟩ ⟨rfl, rfl, rfl, trivial⟩ (fun _ h => h) ?_
 rintro i ⟨hi, hs⟩ ih
 have hlm : l.length = m.length := by omega
 refine s_seq (Se rfl (Om rfl (Om rfl ?_)))
 refine o_len_slice rfl .free rfl ?_
 refine o_cmp rfl rfl rfl .free rfl ?_
 refine o_done ?_
 refine s_cond rfl ?_ ?_
 ·intro c1
  try simp only [nb] at c1
  have hi1 : i < l.length := by omega
  have hi2 : i < m.length := by omega
  have hst1 := h.st i hi1
  have hst2 := h'.st i hi2
  refine s_skip (s_seq (s_block (s_seq ?_)))
  refine d_all 9 rfl rfl ?_
  refine Da 0 rfl (y_move rfl) ?_
  refine Da 1 rfl (y_move rfl) ?_
  first | refine Da 2 rfl (y_ixD rfl rfl _ rfl) ?_ | refine Da 2 rfl (y_ixP rfl rfl _ rfl) ?_
  refine Dt 3 [9] rfl (y_lI1 rfl) ?_
  refine Da 4 rfl (y_move rfl) ?_
  refine Da 5 rfl (y_move rfl) ?_
  first | refine Da 6 rfl (y_ixD rfl rfl _ rfl) ?_ | refine Da 6 rfl (y_ixP rfl rfl _ rfl) ?_
  refine Dt 7 [9] rfl (y_lI1 rfl) ?_
  refine Da 8 rfl (y_cmps rfl rfl rfl) ?_
  refine d_done (by kernel_rfl) ?_
  refine s_cond rfl ?_ ?_
  ·intro c2
   try simp only [nb] at c2
   refine Se rfl (Oa rfl (o_done ?_))
   refine s_ret (.tmp rfl .nil) ?_
   refine only rfl ?_
   have : l ≠ m := by rintro rfl; exact c2 rfl
   simp [retOne, this]
  intro c2
  try simp only [nb] at c2
  refine s_skip ?_
  refine s_inBlock ?_
  refine o_enter rfl ?_
  refine Om rfl ?_
  refine o_arith rfl rfl rfl (by omega) .free rfl ?_
  refine Oa rfl (o_done ?_)
  refine s_env (E' := [(0, .slice oa l.length c), (1, .slice ob m.length c'), (5, .int .i64 ((i + 1 : Nat)))]) ⟨rfl, rfl, rfl, trivial⟩ (ih (i + 1) ⟨by omega, ?_⟩ (by omega))
  have hx : l[i] = m[i] := by simpa [hi1, hi2] using c2
  rw [List.take_succ_eq_append_getElem hi1, List.take_succ_eq_append_getElem hi2, hs, hx]
 intro c1
 try simp only [nb] at c1
 refine s_exit rfl ?_
 refine Se rfl (Oa rfl (o_done ?_))
 refine s_ret (.tmp rfl .nil) ?_
 refine only rfl ?_
 have : l = m := by
  have h1 : i = l.length := by omega
  rw [List.take_of_length_le (by omega), List.take_of_length_le (by omega)] at hs
  exact hs
 simp [retOne, this]
theorem as_exTy {a b : Txt} {e f : Ex} (h : exOf a = some e) (h' : exOf b = some f) (has : e.as f) (l m : List Txt) : exTy l m a = exTy l m b := by
 by_cases hv : isEnv l m = true
 ·rw [exTy_of hv h, exTy_of hv h']
  have hlm : l.length = (tysOf m).length := by
   unfold isEnv at hv
   simp only [Bool.and_eq_true, decide_eq_true_eq] at hv
   simp [tysOf, hv.1.1.2]
  rw [has.ty (exOf_is h).2.1 (exOf_is h').2.1 hlm]
 ·rw [exTy_no (.inl (by simpa using hv)), exTy_no (.inl (by simpa using hv))]
theorem alike_facts {a b : Txt} (h : alikeOf a b = true) : ∃ e p f, exOf a = some e ∧ plainOf a = some p ∧ plainOf b = some p ∧ freeOf a = some f ∧ freeOf b = some f ∧ alikeOf b a = true ∧ headOf a = headOf b ∧ sizeOfT a = sizeOfT b ∧ (∀ l m, exTy l m a = exTy l m b) := by
 obtain ⟨e, f, h1, h2, has⟩ := alikeOf_is h
 have x1 := exOf_is h1
 have x2 := exOf_is h2
 refine ⟨e, e.plain.tree.text, e.free, h1, plainOf_some h1, ?_, freeOf_some h1, ?_, (alikeOf_as h2 h1).2 has.symm, ?_, ?_, as_exTy h1 h2 has⟩
 ·rw [plainOf_some h2, ← (Ex.as_plain x1.2.1 x2.2.1).1 has]
 ·rw [freeOf_some h2, (has.free x1.2.1 x2.2.1).1]
 ·rw [headOf_some h1, headOf_some h2, has.hd]
 ·rw [sizeOfT_ex h1, sizeOfT_ex h2, has.size.1]
theorem law_FnAlike {I : Heap} {oa : Option Addr} {code : List UInt8} {c : Nat} (h : Bytes I oa code c) (L : Own) : Fun Tryz.prog 3 [.slice oa code.length c] I L (YES L) := by
 have hlen := h.len
 refine fun_intro (by simp) ?_
 refine Se rfl (Oa rfl (o_done (s_seq (Se rfl (Om rfl ?_)))))
 refine o_len_slice rfl .free rfl ?_
 refine o_cmp rfl rfl rfl .free rfl ?_
 refine o_done ?_
 refine s_cond rfl ?_ ?_
 ·intro c0
  try simp only [nb] at c0
  refine Se rfl (Oa rfl (o_done ?_))
  refine s_ret (.tmp rfl .nil) ?_
  exact ⟨I, L, .refl _, fun _ h => h, rfl, rfl⟩
 intro c0
 try simp only [nb] at c0
 refine s_skip (Se rfl (Om rfl ?_))
 refine o_call rfl .free rfl (g_DrawExprAlike h _) ?_
 rintro _ J1 _ e1 ⟨a, b, rfl, hal, hbl, rfl⟩
 have ha : a.length ≤ maxN := by unfold maxN; omega
 have hb : b.length ≤ maxN := by unfold maxN; omega
 refine Om rfl ?_
 refine o_extract rfl rfl .free rfl ?_
 refine o_extract rfl rfl .free rfl ?_
 refine Oa rfl (Oa rfl (o_done (Se rfl (Om rfl (Om rfl ?_)))))
 refine o_call rfl .free rfl (f_ExprAlike a b ha hb _ _) ?_
 rintro _ J2 _ e2 ⟨rfl, rfl⟩
 refine Oa rfl (o_done (Se rfl (Om rfl (Om rfl ?_))))
 refine o_call rfl .free rfl (g_ExprAlike a b (maxN_maxL ha) (maxN_maxL hb) _ _) ?_
 rintro _ J3 _ e3 ⟨rfl, rfl⟩
 have hle := (e1.trans e2).trans e3
 refine Oa rfl (o_done (s_seq (Se rfl (Om rfl (Om rfl ?_)))))
 refine o_cmpb rfl rfl rfl .free rfl ?_
 refine Om rfl ?_
 apply o_or 38 41 rfl
 ·intro g6_4 hk
  try simp only [nb] at g6_4
  refine o_move rfl (.met rfl rfl) rfl ?_
  refine o_not rfl (.met rfl rfl) rfl ?_
  refine o_pick_false rfl rfl .free rfl ?_
  exact o_fin 2 rfl rfl hk
 ·intro _ hk
  refine o_skips 2 rfl ?_
  refine o_pick_true rfl rfl .free rfl ?_
  exact o_fin 2 rfl rfl hk
 refine o_done ?_
 refine s_cond rfl ?_ ?_
 ·intro c1
  try simp only [nb] at c1
  refine Se rfl (Om rfl (Om rfl ?_))
  refine o_cmpb rfl rfl rfl .free rfl ?_
  refine Oa rfl (o_done ?_)
  refine s_ret (.tmp rfl .nil) ?_
  refine ⟨J3, L, hle, drops, ?_, rfl⟩
  simp [retOne]
 intro c1
 try simp only [nb] at c1
 have hab : alikeOf a b = true := by simpa using c1
 clear c1
 obtain ⟨e, p, fl, he, hpa, hpb, hf1, hf2, hba, hhd, hsz, hty⟩ := alike_facts hab
 refine s_skip (Se rfl (Om rfl ?_))
 refine o_call rfl .free rfl (f_ExprPlain a ha _ _) ?_
 rintro _ J4 _ e4 ⟨rfl, rfl⟩
 rw [hpa]
 simp only [Option.getD_some, Option.isSome_some]
 refine Om rfl ?_
 refine o_extract rfl rfl .free rfl ?_
 refine o_extract rfl rfl .free rfl ?_
 refine Oa rfl (Oa rfl (o_done (Se rfl (Om rfl ?_))))
 refine o_call rfl .free rfl (f_ExprPlain b hb _ _) ?_
 rintro _ J5 _ e5 ⟨rfl, rfl⟩
 rw [hpb]
 simp only [Option.getD_some, Option.isSome_some]
 refine Om rfl ?_
 refine o_extract rfl rfl .free rfl ?_
 refine o_extract rfl rfl .free rfl ?_
 refine Oa rfl (Oa rfl (o_done (Se rfl (Om rfl ?_))))
 refine o_call rfl .free rfl (f_ExprFree a ha _ _) ?_
 rintro _ J6 _ e6 ⟨of, cf, rfl, hfS, rfl⟩
 rw [hf1] at hfS
 rw [hf1]
 simp only [Option.getD_some, Option.isSome_some] at hfS ⊢
 refine Om rfl ?_
 refine o_extract rfl rfl .free rfl ?_
 refine o_extract rfl rfl .free rfl ?_
 refine Oa rfl (Oa rfl (o_done (Se rfl (Om rfl ?_))))
 refine o_call rfl .free rfl (f_ExprFree b hb _ _) ?_
 rintro _ J7 _ e7 ⟨og, cg, rfl, hgS, rfl⟩
 rw [hf2] at hgS
 rw [hf2]
 simp only [Option.getD_some, Option.isSome_some] at hgS ⊢
 have hfS := hfS.mono e7
 have hle := (((hle.trans e4).trans e5).trans e6).trans e7
 refine Om rfl ?_
 refine o_extract rfl rfl .free rfl ?_
 refine o_extract rfl rfl .free rfl ?_
 refine Oa rfl (Oa rfl (o_done (Se rfl ?_)))
 refine o_lits rfl rfl (by rfl) (by rfl) (by rfl) (by decide) (by decide) (by rfl) .free rfl ?_
 intro b65
 refine o_freezeLit [[97], [98], [120, 48]] (by decide) (by decide) ?_
 intro J8 e8 k1
 refine Oa rfl (o_done (Se rfl ?_))
 refine o_lits rfl rfl (by rfl) (by rfl) (by rfl) (by decide) (by decide) (by rfl) .free rfl ?_
 intro b66
 refine o_freezeLit [[105], [40, 42, 32, 105, 32, 105, 41], [105]] (by decide) (by decide) ?_
 intro J9 e9 k2
 have k1 := k1.mono e9
 have hfS := (hfS.mono e8).mono e9
 have hgS := (hgS.mono e8).mono e9
 have hle := (hle.trans e8).trans e9
 refine Oa rfl (o_done (Se rfl ?_))
 iterate 3 refine Om rfl ?_
 refine o_call rfl .free rfl (f_ExprType k1 k2 a ha _) ?_
 rintro _ J10 _ e10 ⟨rfl, rfl⟩
 have k1 := k1.mono e10
 have k2 := k2.mono e10
 refine Om rfl ?_
 refine o_extract rfl rfl .free rfl ?_
 refine o_extract rfl rfl .free rfl ?_
 refine Oa rfl (Oa rfl (o_done (Se rfl ?_)))
 iterate 3 refine Om rfl ?_
 refine o_call rfl .free rfl (f_ExprType k1 k2 b hb _) ?_
 rintro _ J11 _ e11 ⟨rfl, rfl⟩
 have hfS := (hfS.mono e10).mono e11
 have hgS := (hgS.mono e10).mono e11
 have hle := (hle.trans e10).trans e11
 rw [hty [[97], [98], [120, 48]] [[105], [40, 42, 32, 105, 32, 105, 41], [105]]]
 refine Om rfl ?_
 refine o_extract rfl rfl .free rfl ?_
 refine o_extract rfl rfl .free rfl ?_
 refine Oa rfl (Oa rfl (o_done (Se rfl (Om rfl (Om rfl ?_)))))
 apply o_and 82 84 rfl
 ·intro g16_2 hk
  try simp only [nb] at g16_2
  refine o_move rfl (.met rfl rfl) rfl ?_
  refine o_pick_true rfl rfl .free rfl ?_
  exact o_fin 1 rfl rfl hk
 ·intro _ hk
  refine o_skips 1 rfl ?_
  refine o_pick_false rfl rfl .free rfl ?_
  exact o_fin 1 rfl rfl hk
 refine Om rfl ?_
 apply o_and 85 87 rfl
 ·intro g16_5 hk
  try simp only [nb] at g16_5
  refine o_move rfl (.met rfl rfl) rfl ?_
  refine o_pick_true rfl rfl .free rfl ?_
  exact o_fin 1 rfl rfl hk
 ·intro _ hk
  refine o_skips 1 rfl ?_
  refine o_pick_false rfl rfl .free rfl ?_
  exact o_fin 1 rfl rfl hk
 refine Om rfl ?_
 apply o_and 88 90 rfl
 ·intro g16_8 hk
  try simp only [nb] at g16_8
  refine o_move rfl (.met rfl rfl) rfl ?_
  refine o_pick_true rfl rfl .free rfl ?_
  exact o_fin 1 rfl rfl hk
 ·intro _ hk
  refine o_skips 1 rfl ?_
  refine o_pick_false rfl rfl .free rfl ?_
  exact o_fin 1 rfl rfl hk
 refine Om rfl ?_
 apply o_and 91 95 rfl
 ·intro g16_11 hk
  try simp only [nb] at g16_11
  refine o_move rfl (.met rfl rfl) rfl ?_
  refine o_move rfl (.met rfl rfl) rfl ?_
  refine o_cmps rfl rfl rfl (.met rfl rfl) rfl ?_
  refine o_pick_true rfl rfl .free rfl ?_
  exact o_fin 3 rfl rfl hk
 ·intro _ hk
  refine o_skips 3 rfl ?_
  refine o_pick_false rfl rfl .free rfl ?_
  exact o_fin 3 rfl rfl hk
 refine Om rfl ?_
 apply o_and 96 100 rfl
 ·intro g16_16 hk
  try simp only [nb] at g16_16
  refine o_move rfl (.met rfl rfl) rfl ?_
  refine o_move rfl (.met rfl rfl) rfl ?_
  refine o_call rfl (.met rfl rfl) rfl (x_sameTexts hfS hgS _) ?_
  rintro _ _ _ _ ⟨rfl, rfl, rfl⟩
  refine o_pick_true rfl rfl .free rfl ?_
  exact o_fin 3 rfl rfl hk
 ·intro _ hk
  refine o_skips 3 rfl ?_
  refine o_pick_false rfl rfl .free rfl ?_
  exact o_fin 3 rfl rfl hk
 refine Om rfl ?_
 apply o_and 101 105 rfl
 ·intro g16_21 hk
  try simp only [nb] at g16_21
  refine o_move rfl (.met rfl rfl) rfl ?_
  refine o_move rfl (.met rfl rfl) rfl ?_
  refine o_call rfl (.met rfl rfl) rfl (f_ExprAlike b a hb ha _ _) ?_
  rintro _ J12 _ e12 ⟨rfl, rfl⟩
  rw [hba]
  refine o_mem (fun w h => Mem.le e12 h) ?_
  refine o_pick_true rfl rfl .free rfl ?_
  exact o_fin 3 rfl rfl hk
 ·intro _ hk
  refine o_skips 3 rfl ?_
  refine o_pick_false rfl rfl .free rfl ?_
  exact o_fin 3 rfl rfl hk
 refine Om rfl ?_
 apply o_and 106 112 rfl
 ·intro g16_26 hk
  try simp only [nb] at g16_26
  refine o_move rfl (.met rfl rfl) rfl ?_
  refine o_call rfl (.met rfl rfl) rfl (f_ExprHead a ha _ _) ?_
  rintro _ J13 _ e13 ⟨rfl, rfl⟩
  refine o_move rfl (.met rfl rfl) rfl ?_
  refine o_call rfl (.met rfl rfl) rfl (f_ExprHead b hb _ _) ?_
  rintro _ J14 _ e14 ⟨rfl, rfl⟩
  refine o_mem (fun w h => Mem.le (e13.trans e14) h) ?_
  refine o_cmps rfl rfl rfl (.met rfl rfl) rfl ?_
  refine o_pick_true rfl rfl .free rfl ?_
  exact o_fin 5 rfl rfl hk
 ·intro _ hk
  refine o_skips 5 rfl ?_
  refine o_pick_false rfl rfl .free rfl ?_
  exact o_fin 5 rfl rfl hk
 refine Om rfl ?_
 apply o_and 113 119 rfl
 ·intro g16_33 hk
  try simp only [nb] at g16_33
  refine o_move rfl (.met rfl rfl) rfl ?_
  refine o_call rfl (.met rfl rfl) rfl (f_FormSize a ha _ _) ?_
  rintro _ J15 _ e15 ⟨rfl, rfl⟩
  refine o_move rfl (.met rfl rfl) rfl ?_
  refine o_call rfl (.met rfl rfl) rfl (f_FormSize b hb _ _) ?_
  rintro _ J16 _ e16 ⟨rfl, rfl⟩
  refine o_mem (fun w h => Mem.le (e15.trans e16) h) ?_
  refine o_cmp rfl rfl rfl (.met rfl rfl) rfl ?_
  refine o_pick_true rfl rfl .free rfl ?_
  exact o_fin 5 rfl rfl hk
 ·intro _ hk
  refine o_skips 5 rfl ?_
  refine o_pick_false rfl rfl .free rfl ?_
  exact o_fin 5 rfl rfl hk
 refine Om rfl ?_
 apply o_and 120 124 rfl
 ·intro g16_40 hk
  try simp only [nb] at g16_40
  refine o_move rfl (.met rfl rfl) rfl ?_
  refine o_move rfl (.met rfl rfl) rfl ?_
  refine o_cmpb rfl rfl rfl (.met rfl rfl) rfl ?_
  refine o_pick_true rfl rfl .free rfl ?_
  exact o_fin 3 rfl rfl hk
 ·intro _ hk
  refine o_skips 3 rfl ?_
  refine o_pick_false rfl rfl .free rfl ?_
  exact o_fin 3 rfl rfl hk
 refine Om rfl ?_
 apply o_and 125 129 rfl
 ·intro g16_45 hk
  try simp only [nb] at g16_45
  refine o_move rfl (.met rfl rfl) rfl ?_
  refine o_move rfl (.met rfl rfl) rfl ?_
  refine o_cmps rfl rfl rfl (.met rfl rfl) rfl ?_
  refine o_pick_true rfl rfl .free rfl ?_
  exact o_fin 3 rfl rfl hk
 ·intro _ hk
  refine o_skips 3 rfl ?_
  refine o_pick_false rfl rfl .free rfl ?_
  exact o_fin 3 rfl rfl hk
 refine Oa rfl (o_done ?_)
 refine s_ret (.tmp rfl .nil) ?_
 refine ⟨J11, L, hle, drops, ?_, rfl⟩
 simp [retOne, hhd, hsz]
end Go.Proofs.YtplalahnnoeidaaGreatDoor
