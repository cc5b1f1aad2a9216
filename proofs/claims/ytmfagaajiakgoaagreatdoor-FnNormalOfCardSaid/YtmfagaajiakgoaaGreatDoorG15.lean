/- Expressions that are alike, by the program and by the reference. No conditions. -/
import Derived.Test.YtmfagaajiakgoaaGreatDoorG14
import Derived.LaidSub
import Derived.Lib.LaidTab

namespace Go.Proofs.YtmfagaajiakgoaaGreatDoor
set_option maxRecDepth 100000
set_option linter.unusedVariables false
set_option linter.unusedSimpArgs false

theorem Ex.alk_head {e f : Ex} {a b : List As} (h : e.alk f a b = true) : e.tree.head = f.tree.head ∧ e.tree.parts.length = f.tree.parts.length ∧ e.bare = f.bare := by
 cases e <;> cases f <;> simp only [Ex.alk, Bool.false_eq_true, Bool.and_eq_true, decide_eq_true_eq] at h <;> first
  | exact ⟨rfl, rfl, rfl⟩
  | exact ⟨h.1.1, rfl, rfl⟩
  | exact ⟨h.1, rfl, rfl⟩
theorem Ex.same_shape {e f : Ex} (he : e.bare = false) (hf : f.bare = false) (h : e.tree.head = f.tree.head) : (∃ o a b a' b', e = .bin o a b ∧ f = .bin o a' b') ∨ (∃ a b c a' b' c', e = .ite a b c ∧ f = .ite a' b' c') ∨ (∃ x a b x' a' b', e = .lt x a b ∧ f = .lt x' a' b') ∨
  (∃ g x s t b g' x' s' t' b', e = .fn g x s t b ∧ f = .fn g' x' s' t' b') ∨ (∃ o a a', e = .un o a ∧ f = .un o a') := by
 cases e with
 | num s => cases he
 | name s => cases he
 | bin o a b =>
  cases f with
  | num s => cases hf
  | name s => cases hf
  | bin o' a' b' => obtain rfl := B5.txt_inj (show o.txt = o'.txt from h); exact .inl ⟨o, a, b, a', b', rfl, rfl⟩
  | ite a' b' c' => exact absurd (show o.txt = Gi from h) o.txt_ne.1
  | lt x a' b' => exact absurd (show o.txt = Dq from h) o.txt_ne.2.1
  | fn g x s t b' => exact absurd (show o.txt = C6 from h) o.txt_ne.2.2.1
  | un u a' => exact absurd (show o.txt = u.txt from h) (Abs o u)
 | ite a b c =>
  cases f with
  | num s => cases hf
  | name s => cases hf
  | bin o' a' b' => exact absurd (show Gi = o'.txt from h).symm o'.txt_ne.1
  | ite a' b' c' => exact .inr (.inl ⟨a, b, c, a', b', c', rfl, rfl⟩)
  | lt x a' b' => exact absurd (show Gi = Dq from h) Ae
  | fn g x s t b' => exact absurd (show Gi = C6 from h) Ae
  | un u a' => exact absurd (show Gi = u.txt from h).symm u.txt_ne.1
 | lt x a b =>
  cases f with
  | num s => cases hf
  | name s => cases hf
  | bin o' a' b' => exact absurd (show Dq = o'.txt from h).symm o'.txt_ne.2.1
  | ite a' b' c' => exact absurd (show Dq = Gi from h) Ae
  | lt x' a' b' => exact .inr (.inr (.inl ⟨x, a, b, x', a', b', rfl, rfl⟩))
  | fn g x s t b' => exact absurd (show Dq = C6 from h) Ae
  | un u a' => exact absurd (show Dq = u.txt from h).symm u.txt_ne.2.1
 | fn g x s t b =>
  cases f with
  | num s => cases hf
  | name s => cases hf
  | bin o' a' b' => exact absurd (show C6 = o'.txt from h).symm o'.txt_ne.2.2.1
  | ite a' b' c' => exact absurd (show C6 = Gi from h) Ae
  | lt x a' b' => exact absurd (show C6 = Dq from h) Ae
  | fn g' x' s' t' b' => exact .inr (.inr (.inr (.inl ⟨g, x, s, t, b, g', x', s', t', b', rfl, rfl⟩)))
  | un u a' => exact absurd (show C6 = u.txt from h).symm u.txt_ne.2.2.1
 | un u a =>
  cases f with
  | num s => cases hf
  | name s => cases hf
  | bin o' a' b' => exact absurd (show o'.txt = u.txt from h.symm) (Abs o' u)
  | ite a' b' c' => exact absurd (show u.txt = Gi from h) u.txt_ne.1
  | lt x a' b' => exact absurd (show u.txt = Dq from h) u.txt_ne.2.1
  | fn g x s t b' => exact absurd (show u.txt = C6 from h) u.txt_ne.2.2.1
  | un u' a' => obtain rfl := U2.txt_inj (show u.txt = u'.txt from h); exact .inr (.inr (.inr (.inr ⟨u, a, a', rfl, rfl⟩)))
theorem Z7 {e f : Ex} {a b : List As} (he : e.bare = true) (hf : f.bare = true) (hoe : e.ok = true) (hof : f.ok = true) (ha : namesL a) (hb : namesL b) :
  e.alk f a b = (decide (Ih (Bv a e.tree.atom) = Ih (Bv b f.tree.atom)) && (decide (0 ≤ Ih (Bv a e.tree.atom)) || decide (e.tree.atom = f.tree.atom))) := by
 have hnum : ∀ {l : List As} {s : As}, namesL l → C4 s = true → Bv l s = none := fun {l s} hl hs => Gq.2 fun hm => by
  have := F5 (hl s hm); rw [hs] at this; cases this
 have hix : ∀ {x y : Option Nat}, Ih x = Ih y ↔ x = y := fun {x y} => by
  cases x <;> cases y <;> simp [Ih] <;> omega
 have hi0 : ∀ {x : Option Nat}, (0 ≤ Ih x) ↔ x.isSome = true := fun {x} => by cases x <;> simp [Ih]
 cases e with
 | num s =>
  have h1 := hnum ha (show C4 s = true from hoe)
  cases f with
  | num t =>
   have h2 := hnum hb (show C4 t = true from hof)
   simp only [Ex.alk, show (Ex.num s).tree.atom = s from rfl, show (Ex.num t).tree.atom = t from rfl, h1, h2]
   simp [Ih]
  | name t =>
   simp only [Ex.alk, show (Ex.num s).tree.atom = s from rfl, show (Ex.name t).tree.atom = t from rfl, h1, hix, hi0]
   have : ¬ s = t := fun e => by
    have := F5 (show B0 t = true from hof); rw [← e, show C4 s = true from hoe] at this; cases this
   simp [this]
  | _ => cases hf
 | name s =>
  cases f with
  | num t =>
   have h2 := hnum hb (show C4 t = true from hof)
   simp only [Ex.alk, show (Ex.name s).tree.atom = s from rfl, show (Ex.num t).tree.atom = t from rfl, h2, hix, hi0]
   have : ¬ s = t := fun e => by
    have := F5 (show B0 s = true from hoe); rw [e, show C4 t = true from hof] at this; cases this
   cases Bv a s <;> simp [this]
  | name t =>
   simp only [Ex.alk, show (Ex.name s).tree.atom = s from rfl, show (Ex.name t).tree.atom = t from rfl, hix, hi0]
   cases Bv a s <;> simp
  | _ => cases hf
 | _ => cases he
theorem Zn {e f : Ex} {a b : List As} (h : e.bare ≠ f.bare) : e.alk f a b = false := by
 cases hx : e.alk f a b with
 | false => rfl
 | true => exact absurd (Ex.alk_head hx).2.2 h
def AL (x : Bool) (L : Bo) : De := fun v I' L' => v = .bool x ∧ L = L'
set_option maxHeartbeats 2000000 in
theorem Aeg : ∀ (n : Nat) {I : Heap} {e e' : Ex} {cs ds : List Value} (_ : SizeOf.sizeOf e < n) (_ : Rep I e.tree cs) (_ : e.ok = true) (_ : Rep I e'.tree ds) (_ : e'.ok = true) {f t : List As} {of ot : Option Addr} {cf ct : Nat} (_ : Strs I of f cf) (_ : Strs I ot t ct) (_ : namesL f) (_ : namesL t)
  (_ : f.length + 2 * e.size ≤ 100000) (_ : t.length + 2 * e'.size ≤ 100000) (L : Bo),
  Fun Tryz.prog 76 [.agg cs.toArray, .agg ds.toArray, .slice of f.length cf, .slice ot t.length ct] I L (AL (e.alk e' f t) L) := by
 intro n
 induction n with
 | zero => intro I e e' cs ds h; omega
 | succ n ihn =>
  intro I e e' cs ds hlt h hok h' hok' f t of ot cf ct hfr hto hnf hnt hfl htl L; obtain ⟨oa, c, oaf, cf1, rfl, hf⟩ := h.at'; obtain ⟨ob, cb, obf, cb1, rfl, hg⟩ := h'.at'
  have hle : HLe I I := .refl _
  have ha := hf.alen
  have hb := hg.alen
  refine Ao Af ?_; refine Se rfl ?_; refine Cn rfl rfl .free rfl ?_; intro b4; refine Cn rfl rfl .free rfl ?_; intro b5; refine Oa rfl (Ab (Ah (Se rfl ?_))); refine A2 rfl .free rfl ?_; refine Ca rfl (Co hf.rep _) ?_; rintro _ _ _ _ ⟨rfl, rfl, rfl⟩; refine Om rfl ?_
  apply G5 15 18 rfl
  ·intro g1_3 hk
   try simp only [nb] at g1_3
   refine A2 rfl (.met rfl rfl) rfl ?_; refine Cq rfl (.met rfl rfl) rfl (Co hg.rep _) ?_; rintro _ _ _ _ ⟨rfl, rfl, rfl⟩; refine Of rfl rfl ?_
   exact A7 2 rfl rfl hk
  ·intro _ hk; refine Bj 2 rfl ?_; refine Ot rfl rfl ?_
   exact A7 2 rfl rfl hk
  refine Ab ?_; refine A0 rfl ?_ ?_
  ·intro c0
   try simp only [nb] at c0
   refine Ah ?_; refine Dn 10 rfl rfl ?_; refine Da 0 rfl (Ag rfl) ?_; refine Da 1 rfl (Aj rfl) ?_; refine Dt 2 [10] rfl (Bc rfl) ?_; refine Da 4 rfl (Ag rfl) ?_; refine Da 5 rfl (Aj rfl) ?_; refine Dt 6 [10] rfl (Bc rfl) ?_; refine Dc 3 rfl rfl (K2 hfr e.tree.atom _) ?_; rintro _ _ _ _ ⟨rfl, rfl, rfl⟩; refine Hx ?_; refine Dc 7 rfl rfl (K2 hto e'.tree.atom _) ?_; rintro _ _ _ _ ⟨rfl, rfl, rfl⟩; refine Hx ?_; refine Da 8 rfl (A5 rfl) ?_; refine Da 9 rfl (A5 rfl) ?_; refine At Ad ?_; refine Se rfl ?_; refine A2 rfl .free rfl ?_; refine Ca rfl (Co hf.rep _) ?_; rintro _ _ _ _ ⟨rfl, rfl, rfl⟩
   refine Om rfl ?_
   apply Ep 29 32 rfl
   ·intro g3_3 hk
    try simp only [nb] at g3_3
    refine A2 rfl (.met rfl rfl) rfl ?_; refine Cq rfl (.met rfl rfl) rfl (Co hg.rep _) ?_; rintro _ _ _ _ ⟨rfl, rfl, rfl⟩; refine Ot rfl rfl ?_
    exact A7 2 rfl rfl hk
   ·intro _ hk; refine Bj 2 rfl ?_; refine Of rfl rfl ?_
    exact A7 2 rfl rfl hk
   refine Om rfl ?_
   apply Ep 33 37 rfl
   ·intro g3_7 hk
    try simp only [nb] at g3_7
    refine Ow rfl (Ow rfl ?_); refine D0 rfl rfl rfl (.met rfl rfl) rfl ?_; refine Ot rfl rfl ?_
    exact A7 3 rfl rfl hk
   ·intro _ hk; refine Bj 3 rfl ?_; refine Of rfl rfl ?_
    exact A7 3 rfl rfl hk
   refine Om rfl ?_
   apply Ep 38 48 rfl
   ·intro g3_12 hk
    try simp only [nb] at g3_12
    refine Ow rfl ?_; refine D0 rfl rfl rfl (.met rfl rfl) rfl ?_; refine Ow rfl ?_
    apply G5 41 47 rfl
    ·intro g3_15 hk
     try simp only [nb] at g3_15
     refine Cf rfl (.met rfl rfl) rfl ?_; refine Bz rfl (.met rfl rfl) rfl ?_; refine Cf rfl (.met rfl rfl) rfl ?_; refine Bz rfl (.met rfl rfl) rfl ?_; refine Gf rfl rfl rfl (.met rfl rfl) rfl ?_; refine Du rfl rfl (.met rfl rfl) rfl ?_
     exact A7 5 rfl rfl hk
    ·intro _ hk; refine Bj 5 rfl ?_; refine Ee rfl rfl (.met rfl rfl) rfl ?_
     exact A7 5 rfl rfl hk
    refine Ot rfl rfl ?_
    exact A7 4 rfl rfl hk
   ·intro _ hk; refine Bj 9 rfl ?_; refine Of rfl rfl ?_
    exact A7 9 rfl rfl hk
   refine Oa rfl (Ab (Al (.tmp rfl .nil) ?_)); refine ⟨I, L, .refl _, Bk, ?_, rfl⟩
   by_cases h1 : e.bare = true
   ·by_cases h2 : e'.bare = true
    ·rw [Z7 h1 h2 hok hok' hnf hnt]; rw [Ex.bare_parts] at h1 h2
     simp [Ck, h1, h2]
    ·rw [Zn (by rw [h1]; exact fun e => h2 e.symm)]; rw [Ex.bare_parts] at h1 h2
     simp [Ck, h1, h2]
   ·rw [Ex.bare_parts] at h1
    by_cases h2 : e'.bare = true
    ·rw [Zn (by rw [h2, Ex.bare_parts]; exact h1)]
     simp [Ck, h1]
    ·rw [Ex.bare_parts] at h2
     exact absurd c0 (by simp [h1, h2])
  intro c0
  try simp only [nb] at c0
  have hbe : e.bare = false := by rw [Ex.bare_parts]; simpa using c0.1
  have hbe' : e'.bare = false := by rw [Ex.bare_parts]; simpa using c0.2
  refine Ak (Ah (Ah ?_)); refine Dn 14 rfl rfl ?_; refine Dt 0 [14] rfl (Cd rfl) ?_; refine Dt 2 [14] rfl (Cd rfl) ?_; refine Dc 1 rfl rfl (Bq hf.rep _) ?_; rintro _ _ _ _ ⟨rfl, rfl, rfl⟩; refine Hx ?_; refine Dc 3 rfl rfl (Bq hg.rep _) ?_; rintro _ _ _ _ ⟨rfl, rfl, rfl⟩; refine Hx ?_; refine Da 4 rfl (Mq rfl rfl rfl) ?_; refine Da 5 rfl (Ag rfl) ?_
  apply Aaa 54 62 rfl
  ·intro g4_6 hk
   try simp only [nb] at g4_6
   refine Dm 6 rfl (Aj rfl) ?_; refine Ef 7 [14] rfl Ad rfl Ap (Bc rfl) (.met rfl rfl) rfl ?_; refine Dm 8 rfl (E4 rfl) ?_; refine Dm 9 rfl (Aj rfl) ?_; refine Ef 10 [14] rfl Ad rfl Ap (Bc rfl) (.met rfl rfl) rfl ?_; refine Dm 11 rfl (E4 rfl) ?_; refine Dm 12 rfl (K8 rfl rfl rfl) ?_; refine Da 13 rfl (Cu rfl rfl) ?_
   exact F9 7 rfl rfl hk
  ·intro _ hk; refine Ds 6 rfl rfl rfl ?_; refine Ds 7 rfl rfl rfl ?_; refine Ds 8 rfl rfl rfl ?_; refine Ds 9 rfl rfl rfl ?_; refine Ds 10 rfl rfl rfl ?_; refine Ds 11 rfl rfl rfl ?_; refine Ds 12 rfl rfl rfl ?_; refine Da 13 rfl (Dj rfl rfl) ?_
   exact F9 7 rfl rfl hk
  refine At Ad ?_; refine A0 rfl ?_ ?_
  ·intro c1
   try simp only [nb] at c1
   refine Se rfl (Oa rfl (Ab (Al (.tmp rfl .nil) ?_))); refine ⟨I, L, .refl _, Bk, ?_, rfl⟩
   have hx : e.alk e' f t = false := by
    cases hx : e.alk e' f t with
    | false => rfl
    | true =>
     have hy := Ex.alk_head hx
     exact absurd c1 (by simp [hy.1, hy.2.1])
   rw [hx]; rfl
  intro c1
  try simp only [nb] at c1
  have hsh := Ex.same_shape hbe hbe' (by simpa using c1.1)
  have hok0 := hok
  have hok0' := hok'
  refine Ak (Ah (Ah ?_))
  rcases hsh with ⟨o, a, b, a', b', rfl, rfl⟩ | ⟨a, b, d, a', b', d', rfl, rfl⟩ | ⟨z, a, b, z', a', b', rfl, rfl⟩ | ⟨h1, z, s, u, b, h1', z', s', u', b', rfl, rfl⟩ | ⟨o, a, a', rfl, rfl⟩
  ·skip
   have hlen : (Ex.bin o a b).tree.parts.length = 3 := rfl
   have hlen' : (Ex.bin o a' b').tree.parts.length = 3 := rfl
   have hki := Fs o a b
   have hhd : (Ex.bin o a b).tree.head = o.txt := rfl
   have hx3 : ¬ (Ex.bin o a b).tree.head = [102, 117, 110] := o.txt_ne.2.2.1
   have hx4 : ¬ (Ex.bin o a' b').tree.head = [102, 117, 110] := o.txt_ne.2.2.1
   simp only [Ex.bin.sizeOf_spec] at hlt
   simp only [Ex.ok, Bool.and_eq_true, decide_eq_true_eq] at hok hok'
   simp only [Ex.size] at hfl htl
   refine Dn 27 rfl rfl ?_; refine Dt 0 [27] rfl (Cd rfl) ?_; refine Dc 1 rfl rfl (Bq hf.rep _) ?_; rintro _ _ _ _ ⟨rfl, rfl, rfl⟩; refine Hx ?_; refine Da 2 rfl (Mq rfl rfl rfl) ?_; refine Da 3 rfl (Ag rfl) ?_; refine Eh (t := 66) rfl (v' := .bool false) (by first | simp [*] | (simp; omega)) ?_; refine Ds 4 rfl rfl rfl ?_; refine Ds 5 rfl rfl rfl ?_; refine Ds 6 rfl rfl rfl ?_; refine Ds 7 rfl rfl rfl ?_; refine Ds 8 rfl rfl rfl ?_; refine Ds 9 rfl rfl rfl ?_; refine Ds 10 rfl rfl rfl ?_; refine Ds 11 rfl rfl rfl ?_; refine Ds 12 rfl rfl rfl ?_; refine Ds 13 rfl rfl rfl ?_
   refine Ds 14 rfl rfl rfl ?_; refine A1 15 rfl Ad rfl (.inr Ap) rfl rfl rfl ?_; refine A1 16 rfl Ad rfl (.inr Ap) rfl rfl rfl ?_; refine A1 17 rfl Ad rfl (.inr Ap) rfl rfl rfl ?_; refine A1 18 rfl Ad rfl (.inr Ap) rfl rfl rfl ?_; refine A1 19 rfl Ad rfl (.inr Ap) rfl rfl rfl ?_; refine A1 20 rfl Ad rfl (.inr Ap) rfl rfl rfl ?_; refine A1 21 rfl Ad rfl (.inr Ap) rfl rfl rfl ?_; refine A1 22 rfl Ad rfl (.inr Ap) rfl rfl rfl ?_; refine A1 23 rfl Ad rfl (.inr Ap) rfl rfl rfl ?_; refine A1 24 rfl Ad rfl (.inr Ap) rfl rfl rfl ?_; refine Ds 25 rfl rfl rfl ?_; refine Da 26 rfl (Cu rfl rfl) ?_
   refine At Ad ?_; refine Bl rfl ?_; refine Ak (Ah (Se rfl ?_)); refine A2 rfl .free rfl ?_; refine Ca rfl (Cr hf.rep _) ?_; rintro _ J _ e0 ⟨ok, ck, rfl, hk1, rfl⟩
   have hf := hf.mono e0
   have hg := hg.mono e0
   have hfr := hfr.mono e0
   have hto := hto.mono e0
   have hle := hle.trans e0
   rw [hki] at hk1; rw [hki]; refine On rfl (Om rfl (Ab (Aq ?_))); refine Ed ?_; refine Se rfl (Oc rfl rfl rfl (Ab (Ah ?_))); refine Cb rfl Ax ?_; refine Ak (Ah (Aq (Se rfl ?_)))
   first | refine Bx rfl rfl _ rfl .free rfl ?_ | refine By rfl rfl _ rfl .free rfl ?_
   refine Ei rfl .free rfl ?_; refine Oa rfl (Ab (Ah ?_)); refine Dn 24 rfl rfl ?_; refine Da 0 rfl (Aj rfl) ?_; refine Dt 1 [24] rfl (Bc rfl) ?_; refine Da 2 rfl (Ag rfl) ?_
   first | refine Da 3 rfl (A3 rfl rfl _ rfl) ?_ | refine Da 3 rfl (A4 rfl rfl _ rfl) ?_
   refine Dt 4 [24] rfl (B7 rfl) ?_; refine Da 5 rfl (Aj rfl) ?_; refine Dt 6 [24] rfl (Bc rfl) ?_; refine Da 7 rfl (Ag rfl) ?_
   first | refine Da 8 rfl (A3 rfl rfl _ rfl) ?_ | refine Da 8 rfl (A4 rfl rfl _ rfl) ?_
   refine Dt 9 [24] rfl (B7 rfl) ?_; refine Da 10 rfl (Ag rfl) ?_; refine Dt 11 [24] rfl (Cd rfl) ?_; refine Da 12 rfl (Ag rfl) ?_; refine Da 16 rfl (Ag rfl) ?_; refine Dt 17 [24] rfl (Cd rfl) ?_; refine Da 18 rfl (Ag rfl) ?_; refine Dc 13 rfl rfl (Bp hf.rep hok0 _ _) ?_; rintro _ J1 _ e1 ⟨o1, k1, rfl, hs1, rfl⟩; refine Hx ?_; refine C5 14 rfl Ad rfl rfl rfl Ac Ac Ac Ae Ae Ac .free rfl (.inr Ap) ?_; intro b111; refine Cp ?_; intro hz
   have e2 := e1.trans hz
   refine Dc 15 rfl rfl (Bb (A6 (xs := [.slice of f.length cf, .slice o1 (List.length _) k1]) (ys := [])) (hfr.mono e2) (hs1.mono hz) (Ex.binds_room0 Aa) _) ?_; rintro _ J3 _ e3 ⟨o3, k3, rfl, hs3, rfl⟩
   have e4 := e2.trans e3
   refine Hx ?_; refine Dc 19 rfl rfl (Bp (hg.mono e4).rep hok0' _ _) ?_; rintro _ J4 _ e5 ⟨o4, k4, rfl, hs4, rfl⟩
   have e45 := e4.trans e5
   refine Hx ?_; refine C5 20 rfl Ad rfl rfl rfl Ac Ac Ac Ae Ae Ac .free rfl (.inr Ap) ?_; intro b117; refine Cp ?_; intro hy
   have e6 := e4.trans (e5.trans hy)
   refine Dc 21 rfl rfl (Bb (A6 (xs := [.slice ot t.length ct, .slice o4 (List.length _) k4]) (ys := [])) (hto.mono e6) (hs4.mono hy) (Ex.binds_room0 Aa) _) ?_; rintro _ J5 _ e7 ⟨o5, k5, rfl, hs5, rfl⟩
   have e8 := e6.trans e7
   have hs3 := hs3.mono (e5.trans (hy.trans e7))
   have hf3 := hf.mono e8
   have hg3 := hg.mono e8
   refine Hx ?_; refine Dc 22 rfl rfl (ihn (f := f ++ []) (t := t ++ []) Aa (hf3.as 1 a.tree Aa rfl) hok.1 (hg3.as 1 a'.tree Aa rfl) hok'.1 hs3 hs5 (by simpa using hnf) (by simpa using hnt) B9 B9 _) ?_; rintro _ J6 _ e9 ⟨rfl, rfl⟩
   have e10 := e8.trans e9
   simp only [List.append_nil]
   refine Hx ?_; refine Da 23 rfl (Jy rfl) ?_; refine At Ad ?_; refine A0 rfl ?_ ?_
   ·intro c4
    try simp only [nb] at c4
    refine Se rfl (Oa rfl (Ab (Al (.tmp rfl .nil) ?_))); refine ⟨_, L, hle.trans e10, Bk, ?_, rfl⟩
    have hx : (Ex.bin o a b).alk (Ex.bin o a' b') f t = false := by
     simp only [Ex.alk]; simp [c4]
    rw [hx]; rfl
   intro c4
   try simp only [nb] at c4
   have hq0 := c4
   have hf := hf3.mono e9
   have hg := hg3.mono e9
   have hfr := hfr.mono e10
   have hto := hto.mono e10
   have hk1 := hk1.mono e10
   have hle := hle.trans e10
   refine Ak (Ar (Am rfl ?_)); refine Or rfl rfl rfl ?_; refine Om rfl (Ab ?_); refine B6 ?_; refine Se rfl (Oc rfl rfl rfl (Ab (Ah ?_))); refine Cb rfl Ax ?_; refine Ak (Ah (Aq (Se rfl ?_)))
   first | refine Bx rfl rfl _ rfl .free rfl ?_ | refine By rfl rfl _ rfl .free rfl ?_
   refine Ei rfl .free rfl ?_; refine Oa rfl (Ab (Ah ?_)); refine Dn 24 rfl rfl ?_; refine Da 0 rfl (Aj rfl) ?_; refine Dt 1 [24] rfl (Bc rfl) ?_; refine Da 2 rfl (Ag rfl) ?_
   first | refine Da 3 rfl (A3 rfl rfl _ rfl) ?_ | refine Da 3 rfl (A4 rfl rfl _ rfl) ?_
   refine Dt 4 [24] rfl (B7 rfl) ?_; refine Da 5 rfl (Aj rfl) ?_; refine Dt 6 [24] rfl (Bc rfl) ?_; refine Da 7 rfl (Ag rfl) ?_
   first | refine Da 8 rfl (A3 rfl rfl _ rfl) ?_ | refine Da 8 rfl (A4 rfl rfl _ rfl) ?_
   refine Dt 9 [24] rfl (B7 rfl) ?_; refine Da 10 rfl (Ag rfl) ?_; refine Dt 11 [24] rfl (Cd rfl) ?_; refine Da 12 rfl (Ag rfl) ?_; refine Da 16 rfl (Ag rfl) ?_; refine Dt 17 [24] rfl (Cd rfl) ?_; refine Da 18 rfl (Ag rfl) ?_; refine Dc 13 rfl rfl (Bp hf.rep hok0 _ _) ?_; rintro _ J1 _ e1 ⟨o1, k1, rfl, hs1, rfl⟩; refine Hx ?_; refine C5 14 rfl Ad rfl rfl rfl Ac Ac Ac Ae Ae Ac .free rfl (.inr Ap) ?_; intro b111; refine Cp ?_; intro hz
   have e2 := e1.trans hz
   refine Dc 15 rfl rfl (Bb (A6 (xs := [.slice of f.length cf, .slice o1 (List.length _) k1]) (ys := [])) (hfr.mono e2) (hs1.mono hz) (Ex.binds_room0 Aa) _) ?_; rintro _ J3 _ e3 ⟨o3, k3, rfl, hs3, rfl⟩
   have e4 := e2.trans e3
   refine Hx ?_; refine Dc 19 rfl rfl (Bp (hg.mono e4).rep hok0' _ _) ?_; rintro _ J4 _ e5 ⟨o4, k4, rfl, hs4, rfl⟩
   have e45 := e4.trans e5
   refine Hx ?_; refine C5 20 rfl Ad rfl rfl rfl Ac Ac Ac Ae Ae Ac .free rfl (.inr Ap) ?_; intro b117; refine Cp ?_; intro hy
   have e6 := e4.trans (e5.trans hy)
   refine Dc 21 rfl rfl (Bb (A6 (xs := [.slice ot t.length ct, .slice o4 (List.length _) k4]) (ys := [])) (hto.mono e6) (hs4.mono hy) (Ex.binds_room0 Aa) _) ?_; rintro _ J5 _ e7 ⟨o5, k5, rfl, hs5, rfl⟩
   have e8 := e6.trans e7
   have hs3 := hs3.mono (e5.trans (hy.trans e7))
   have hf3 := hf.mono e8
   have hg3 := hg.mono e8
   refine Hx ?_; refine Dc 22 rfl rfl (ihn (f := f ++ []) (t := t ++ []) Aa (hf3.as 2 b.tree Aa rfl) hok.2 (hg3.as 2 b'.tree Aa rfl) hok'.2 hs3 hs5 (by simpa using hnf) (by simpa using hnt) B9 B9 _) ?_; rintro _ J6 _ e9 ⟨rfl, rfl⟩
   have e10 := e8.trans e9
   simp only [List.append_nil]
   refine Hx ?_; refine Da 23 rfl (Jy rfl) ?_; refine At Ad ?_; refine A0 rfl ?_ ?_
   ·intro c4
    try simp only [nb] at c4
    refine Se rfl (Oa rfl (Ab (Al (.tmp rfl .nil) ?_))); refine ⟨_, L, hle.trans e10, Bk, ?_, rfl⟩
    have hx : (Ex.bin o a b).alk (Ex.bin o a' b') f t = false := by
     simp only [Ex.alk]; simp [c4, hq0]
    rw [hx]; rfl
   intro c4
   try simp only [nb] at c4
   have hq1 := c4
   have hf := hf3.mono e9
   have hg := hg3.mono e9
   have hfr := hfr.mono e10
   have hto := hto.mono e10
   have hk1 := hk1.mono e10
   have hle := hle.trans e10
   refine Ak (Ar (Am rfl ?_)); refine Or rfl rfl rfl ?_; refine Om rfl (Ab ?_); refine B6 ?_; refine Se rfl (Oc rfl rfl rfl (Ab (Ah ?_))); refine Dg rfl Ax ?_; refine Ce rfl ?_; refine Se rfl (Oa rfl (Ab (Al (.tmp rfl .nil) ?_))); refine ⟨_, L, hle, Bk, ?_, rfl⟩
   have hx : (Ex.bin o a b).alk (Ex.bin o a' b') f t = true := by
    simp only [Ex.alk]; simp [hq0, hq1]
   rw [hx]; rfl
  ·skip
   have hlen : (Ex.ite a b d).tree.parts.length = 4 := rfl
   have hlen' : (Ex.ite a' b' d').tree.parts.length = 4 := rfl
   have hki := Jr a b d
   have hhd : (Ex.ite a b d).tree.head = Gi := rfl
   have hx3 : ¬ (Ex.ite a b d).tree.head = [102, 117, 110] := (by decide : ¬ Gi = C6)
   have hx4 : ¬ (Ex.ite a' b' d').tree.head = [102, 117, 110] := (by decide : ¬ Gi = C6)
   simp only [Ex.ite.sizeOf_spec] at hlt
   simp only [Ex.ok, Bool.and_eq_true, decide_eq_true_eq] at hok hok'
   simp only [Ex.size] at hfl htl
   refine Dn 27 rfl rfl ?_; refine Dt 0 [27] rfl (Cd rfl) ?_; refine Dc 1 rfl rfl (Bq hf.rep _) ?_; rintro _ _ _ _ ⟨rfl, rfl, rfl⟩; refine Hx ?_; refine Da 2 rfl (Mq rfl rfl rfl) ?_; refine Da 3 rfl (Ag rfl) ?_; refine Eh (t := 66) rfl (v' := .bool false) (by first | simp [*] | (simp; omega)) ?_; refine Ds 4 rfl rfl rfl ?_; refine Ds 5 rfl rfl rfl ?_; refine Ds 6 rfl rfl rfl ?_; refine Ds 7 rfl rfl rfl ?_; refine Ds 8 rfl rfl rfl ?_; refine Ds 9 rfl rfl rfl ?_; refine Ds 10 rfl rfl rfl ?_; refine Ds 11 rfl rfl rfl ?_; refine Ds 12 rfl rfl rfl ?_; refine Ds 13 rfl rfl rfl ?_
   refine Ds 14 rfl rfl rfl ?_; refine A1 15 rfl Ad rfl (.inr Ap) rfl rfl rfl ?_; refine A1 16 rfl Ad rfl (.inr Ap) rfl rfl rfl ?_; refine A1 17 rfl Ad rfl (.inr Ap) rfl rfl rfl ?_; refine A1 18 rfl Ad rfl (.inr Ap) rfl rfl rfl ?_; refine A1 19 rfl Ad rfl (.inr Ap) rfl rfl rfl ?_; refine A1 20 rfl Ad rfl (.inr Ap) rfl rfl rfl ?_; refine A1 21 rfl Ad rfl (.inr Ap) rfl rfl rfl ?_; refine A1 22 rfl Ad rfl (.inr Ap) rfl rfl rfl ?_; refine A1 23 rfl Ad rfl (.inr Ap) rfl rfl rfl ?_; refine A1 24 rfl Ad rfl (.inr Ap) rfl rfl rfl ?_; refine Ds 25 rfl rfl rfl ?_; refine Da 26 rfl (Cu rfl rfl) ?_
   refine At Ad ?_; refine Bl rfl ?_; refine Ak (Ah (Se rfl ?_)); refine A2 rfl .free rfl ?_; refine Ca rfl (Cr hf.rep _) ?_; rintro _ J _ e0 ⟨ok, ck, rfl, hk1, rfl⟩
   have hf := hf.mono e0
   have hg := hg.mono e0
   have hfr := hfr.mono e0
   have hto := hto.mono e0
   have hle := hle.trans e0
   rw [hki] at hk1; rw [hki]; refine On rfl (Om rfl (Ab (Aq ?_))); refine Ed ?_; refine Se rfl (Oc rfl rfl rfl (Ab (Ah ?_))); refine Cb rfl Ax ?_; refine Ak (Ah (Aq (Se rfl ?_)))
   first | refine Bx rfl rfl _ rfl .free rfl ?_ | refine By rfl rfl _ rfl .free rfl ?_
   refine Ei rfl .free rfl ?_; refine Oa rfl (Ab (Ah ?_)); refine Dn 24 rfl rfl ?_; refine Da 0 rfl (Aj rfl) ?_; refine Dt 1 [24] rfl (Bc rfl) ?_; refine Da 2 rfl (Ag rfl) ?_
   first | refine Da 3 rfl (A3 rfl rfl _ rfl) ?_ | refine Da 3 rfl (A4 rfl rfl _ rfl) ?_
   refine Dt 4 [24] rfl (B7 rfl) ?_; refine Da 5 rfl (Aj rfl) ?_; refine Dt 6 [24] rfl (Bc rfl) ?_; refine Da 7 rfl (Ag rfl) ?_
   first | refine Da 8 rfl (A3 rfl rfl _ rfl) ?_ | refine Da 8 rfl (A4 rfl rfl _ rfl) ?_
   refine Dt 9 [24] rfl (B7 rfl) ?_; refine Da 10 rfl (Ag rfl) ?_; refine Dt 11 [24] rfl (Cd rfl) ?_; refine Da 12 rfl (Ag rfl) ?_; refine Da 16 rfl (Ag rfl) ?_; refine Dt 17 [24] rfl (Cd rfl) ?_; refine Da 18 rfl (Ag rfl) ?_; refine Dc 13 rfl rfl (Bp hf.rep hok0 _ _) ?_; rintro _ J1 _ e1 ⟨o1, k1, rfl, hs1, rfl⟩; refine Hx ?_; refine C5 14 rfl Ad rfl rfl rfl Ac Ac Ac Ae Ae Ac .free rfl (.inr Ap) ?_; intro b111; refine Cp ?_; intro hz
   have e2 := e1.trans hz
   refine Dc 15 rfl rfl (Bb (A6 (xs := [.slice of f.length cf, .slice o1 (List.length _) k1]) (ys := [])) (hfr.mono e2) (hs1.mono hz) (Ex.binds_room0 Aa) _) ?_; rintro _ J3 _ e3 ⟨o3, k3, rfl, hs3, rfl⟩
   have e4 := e2.trans e3
   refine Hx ?_; refine Dc 19 rfl rfl (Bp (hg.mono e4).rep hok0' _ _) ?_; rintro _ J4 _ e5 ⟨o4, k4, rfl, hs4, rfl⟩
   have e45 := e4.trans e5
   refine Hx ?_; refine C5 20 rfl Ad rfl rfl rfl Ac Ac Ac Ae Ae Ac .free rfl (.inr Ap) ?_; intro b117; refine Cp ?_; intro hy
   have e6 := e4.trans (e5.trans hy)
   refine Dc 21 rfl rfl (Bb (A6 (xs := [.slice ot t.length ct, .slice o4 (List.length _) k4]) (ys := [])) (hto.mono e6) (hs4.mono hy) (Ex.binds_room0 Aa) _) ?_; rintro _ J5 _ e7 ⟨o5, k5, rfl, hs5, rfl⟩
   have e8 := e6.trans e7
   have hs3 := hs3.mono (e5.trans (hy.trans e7))
   have hf3 := hf.mono e8
   have hg3 := hg.mono e8
   refine Hx ?_; refine Dc 22 rfl rfl (ihn (f := f ++ []) (t := t ++ []) Aa (hf3.as 1 a.tree Aa rfl) hok.1.1 (hg3.as 1 a'.tree Aa rfl) hok'.1.1 hs3 hs5 (by simpa using hnf) (by simpa using hnt) B9 B9 _) ?_; rintro _ J6 _ e9 ⟨rfl, rfl⟩
   have e10 := e8.trans e9
   simp only [List.append_nil]
   refine Hx ?_; refine Da 23 rfl (Jy rfl) ?_; refine At Ad ?_; refine A0 rfl ?_ ?_
   ·intro c4
    try simp only [nb] at c4
    refine Se rfl (Oa rfl (Ab (Al (.tmp rfl .nil) ?_))); refine ⟨_, L, hle.trans e10, Bk, ?_, rfl⟩
    have hx : (Ex.ite a b d).alk (Ex.ite a' b' d') f t = false := by
     simp only [Ex.alk]; simp [c4]
    rw [hx]; rfl
   intro c4
   try simp only [nb] at c4
   have hq0 := c4
   have hf := hf3.mono e9
   have hg := hg3.mono e9
   have hfr := hfr.mono e10
   have hto := hto.mono e10
   have hk1 := hk1.mono e10
   have hle := hle.trans e10
   refine Ak (Ar (Am rfl ?_)); refine Or rfl rfl rfl ?_; refine Om rfl (Ab ?_); refine B6 ?_; refine Se rfl (Oc rfl rfl rfl (Ab (Ah ?_))); refine Cb rfl Ax ?_; refine Ak (Ah (Aq (Se rfl ?_)))
   first | refine Bx rfl rfl _ rfl .free rfl ?_ | refine By rfl rfl _ rfl .free rfl ?_
   refine Ei rfl .free rfl ?_; refine Oa rfl (Ab (Ah ?_)); refine Dn 24 rfl rfl ?_; refine Da 0 rfl (Aj rfl) ?_; refine Dt 1 [24] rfl (Bc rfl) ?_; refine Da 2 rfl (Ag rfl) ?_
   first | refine Da 3 rfl (A3 rfl rfl _ rfl) ?_ | refine Da 3 rfl (A4 rfl rfl _ rfl) ?_
   refine Dt 4 [24] rfl (B7 rfl) ?_; refine Da 5 rfl (Aj rfl) ?_; refine Dt 6 [24] rfl (Bc rfl) ?_; refine Da 7 rfl (Ag rfl) ?_
   first | refine Da 8 rfl (A3 rfl rfl _ rfl) ?_ | refine Da 8 rfl (A4 rfl rfl _ rfl) ?_
   refine Dt 9 [24] rfl (B7 rfl) ?_; refine Da 10 rfl (Ag rfl) ?_; refine Dt 11 [24] rfl (Cd rfl) ?_; refine Da 12 rfl (Ag rfl) ?_; refine Da 16 rfl (Ag rfl) ?_; refine Dt 17 [24] rfl (Cd rfl) ?_; refine Da 18 rfl (Ag rfl) ?_; refine Dc 13 rfl rfl (Bp hf.rep hok0 _ _) ?_; rintro _ J1 _ e1 ⟨o1, k1, rfl, hs1, rfl⟩; refine Hx ?_; refine C5 14 rfl Ad rfl rfl rfl Ac Ac Ac Ae Ae Ac .free rfl (.inr Ap) ?_; intro b111; refine Cp ?_; intro hz
   have e2 := e1.trans hz
   refine Dc 15 rfl rfl (Bb (A6 (xs := [.slice of f.length cf, .slice o1 (List.length _) k1]) (ys := [])) (hfr.mono e2) (hs1.mono hz) (Ex.binds_room0 Aa) _) ?_; rintro _ J3 _ e3 ⟨o3, k3, rfl, hs3, rfl⟩
   have e4 := e2.trans e3
   refine Hx ?_; refine Dc 19 rfl rfl (Bp (hg.mono e4).rep hok0' _ _) ?_; rintro _ J4 _ e5 ⟨o4, k4, rfl, hs4, rfl⟩
   have e45 := e4.trans e5
   refine Hx ?_; refine C5 20 rfl Ad rfl rfl rfl Ac Ac Ac Ae Ae Ac .free rfl (.inr Ap) ?_; intro b117; refine Cp ?_; intro hy
   have e6 := e4.trans (e5.trans hy)
   refine Dc 21 rfl rfl (Bb (A6 (xs := [.slice ot t.length ct, .slice o4 (List.length _) k4]) (ys := [])) (hto.mono e6) (hs4.mono hy) (Ex.binds_room0 Aa) _) ?_; rintro _ J5 _ e7 ⟨o5, k5, rfl, hs5, rfl⟩
   have e8 := e6.trans e7
   have hs3 := hs3.mono (e5.trans (hy.trans e7))
   have hf3 := hf.mono e8
   have hg3 := hg.mono e8
   refine Hx ?_; refine Dc 22 rfl rfl (ihn (f := f ++ []) (t := t ++ []) Aa (hf3.as 2 b.tree Aa rfl) hok.1.2 (hg3.as 2 b'.tree Aa rfl) hok'.1.2 hs3 hs5 (by simpa using hnf) (by simpa using hnt) B9 B9 _) ?_; rintro _ J6 _ e9 ⟨rfl, rfl⟩
   have e10 := e8.trans e9
   simp only [List.append_nil]
   refine Hx ?_; refine Da 23 rfl (Jy rfl) ?_; refine At Ad ?_; refine A0 rfl ?_ ?_
   ·intro c4
    try simp only [nb] at c4
    refine Se rfl (Oa rfl (Ab (Al (.tmp rfl .nil) ?_))); refine ⟨_, L, hle.trans e10, Bk, ?_, rfl⟩
    have hx : (Ex.ite a b d).alk (Ex.ite a' b' d') f t = false := by
     simp only [Ex.alk]; simp [c4, hq0]
    rw [hx]; rfl
   intro c4
   try simp only [nb] at c4
   have hq1 := c4
   have hf := hf3.mono e9
   have hg := hg3.mono e9
   have hfr := hfr.mono e10
   have hto := hto.mono e10
   have hk1 := hk1.mono e10
   have hle := hle.trans e10
   refine Ak (Ar (Am rfl ?_)); refine Or rfl rfl rfl ?_; refine Om rfl (Ab ?_); refine B6 ?_; refine Se rfl (Oc rfl rfl rfl (Ab (Ah ?_))); refine Cb rfl Ax ?_; refine Ak (Ah (Aq (Se rfl ?_)))
   first | refine Bx rfl rfl _ rfl .free rfl ?_ | refine By rfl rfl _ rfl .free rfl ?_
   refine Ei rfl .free rfl ?_; refine Oa rfl (Ab (Ah ?_)); refine Dn 24 rfl rfl ?_; refine Da 0 rfl (Aj rfl) ?_; refine Dt 1 [24] rfl (Bc rfl) ?_; refine Da 2 rfl (Ag rfl) ?_
   first | refine Da 3 rfl (A3 rfl rfl _ rfl) ?_ | refine Da 3 rfl (A4 rfl rfl _ rfl) ?_
   refine Dt 4 [24] rfl (B7 rfl) ?_; refine Da 5 rfl (Aj rfl) ?_; refine Dt 6 [24] rfl (Bc rfl) ?_; refine Da 7 rfl (Ag rfl) ?_
   first | refine Da 8 rfl (A3 rfl rfl _ rfl) ?_ | refine Da 8 rfl (A4 rfl rfl _ rfl) ?_
   refine Dt 9 [24] rfl (B7 rfl) ?_; refine Da 10 rfl (Ag rfl) ?_; refine Dt 11 [24] rfl (Cd rfl) ?_; refine Da 12 rfl (Ag rfl) ?_; refine Da 16 rfl (Ag rfl) ?_; refine Dt 17 [24] rfl (Cd rfl) ?_; refine Da 18 rfl (Ag rfl) ?_; refine Dc 13 rfl rfl (Bp hf.rep hok0 _ _) ?_; rintro _ J1 _ e1 ⟨o1, k1, rfl, hs1, rfl⟩; refine Hx ?_; refine C5 14 rfl Ad rfl rfl rfl Ac Ac Ac Ae Ae Ac .free rfl (.inr Ap) ?_; intro b111; refine Cp ?_; intro hz
   have e2 := e1.trans hz
   refine Dc 15 rfl rfl (Bb (A6 (xs := [.slice of f.length cf, .slice o1 (List.length _) k1]) (ys := [])) (hfr.mono e2) (hs1.mono hz) (Ex.binds_room0 Aa) _) ?_; rintro _ J3 _ e3 ⟨o3, k3, rfl, hs3, rfl⟩
   have e4 := e2.trans e3
   refine Hx ?_; refine Dc 19 rfl rfl (Bp (hg.mono e4).rep hok0' _ _) ?_; rintro _ J4 _ e5 ⟨o4, k4, rfl, hs4, rfl⟩
   have e45 := e4.trans e5
   refine Hx ?_; refine C5 20 rfl Ad rfl rfl rfl Ac Ac Ac Ae Ae Ac .free rfl (.inr Ap) ?_; intro b117; refine Cp ?_; intro hy
   have e6 := e4.trans (e5.trans hy)
   refine Dc 21 rfl rfl (Bb (A6 (xs := [.slice ot t.length ct, .slice o4 (List.length _) k4]) (ys := [])) (hto.mono e6) (hs4.mono hy) (Ex.binds_room0 Aa) _) ?_; rintro _ J5 _ e7 ⟨o5, k5, rfl, hs5, rfl⟩
   have e8 := e6.trans e7
   have hs3 := hs3.mono (e5.trans (hy.trans e7))
   have hf3 := hf.mono e8
   have hg3 := hg.mono e8
   refine Hx ?_; refine Dc 22 rfl rfl (ihn (f := f ++ []) (t := t ++ []) Aa (hf3.as 3 d.tree Aa rfl) hok.2 (hg3.as 3 d'.tree Aa rfl) hok'.2 hs3 hs5 (by simpa using hnf) (by simpa using hnt) B9 B9 _) ?_; rintro _ J6 _ e9 ⟨rfl, rfl⟩
   have e10 := e8.trans e9
   simp only [List.append_nil]
   refine Hx ?_; refine Da 23 rfl (Jy rfl) ?_; refine At Ad ?_; refine A0 rfl ?_ ?_
   ·intro c4
    try simp only [nb] at c4
    refine Se rfl (Oa rfl (Ab (Al (.tmp rfl .nil) ?_))); refine ⟨_, L, hle.trans e10, Bk, ?_, rfl⟩
    have hx : (Ex.ite a b d).alk (Ex.ite a' b' d') f t = false := by
     simp only [Ex.alk]; simp [c4, hq0, hq1]
    rw [hx]; rfl
   intro c4
   try simp only [nb] at c4
   have hq2 := c4
   have hf := hf3.mono e9
   have hg := hg3.mono e9
   have hfr := hfr.mono e10
   have hto := hto.mono e10
   have hk1 := hk1.mono e10
   have hle := hle.trans e10
   refine Ak (Ar (Am rfl ?_)); refine Or rfl rfl rfl ?_; refine Om rfl (Ab ?_); refine B6 ?_; refine Se rfl (Oc rfl rfl rfl (Ab (Ah ?_))); refine Dg rfl Ax ?_; refine Ce rfl ?_; refine Se rfl (Oa rfl (Ab (Al (.tmp rfl .nil) ?_))); refine ⟨_, L, hle, Bk, ?_, rfl⟩
   have hx : (Ex.ite a b d).alk (Ex.ite a' b' d') f t = true := by
    simp only [Ex.alk]; simp [hq0, hq1, hq2]
   rw [hx]; rfl
  ·skip
   have hlen : (Ex.lt z a b).tree.parts.length = 4 := rfl
   have hlen' : (Ex.lt z' a' b').tree.parts.length = 4 := rfl
   have hki := Js z a b
   have hhd : (Ex.lt z a b).tree.head = Dq := rfl
   have hx3 : ¬ (Ex.lt z a b).tree.head = [102, 117, 110] := (by decide : ¬ Dq = C6)
   have hx4 : ¬ (Ex.lt z' a' b').tree.head = [102, 117, 110] := (by decide : ¬ Dq = C6)
   simp only [Ex.lt.sizeOf_spec] at hlt
   simp only [Ex.ok, Bool.and_eq_true, decide_eq_true_eq] at hok hok'
   simp only [Ex.size] at hfl htl
   refine Dn 27 rfl rfl ?_; refine Dt 0 [27] rfl (Cd rfl) ?_; refine Dc 1 rfl rfl (Bq hf.rep _) ?_; rintro _ _ _ _ ⟨rfl, rfl, rfl⟩; refine Hx ?_; refine Da 2 rfl (Mq rfl rfl rfl) ?_; refine Da 3 rfl (Ag rfl) ?_; refine Eh (t := 66) rfl (v' := .bool false) (by first | simp [*] | (simp; omega)) ?_; refine Ds 4 rfl rfl rfl ?_; refine Ds 5 rfl rfl rfl ?_; refine Ds 6 rfl rfl rfl ?_; refine Ds 7 rfl rfl rfl ?_; refine Ds 8 rfl rfl rfl ?_; refine Ds 9 rfl rfl rfl ?_; refine Ds 10 rfl rfl rfl ?_; refine Ds 11 rfl rfl rfl ?_; refine Ds 12 rfl rfl rfl ?_; refine Ds 13 rfl rfl rfl ?_
   refine Ds 14 rfl rfl rfl ?_; refine A1 15 rfl Ad rfl (.inr Ap) rfl rfl rfl ?_; refine A1 16 rfl Ad rfl (.inr Ap) rfl rfl rfl ?_; refine A1 17 rfl Ad rfl (.inr Ap) rfl rfl rfl ?_; refine A1 18 rfl Ad rfl (.inr Ap) rfl rfl rfl ?_; refine A1 19 rfl Ad rfl (.inr Ap) rfl rfl rfl ?_; refine A1 20 rfl Ad rfl (.inr Ap) rfl rfl rfl ?_; refine A1 21 rfl Ad rfl (.inr Ap) rfl rfl rfl ?_; refine A1 22 rfl Ad rfl (.inr Ap) rfl rfl rfl ?_; refine A1 23 rfl Ad rfl (.inr Ap) rfl rfl rfl ?_; refine A1 24 rfl Ad rfl (.inr Ap) rfl rfl rfl ?_; refine Ds 25 rfl rfl rfl ?_; refine Da 26 rfl (Cu rfl rfl) ?_
   refine At Ad ?_; refine Bl rfl ?_; refine Ak (Ah (Se rfl ?_)); refine A2 rfl .free rfl ?_; refine Ca rfl (Cr hf.rep _) ?_; rintro _ J _ e0 ⟨ok, ck, rfl, hk1, rfl⟩
   have hf := hf.mono e0
   have hg := hg.mono e0
   have hfr := hfr.mono e0
   have hto := hto.mono e0
   have hle := hle.trans e0
   rw [hki] at hk1; rw [hki]; refine On rfl (Om rfl (Ab (Aq ?_))); refine Ed ?_; refine Se rfl (Oc rfl rfl rfl (Ab (Ah ?_))); refine Cb rfl Ax ?_; refine Ak (Ah (Aq (Se rfl ?_)))
   first | refine Bx rfl rfl _ rfl .free rfl ?_ | refine By rfl rfl _ rfl .free rfl ?_
   refine Ei rfl .free rfl ?_; refine Oa rfl (Ab (Ah ?_)); refine Dn 24 rfl rfl ?_; refine Da 0 rfl (Aj rfl) ?_; refine Dt 1 [24] rfl (Bc rfl) ?_; refine Da 2 rfl (Ag rfl) ?_
   first | refine Da 3 rfl (A3 rfl rfl _ rfl) ?_ | refine Da 3 rfl (A4 rfl rfl _ rfl) ?_
   refine Dt 4 [24] rfl (B7 rfl) ?_; refine Da 5 rfl (Aj rfl) ?_; refine Dt 6 [24] rfl (Bc rfl) ?_; refine Da 7 rfl (Ag rfl) ?_
   first | refine Da 8 rfl (A3 rfl rfl _ rfl) ?_ | refine Da 8 rfl (A4 rfl rfl _ rfl) ?_
   refine Dt 9 [24] rfl (B7 rfl) ?_; refine Da 10 rfl (Ag rfl) ?_; refine Dt 11 [24] rfl (Cd rfl) ?_; refine Da 12 rfl (Ag rfl) ?_; refine Da 16 rfl (Ag rfl) ?_; refine Dt 17 [24] rfl (Cd rfl) ?_; refine Da 18 rfl (Ag rfl) ?_; refine Dc 13 rfl rfl (Bp hf.rep hok0 _ _) ?_; rintro _ J1 _ e1 ⟨o1, k1, rfl, hs1, rfl⟩; refine Hx ?_; refine C5 14 rfl Ad rfl rfl rfl Ac Ac Ac Ae Ae Ac .free rfl (.inr Ap) ?_; intro b111; refine Cp ?_; intro hz
   have e2 := e1.trans hz
   refine Dc 15 rfl rfl (Bb (A6 (xs := [.slice of f.length cf, .slice o1 (List.length _) k1]) (ys := [])) (hfr.mono e2) (hs1.mono hz) (Ex.binds_room0 Aa) _) ?_; rintro _ J3 _ e3 ⟨o3, k3, rfl, hs3, rfl⟩
   have e4 := e2.trans e3
   refine Hx ?_; refine Dc 19 rfl rfl (Bp (hg.mono e4).rep hok0' _ _) ?_; rintro _ J4 _ e5 ⟨o4, k4, rfl, hs4, rfl⟩
   have e45 := e4.trans e5
   refine Hx ?_; refine C5 20 rfl Ad rfl rfl rfl Ac Ac Ac Ae Ae Ac .free rfl (.inr Ap) ?_; intro b117; refine Cp ?_; intro hy
   have e6 := e4.trans (e5.trans hy)
   refine Dc 21 rfl rfl (Bb (A6 (xs := [.slice ot t.length ct, .slice o4 (List.length _) k4]) (ys := [])) (hto.mono e6) (hs4.mono hy) (Ex.binds_room0 Aa) _) ?_; rintro _ J5 _ e7 ⟨o5, k5, rfl, hs5, rfl⟩
   have e8 := e6.trans e7
   have hs3 := hs3.mono (e5.trans (hy.trans e7))
   have hf3 := hf.mono e8
   have hg3 := hg.mono e8
   refine Hx ?_; refine Dc 22 rfl rfl (ihn (f := f ++ []) (t := t ++ []) Aa (hf3.as 2 a.tree Aa rfl) hok.1.2 (hg3.as 2 a'.tree Aa rfl) hok'.1.2 hs3 hs5 (by simpa using hnf) (by simpa using hnt) B9 B9 _) ?_; rintro _ J6 _ e9 ⟨rfl, rfl⟩
   have e10 := e8.trans e9
   simp only [List.append_nil]
   refine Hx ?_; refine Da 23 rfl (Jy rfl) ?_; refine At Ad ?_; refine A0 rfl ?_ ?_
   ·intro c4
    try simp only [nb] at c4
    refine Se rfl (Oa rfl (Ab (Al (.tmp rfl .nil) ?_))); refine ⟨_, L, hle.trans e10, Bk, ?_, rfl⟩
    have hx : (Ex.lt z a b).alk (Ex.lt z' a' b') f t = false := by
     simp only [Ex.alk]; simp [c4]
    rw [hx]; rfl
   intro c4
   try simp only [nb] at c4
   have hq0 := c4
   have hf := hf3.mono e9
   have hg := hg3.mono e9
   have hfr := hfr.mono e10
   have hto := hto.mono e10
   have hk1 := hk1.mono e10
   have hle := hle.trans e10
   refine Ak (Ar (Am rfl ?_)); refine Or rfl rfl rfl ?_; refine Om rfl (Ab ?_); refine B6 ?_; refine Se rfl (Oc rfl rfl rfl (Ab (Ah ?_))); refine Cb rfl Ax ?_; refine Ak (Ah (Aq (Se rfl ?_)))
   first | refine Bx rfl rfl _ rfl .free rfl ?_ | refine By rfl rfl _ rfl .free rfl ?_
   refine Ei rfl .free rfl ?_; refine Oa rfl (Ab (Ah ?_)); refine Dn 24 rfl rfl ?_; refine Da 0 rfl (Aj rfl) ?_; refine Dt 1 [24] rfl (Bc rfl) ?_; refine Da 2 rfl (Ag rfl) ?_
   first | refine Da 3 rfl (A3 rfl rfl _ rfl) ?_ | refine Da 3 rfl (A4 rfl rfl _ rfl) ?_
   refine Dt 4 [24] rfl (B7 rfl) ?_; refine Da 5 rfl (Aj rfl) ?_; refine Dt 6 [24] rfl (Bc rfl) ?_; refine Da 7 rfl (Ag rfl) ?_
   first | refine Da 8 rfl (A3 rfl rfl _ rfl) ?_ | refine Da 8 rfl (A4 rfl rfl _ rfl) ?_
   refine Dt 9 [24] rfl (B7 rfl) ?_; refine Da 10 rfl (Ag rfl) ?_; refine Dt 11 [24] rfl (Cd rfl) ?_; refine Da 12 rfl (Ag rfl) ?_; refine Da 16 rfl (Ag rfl) ?_; refine Dt 17 [24] rfl (Cd rfl) ?_; refine Da 18 rfl (Ag rfl) ?_; refine Dc 13 rfl rfl (Bp hf.rep hok0 _ _) ?_; rintro _ J1 _ e1 ⟨o1, k1, rfl, hs1, rfl⟩; refine Hx ?_; refine C5 14 rfl Ad rfl rfl rfl Ac Ac Ac Ae Ae Ac .free rfl (.inr Ap) ?_; intro b111; refine Cp ?_; intro hz
   have e2 := e1.trans hz
   refine Dc 15 rfl rfl (Bb (A6 (xs := [.slice of f.length cf, .slice o1 (List.length _) k1]) (ys := [])) (hfr.mono e2) (hs1.mono hz) (Ex.binds_room0 Aa) _) ?_; rintro _ J3 _ e3 ⟨o3, k3, rfl, hs3, rfl⟩
   have e4 := e2.trans e3
   refine Hx ?_; refine Dc 19 rfl rfl (Bp (hg.mono e4).rep hok0' _ _) ?_; rintro _ J4 _ e5 ⟨o4, k4, rfl, hs4, rfl⟩
   have e45 := e4.trans e5
   refine Hx ?_; refine C5 20 rfl Ad rfl rfl rfl Ac Ac Ac Ae Ae Ac .free rfl (.inr Ap) ?_; intro b117; refine Cp ?_; intro hy
   have e6 := e4.trans (e5.trans hy)
   refine Dc 21 rfl rfl (Bb (A6 (xs := [.slice ot t.length ct, .slice o4 (List.length _) k4]) (ys := [])) (hto.mono e6) (hs4.mono hy) (Ex.binds_room0 Aa) _) ?_; rintro _ J5 _ e7 ⟨o5, k5, rfl, hs5, rfl⟩
   have e8 := e6.trans e7
   have hs3 := hs3.mono (e5.trans (hy.trans e7))
   have hf3 := hf.mono e8
   have hg3 := hg.mono e8
   refine Hx ?_; refine Dc 22 rfl rfl (ihn (f := f ++ [z]) (t := t ++ [z']) Aa (hf3.as 3 b.tree Aa rfl) hok.2 (hg3.as 3 b'.tree Aa rfl) hok'.2 hs3 hs5 (hnf.add (by intro y hy; rw [List.mem_singleton.1 hy]; exact hok.1.1)) (hnt.add (by intro y hy; rw [List.mem_singleton.1 hy]; exact hok'.1.1)) B9 B9 _) ?_; rintro _ J6 _ e9 ⟨rfl, rfl⟩
   have e10 := e8.trans e9
   refine Hx ?_; refine Da 23 rfl (Jy rfl) ?_; refine At Ad ?_; refine A0 rfl ?_ ?_
   ·intro c4
    try simp only [nb] at c4
    refine Se rfl (Oa rfl (Ab (Al (.tmp rfl .nil) ?_))); refine ⟨_, L, hle.trans e10, Bk, ?_, rfl⟩
    have hx : (Ex.lt z a b).alk (Ex.lt z' a' b') f t = false := by
     simp only [Ex.alk]; simp [c4, hq0]
    rw [hx]; rfl
   intro c4
   try simp only [nb] at c4
   have hq1 := c4
   have hf := hf3.mono e9
   have hg := hg3.mono e9
   have hfr := hfr.mono e10
   have hto := hto.mono e10
   have hk1 := hk1.mono e10
   have hle := hle.trans e10
   refine Ak (Ar (Am rfl ?_)); refine Or rfl rfl rfl ?_; refine Om rfl (Ab ?_); refine B6 ?_; refine Se rfl (Oc rfl rfl rfl (Ab (Ah ?_))); refine Dg rfl Ax ?_; refine Ce rfl ?_; refine Se rfl (Oa rfl (Ab (Al (.tmp rfl .nil) ?_))); refine ⟨_, L, hle, Bk, ?_, rfl⟩
   have hx : (Ex.lt z a b).alk (Ex.lt z' a' b') f t = true := by
    simp only [Ex.alk]; simp [hq0, hq1]
   rw [hx]; rfl
  ·skip
   have hlen : (Ex.fn h1 z s u b).tree.parts.length = 6 := rfl
   have hlen' : (Ex.fn h1' z' s' u' b').tree.parts.length = 6 := rfl
   have hki := Kg h1 z s u b
   have hhd : (Ex.fn h1 z s u b).tree.head = C6 := rfl
   have hx3 :  (Ex.fn h1 z s u b).tree.head = [102, 117, 110] := rfl
   have hx4 :  (Ex.fn h1' z' s' u' b').tree.head = [102, 117, 110] := rfl
   simp only [Ex.fn.sizeOf_spec] at hlt
   simp only [Ex.ok, Bool.and_eq_true, decide_eq_true_eq] at hok hok'
   simp only [Ex.size] at hfl htl
   refine Dn 27 rfl rfl ?_; refine Dt 0 [27] rfl (Cd rfl) ?_; refine Dc 1 rfl rfl (Bq hf.rep _) ?_; rintro _ _ _ _ ⟨rfl, rfl, rfl⟩; refine Hx ?_; refine Da 2 rfl (Mq rfl rfl rfl) ?_; refine Da 3 rfl (Ag rfl) ?_; refine Eh (t := 66) rfl (v' := .bool true) (by first | simp [*] | (simp; omega)) ?_; refine Dm 4 rfl (Aj rfl) ?_; refine Ef 5 [27] rfl Ad rfl Ap (Bc rfl) (.met rfl rfl) rfl ?_
   first | refine Dm 6 rfl (A3 rfl rfl 3 rfl) ?_ | refine Dm 6 rfl (A4 rfl rfl 3 rfl) ?_
   refine Ef 7 [27] rfl Ad rfl Ap (B7 rfl) (.met rfl rfl) rfl ?_; refine Dm 8 rfl (Aj rfl) ?_; refine Ef 9 [27] rfl Ad rfl Ap (Bc rfl) (.met rfl rfl) rfl ?_
   first | refine Dm 10 rfl (A3 rfl rfl 3 rfl) ?_ | refine Dm 10 rfl (A4 rfl rfl 3 rfl) ?_
   refine Ef 11 [27] rfl Ad rfl Ap (B7 rfl) (.met rfl rfl) rfl ?_; refine Gx 12 rfl Ad rfl rfl (.met rfl rfl) rfl (Gz (hf.as 3 s.tree Aa rfl) (hg.as 3 s'.tree Aa rfl) _) ?_; rintro _ _ _ _ ⟨rfl, rfl, rfl⟩; refine Hx ?_; refine Dm 13 rfl (Jy rfl) ?_; refine Dm 14 rfl (Ag rfl) ?_
   apply Aaa 77 88 rfl
   ·intro g6_15 hk
    try simp only [nb] at g6_15
    refine Dm 15 rfl (Aj rfl) ?_; refine Ef 16 [27] rfl Ad rfl Ap (Bc rfl) (.met rfl rfl) rfl ?_
    first | refine Dm 17 rfl (A3 rfl rfl 4 rfl) ?_ | refine Dm 17 rfl (A4 rfl rfl 4 rfl) ?_
    refine Ef 18 [27] rfl Ad rfl Ap (B7 rfl) (.met rfl rfl) rfl ?_; refine Dm 19 rfl (Aj rfl) ?_; refine Ef 20 [27] rfl Ad rfl Ap (Bc rfl) (.met rfl rfl) rfl ?_
    first | refine Dm 21 rfl (A3 rfl rfl 4 rfl) ?_ | refine Dm 21 rfl (A4 rfl rfl 4 rfl) ?_
    refine Ef 22 [27] rfl Ad rfl Ap (B7 rfl) (.met rfl rfl) rfl ?_; refine Gx 23 rfl Ad rfl rfl (.met rfl rfl) rfl (Gz (hf.as 4 u.tree Aa rfl) (hg.as 4 u'.tree Aa rfl) _) ?_; rintro _ _ _ _ ⟨rfl, rfl, rfl⟩; refine Hx ?_; refine Dm 24 rfl (Jy rfl) ?_; refine Dm 25 rfl (Cu rfl rfl) ?_
    exact F9 10 rfl rfl hk
   ·intro _ hk; refine Ds 15 rfl rfl rfl ?_; refine Ds 16 rfl rfl rfl ?_; refine Ds 17 rfl rfl rfl ?_; refine Ds 18 rfl rfl rfl ?_; refine Ds 19 rfl rfl rfl ?_; refine Ds 20 rfl rfl rfl ?_; refine Ds 21 rfl rfl rfl ?_; refine Ds 22 rfl rfl rfl ?_; refine Ds 23 rfl rfl rfl ?_; refine Ds 24 rfl rfl rfl ?_; refine Dm 25 rfl (Dj rfl rfl) ?_
    exact F9 10 rfl rfl hk
   refine Da 26 rfl (Dj rfl rfl) ?_; refine At Ad ?_; refine A0 rfl ?_ ?_
   ·intro c2
    try simp only [nb] at c2
    refine Se rfl (Oa rfl (Ab (Al (.tmp rfl .nil) ?_))); refine ⟨I, L, .refl _, Bk, ?_, rfl⟩
    have hx : (Ex.fn h1 z s u b).alk (Ex.fn h1' z' s' u' b') f t = false := by
     simp only [Ex.alk]
     rcases c2 with h | h <;> simp [h]
    rw [hx]; rfl
   intro c2
   try simp only [nb] at c2
   have hsu := c2
   refine Ak (Ah (Se rfl ?_)); refine A2 rfl .free rfl ?_; refine Ca rfl (Cr hf.rep _) ?_; rintro _ J _ e0 ⟨ok, ck, rfl, hk1, rfl⟩
   have hf := hf.mono e0
   have hg := hg.mono e0
   have hfr := hfr.mono e0
   have hto := hto.mono e0
   have hle := hle.trans e0
   rw [hki] at hk1; rw [hki]; refine On rfl (Om rfl (Ab (Aq ?_))); refine Ed ?_; refine Se rfl (Oc rfl rfl rfl (Ab (Ah ?_))); refine Cb rfl Ax ?_; refine Ak (Ah (Aq (Se rfl ?_)))
   first | refine Bx rfl rfl _ rfl .free rfl ?_ | refine By rfl rfl _ rfl .free rfl ?_
   refine Ei rfl .free rfl ?_; refine Oa rfl (Ab (Ah ?_)); refine Dn 24 rfl rfl ?_; refine Da 0 rfl (Aj rfl) ?_; refine Dt 1 [24] rfl (Bc rfl) ?_; refine Da 2 rfl (Ag rfl) ?_
   first | refine Da 3 rfl (A3 rfl rfl _ rfl) ?_ | refine Da 3 rfl (A4 rfl rfl _ rfl) ?_
   refine Dt 4 [24] rfl (B7 rfl) ?_; refine Da 5 rfl (Aj rfl) ?_; refine Dt 6 [24] rfl (Bc rfl) ?_; refine Da 7 rfl (Ag rfl) ?_
   first | refine Da 8 rfl (A3 rfl rfl _ rfl) ?_ | refine Da 8 rfl (A4 rfl rfl _ rfl) ?_
   refine Dt 9 [24] rfl (B7 rfl) ?_; refine Da 10 rfl (Ag rfl) ?_; refine Dt 11 [24] rfl (Cd rfl) ?_; refine Da 12 rfl (Ag rfl) ?_; refine Da 16 rfl (Ag rfl) ?_; refine Dt 17 [24] rfl (Cd rfl) ?_; refine Da 18 rfl (Ag rfl) ?_; refine Dc 13 rfl rfl (Bp hf.rep hok0 _ _) ?_; rintro _ J1 _ e1 ⟨o1, k1, rfl, hs1, rfl⟩; refine Hx ?_; refine C5 14 rfl Ad rfl rfl rfl Ac Ac Ac Ae Ae Ac .free rfl (.inr Ap) ?_; intro b111; refine Cp ?_; intro hz
   have e2 := e1.trans hz
   refine Dc 15 rfl rfl (Bb (A6 (xs := [.slice of f.length cf, .slice o1 (List.length _) k1]) (ys := [])) (hfr.mono e2) (hs1.mono hz) (Ex.binds_room0 Aa) _) ?_; rintro _ J3 _ e3 ⟨o3, k3, rfl, hs3, rfl⟩
   have e4 := e2.trans e3
   refine Hx ?_; refine Dc 19 rfl rfl (Bp (hg.mono e4).rep hok0' _ _) ?_; rintro _ J4 _ e5 ⟨o4, k4, rfl, hs4, rfl⟩
   have e45 := e4.trans e5
   refine Hx ?_; refine C5 20 rfl Ad rfl rfl rfl Ac Ac Ac Ae Ae Ac .free rfl (.inr Ap) ?_; intro b117; refine Cp ?_; intro hy
   have e6 := e4.trans (e5.trans hy)
   refine Dc 21 rfl rfl (Bb (A6 (xs := [.slice ot t.length ct, .slice o4 (List.length _) k4]) (ys := [])) (hto.mono e6) (hs4.mono hy) (Ex.binds_room0 Aa) _) ?_; rintro _ J5 _ e7 ⟨o5, k5, rfl, hs5, rfl⟩
   have e8 := e6.trans e7
   have hs3 := hs3.mono (e5.trans (hy.trans e7))
   have hf3 := hf.mono e8
   have hg3 := hg.mono e8
   refine Hx ?_; refine Dc 22 rfl rfl (ihn (f := f ++ [h1, z]) (t := t ++ [h1', z']) Aa (hf3.as 5 b.tree Aa rfl) hok.2 (hg3.as 5 b'.tree Aa rfl) hok'.2 hs3 hs5 (hnf.add Mv) (hnt.add (by intro y hy; simp only [List.mem_cons, List.not_mem_nil, or_false] at hy; rcases hy with rfl | rfl; exact hok'.1.1.1.1.1; exact hok'.1.1.1.1.2)) B9 B9 _) ?_; rintro _ J6 _ e9 ⟨rfl, rfl⟩
   have e10 := e8.trans e9
   refine Hx ?_; refine Da 23 rfl (Jy rfl) ?_; refine At Ad ?_; refine A0 rfl ?_ ?_
   ·intro c4
    try simp only [nb] at c4
    refine Se rfl (Oa rfl (Ab (Al (.tmp rfl .nil) ?_))); refine ⟨_, L, hle.trans e10, Bk, ?_, rfl⟩
    have hx : (Ex.fn h1 z s u b).alk (Ex.fn h1' z' s' u' b') f t = false := by
     simp only [Ex.alk]; simp [c4]
    rw [hx]; rfl
   intro c4
   try simp only [nb] at c4
   have hq0 := c4
   have hf := hf3.mono e9
   have hg := hg3.mono e9
   have hfr := hfr.mono e10
   have hto := hto.mono e10
   have hk1 := hk1.mono e10
   have hle := hle.trans e10
   refine Ak (Ar (Am rfl ?_)); refine Or rfl rfl rfl ?_; refine Om rfl (Ab ?_); refine B6 ?_; refine Se rfl (Oc rfl rfl rfl (Ab (Ah ?_))); refine Dg rfl Ax ?_; refine Ce rfl ?_; refine Se rfl (Oa rfl (Ab (Al (.tmp rfl .nil) ?_))); refine ⟨_, L, hle, Bk, ?_, rfl⟩
   have hx : (Ex.fn h1 z s u b).alk (Ex.fn h1' z' s' u' b') f t = true := by
    simp only [Ex.alk]; simp [hq0, hsu]
   rw [hx]; rfl
  ·skip
   have hlen : (Ex.un o a).tree.parts.length = 2 := rfl
   have hlen' : (Ex.un o a').tree.parts.length = 2 := rfl
   have hki := H4 o a
   have hhd : (Ex.un o a).tree.head = o.txt := rfl
   have hx3 : ¬ (Ex.un o a).tree.head = [102, 117, 110] := o.txt_ne.2.2.1
   have hx4 : ¬ (Ex.un o a').tree.head = [102, 117, 110] := o.txt_ne.2.2.1
   simp only [Ex.un.sizeOf_spec] at hlt
   simp only [Ex.ok, Bool.and_eq_true, decide_eq_true_eq] at hok hok'
   simp only [Ex.size] at hfl htl
   refine Dn 27 rfl rfl ?_; refine Dt 0 [27] rfl (Cd rfl) ?_; refine Dc 1 rfl rfl (Bq hf.rep _) ?_; rintro _ _ _ _ ⟨rfl, rfl, rfl⟩; refine Hx ?_; refine Da 2 rfl (Mq rfl rfl rfl) ?_; refine Da 3 rfl (Ag rfl) ?_; refine Eh (t := 66) rfl (v' := .bool false) (by first | simp [*] | (simp; omega)) ?_; refine Ds 4 rfl rfl rfl ?_; refine Ds 5 rfl rfl rfl ?_; refine Ds 6 rfl rfl rfl ?_; refine Ds 7 rfl rfl rfl ?_; refine Ds 8 rfl rfl rfl ?_; refine Ds 9 rfl rfl rfl ?_; refine Ds 10 rfl rfl rfl ?_; refine Ds 11 rfl rfl rfl ?_; refine Ds 12 rfl rfl rfl ?_; refine Ds 13 rfl rfl rfl ?_
   refine Ds 14 rfl rfl rfl ?_; refine A1 15 rfl Ad rfl (.inr Ap) rfl rfl rfl ?_; refine A1 16 rfl Ad rfl (.inr Ap) rfl rfl rfl ?_; refine A1 17 rfl Ad rfl (.inr Ap) rfl rfl rfl ?_; refine A1 18 rfl Ad rfl (.inr Ap) rfl rfl rfl ?_; refine A1 19 rfl Ad rfl (.inr Ap) rfl rfl rfl ?_; refine A1 20 rfl Ad rfl (.inr Ap) rfl rfl rfl ?_; refine A1 21 rfl Ad rfl (.inr Ap) rfl rfl rfl ?_; refine A1 22 rfl Ad rfl (.inr Ap) rfl rfl rfl ?_; refine A1 23 rfl Ad rfl (.inr Ap) rfl rfl rfl ?_; refine A1 24 rfl Ad rfl (.inr Ap) rfl rfl rfl ?_; refine Ds 25 rfl rfl rfl ?_; refine Da 26 rfl (Cu rfl rfl) ?_
   refine At Ad ?_; refine Bl rfl ?_; refine Ak (Ah (Se rfl ?_)); refine A2 rfl .free rfl ?_; refine Ca rfl (Cr hf.rep _) ?_; rintro _ J _ e0 ⟨ok, ck, rfl, hk1, rfl⟩
   have hf := hf.mono e0
   have hg := hg.mono e0
   have hfr := hfr.mono e0
   have hto := hto.mono e0
   have hle := hle.trans e0
   rw [hki] at hk1; rw [hki]; refine On rfl (Om rfl (Ab (Aq ?_))); refine Ed ?_; refine Se rfl (Oc rfl rfl rfl (Ab (Ah ?_))); refine Cb rfl Ax ?_; refine Ak (Ah (Aq (Se rfl ?_)))
   first | refine Bx rfl rfl _ rfl .free rfl ?_ | refine By rfl rfl _ rfl .free rfl ?_
   refine Ei rfl .free rfl ?_; refine Oa rfl (Ab (Ah ?_)); refine Dn 24 rfl rfl ?_; refine Da 0 rfl (Aj rfl) ?_; refine Dt 1 [24] rfl (Bc rfl) ?_; refine Da 2 rfl (Ag rfl) ?_
   first | refine Da 3 rfl (A3 rfl rfl _ rfl) ?_ | refine Da 3 rfl (A4 rfl rfl _ rfl) ?_
   refine Dt 4 [24] rfl (B7 rfl) ?_; refine Da 5 rfl (Aj rfl) ?_; refine Dt 6 [24] rfl (Bc rfl) ?_; refine Da 7 rfl (Ag rfl) ?_
   first | refine Da 8 rfl (A3 rfl rfl _ rfl) ?_ | refine Da 8 rfl (A4 rfl rfl _ rfl) ?_
   refine Dt 9 [24] rfl (B7 rfl) ?_; refine Da 10 rfl (Ag rfl) ?_; refine Dt 11 [24] rfl (Cd rfl) ?_; refine Da 12 rfl (Ag rfl) ?_; refine Da 16 rfl (Ag rfl) ?_; refine Dt 17 [24] rfl (Cd rfl) ?_; refine Da 18 rfl (Ag rfl) ?_; refine Dc 13 rfl rfl (Bp hf.rep hok0 _ _) ?_; rintro _ J1 _ e1 ⟨o1, k1, rfl, hs1, rfl⟩; refine Hx ?_; refine C5 14 rfl Ad rfl rfl rfl Ac Ac Ac Ae Ae Ac .free rfl (.inr Ap) ?_; intro b111; refine Cp ?_; intro hz
   have e2 := e1.trans hz
   refine Dc 15 rfl rfl (Bb (A6 (xs := [.slice of f.length cf, .slice o1 (List.length _) k1]) (ys := [])) (hfr.mono e2) (hs1.mono hz) (Ex.binds_room0 Aa) _) ?_; rintro _ J3 _ e3 ⟨o3, k3, rfl, hs3, rfl⟩
   have e4 := e2.trans e3
   refine Hx ?_; refine Dc 19 rfl rfl (Bp (hg.mono e4).rep hok0' _ _) ?_; rintro _ J4 _ e5 ⟨o4, k4, rfl, hs4, rfl⟩
   have e45 := e4.trans e5
   refine Hx ?_; refine C5 20 rfl Ad rfl rfl rfl Ac Ac Ac Ae Ae Ac .free rfl (.inr Ap) ?_; intro b117; refine Cp ?_; intro hy
   have e6 := e4.trans (e5.trans hy)
   refine Dc 21 rfl rfl (Bb (A6 (xs := [.slice ot t.length ct, .slice o4 (List.length _) k4]) (ys := [])) (hto.mono e6) (hs4.mono hy) (Ex.binds_room0 Aa) _) ?_; rintro _ J5 _ e7 ⟨o5, k5, rfl, hs5, rfl⟩
   have e8 := e6.trans e7
   have hs3 := hs3.mono (e5.trans (hy.trans e7))
   have hf3 := hf.mono e8
   have hg3 := hg.mono e8
   refine Hx ?_; refine Dc 22 rfl rfl (ihn (f := f ++ []) (t := t ++ []) Aa (hf3.as 1 a.tree Aa rfl) hok (hg3.as 1 a'.tree Aa rfl) hok' hs3 hs5 (by simpa using hnf) (by simpa using hnt) B9 B9 _) ?_; rintro _ J6 _ e9 ⟨rfl, rfl⟩
   have e10 := e8.trans e9
   simp only [List.append_nil]
   refine Hx ?_; refine Da 23 rfl (Jy rfl) ?_; refine At Ad ?_; refine A0 rfl ?_ ?_
   ·intro c4
    try simp only [nb] at c4
    refine Se rfl (Oa rfl (Ab (Al (.tmp rfl .nil) ?_))); refine ⟨_, L, hle.trans e10, Bk, ?_, rfl⟩
    have hx : (Ex.un o a).alk (Ex.un o a') f t = false := by
     simp only [Ex.alk]; simp [c4]
    rw [hx]; rfl
   intro c4
   try simp only [nb] at c4
   have hq0 := c4
   have hf := hf3.mono e9
   have hg := hg3.mono e9
   have hfr := hfr.mono e10
   have hto := hto.mono e10
   have hk1 := hk1.mono e10
   have hle := hle.trans e10
   refine Ak (Ar (Am rfl ?_)); refine Or rfl rfl rfl ?_; refine Om rfl (Ab ?_); refine B6 ?_; refine Se rfl (Oc rfl rfl rfl (Ab (Ah ?_))); refine Dg rfl Ax ?_; refine Ce rfl ?_; refine Se rfl (Oa rfl (Ab (Al (.tmp rfl .nil) ?_))); refine ⟨_, L, hle, Bk, ?_, rfl⟩
   have hx : (Ex.un o a).alk (Ex.un o a') f t = true := by
    simp only [Ex.alk]; simp [hq0]
   rw [hx]; rfl
theorem W2 (a b : As) (ha : a.length ≤ Ba) (hb : b.length ≤ Ba) (I : Heap) (L : Bo) : Fun Tryz.prog 37 [.string (str a), .string (str b)] I L (fun v I' L' => v = .bool (Ke a b) ∧ L = L') := by
 refine Ao Af ?_; refine Se rfl (Oa rfl (Ab (Se rfl (Om rfl ?_)))); refine Ca rfl (Jb a ha _ _) ?_; rintro _ J _ e1 ⟨t1, cs1, ok1, rfl, hr1, rfl, hp1⟩; obtain ⟨o1, k1, _, rfl, -⟩ := hr1.open; refine Om rfl (Oe rfl rfl (Oe rfl rfl ?_)); refine Aw .free rfl ?_; intro b5; refine Bu rfl rfl rfl rfl .free ?_; refine Oa rfl (Ab (Se rfl (Om rfl ?_))); refine Ca rfl (Jb b hb _ _) ?_; rintro _ J2 _ e2 ⟨t2, cs2, ok2, rfl, hr2, rfl, hp2⟩; obtain ⟨o2, k2, _, rfl, -⟩ := hr2.open; refine Om rfl (Oe rfl rfl (Oe rfl rfl ?_)); refine Aw .free rfl ?_; intro b7; refine Bu rfl rfl rfl rfl .free ?_
 refine Oa rfl (Ab (Se rfl (Om rfl (Om rfl ?_))))
 apply Ep 20 22 rfl
 ·intro g3_2 hk
  try simp only [nb] at g3_2
  refine Ow rfl (Ot rfl rfl ?_)
  exact A7 1 rfl rfl hk
 ·intro _ hk; refine Bj 1 rfl ?_; refine Of rfl rfl ?_
  exact A7 1 rfl rfl hk
 refine Om rfl ?_
 apply Ep 23 27 rfl
 ·intro g3_5 hk
  try simp only [nb] at g3_5
  obtain ⟨e, he, rfl, hok1, -, hfi1, -⟩ := Nm hp1 g3_5.1; obtain ⟨e', he', rfl, hok2, -, hfi2, -⟩ := Nm hp2 g3_5.2
  have hz1 := (H0 he).2.2.1
  have hz2 := (H0 he').2.2.1
  refine A2 rfl (.met rfl rfl) rfl ?_; refine A2 rfl (.met rfl rfl) rfl ?_; refine Cq rfl (.met rfl rfl) rfl (Aeg _ (Nat.lt_succ_self _) (hr1.mono e2) hok1 hr2 hok2 (Ky _) (Ky _) (by intro _ h; cases h) (by intro _ h; cases h) (by simp only [List.length_nil]; omega) (by simp only [List.length_nil]; omega) _) ?_; rintro _ J3 _ e3 ⟨rfl, rfl⟩; rw [show e.alk e' [] [] = Ke a b from (Pf he he').symm]; refine Dp (fun w h => Mem.le e3 h) ?_; refine Ot rfl rfl ?_
  exact A7 3 rfl rfl hk
 ·intro _ hk; refine Bj 3 rfl ?_; refine Of rfl rfl ?_
  exact A7 3 rfl rfl hk
 refine Oa rfl (Ab (Al (.tmp rfl .nil) ?_)); refine ⟨J2, L, e1.trans e2, Bk, ?_, rfl⟩
 by_cases h1 : ok1 = true
 ·by_cases h2 : ok2 = true
  ·simp [Ck, h1, h2]
  ·rw [Pe (.inr (Nl hp2 (by simpa using h2)))]; simp [Ck, h2]
 ·rw [Pe (.inl (Nl hp1 (by simpa using h1)))]; simp [Ck, h1]
theorem Abo {I : Heap} {oa : Option Addr} {l : List As} {c : Nat} (h : Strs I oa l c) (s : As) (L : Bo) :
  Fun Tryz.prog 35 [.slice oa l.length c, .string (str s)] I L (E1 (.bool (decide (s ∈ l))) I L) := by
 have hlen := h.len
 unfold Ba at hlen
 refine Ao Af ?_; refine Se rfl (Oa rfl (Ab (Ah (Se rfl (Oa rfl (Ab (Aq ?_))))))); refine C7 (X := Nat) (fun i => l.length - i) (fun i => [(0, .slice oa l.length c), (1, .string (str s)), (5, .int .i64 (i : Nat))]) (fun _ => I) (fun _ => L) (fun i => i ≤ l.length ∧ s ∉ l.take i) 0 ⟨by simp, by simp⟩ ⟨rfl, rfl, rfl, trivial⟩ (fun _ h => h) ?_; rintro i ⟨hi, hs⟩ ih; refine Ah (Se rfl (Om rfl (Om rfl (On rfl (Oc rfl rfl rfl (Ab ?_)))))); refine Si rfl ?_ ?_
 ·intro c0; obtain ⟨x, hx, hst⟩ := h.at i Aa; refine Ak (Ah (Aq (Se rfl (Om rfl (Om rfl ?_))))); refine Cl rfl rfl _ rfl Cc D1 .free rfl ?_; refine C0 rfl .free rfl ?_; refine Om rfl (Od rfl rfl rfl (Ab ?_)); refine Si rfl ?_ ?_
  ·intro c1; refine Se rfl (Oa rfl (Ab (Al (.tmp rfl .nil) ?_))); refine only rfl ?_
   have : s ∈ l := by have h2 := List.getElem_mem (show i < l.length by omega); rwa [c1] at h2
   simp [Ck, this]
  intro c1; refine Ak (Ar (Am rfl (Om rfl ?_))); refine Or rfl rfl rfl ?_; refine Oa rfl (Ab ?_); refine Dy (E' := [(0, .slice oa l.length c), (1, .string (str s)), (5, .int .i64 ((i + 1 : Nat)))]) ⟨rfl, rfl, rfl, trivial⟩ (ih (i + 1) ⟨by omega, ?_⟩ Aa); rw [List.take_succ_eq_append_getElem Aa, List.mem_append]; rintro (h1 | h1)
  ·exact hs h1
  ·exact c1 (List.mem_singleton.1 h1).symm
 intro c0; refine Ce rfl ?_; refine Se rfl (Oa rfl (Ab (Al (.tmp rfl .nil) ?_))); refine only rfl ?_
 have : s ∉ l := by rwa [List.take_of_length_le Aa] at hs
 simp [Ck, this]

theorem Ab9 {s : As} {e : Ex} (h : Eu s = some e) : s.length ≤ 12000 := by
 obtain ⟨_, _, _, h4, h5⟩ := H0 h; rw [h5, Tree.text_len]; exact h4
theorem Aeb {a b : As} {e f : Ex} (h : Eu a = some e) (h' : Eu b = some f) (has : e.as f) (l m : List As) : Sg l m a = Sg l m b := by
 by_cases hv : Hl l m = true
 ·rw [Pj hv h, Pj hv h']
  have hlm : l.length = (Ib m).length := by
   unfold Hl at hv
   simp only [Bool.and_eq_true, decide_eq_true_eq] at hv
   simp [Ib, hv.1.1.2]
  rw [has.ty (H0 h).2.1 (H0 h').2.1 hlm]
 ·rw [Pi (.inl (by simpa using hv)), Pi (.inl (by simpa using hv))]
theorem Ex.pl_bare {av : List As} (e : Ex) (f t : List As) (n : Nat) : (e.pl av f t n).1.bare = e.bare := by cases e <;> rfl
theorem Ex.pl_norm {av : List As} : ∀ (e : Ex) (f t : List As) (n : Nat) (b : Bool), (e.pl av f t n).1.norm b = e.norm b
 | .num s, f, t, n, b => rfl
 | .name s, f, t, n, b => rfl
 | .bin o p q, f, t, n, b => by simp only [Ex.pl, Ex.norm, Ex.pl_bare]
 | .ite p q r, f, t, n, b => by simp only [Ex.pl, Ex.norm, Ex.pl_bare, Ex.pl_norm q, Ex.pl_norm r]
 | .lt x p q, f, t, n, b => by simp only [Ex.pl, Ex.norm, Ex.pl_norm p, Ex.pl_norm q]
 | .fn g x s u q, f, t, n, b => by simp only [Ex.pl, Ex.norm, Ex.pl_norm q]
 | .un o p, f, t, n, b => by simp only [Ex.pl, Ex.norm, Ex.pl_bare]
theorem Ex.pl_nl {av : List As} : ∀ (e : Ex) (f t : List As) (n : Nat), (e.pl av f t n).1.nl = e.nl
 | .num s, f, t, n => rfl
 | .name s, f, t, n => rfl
 | .bin o p q, f, t, n => by simp only [Ex.pl, Ex.nl, Ex.pl_nl p, Ex.pl_nl q]
 | .ite p q r, f, t, n => by simp only [Ex.pl, Ex.nl, Ex.pl_nl p, Ex.pl_nl q, Ex.pl_nl r]
 | .lt x p q, f, t, n => by simp only [Ex.pl, Ex.nl, Ex.pl_nl p, Ex.pl_nl q]
 | .fn g x s u q, f, t, n => by simp only [Ex.pl, Ex.nl, Ex.pl_nl q]
 | .un o p, f, t, n => by simp only [Ex.pl, Ex.nl, Ex.pl_nl p]
theorem Rw {tk : List As} {e : Ex} (h : e.bare = true) (n : Nat) : e.mk tk n = ⟨e, [], n, 0⟩ ∧ (e.mk tk n).pt tk = ⟨e, [], n, 0⟩ := by
 cases e with
 | num s => exact ⟨rfl, rfl⟩
 | name s => exact ⟨rfl, rfl⟩
 | bin o a b => cases h
 | ite a b c => cases h
 | lt x a b => cases h
 | fn f x s t b => cases h
 | un o a => cases h
theorem Nt (tk : List As) : ∀ (e : Ex), (e.norm false = true → ∀ n, e.mk tk n = ⟨e, [], n, 0⟩) ∧ (e.norm true = true → ∀ n, (e.mk tk n).all = e ∧ (e.mk tk n).n = n ∧ (e.mk tk n).g = 0)
 | .num s => ⟨fun _ _ => rfl, fun _ _ => ⟨rfl, rfl, rfl⟩⟩
 | .name s => ⟨fun _ _ => rfl, fun _ _ => ⟨rfl, rfl, rfl⟩⟩
 | .bin o a b => by
  have key : (a.bare && b.bare) = true → ∀ n, (Ex.bin o a b).mk tk n = ⟨.bin o a b, [], n, 0⟩ := fun h n => by
   simp only [Bool.and_eq_true] at h
   simp only [Ex.mk, (Rw h.1 n).2, (Rw h.2 n).2, List.append_nil]
  exact ⟨key, fun h n => by rw [key h n]; exact ⟨rfl, rfl, rfl⟩⟩
 | .ite a b c => by
  have key : (a.bare && b.norm true && c.norm true) = true → ∀ n, (Ex.ite a b c).mk tk n = ⟨.ite a b c, [], n, 0⟩ := fun h n => by
   simp only [Bool.and_eq_true] at h
   obtain ⟨q1, q2, q3⟩ := (Nt tk b).2 h.1.2 n; obtain ⟨r1, r2, r3⟩ := (Nt tk c).2 h.2 n
   simp only [Ex.mk, (Rw h.1.1 n).2, q1, q2, q3, r1, r2, r3]
  exact ⟨key, fun h n => by rw [key h n]; exact ⟨rfl, rfl, rfl⟩⟩
 | .lt x a b => by
  refine ⟨fun h => by simp [Ex.norm] at h, fun h n => ?_⟩
  simp only [Ex.norm, Bool.true_and, Bool.and_eq_true] at h
  obtain ⟨q1, q2, q3⟩ := (Nt tk b).2 h.2 n
  have hp := (Nt tk a).1 h.1 n
  refine ⟨?_, by simp only [Ex.mk, hp, q2], by simp only [Ex.mk, hp, q3]⟩
  simp only [Ex.mk, hp, MK.all, List.nil_append, Ft]
  unfold MK.all at q1
  rw [q1]
 | .fn f x s t b => by
  have key : b.norm true = true → ∀ n, (Ex.fn f x s t b).mk tk n = ⟨.fn f x s t b, [], n, 0⟩ := fun h n => by
   obtain ⟨q1, q2, q3⟩ := (Nt tk b).2 h n
   simp only [Ex.mk, q1, q2, q3]
  exact ⟨key, fun h n => by rw [key h n]; exact ⟨rfl, rfl, rfl⟩⟩
 | .un o a => by
  have key : a.bare = true → ∀ n, (Ex.un o a).mk tk n = ⟨.un o a, [], n, 0⟩ := fun h n => by
   simp only [Ex.mk, (Rw h n).2]
  exact ⟨key, fun h n => by rw [key h n]; exact ⟨rfl, rfl, rfl⟩⟩
theorem Xr {e : Ex} (h : e.norm true = true) : e.normal = e.plain := ((Nt e.tk e.plain).2 (by unfold Ex.plain; rw [Ex.pl_norm]; exact h) 0).1
theorem Aet {s : As} {e : Ex} (h : Eu s = some e) (hn : e.norm true = true) : S3 s = some e.plain.tree.text ∧ Eu e.plain.tree.text = some e.plain ∧ V2 e.plain.tree.text = V2 s ∧ Ke e.plain.tree.text s = true := by
 have hf := Gt (H0 h).1
 have hp := Sd h
 have hpn : e.plain.norm true = true := by unfold Ex.plain; rw [Ex.pl_norm]; exact hn
 have h1 : Jf true s = some e := by unfold Jf; rw [h]; simp [hn]
 have h2 : Jf true e.plain.tree.text = some e.plain := by unfold Jf; rw [hp]; simp [hpn]
 refine ⟨by rw [Nu h, Xr hn, if_pos hf], hp, ?_, (Ym hp h).2 e.plain_as⟩; rw [Rc h1, Rc h2]
 unfold Ex.plain
 rw [Ex.pl_nl]
def Ahe (s : As) : Bool := C4 s || B0 s
def z9 : As := [122, 57]
def pii : As := [40, 42, 32, 105, 32, 105, 41]
inductive Eqv : Ex → Ex → Prop
 | refl (e : Ex) : Eqv e e
 | trans {a b c : Ex} (h : Eqv a b) (h' : Eqv b c) : Eqv a c
 | bin1 {o : B5} {a a' b : Ex} (h : Eqv a a') : Eqv (.bin o a b) (.bin o a' b)
 | bin2 {o : B5} {a b b' : Ex} (h : Eqv b b') : Eqv (.bin o a b) (.bin o a b')
 | ite1 {a a' b c : Ex} (h : Eqv a a') : Eqv (.ite a b c) (.ite a' b c)
 | ite2 {a b b' c : Ex} (h : Eqv b b') : Eqv (.ite a b c) (.ite a b' c)
 | ite3 {a b c c' : Ex} (h : Eqv c c') : Eqv (.ite a b c) (.ite a b c')
 | lt1 {x : As} {a a' b : Ex} (h : Eqv a a') : Eqv (.lt x a b) (.lt x a' b)
 | lt2 {x : As} {a b b' : Ex} (h : Eqv b b') : Eqv (.lt x a b) (.lt x a b')
 | fn1 {f x : As} {s t : Ty} {b b' : Ex} (h : Eqv b b') : Eqv (.fn f x s t b) (.fn f x s t b')
 | un1 {o : U2} {a a' : Ex} (h : Eqv a a') : Eqv (.un o a) (.un o a')
 | nm1 {o : B5} {a b : Ex} {y : As} (h : y ∉ b.occ []) : Eqv (.bin o a b) (.lt y a (.bin o (.name y) b))
 | nm2 {o : B5} {a b : Ex} {y : As} (hb : a.bare = true) (h : y ∉ a.occ []) : Eqv (.bin o a b) (.lt y b (.bin o a (.name y)))
 | nmi {a b c : Ex} {y : As} (h : y ∉ b.occ []) (h' : y ∉ c.occ []) : Eqv (.ite a b c) (.lt y a (.ite (.name y) b c))
 | nmu {o : U2} {a : Ex} {y : As} : Eqv (.un o a) (.lt y a (.un o (.name y)))
 | fl1 {o : B5} {x : As} {a b c : Ex} (h : x ∉ c.occ []) : Eqv (.bin o (.lt x a b) c) (.lt x a (.bin o b c))
 | fl2 {o : B5} {x : As} {a b c : Ex} (hb : a.bare = true) (h : x ∉ a.occ []) : Eqv (.bin o a (.lt x b c)) (.lt x b (.bin o a c))
 | fli {x : As} {a b c d : Ex} (h : x ∉ c.occ []) (h' : x ∉ d.occ []) : Eqv (.ite (.lt x a b) c d) (.lt x a (.ite b c d))
 | flu {o : U2} {x : As} {a b : Ex} : Eqv (.un o (.lt x a b)) (.lt x a (.un o b))
 | fll {x y : As} {a b c : Ex} (h : x ∉ c.occ []) : Eqv (.lt y (.lt x a b) c) (.lt x a (.lt y b c))
theorem Adg {e : Ex} {bd : List As} {x : As} : x ∈ e.occ bd ↔ x ∈ e.occ [] ∧ x ∉ bd := Ex.occ_mem
theorem F6 {o : B5} {a b : Ex} {x : As} : x ∈ (Ex.bin o a b).occ [] ↔ x ∈ a.occ [] ∨ x ∈ b.occ [] := List.mem_append
theorem F7 {a b c : Ex} {x : As} : x ∈ (Ex.ite a b c).occ [] ↔ x ∈ a.occ [] ∨ x ∈ b.occ [] ∨ x ∈ c.occ [] := by
 simp only [Ex.occ, List.mem_append, or_assoc]
theorem Fk {y : As} {a b : Ex} {x : As} : x ∈ (Ex.lt y a b).occ [] ↔ x ∈ a.occ [] ∨ (x ∈ b.occ [] ∧ x ≠ y) := by
 show x ∈ a.occ [] ++ b.occ ([] ++ [y]) ↔ _
 rw [List.mem_append, Adg (e := b)]; simp
theorem Qo {f y : As} {s t : Ty} {b : Ex} {x : As} : x ∈ (Ex.fn f y s t b).occ [] ↔ x ∈ b.occ [] ∧ x ≠ f ∧ x ≠ y := by
 show x ∈ b.occ ([] ++ [f, y]) ↔ _
 rw [Adg]; simp
theorem Qp {o : U2} {a : Ex} {x : As} : x ∈ (Ex.un o a).occ [] ↔ x ∈ a.occ [] := Iff.rfl
theorem occ_name {s x : As} : x ∈ (Ex.name s).occ [] ↔ x = s := by simp [Ex.occ]
theorem Eqv.occ {e e' : Ex} (h : Eqv e e') : ∀ x, x ∈ e.occ [] ↔ x ∈ e'.occ [] := by
 induction h with
 | refl e => exact fun x => Iff.rfl
 | trans _ _ h1 h2 => exact fun x => (h1 x).trans (h2 x)
 | bin1 _ ih => intro x; rw [F6, F6, ih x]
 | bin2 _ ih => intro x; rw [F6, F6, ih x]
 | ite1 _ ih => intro x; rw [F7, F7, ih x]
 | ite2 _ ih => intro x; rw [F7, F7, ih x]
 | ite3 _ ih => intro x; rw [F7, F7, ih x]
 | lt1 _ ih => intro x; rw [Fk, Fk, ih x]
 | lt2 _ ih => intro x; rw [Fk, Fk, ih x]
 | fn1 _ ih => intro x; rw [Qo, Qo, ih x]
 | un1 _ ih => intro x; rw [Qp, Qp, ih x]
 | @nm1 o a b y h =>
  intro x; rw [F6, Fk, F6, occ_name]
  constructor
  ·rintro (h1 | h1)
   ·exact .inl h1
   ·exact .inr ⟨.inr h1, fun e => h (e ▸ h1)⟩
  ·rintro (h1 | ⟨h1 | h1, h2⟩)
   ·exact .inl h1
   ·exact absurd h1 h2
   ·exact .inr h1
 | @nm2 o a b y hb h =>
  intro x; rw [F6, Fk, F6, occ_name]
  constructor
  ·rintro (h1 | h1)
   ·exact .inr ⟨.inl h1, fun e => h (e ▸ h1)⟩
   ·exact .inl h1
  ·rintro (h1 | ⟨h1 | h1, h2⟩)
   ·exact .inr h1
   ·exact .inl h1
   ·exact absurd h1 h2
 | @nmi a b c y h h' =>
  intro x; rw [F7, Fk, F7, occ_name]
  constructor
  ·rintro (h1 | h1 | h1)
   ·exact .inl h1
   ·exact .inr ⟨.inr (.inl h1), fun e => h (e ▸ h1)⟩
   ·exact .inr ⟨.inr (.inr h1), fun e => h' (e ▸ h1)⟩
  ·rintro (h1 | ⟨h1 | h1 | h1, h2⟩)
   ·exact .inl h1
   ·exact absurd h1 h2
   ·exact .inr (.inl h1)
   ·exact .inr (.inr h1)
 | @nmu o a y =>
  intro x; rw [Qp, Fk, Qp, occ_name]
  constructor
  ·exact .inl
  ·rintro (h1 | ⟨h1, h2⟩)
   ·exact h1
   ·exact absurd h1 h2
 | @fl1 o y a b c h =>
  intro x; rw [F6, Fk, Fk, F6]
  constructor
  ·rintro ((h1 | h1) | h1)
   ·exact .inl h1
   ·exact .inr ⟨.inl h1.1, h1.2⟩
   ·exact .inr ⟨.inr h1, fun e => h (e ▸ h1)⟩
  ·rintro (h1 | ⟨h1 | h1, h2⟩)
   ·exact .inl (.inl h1)
   ·exact .inl (.inr ⟨h1, h2⟩)
   ·exact .inr h1
 | @fl2 o y a b c hb h =>
  intro x; rw [F6, Fk, Fk, F6]
  constructor
  ·rintro (h1 | h1 | h1)
   ·exact .inr ⟨.inl h1, fun e => h (e ▸ h1)⟩
   ·exact .inl h1
   ·exact .inr ⟨.inr h1.1, h1.2⟩
  ·rintro (h1 | ⟨h1 | h1, h2⟩)
   ·exact .inr (.inl h1)
   ·exact .inl h1
   ·exact .inr (.inr ⟨h1, h2⟩)
 | @fli y a b c d h h' =>
  intro x; rw [F7, Fk, Fk, F7]
  constructor
  ·rintro ((h1 | h1) | h1 | h1)
   ·exact .inl h1
   ·exact .inr ⟨.inl h1.1, h1.2⟩
   ·exact .inr ⟨.inr (.inl h1), fun e => h (e ▸ h1)⟩
   ·exact .inr ⟨.inr (.inr h1), fun e => h' (e ▸ h1)⟩
  ·rintro (h1 | ⟨h1 | h1 | h1, h2⟩)
   ·exact .inl (.inl h1)
   ·exact .inl (.inr ⟨h1, h2⟩)
   ·exact .inr (.inl h1)
   ·exact .inr (.inr h1)
 | @flu o y a b =>
  intro x; rw [Qp, Fk, Fk, Qp]
 | @fll x' y a b c h =>
  intro x; rw [Fk, Fk, Fk, Fk]
  constructor
  ·rintro ((h1 | h1) | h1)
   ·exact .inl h1
   ·exact .inr ⟨.inl h1.1, h1.2⟩
   ·exact .inr ⟨.inr h1, fun e => h (e ▸ h1.1)⟩
  ·rintro (h1 | ⟨h1 | h1, h2⟩)
   ·exact .inl (.inl h1)
   ·exact .inl (.inr ⟨h1, h2⟩)
   ·exact .inr h1
theorem Z4 {e : Ex} {l l' : List As} {m m' : List Ty} (h1 : l.length = m.length) (h2 : l'.length = m'.length) (h : ∀ x ∈ e.occ [], Fl l m x = Fl l' m' x) : e.ty l m = e.ty l' m' := by
 unfold Ex.ty; rw [Ex.chk_congr h1 h2 h]
theorem K6 {e : Ex} {l : List As} {m : List Ty} (hl : l.length = m.length) {y : As} (h : y ∉ e.occ []) (s : Ty) : e.ty (l ++ [y]) (m ++ [s]) = e.ty l m :=
 Z4 (by simp [hl]) hl fun x hx => by rw [Gh hl, if_neg (fun e : y = x => h (e ▸ hx))]
theorem Wk {l : List As} {m : List Ty} (hl : l.length = m.length) (y : As) (s : Ty) : (Ex.name y).ty (l ++ [y]) (m ++ [s]) = some s := by
 rw [ty_name, Gh hl, if_pos rfl]
theorem Z8 {α β γ : Type} (a : Option α) (b : Option β) (f : α → β → Option γ) : (a.bind fun x => b.bind fun y => f x y) = b.bind fun y => a.bind fun x => f x y := by
 cases a <;> cases b <;> rfl
theorem Ge {α β : Type} {a : Option α} {f g : α → Option β} (h : ∀ x, f x = g x) : a.bind f = a.bind g := by rw [show f = g from funext h]
theorem Eqv.ty {e e' : Ex} (h : Eqv e e') : ∀ {l : List As} {m : List Ty}, l.length = m.length → e.ty l m = e'.ty l m := by
 induction h with
 | refl e => exact fun _ => rfl
 | trans _ _ h1 h2 => exact fun hl => (h1 hl).trans (h2 hl)
 | bin1 _ ih => intro l m hl; rw [ty_bin, ty_bin, ih hl]
 | bin2 _ ih => intro l m hl; rw [ty_bin, ty_bin, ih hl]
 | ite1 _ ih => intro l m hl; rw [ty_ite, ty_ite, ih hl]
 | ite2 _ ih => intro l m hl; rw [ty_ite, ty_ite, ih hl]
 | ite3 _ ih => intro l m hl; rw [ty_ite, ty_ite, ih hl]
 | lt1 _ ih => intro l m hl; rw [ty_lt, ty_lt, ih hl]
 | lt2 _ ih => intro l m hl; rw [ty_lt, ty_lt]; exact Ge fun s => ih (by simp [hl])
 | fn1 _ ih => intro l m hl; rw [ty_fn, ty_fn, ih (by simp [hl])]
 | un1 _ ih => intro l m hl; rw [ty_un, ty_un, ih hl]
 | @nm1 o a b y h =>
  intro l m hl; rw [ty_bin, ty_lt]; refine Ge fun s => ?_
  rw [ty_bin, Wk hl, K6 hl h]; rfl
 | @nm2 o a b y hb h =>
  intro l m hl; rw [ty_bin, ty_lt, Z8]; refine Ge fun s => ?_
  rw [ty_bin, Wk hl, K6 hl h]; rfl
 | @nmi a b c y h h' =>
  intro l m hl; rw [ty_ite, ty_lt]; refine Ge fun s => ?_
  rw [ty_ite, Wk hl, K6 hl h, K6 hl h']; rfl
 | @nmu o a y =>
  intro l m hl; rw [ty_un, ty_lt]; refine Ge fun s => ?_
  rw [ty_un, Wk hl]; rfl
 | @fl1 o y a b c h =>
  intro l m hl; rw [ty_bin, ty_lt, ty_lt, Option.bind_assoc]; refine Ge fun s => ?_
  rw [ty_bin, K6 hl h]
 | @fl2 o y a b c hb h =>
  intro l m hl; rw [ty_bin, ty_lt, ty_lt]; rw [show ((b.ty l m).bind fun s => (Ex.bin o a c).ty (l ++ [y]) (m ++ [s])) = (b.ty l m).bind fun s => (a.ty l m).bind fun u => (c.ty (l ++ [y]) (m ++ [s])).bind fun v => o.ty u v from Ge fun s => by rw [ty_bin, K6 hl h]]
  cases b.ty l m with
  | none => cases a.ty l m <;> rfl
  | some s => rfl
 | @fli y a b c d h h' =>
  intro l m hl; rw [ty_ite, ty_lt, ty_lt, Option.bind_assoc]; refine Ge fun s => ?_
  rw [ty_ite, K6 hl h, K6 hl h']
 | @flu o y a b =>
  intro l m hl; rw [ty_un, ty_lt, ty_lt, Option.bind_assoc]; refine Ge fun s => ?_
  rw [ty_un]
 | @fll x y a b c h =>
  intro l m hl; rw [ty_lt, ty_lt, ty_lt, Option.bind_assoc]; refine Ge fun s => ?_
  rw [ty_lt]; refine Ge fun u => ?_
  refine Z4 (by simp [hl]) (by simp [hl]) fun z hz => ?_
  rw [Gh hl, Gh (by simp [hl]), Gh hl]
  by_cases e : y = z
  ·rw [if_pos e, if_pos e]
  ·rw [if_neg e, if_neg e, if_neg (fun e' : x = z => h (e' ▸ hz))]
def Ex.bs : Ex → List As
 | .num _ => []
 | .name _ => []
 | .bin _ a b => a.bs ++ b.bs
 | .ite a b c => a.bs ++ (b.bs ++ c.bs)
 | .lt x a b => x :: (a.bs ++ b.bs)
 | .fn f x _ _ b => f :: x :: b.bs
 | .un _ a => a.bs
theorem Aft {a b : List As} (ha : a.Nodup) (hb : b.Nodup) (h : ∀ x ∈ a, x ∉ b) : (a ++ b).Nodup := List.nodup_append.2 ⟨ha, hb, fun x hx y hy e => h x hx (e ▸ hy)⟩
theorem Rx {a b : List As} (h : (a ++ b).Nodup) : a.Nodup ∧ b.Nodup ∧ ∀ x ∈ a, x ∉ b := by
 obtain ⟨h1, h2, h3⟩ := List.nodup_append.1 h
 exact ⟨h1, h2, fun x hx hy => h3 x hx x hy rfl⟩
def plIn (av : List As) (l : List As) (n m : Nat) : Prop := l.Nodup ∧ ∀ s ∈ l, ∃ k, n ≤ k ∧ k < m ∧ s = nm 120 k ∧ s ∉ av
theorem plIn.app {av l l' : List As} {n m r : Nat} (h : plIn av l n m) (h' : plIn av l' m r) (hn : n ≤ m) (hm : m ≤ r) : plIn av (l ++ l') n r := by
 refine ⟨Aft h.1 h'.1 fun x hx hy => ?_, fun s hs => ?_⟩
 ·obtain ⟨k, k1, k2, k3, -⟩ := h.2 x hx; obtain ⟨j, j1, j2, j3, -⟩ := h'.2 x hy
  have := S4 (k3.symm.trans j3)
  omega
 ·rcases List.mem_append.1 hs with hs | hs
  ·obtain ⟨k, k1, k2, k3, k4⟩ := h.2 s hs; exact ⟨k, k1, by omega, k3, k4⟩
  ·obtain ⟨k, k1, k2, k3, k4⟩ := h'.2 s hs; exact ⟨k, by omega, k2, k3, k4⟩
theorem plIn.one {av : List As} {n k : Nat} (hk : n ≤ k) (ha : nm 120 k ∉ av) : plIn av [nm 120 k] n (k + 1) :=
 ⟨by simp, fun s hs => by rw [List.mem_singleton.1 hs]; exact ⟨k, hk, by omega, rfl, ha⟩⟩
theorem Ex.pl_bs (av : List As) : ∀ (e : Ex) (f t : List As) (n : Nat), plIn av (e.pl av f t n).1.bs n (e.pl av f t n).2
 | .num s, f, t, n => ⟨by simp [Ex.pl, Ex.bs], fun s hs => by simp [Ex.pl, Ex.bs] at hs⟩
 | .name s, f, t, n => ⟨by simp [Ex.pl, Ex.bs], fun s hs => by simp [Ex.pl, Ex.bs] at hs⟩
 | .bin o a b, f, t, n => (a.pl_bs av f t n).app (b.pl_bs av f t _) (a.pl_hits av f t n).1 (b.pl_hits av f t _).1
 | .ite a b c, f, t, n => (a.pl_bs av f t n).app ((b.pl_bs av f t _).app (c.pl_bs av f t _) (b.pl_hits av f t _).1 (c.pl_hits av f t _).1) (a.pl_hits av f t n).1 (Nat.le_trans (b.pl_hits av f t _).1 (c.pl_hits av f t _).1)
 | .lt x a b, f, t, n => by
  have h0 := D2 120 av n
  exact (plIn.one h0.2.1 h0.1).app ((a.pl_bs av f t _).app (b.pl_bs av _ _ _) (a.pl_hits av f t _).1 (b.pl_hits av _ _ _).1) (by omega) (Nat.le_trans (a.pl_hits av f t _).1 (b.pl_hits av _ _ _).1)
 | .fn g x s u b, f, t, n => by
  have h0 := D2 120 av n
  have h1 := D2 120 av (fr 120 av n + 1)
  exact (plIn.one h0.2.1 h0.1).app ((plIn.one h1.2.1 h1.1).app (b.pl_bs av _ _ _) (by omega) (b.pl_hits av _ _ _).1) (by omega) (Nat.le_trans (by omega) (b.pl_hits av _ _ _).1)
 | .un o a, f, t, n => a.pl_bs av f t n
theorem H9 : ∀ {e : Ex} {x : As}, x ∈ e.occ [] → x ∈ e.tree.atomL
 | .num s, x, h => by cases h
 | .name s, x, h => by rw [occ_name] at h; subst h; simp [Ex.tree, Tree.atomL]
 | .bin o a b, x, h => by
  simp only [Ex.tree, Tree.atomL, Dz, List.mem_append, List.mem_singleton, List.not_mem_nil, or_false]
  rcases F6.1 h with h | h
  ·exact .inr (.inl (H9 h))
  ·exact .inr (.inr (H9 h))
 | .ite a b c, x, h => by
  simp only [Ex.tree, Tree.atomL, Dz, List.mem_append, List.mem_singleton, List.not_mem_nil, or_false]
  rcases F7.1 h with h | h | h
  ·exact .inr (.inl (H9 h))
  ·exact .inr (.inr (.inl (H9 h)))
  ·exact .inr (.inr (.inr (H9 h)))
 | .lt y a b, x, h => by
  simp only [Ex.tree, Tree.atomL, Dz, List.mem_append, List.mem_singleton, List.not_mem_nil, or_false]
  rcases Fk.1 h with h | h
  ·exact .inr (.inr (.inl (H9 h)))
  ·exact .inr (.inr (.inr (H9 h.1)))
 | .fn f y s t b, x, h => by
  simp only [Ex.tree, Tree.atomL, Dz, List.mem_append, List.mem_singleton, List.not_mem_nil, or_false]
  exact .inr (.inr (.inr (.inr (.inr (H9 (Qo.1 h).1)))))
 | .un o a, x, h => by
  simp only [Ex.tree, Tree.atomL, Dz, List.mem_append, List.mem_singleton, List.not_mem_nil, or_false]
  exact .inr (H9 (show x ∈ a.occ [] from h))
theorem Jm : ∀ {e : Ex} {x : As}, x ∈ e.bs → x ∈ e.tree.atomL
 | .num s, x, h => by cases h
 | .name s, x, h => by cases h
 | .bin o a b, x, h => by
  simp only [Ex.tree, Tree.atomL, Dz, List.mem_append, List.mem_singleton, List.not_mem_nil, or_false]
  rcases List.mem_append.1 h with h | h
  ·exact .inr (.inl (Jm h))
  ·exact .inr (.inr (Jm h))
 | .ite a b c, x, h => by
  simp only [Ex.tree, Tree.atomL, Dz, List.mem_append, List.mem_singleton, List.not_mem_nil, or_false]
  rcases List.mem_append.1 h with h | h
  ·exact .inr (.inl (Jm h))
  ·rcases List.mem_append.1 h with h | h
   ·exact .inr (.inr (.inl (Jm h)))
   ·exact .inr (.inr (.inr (Jm h)))
 | .lt y a b, x, h => by
  simp only [Ex.tree, Tree.atomL, Dz, List.mem_append, List.mem_singleton, List.not_mem_nil, or_false]
  rcases List.mem_cons.1 h with h | h
  ·exact .inr (.inl h)
  ·rcases List.mem_append.1 h with h | h
   ·exact .inr (.inr (.inl (Jm h)))
   ·exact .inr (.inr (.inr (Jm h)))
 | .fn f y s t b, x, h => by
  simp only [Ex.tree, Tree.atomL, Dz, List.mem_append, List.mem_singleton, List.not_mem_nil, or_false]
  rcases List.mem_cons.1 h with h | h
  ·exact .inr (.inl h)
  ·rcases List.mem_cons.1 h with h | h
   ·exact .inr (.inr (.inl h))
   ·exact .inr (.inr (.inr (.inr (.inr (Jm h)))))
 | .un o a, x, h => by
  simp only [Ex.tree, Tree.atomL, Dz, List.mem_append, List.mem_singleton, List.not_mem_nil, or_false]
  exact .inr (Jm (show x ∈ a.bs from h))
structure Fit (tk : List As) (e : Ex) : Prop where
 nd : e.bs.Nodup
 sep : ∀ x ∈ e.bs, x ∉ e.occ []
 ob : ∀ x ∈ e.occ [], x ∈ tk
 bb : ∀ x ∈ e.bs, x ∈ tk
theorem Abb {e : Ex} (h : e.fine = true) : Fit e.tk e.plain := by
 have hb := Ex.pl_bs e.free e [] [] 0
 have hok : e.ok = true := by simp only [Ex.fine, Bool.and_eq_true] at h; exact h.1.1
 have hpo : e.plain.ok = true := by have := Gt h; simp only [Ex.fine, Bool.and_eq_true] at this; exact this.1.1
 have hf := (Ex.plain_as e).free hpo hok
 refine ⟨hb.1, fun x hx ho => ?_, fun x hx => Hm.2 (.inr (H9 hx)), fun x hx => Hm.2 (.inr (Jm hx))⟩; obtain ⟨k, -, -, -, h4⟩ := hb.2 x hx; rw [hf.2] at ho
 exact h4 (Ex.free_mem.2 ho)
def Ma (l : List (As × Ex)) : List As := l.map (·.1)
theorem Kt : ∀ (a b : List (As × Ex)) (e : Ex), Ft (a ++ b) e = Ft a (Ft b e)
 | [], b, e => rfl
 | p :: a, b, e => by simp only [List.cons_append, Ft, Kt a b e]
theorem Jt {e e' : Ex} (h : Eqv e e') : ∀ l : List (As × Ex), Eqv (Ft l e) (Ft l e')
 | [] => h
 | p :: l => .lt2 (Jt h l)
theorem Xn {e : Ex} {x : As} (h : x ∈ e.occ []) : ∀ l : List (As × Ex), x ∈ (Ft l e).occ [] ∨ x ∈ Ma l
 | [] => .inl h
 | p :: l => by
  rcases Xn h l with h1 | h1
  ·by_cases e : x = p.1
   ·exact .inr (by rw [e]; exact .head _)
   ·exact .inl (Fk.2 (.inr ⟨h1, e⟩))
  ·exact .inr (.tail _ h1)
theorem Ou {o : B5} {b : Ex} : ∀ (l : List (As × Ex)) (e : Ex), (∀ x ∈ Ma l, x ∉ b.occ []) → Eqv (.bin o (Ft l e) b) (Ft l (.bin o e b))
 | [], e, h => .refl _
 | p :: l, e, h => (Eqv.fl1 (h _ (.head _))).trans (.lt2 (Ou l e fun x hx => h x (.tail _ hx)))
theorem Ov {o : B5} {a : Ex} (hb : a.bare = true) : ∀ (l : List (As × Ex)) (e : Ex), (∀ x ∈ Ma l, x ∉ a.occ []) → Eqv (.bin o a (Ft l e)) (Ft l (.bin o a e))
 | [], e, h => .refl _
 | p :: l, e, h => (Eqv.fl2 hb (h _ (.head _))).trans (.lt2 (Ov hb l e fun x hx => h x (.tail _ hx)))
theorem Qa {c d : Ex} : ∀ (l : List (As × Ex)) (e : Ex), (∀ x ∈ Ma l, x ∉ c.occ [] ∧ x ∉ d.occ []) → Eqv (.ite (Ft l e) c d) (Ft l (.ite e c d))
 | [], e, h => .refl _
 | p :: l, e, h => (Eqv.fli (h _ (.head _)).1 (h _ (.head _)).2).trans (.lt2 (Qa l e fun x hx => h x (.tail _ hx)))
theorem Sr {o : U2} : ∀ (l : List (As × Ex)) (e : Ex), Eqv (.un o (Ft l e)) (Ft l (.un o e))
 | [], e => .refl _
 | p :: l, e => Eqv.flu.trans (.lt2 (Sr l e))
theorem W7 {y : As} {b : Ex} : ∀ (l : List (As × Ex)) (e : Ex), (∀ x ∈ Ma l, x ∉ b.occ []) → Eqv (.lt y (Ft l e) b) (Ft l (.lt y e b))
 | [], e, h => .refl _
 | p :: l, e, h => (Eqv.fll (h _ (.head _))).trans (.lt2 (W7 l e fun x hx => h x (.tail _ hx)))
theorem I5 (tk : List As) (p : MK) : (p.e.bare = true ∧ p.pt tk = p) ∨ (p.pt tk = ⟨.name (nm 121 (fr 121 tk p.n)), p.ns ++ [(nm 121 (fr 121 tk p.n), p.e)], fr 121 tk p.n + 1, p.g + 1⟩) := by
 unfold MK.pt
 by_cases h : p.e.bare = true
 ·exact .inl ⟨h, if_pos h⟩
 ·exact .inr (if_neg h)
theorem R1 (tk : List As) (p : MK) : (p.pt tk).e.bare = true := by
 rcases I5 tk p with ⟨h, e⟩ | e
 ·rw [e]; exact h
 ·rw [e]; rfl
theorem Pq (l : List (As × Ex)) (x : As) (e : Ex) : Ma (l ++ [(x, e)]) = Ma l ++ [x] := by simp [Ma]
theorem Aex {o : B5} {tk : List As} {a b : Ex} {p : MK} (h : Eqv a p.all) (hn : ∀ x ∈ Ma (p.pt tk).ns, x ∉ b.occ []) : Eqv (.bin o a b) (Ft (p.pt tk).ns (.bin o (p.pt tk).e b)) := by
 rcases I5 tk p with ⟨hb, e⟩ | e
 ·rw [e] at hn ⊢
  exact (Eqv.bin1 h).trans (Ou _ _ hn)
 ·rw [e] at hn ⊢
  simp only [Pq, List.mem_append, List.mem_singleton] at hn
  simp only [Kt]
  exact (Eqv.bin1 h).trans ((Ou _ _ fun x hx => hn x (.inl hx)).trans (Jt (.nm1 (hn _ (.inr rfl))) _))
theorem Aey {o : B5} {tk : List As} {a b : Ex} (ha : a.bare = true) {p : MK} (h : Eqv b p.all) (hn : ∀ x ∈ Ma (p.pt tk).ns, x ∉ a.occ []) : Eqv (.bin o a b) (Ft (p.pt tk).ns (.bin o a (p.pt tk).e)) := by
 rcases I5 tk p with ⟨hb, e⟩ | e
 ·rw [e] at hn ⊢
  exact (Eqv.bin2 h).trans (Ov ha _ _ hn)
 ·rw [e] at hn ⊢
  simp only [Pq, List.mem_append, List.mem_singleton] at hn
  simp only [Kt]
  exact (Eqv.bin2 h).trans ((Ov ha _ _ fun x hx => hn x (.inl hx)).trans (Jt (.nm2 ha (hn _ (.inr rfl))) _))
theorem Afw {tk : List As} {a b c : Ex} {p : MK} (h : Eqv a p.all) (hn : ∀ x ∈ Ma (p.pt tk).ns, x ∉ b.occ [] ∧ x ∉ c.occ []) : Eqv (.ite a b c) (Ft (p.pt tk).ns (.ite (p.pt tk).e b c)) := by
 rcases I5 tk p with ⟨hb, e⟩ | e
 ·rw [e] at hn ⊢
  exact (Eqv.ite1 h).trans (Qa _ _ hn)
 ·rw [e] at hn ⊢
  simp only [Pq, List.mem_append, List.mem_singleton] at hn
  simp only [Kt]
  exact (Eqv.ite1 h).trans ((Qa _ _ fun x hx => hn x (.inl hx)).trans (Jt (.nmi (hn _ (.inr rfl)).1 (hn _ (.inr rfl)).2) _))
theorem Agl {o : U2} {tk : List As} {a : Ex} {p : MK} (h : Eqv a p.all) : Eqv (.un o a) (Ft (p.pt tk).ns (.un o (p.pt tk).e)) := by
 rcases I5 tk p with ⟨hb, e⟩ | e
 ·rw [e]
  exact (Eqv.un1 h).trans (Sr _ _)
 ·rw [e]
  simp only [Kt]
  exact (Eqv.un1 h).trans ((Sr _ _).trans (Jt .nmu _))
theorem Afx {tk : List As} {a : Ex} {p : MK} (h : Eqv a p.all) {x : As} (hx : x ∈ (p.pt tk).e.occ []) : x ∈ a.occ [] ∨ x ∈ Ma (p.pt tk).ns := by
 rcases I5 tk p with ⟨hb, e⟩ | e
 ·rw [e] at hx ⊢
  exact (Xn hx p.ns).imp (fun h1 => (h.occ x).2 h1) id
 ·rw [e] at hx ⊢; rw [occ_name] at hx
  exact .inr (by rw [Pq, hx]; simp)
def mkIn (tk bs : List As) (n m : Nat) (x : As) : Prop := x ∈ bs ∨ ∃ j, n ≤ j ∧ j < m ∧ x = nm 121 j ∧ x ∉ tk
theorem mkIn.up {tk bs bs' : List As} {n m n' m' : Nat} {x : As} (h : mkIn tk bs n m x) (hb : ∀ y ∈ bs, y ∈ bs') (hn : n' ≤ n) (hm : m ≤ m') : mkIn tk bs' n' m' x := by
 rcases h with h | ⟨j, h1, h2, h3⟩
 ·exact .inl (hb x h)
 ·exact .inr ⟨j, by omega, by omega, h3⟩
theorem Adq (tk : List As) (p : MK) : p.n ≤ (p.pt tk).n := by
 rcases I5 tk p with ⟨hb, e⟩ | e
 ·rw [e]; exact Nat.le_refl _
 ·rw [e]; have := (D2 121 tk p.n).2.1; simp only; omega
theorem O4 {tk bs : List As} {n : Nat} {p : MK} (hn : n ≤ p.n) (h : ∀ x ∈ Ma p.ns, mkIn tk bs n p.n x) : ∀ x ∈ Ma (p.pt tk).ns, mkIn tk bs n (p.pt tk).n x := by
 intro x hx
 have hle := Adq tk p
 rcases I5 tk p with ⟨hb, e⟩ | e
 ·rw [e] at hx ⊢; exact h x hx
 ·have h0 := D2 121 tk p.n
  rw [e] at hx ⊢
  simp only [Pq, List.mem_append, List.mem_singleton] at hx
  rcases hx with hx | hx
  ·exact (h x hx).up (fun _ h => h) (Nat.le_refl _) Eo
  ·exact .inr ⟨_, by omega, by simp only; omega, hx, by rw [hx]; exact h0.1⟩
theorem Lh (tk : List As) : ∀ (e : Ex) (n : Nat), ∀ x ∈ Ma (e.mk tk n).ns, mkIn tk e.bs n (e.mk tk n).n x
 | .num s, n, x, hx => by cases hx
 | .name s, n, x, hx => by cases hx
 | .lt y a b, n, x, hx => by
  have h1 := (a.mk_hits tk n).1
  have h2 := (b.mk_hits tk (a.mk tk n).n).1
  have hx : x ∈ Ma ((a.mk tk n).ns ++ (y, (a.mk tk n).e) :: (b.mk tk (a.mk tk n).n).ns) := hx
  simp only [Ma, List.map_append, List.map_cons, List.mem_append, List.mem_cons] at hx
  rcases hx with hx | hx | hx
  ·exact (Lh tk a n x hx).up (fun z hz => .tail _ (List.mem_append_left _ hz)) (Nat.le_refl _) h2
  ·exact .inl (by rw [hx]; exact .head _)
  ·exact (Lh tk b _ x hx).up (fun z hz => .tail _ (List.mem_append_right _ hz)) h1 (Nat.le_refl _)
 | .fn f y s t b, n, x, hx => by cases hx
 | .ite a b c, n, x, hx => by
  have h1 := (a.mk_hits tk n).1
  have h2 := (b.mk_hits tk ((a.mk tk n).pt tk).n).1
  have h3 := (c.mk_hits tk (b.mk tk ((a.mk tk n).pt tk).n).n).1
  exact (O4 h1 (Lh tk a n) x hx).up (fun z hz => List.mem_append_left _ hz) (Nat.le_refl _) (Nat.le_trans h2 h3)
 | .bin o a b, n, x, hx => by
  have h1 := (a.mk_hits tk n).1
  have h2 := (b.mk_hits tk ((a.mk tk n).pt tk).n).1
  have h3 := Adq tk (b.mk tk ((a.mk tk n).pt tk).n)
  have h4 := Adq tk (a.mk tk n)
  have hx : x ∈ Ma (((a.mk tk n).pt tk).ns ++ ((b.mk tk ((a.mk tk n).pt tk).n).pt tk).ns) := hx
  simp only [Ma, List.map_append, List.mem_append] at hx
  rcases hx with hx | hx
  ·exact (O4 h1 (Lh tk a n) x hx).up (fun z hz => List.mem_append_left _ hz) (Nat.le_refl _) (Nat.le_trans h2 h3)
  ·exact (O4 h2 (Lh tk b _) x hx).up (fun z hz => List.mem_append_right _ hz) (Nat.le_trans h1 h4) (Nat.le_refl _)
 | .un o a, n, x, hx => O4 (a.mk_hits tk n).1 (Lh tk a n) x hx
theorem Lg (tk : List As) : ∀ (e : Ex) (n : Nat), Fit tk e → Eqv e (e.mk tk n).all
 | .num s, n, h => .refl _
 | .name s, n, h => .refl _
 | .fn f x s t b, n, h => by
  have hnd := h.nd
  simp only [Ex.bs, List.nodup_cons, List.mem_cons, not_or] at hnd
  refine .fn1 (Lg tk b n ⟨hnd.2.2, fun y hy ho => ?_, fun y hy => ?_, fun y hy => h.bb y (.tail _ (.tail _ hy))⟩)
  ·exact h.sep y (.tail _ (.tail _ hy)) (Qo.2 ⟨ho, fun e => hnd.1.2 (e ▸ hy), fun e => hnd.2.1 (e ▸ hy)⟩)
  ·by_cases e1 : y = f
   ·exact e1 ▸ h.bb f (.head _)
   ·by_cases e2 : y = x
    ·exact e2 ▸ h.bb x (.tail _ (.head _))
    ·exact h.ob y (Qo.2 ⟨hy, e1, e2⟩)
 | .lt x a b, n, h => by
  have hnd := h.nd
  simp only [Ex.bs, List.nodup_cons, List.mem_append, not_or] at hnd
  obtain ⟨⟨nxa, nxb⟩, hab⟩ := hnd; obtain ⟨na, nb, dab⟩ := Rx hab
  have fa : Fit tk a := ⟨na, fun y hy ho => h.sep y (.tail _ (List.mem_append_left _ hy)) (Fk.2 (.inl ho)), fun y hy => h.ob y (Fk.2 (.inl hy)), fun y hy => h.bb y (.tail _ (List.mem_append_left _ hy))⟩
  have ob : ∀ y ∈ b.occ [], y ∈ tk := fun y hy => by
   by_cases e1 : y = x
   ·exact e1 ▸ h.bb x (.head _)
   ·exact h.ob y (Fk.2 (.inr ⟨hy, e1⟩))
  have fb : Fit tk b := ⟨nb, fun y hy ho => h.sep y (.tail _ (List.mem_append_right _ hy)) (Fk.2 (.inr ⟨ho, fun e => nxb (e ▸ hy)⟩)), ob, fun y hy => h.bb y (.tail _ (List.mem_append_right _ hy))⟩
  have ia := Lg tk a n fa
  have ib := Lg tk b (a.mk tk n).n fb
  show Eqv (.lt x a b) (Ft ((a.mk tk n).ns ++ (x, (a.mk tk n).e) :: (b.mk tk (a.mk tk n).n).ns) (b.mk tk (a.mk tk n).n).e)
  rw [Kt]; refine (Eqv.lt1 ia).trans ((W7 _ _ fun y hy ho => ?_).trans (Jt (.lt2 ib) _))
  rcases Lh tk a n y hy with h1 | ⟨j, -, -, -, h4⟩
  ·exact h.sep y (.tail _ (List.mem_append_left _ h1)) (Fk.2 (.inr ⟨ho, fun e => nxa (e ▸ h1)⟩))
  ·exact h4 (ob y ho)
 | .ite a b c, n, h => by
  obtain ⟨na, nbc, dab⟩ := Rx (show (a.bs ++ (b.bs ++ c.bs)).Nodup from h.nd); obtain ⟨nb, nc, dbc⟩ := Rx nbc
  have fa : Fit tk a := ⟨na, fun y hy ho => h.sep y (List.mem_append_left _ hy) (F7.2 (.inl ho)), fun y hy => h.ob y (F7.2 (.inl hy)), fun y hy => h.bb y (List.mem_append_left _ hy)⟩
  have fb : Fit tk b := ⟨nb, fun y hy ho => h.sep y (List.mem_append_right _ (List.mem_append_left _ hy)) (F7.2 (.inr (.inl ho))), fun y hy => h.ob y (F7.2 (.inr (.inl hy))), fun y hy => h.bb y (List.mem_append_right _ (List.mem_append_left _ hy))⟩
  have fc : Fit tk c := ⟨nc, fun y hy ho => h.sep y (List.mem_append_right _ (List.mem_append_right _ hy)) (F7.2 (.inr (.inr ho))), fun y hy => h.ob y (F7.2 (.inr (.inr hy))), fun y hy => h.bb y (List.mem_append_right _ (List.mem_append_right _ hy))⟩
  have ia := Lg tk a n fa
  have ib := Lg tk b ((a.mk tk n).pt tk).n fb
  have ic := Lg tk c (b.mk tk ((a.mk tk n).pt tk).n).n fc
  refine (Afw (tk := tk) ia fun y hy => ?_).trans (Jt ((Eqv.ite2 ib).trans (.ite3 ic)) _)
  rcases O4 (a.mk_hits tk n).1 (Lh tk a n) y hy with h1 | ⟨j, -, -, -, h4⟩
  ·exact ⟨fun ho => h.sep y (List.mem_append_left _ h1) (F7.2 (.inr (.inl ho))), fun ho => h.sep y (List.mem_append_left _ h1) (F7.2 (.inr (.inr ho)))⟩
  ·exact ⟨fun ho => h4 (fb.ob y ho), fun ho => h4 (fc.ob y ho)⟩
 | .bin o a b, n, h => by
  obtain ⟨na, nb, dab⟩ := Rx (show (a.bs ++ b.bs).Nodup from h.nd)
  have fa : Fit tk a := ⟨na, fun y hy ho => h.sep y (List.mem_append_left _ hy) (F6.2 (.inl ho)), fun y hy => h.ob y (F6.2 (.inl hy)), fun y hy => h.bb y (List.mem_append_left _ hy)⟩
  have fb : Fit tk b := ⟨nb, fun y hy ho => h.sep y (List.mem_append_right _ hy) (F6.2 (.inr ho)), fun y hy => h.ob y (F6.2 (.inr hy)), fun y hy => h.bb y (List.mem_append_right _ hy)⟩
  have ia := Lg tk a n fa
  have ib := Lg tk b ((a.mk tk n).pt tk).n fb
  have ma := O4 (a.mk_hits tk n).1 (Lh tk a n)
  have mb := O4 (b.mk_hits tk ((a.mk tk n).pt tk).n).1 (Lh tk b ((a.mk tk n).pt tk).n)
  show Eqv (.bin o a b) (Ft (((a.mk tk n).pt tk).ns ++ ((b.mk tk ((a.mk tk n).pt tk).n).pt tk).ns) (.bin o ((a.mk tk n).pt tk).e ((b.mk tk ((a.mk tk n).pt tk).n).pt tk).e))
  rw [Kt]; refine (Aex (tk := tk) ia fun y hy ho => ?_).trans (Jt (Aey (tk := tk) (R1 _ _) ib fun y hy ho => ?_) _)
  ·rcases ma y hy with h1 | ⟨j, -, -, -, h4⟩
   ·exact h.sep y (List.mem_append_left _ h1) (F6.2 (.inr ho))
   ·exact h4 (fb.ob y ho)
  ·rcases Afx ia ho with h5 | h5
   ·rcases mb y hy with h1 | ⟨j, -, -, -, h4⟩
    ·exact h.sep y (List.mem_append_right _ h1) (F6.2 (.inl h5))
    ·exact h4 (fa.ob y h5)
   ·rcases mb y hy with h1 | ⟨j, j1, j2, j3, h4⟩
    ·rcases ma y h5 with h6 | ⟨i, -, -, -, h7⟩
     ·exact dab y h6 h1
     ·exact h7 (fb.bb y h1)
    ·rcases ma y h5 with h6 | ⟨i, i1, i2, i3, h7⟩
     ·exact h4 (fa.bb y h6)
     ·have := S4 (j3.symm.trans i3)
      omega
 | .un o a, n, h => Agl (tk := tk) (Lg tk a n ⟨h.nd, h.sep, h.ob, h.bb⟩)
theorem Y0 {e : Ex} (h : e.fine = true) : Eqv e.plain e.normal := Lg _ _ _ (Abb h)
theorem S0 : ∀ {l : List (As × Ex)} {e : Ex}, (∀ q ∈ l, q.2.norm false = true) → e.norm true = true → (Ft l e).norm true = true
 | [], e, _, h => h
 | p :: l, e, hl, h => by simp only [Ft, Ex.norm, Bool.true_and, hl p (.head _), S0 (fun q hq => hl q (.tail _ hq)) h, Bool.and_self]
theorem Aeu : ∀ {e : Ex}, e.norm false = true → e.norm true = true
 | .num s, h => rfl
 | .name s, h => rfl
 | .bin o a b, h => h
 | .ite a b c, h => h
 | .lt x a b, h => by simp [Ex.norm] at h
 | .fn f x s t b, h => h
 | .un o a, h => h
def mkN (p : MK) : Prop := (∀ q ∈ p.ns, q.2.norm false = true) ∧ p.e.norm false = true
theorem mkN.all {p : MK} (h : mkN p) : p.all.norm true = true := S0 h.1 (Aeu h.2)
theorem mkN.pt {p : MK} (h : mkN p) (tk : List As) : mkN (p.pt tk) := by
 rcases I5 tk p with ⟨hb, e⟩ | e
 ·rw [e]; exact h
 ·rw [e]; refine ⟨fun q hq => ?_, rfl⟩
  rcases List.mem_append.1 hq with hq | hq
  ·exact h.1 q hq
  ·rw [List.mem_singleton.1 hq]; exact h.2
theorem T6 (tk : List As) : ∀ (e : Ex) (n : Nat), mkN (e.mk tk n)
 | .num s, n => ⟨fun q hq => (by cases hq), rfl⟩
 | .name s, n => ⟨fun q hq => (by cases hq), rfl⟩
 | .lt y a b, n => by
  have h1 := T6 tk a n
  have h2 := T6 tk b (a.mk tk n).n
  refine ⟨fun q hq => ?_, h2.2⟩
  rcases List.mem_append.1 hq with hq | hq
  ·exact h1.1 q hq
  ·rcases List.mem_cons.1 hq with hq | hq
   ·rw [hq]; exact h1.2
   ·exact h2.1 q hq
 | .fn f y s t b, n => ⟨fun q hq => (by cases hq), (T6 tk b n).all⟩
 | .ite a b c, n => by
  have h1 := (T6 tk a n).pt tk
  refine ⟨h1.1, ?_⟩
  simp only [Ex.mk, Ex.norm, R1, (T6 tk b _).all, (T6 tk c _).all, Bool.and_self]
 | .bin o a b, n => by
  have h1 := (T6 tk a n).pt tk
  have h2 := (T6 tk b ((a.mk tk n).pt tk).n).pt tk
  refine ⟨fun q hq => ?_, ?_⟩
  ·rcases List.mem_append.1 hq with hq | hq
   ·exact h1.1 q hq
   ·exact h2.1 q hq
  ·simp only [Ex.mk, Ex.norm, R1, Bool.and_self]
 | .un o a, n => by
  have h1 := (T6 tk a n).pt tk
  exact ⟨h1.1, by simp only [Ex.mk, Ex.norm, R1]⟩
theorem Pr (e : Ex) : e.normal.norm true = true := (T6 _ _ _).all
def Tf (n : Int) : Int := (n + 500) % 1000 - 500
theorem U1 (n : Int) : -500 ≤ Tf n ∧ Tf n ≤ 499 := by unfold Tf; omega
def B5.calc (o : B5) (x y : Int) : Int := match o with
 | .add => x + y
 | .sub => x - y
 | _ => x * y
def B5.nums : B5 → Bool
 | .call => false
 | .pair => false
 | _ => true
def Abh (o : B5) (a b : As) : As := T4 (Tf (o.calc (Ku a) (Ku b)))
theorem X5 : ∀ k : Nat, k < 1000 → C4 (T4 ((k : Int) - 500)) = true ∧ Ku (T4 ((k : Int) - 500)) = (k : Int) - 500 := by decide +kernel
theorem Acu {n : Int} (h0 : -500 ≤ n) (h1 : n ≤ 499) : C4 (T4 n) = true ∧ Ku (T4 n) = n := by
 have := X5 (n + 500).toNat Aa
 rw [show ((n + 500).toNat : Int) - 500 = n by omega] at this
 exact this
theorem Adu (o : B5) (a b : As) : C4 (Abh o a b) = true ∧ Ku (Abh o a b) = Tf (o.calc (Ku a) (Ku b)) := Acu (U1 _).1 (U1 _).2
def Ex.turn : Ex → Option Ex
 | .bin .call (.fn f x s t b) v => some ((b.put f (.fn f x s t b)).put x v)
 | .bin o (.num a) (.num b) => if o.nums = true then some (.num (Abh o a b)) else none
 | .ite (.num a) b c => some (if a = [48] then b else c)
 | .lt x a b => some (b.put x a)
 | .un .fst (.bin .pair a b) => some a
 | .un .snd (.bin .pair a b) => some b
 | _ => none
def Ex.step : Ex → Option Ex
 | .bin o a b => if a.value = false then a.step.map fun c => .bin o c b else if b.value = false then b.step.map fun c => .bin o a c else (Ex.bin o a b).turn
 | .ite a b c => if a.value = false then a.step.map fun d => .ite d b c else (Ex.ite a b c).turn
 | .lt x a b => if a.value = false then a.step.map fun d => .lt x d b else (Ex.lt x a b).turn
 | .un o a => if a.value = false then a.step.map fun d => .un o d else (Ex.un o a).turn
 | _ => none
theorem Tm {o : B5} {a b e' : Ex} (h : (Ex.bin o a b).turn = some e') : (∃ f x s t c, o = .call ∧ a = .fn f x s t c ∧ e' = (c.put f (.fn f x s t c)).put x b) ∨ (∃ p q, o.nums = true ∧ a = .num p ∧ b = .num q ∧ e' = .num (Abh o p q)) := by
 cases a with
 | fn f x s t c =>
  cases o <;> first
   | (exact .inl ⟨f, x, s, t, c, rfl, rfl, (Option.some.inj h).symm⟩)
   | (cases b <;> cases h)
 | num p =>
  cases b with
  | num q =>
   have h : (if o.nums = true then some (Ex.num (Abh o p q)) else none) = some e' := by cases o <;> exact h
   split at h
   ·rename_i ho; exact .inr ⟨p, q, ho, rfl, rfl, (Option.some.inj h).symm⟩
   ·cases h
  | _ => cases o <;> cases h
 | _ => cases o <;> first | cases h | (cases b <;> cases h)
theorem Tn {a b c e' : Ex} (h : (Ex.ite a b c).turn = some e') : ∃ p, a = .num p ∧ e' = if p = [48] then b else c := by
 cases a <;> first | exact ⟨_, rfl, (Option.some.inj h).symm⟩ | cases h
def U2.pick (o : U2) (p q : Ex) : Ex := match o with
 | .fst => p
 | .snd => q
theorem Wi {o : U2} {a e' : Ex} (h : (Ex.un o a).turn = some e') : ∃ p q, a = .bin .pair p q ∧ e' = o.pick p q := by
 cases a with
 | bin k p q => cases k <;> cases o <;> first | exact ⟨p, q, rfl, (Option.some.inj h).symm⟩ | cases h
 | _ => cases o <;> cases h
theorem Ex.step_ok : ∀ {e e' : Ex}, e.ok = true → e.step = some e' → e'.ok = true
 | .num _, e', h, hs => by cases hs
 | .name _, e', h, hs => by cases hs
 | .fn _ _ _ _ _, e', h, hs => by cases hs
 | .bin o a b, e', h, hs => by
  simp only [Ex.ok, Bool.and_eq_true] at h
  simp only [Ex.step] at hs
  split at hs
  ·obtain ⟨c, hc, rfl⟩ := Option.map_eq_some_iff.1 hs
   simp only [Ex.ok, Bool.and_eq_true]; exact ⟨Ex.step_ok h.1 hc, h.2⟩
  ·split at hs
   ·obtain ⟨c, hc, rfl⟩ := Option.map_eq_some_iff.1 hs
    simp only [Ex.ok, Bool.and_eq_true]; exact ⟨h.1, Ex.step_ok h.2 hc⟩
   ·rcases Tm hs with ⟨f, x, s, t, c, rfl, rfl, rfl⟩ | ⟨p, q, ho, rfl, rfl, rfl⟩
    ·have hc : c.ok = true := by have := h.1; simp only [Ex.ok, Bool.and_eq_true] at this; exact this.2
     exact Ex.put_ok (Ex.put_ok hc h.1) h.2
    ·exact (Adu o p q).1
 | .ite a b c, e', h, hs => by
  simp only [Ex.ok, Bool.and_eq_true] at h
  simp only [Ex.step] at hs
  split at hs
  ·obtain ⟨d, hd, rfl⟩ := Option.map_eq_some_iff.1 hs
   simp only [Ex.ok, Bool.and_eq_true]; exact ⟨⟨Ex.step_ok h.1.1 hd, h.1.2⟩, h.2⟩
  ·obtain ⟨p, rfl, rfl⟩ := Tn hs
   split
   ·exact h.1.2
   ·exact h.2
 | .lt x a b, e', h, hs => by
  simp only [Ex.ok, Bool.and_eq_true] at h
  simp only [Ex.step] at hs
  split at hs
  ·obtain ⟨d, hd, rfl⟩ := Option.map_eq_some_iff.1 hs
   simp only [Ex.ok, Bool.and_eq_true]; exact ⟨⟨h.1.1, Ex.step_ok h.1.2 hd⟩, h.2⟩
  ·obtain rfl := (Option.some.inj hs).symm
   exact Ex.put_ok h.2 h.1.2
 | .un o a, e', h, hs => by
  have h1 : a.ok = true := h
  simp only [Ex.step] at hs
  split at hs
  ·obtain ⟨d, hd, rfl⟩ := Option.map_eq_some_iff.1 hs
   show d.ok = true
   exact Ex.step_ok h1 hd
  ·obtain ⟨p, q, rfl, rfl⟩ := Wi hs
   simp only [Ex.ok, Bool.and_eq_true] at h1
   cases o
   ·exact h1.1
   ·exact h1.2
theorem G7 {a b : List As} (h : a ++ b = []) : a = [] ∧ b = [] := List.append_eq_nil_iff.1 h
theorem S7 {e : Ex} {bd : List As} : e.occ bd = [] ↔ ∀ x ∈ e.occ [], x ∈ bd := by
 rw [Ex.occ_filter, List.filter_eq_nil_iff]
 constructor
 ·intro h x hx; have := h x hx; simpa using this
 ·intro h x hx; simpa using h x hx
theorem Ex.step_closed : ∀ {e e' : Ex}, e.occ [] = [] → e.step = some e' → e'.occ [] = []
 | .num _, e', h, hs => by cases hs
 | .name _, e', h, hs => by cases hs
 | .fn _ _ _ _ _, e', h, hs => by cases hs
 | .bin o a b, e', h, hs => by
  obtain ⟨h1, h2⟩ := G7 (show a.occ [] ++ b.occ [] = [] from h)
  simp only [Ex.step] at hs
  split at hs
  ·obtain ⟨c, hc, rfl⟩ := Option.map_eq_some_iff.1 hs
   simp only [Ex.occ, Ex.step_closed h1 hc, h2, List.append_nil]
  ·split at hs
   ·obtain ⟨c, hc, rfl⟩ := Option.map_eq_some_iff.1 hs
    simp only [Ex.occ, Ex.step_closed h2 hc, h1, List.append_nil]
   ·rcases Tm hs with ⟨f, x, s, t, c, rfl, rfl, rfl⟩ | ⟨p, q, ho, rfl, rfl, rfl⟩
    ·have hc : ∀ y ∈ c.occ [], y ∈ [f, x] := S7.1 (show c.occ ([] ++ [f, x]) = [] from h1)
     rw [List.eq_nil_iff_forall_not_mem]; intro y hy; obtain ⟨hy, hx⟩ := (Ex.put_occ h2).1 hy; obtain ⟨hy, hf⟩ := (Ex.put_occ h1).1 hy
     have := hc y hy
     simp only [List.mem_cons, List.not_mem_nil, or_false] at this
     exact this.elim hf hx
    ·rfl
 | .ite a b c, e', h, hs => by
  obtain ⟨h1, h3⟩ := G7 (show (a.occ [] ++ b.occ []) ++ c.occ [] = [] from h); obtain ⟨h1, h2⟩ := G7 h1
  simp only [Ex.step] at hs
  split at hs
  ·obtain ⟨d, hd, rfl⟩ := Option.map_eq_some_iff.1 hs
   simp only [Ex.occ, Ex.step_closed h1 hd, h2, h3, List.append_nil]
  ·obtain ⟨p, rfl, rfl⟩ := Tn hs
   split
   ·exact h2
   ·exact h3
 | .lt x a b, e', h, hs => by
  obtain ⟨h1, h2⟩ := G7 (show a.occ [] ++ b.occ ([] ++ [x]) = [] from h)
  simp only [Ex.step] at hs
  split at hs
  ·obtain ⟨d, hd, rfl⟩ := Option.map_eq_some_iff.1 hs
   simp only [Ex.occ, Ex.step_closed h1 hd, List.nil_append]; exact h2
  ·obtain rfl := (Option.some.inj hs).symm
   have hc := S7.1 h2
   rw [List.eq_nil_iff_forall_not_mem]; intro y hy; obtain ⟨hy, hx⟩ := (Ex.put_occ h1).1 hy
   have := hc y hy
   simp only [List.nil_append, List.mem_cons, List.not_mem_nil, or_false] at this
   exact hx this
 | .un o a, e', h, hs => by
  have h : a.occ [] = [] := h
  simp only [Ex.step] at hs
  split at hs
  ·obtain ⟨d, hd, rfl⟩ := Option.map_eq_some_iff.1 hs
   show d.occ [] = []
   exact Ex.step_closed h hd
  ·obtain ⟨p, q, rfl, rfl⟩ := Wi hs; obtain ⟨h1, h2⟩ := G7 (show p.occ [] ++ q.occ [] = [] from h)
   cases o
   ·exact h1
   ·exact h2
def Ex.go (e : Ex) : Option Ex := if e.value = true then none else e.step.bind fun e' => if e'.fine = true then some e' else none
def Aha (s : As) : Option As := (Ho s).bind fun e => e.go.map fun e' => e'.tree.text
def Agz (s : As) : Bool := match Ho s with
 | some e => !e.value && e.step.isNone
 | none => false
def Ex.goes (e : Ex) : Nat → Ex × Nat
 | 0 => (e, 0)
 | n + 1 => match e.go with
  | some e' => ((e'.goes n).1, (e'.goes n).2 + 1)
  | none => (e, 0)
theorem Ze {e : Ex} {l : List As} {m : List Ty} {t : Ty} : e.ty l m = some t ↔ e.chk l m = .ok t := by
 unfold Ex.ty
 cases e.chk l m with
 | ok u => simp
 | error x => simp
theorem Ad1 {e : Ex} (h : e.occ [] = []) {l l' : List As} {m m' : List Ty} (hl : l.length = m.length) (hl' : l'.length = m'.length) : e.ty l m = e.ty l' m' := by
 unfold Ex.ty
 rw [Ex.chk_congr (l' := l') (m' := m') hl hl' (fun x hx => by rw [h] at hx; cases hx)]
theorem Y7 {e v : Ex} {n : As} {k t : Ty} {l : List As} {m : List Ty} (hl : l.length = m.length) (hv : v.ty [] [] = some k) (hn : Fl l m n = some k) (he : e.ty l m = some t) : (e.put n v).ty l m = some t :=
 Ze.2 (Ex.put_chk hl (Ze.1 hv) hn (Ze.1 he))
theorem R2 {e e' : Ex} {t : Ty} (hok : e.ok = true) (hc : e.occ [] = []) (hs : e.turn = some e') (hs' : e'.occ [] = []) (h : e.ty [] [] = some t) : e'.ty [] [] = some t := by
 cases e with
 | num s => cases hs
 | name s => cases hs
 | fn f x s u b => cases hs
 | bin o a b =>
  simp only [Ex.ok, Bool.and_eq_true] at hok
  rw [ty_bin] at h; obtain ⟨p, hp, h'⟩ := Option.bind_eq_some_iff.1 h; clear h; have h := h'; clear h'; obtain ⟨q, hq, h'⟩ := Option.bind_eq_some_iff.1 h; clear h; have h := h'; clear h'
  rcases Tm hs with ⟨f, x, s, u, c, rfl, rfl, rfl⟩ | ⟨y, z, ho, rfl, rfl, rfl⟩
  ·have hpf := hp
   rw [ty_fn] at hp
   split at hp
   ·rename_i hsz
    obtain ⟨r, hr, hp⟩ := Option.bind_eq_some_iff.1 hp
    split at hp
    ·rename_i hru
     subst hru; obtain rfl := Option.some.inj hp
     replace h : (if s = q then some r else none) = some t := h
     split at h
     ·rename_i hsq
      subst hsq; obtain rfl := Option.some.inj h
      have hfx : f ≠ x := by
       have := hok.1
       simp only [Ex.ok, Bool.and_eq_true, decide_eq_true_eq] at this
       exact this.1.1.1.2
      have h1 := Y7 (n := f) (l := [] ++ [f, x]) (m := [] ++ [.fn s r, s]) rfl hpf (by rw [Jx rfl, if_neg (Ne.symm hfx), if_pos rfl]) hr
      have h2 := Y7 (n := x) (l := [] ++ [f, x]) (m := [] ++ [.fn s r, s]) rfl hq (by rw [Jx rfl, if_pos rfl]) h1
      rw [Ad1 hs' (l' := [] ++ [f, x]) (m' := [] ++ [.fn s r, s]) rfl rfl]; exact h2
     ·cases h
    ·cases hp
   ·cases hp
  ·have ht : t = .i := by
    cases o <;> first | (cases ho; done) | skip
    all_goals
     replace h : (if p = .i ∧ q = .i then some Ty.i else none) = some t := h
     split at h
     ·exact (Option.some.inj h).symm
     ·cases h
   rw [ht]; rfl
 | ite a b c =>
  rw [ty_ite] at h; obtain ⟨p, hp, h'⟩ := Option.bind_eq_some_iff.1 h; clear h; have h := h'; clear h'; obtain ⟨q, hq, h'⟩ := Option.bind_eq_some_iff.1 h; clear h; have h := h'; clear h'; obtain ⟨r, hr, h'⟩ := Option.bind_eq_some_iff.1 h; clear h; have h := h'; clear h'
  split at h
  ·rename_i hi
   obtain rfl := Option.some.inj h; obtain ⟨y, rfl, rfl⟩ := Tn hs
   split
   ·exact hq
   ·rw [hi.2]; exact hr
  ·cases h
 | lt x a b =>
  rw [ty_lt] at h; obtain ⟨p, hp, h'⟩ := Option.bind_eq_some_iff.1 h; clear h; have h := h'; clear h'; obtain rfl := (Option.some.inj hs).symm
  have h1 := Y7 (n := x) (l := [] ++ [x]) (m := [] ++ [p]) rfl hp (by rw [Gh rfl, if_pos rfl]) h
  rw [Ad1 hs' (l' := [] ++ [x]) (m' := [] ++ [p]) rfl rfl]; exact h1
 | un o a =>
  rw [ty_un] at h; obtain ⟨p, hp, h'⟩ := Option.bind_eq_some_iff.1 h; clear h; have h := h'; clear h'; obtain ⟨y, z, rfl, rfl⟩ := Wi hs; rw [ty_bin] at hp; obtain ⟨q, hq, hp⟩ := Option.bind_eq_some_iff.1 hp; obtain ⟨r, hr, hp⟩ := Option.bind_eq_some_iff.1 hp
  have hp : (if (Ty.pr q r).size ≤ 16 then some (Ty.pr q r) else none) = some p := hp
  split at hp
  ·obtain rfl := Option.some.inj hp
   cases o with
   | fst => obtain rfl := Option.some.inj (show some q = some t from h); exact hq
   | snd => obtain rfl := Option.some.inj (show some r = some t from h); exact hr
  ·cases hp
theorem Jj : ∀ {e e' : Ex} {t : Ty}, e.ok = true → e.occ [] = [] → e.step = some e' → e.ty [] [] = some t → e'.ty [] [] = some t
 | .num _, e', t, hok, hc, hs, h => by cases hs
 | .name _, e', t, hok, hc, hs, h => by cases hs
 | .fn _ _ _ _ _, e', t, hok, hc, hs, h => by cases hs
 | .bin o a b, e', t, hok, hc, hs, h => by
  have hs0 := hs
  have hok0 := hok
  obtain ⟨h1, h2⟩ := G7 (show a.occ [] ++ b.occ [] = [] from hc)
  simp only [Ex.ok, Bool.and_eq_true] at hok
  simp only [Ex.step] at hs
  split at hs
  ·obtain ⟨c, hd, rfl⟩ := Option.map_eq_some_iff.1 hs; rw [ty_bin] at h ⊢; obtain ⟨p, hp, h'⟩ := Option.bind_eq_some_iff.1 h; clear h; have h := h'; clear h'; rw [Jj hok.1 h1 hd hp]; exact h
  ·split at hs
   ·obtain ⟨c, hd, rfl⟩ := Option.map_eq_some_iff.1 hs; rw [ty_bin] at h ⊢; obtain ⟨p, hp, h'⟩ := Option.bind_eq_some_iff.1 h; clear h; have h := h'; clear h'; obtain ⟨q, hq, h'⟩ := Option.bind_eq_some_iff.1 h; clear h; have h := h'; clear h'; rw [hp, Option.bind_some, Jj hok.2 h2 hd hq]; exact h
   ·exact R2 hok0 hc hs (Ex.step_closed hc hs0) h
 | .ite a b c, e', t, hok, hc, hs, h => by
  have hs0 := hs
  have hok0 := hok
  obtain ⟨h1, h3⟩ := G7 (show (a.occ [] ++ b.occ []) ++ c.occ [] = [] from hc); obtain ⟨h1, h2⟩ := G7 h1
  simp only [Ex.ok, Bool.and_eq_true] at hok
  simp only [Ex.step] at hs
  split at hs
  ·obtain ⟨d, hd, rfl⟩ := Option.map_eq_some_iff.1 hs; rw [ty_ite] at h ⊢; obtain ⟨p, hp, h'⟩ := Option.bind_eq_some_iff.1 h; clear h; have h := h'; clear h'; rw [Jj hok.1.1 h1 hd hp]; exact h
  ·exact R2 hok0 hc hs (Ex.step_closed hc hs0) h
 | .lt x a b, e', t, hok, hc, hs, h => by
  have hs0 := hs
  have hok0 := hok
  obtain ⟨h1, h2⟩ := G7 (show a.occ [] ++ b.occ ([] ++ [x]) = [] from hc)
  simp only [Ex.ok, Bool.and_eq_true] at hok
  simp only [Ex.step] at hs
  split at hs
  ·obtain ⟨d, hd, rfl⟩ := Option.map_eq_some_iff.1 hs; rw [ty_lt] at h ⊢; obtain ⟨p, hp, h'⟩ := Option.bind_eq_some_iff.1 h; clear h; have h := h'; clear h'; rw [Jj hok.1.2 h1 hd hp]; exact h
  ·exact R2 hok0 hc hs (Ex.step_closed hc hs0) h
 | .un o a, e', t, hok, hc, hs, h => by
  have hs0 := hs
  have hok0 := hok
  have h1 : a.occ [] = [] := hc
  have hok1 : a.ok = true := hok
  simp only [Ex.step] at hs
  split at hs
  ·obtain ⟨d, hd, rfl⟩ := Option.map_eq_some_iff.1 hs; rw [ty_un] at h ⊢; obtain ⟨p, hp, h'⟩ := Option.bind_eq_some_iff.1 h; clear h; have h := h'; clear h'; rw [Jj hok1 h1 hd hp]; exact h
  ·exact R2 hok0 hc hs (Ex.step_closed hc hs0) h
theorem Zg : ∀ {e : Ex}, e.value = true → e.step = none
 | .num _, h => rfl
 | .name _, h => rfl
 | .fn _ _ _ _ _, h => rfl
 | .bin o a b, h => by
  cases o <;> first | (cases h; done) | skip
  simp only [Ex.value, Bool.and_eq_true] at h
  simp only [Ex.step, h.1, h.2, Bool.true_eq_false, if_false]
  cases a with
  | num p => cases b <;> rfl
  | _ => rfl
def Ahh (s : As) (n : Int) : Option (As × Nat) := if 0 ≤ n ∧ n ≤ 500 then (Ho s).map fun e => ((e.goes n.toNat).1.tree.text, (e.goes n.toNat).2) else none
mutual
inductive KV where
 | num (s : As)
 | pair (a b : KV)
 | clo (f x : As) (s t : Ty) (b : Ex) (r : KE)
inductive KE where
 | nil
 | cons (n : As) (v : KV) (up : KE)
end
def KE.look : KE → As → Option KV
 | .nil, _ => none
 | .cons m v up, n => if m = n then some v else up.look n
structure Res where
 v : Option KV
 left : Nat
 stuck : Bool
def B5.act : B5 → KV → KV → Option KV
 | .pair, u, w => some (.pair u w)
 | .call, _, _ => none
 | o, .num a, .num b => some (.num (Abh o a b))
 | _, _, _ => none
def U2.act : U2 → KV → Option KV
 | .fst, .pair a _ => some a
 | .snd, .pair _ b => some b
 | _, _ => none
def Res.of (o : Option KV) (n : Nat) : Res := ⟨o, n, o.isNone⟩
def ev : Nat → Nat → Ex → KE → Res
 | 0, _, _, _ => ⟨none, 0, false⟩
 | _ + 1, 0, _, _ => ⟨none, 0, false⟩
 | _ + 1, n + 1, .num s, _ => ⟨some (.num s), n, false⟩
 | _ + 1, n + 1, .name s, k => ⟨k.look s, n, false⟩
 | _ + 1, n + 1, .fn f x s t b, k => ⟨some (.clo f x s t b k), n, false⟩
 | N + 1, n + 1, .bin o a b, k =>
  match (ev N n a k).v with
  | none => ev N n a k
  | some u => match (ev N (ev N n a k).left b k).v with
   | none => ev N (ev N n a k).left b k
   | some w => match o, u with
    | .call, .clo f x s t c r => ev N (ev N (ev N n a k).left b k).left c (.cons x w (.cons f (.clo f x s t c r) r))
    | o, u => .of (o.act u w) (ev N (ev N n a k).left b k).left
 | N + 1, n + 1, .ite a b c, k =>
  match (ev N n a k).v with
  | none => ev N n a k
  | some (.num s) => ev N (ev N n a k).left (if s = [48] then b else c) k
  | some _ => ⟨none, (ev N n a k).left, true⟩
 | N + 1, n + 1, .lt x a b, k =>
  match (ev N n a k).v with
  | none => ev N n a k
  | some u => ev N (ev N n a k).left b (.cons x u k)
 | N + 1, n + 1, .un o a, k =>
  match (ev N n a k).v with
  | none => ev N n a k
  | some u => .of (o.act u) (ev N n a k).left
def eval (n : Nat) (e : Ex) (k : KE) : Res := ev (n + 1) n e k
mutual
def KV.ex : KV → Ex
 | .num s => .num s
 | .pair a b => .bin .pair a.ex b.ex
 | .clo f x s t b r => .fn f x s t (r.cl [f, x] b)
def KE.cl : KE → List As → Ex → Ex
 | .nil, _, e => e
 | .cons n v up, bd, e => up.cl bd (e.putIf n v.ex bd)
end
def KE.dom : KE → List As
 | .nil => []
 | .cons n _ up => n :: up.dom
mutual
def KV.wf : KV → Prop
 | .num s => C4 s = true
 | .pair a b => a.wf ∧ b.wf
 | .clo f x s t b r => r.wf ∧ (Ex.fn f x s t b).ok = true ∧ ∀ y ∈ b.occ [], y ∈ [f, x] ∨ y ∈ r.dom
def KE.wf : KE → Prop
 | .nil => True
 | .cons n v up => B0 n = true ∧ v.wf ∧ up.wf
end
mutual
theorem KV.closed : ∀ {v : KV}, v.wf → v.ex.occ [] = [] ∧ v.ex.value = true ∧ v.ex.ok = true
 | .num s, h => ⟨rfl, rfl, h⟩
 | .pair a b, h => by
  have h1 := KV.closed h.1
  have h2 := KV.closed h.2
  exact ⟨by simp only [KV.ex, Ex.occ, h1.1, h2.1, List.append_nil], by simp only [KV.ex, Ex.value, h1.2.1, h2.2.1, Bool.and_self], by simp only [KV.ex, Ex.ok, h1.2.2, h2.2.2, Bool.and_self]⟩
 | .clo f x s t b r, h => by
  have hok := h.2.1
  simp only [Ex.ok, Bool.and_eq_true] at hok
  obtain ⟨h1, h2⟩ := KE.closed h.1 [f, x] b hok.2; refine ⟨?_, rfl, ?_⟩
  ·show (r.cl [f, x] b).occ ([] ++ [f, x]) = []
   rw [S7]; intro y hy; obtain ⟨hy1, hy2⟩ := h1 y hy
   rcases h.2.2 y hy1 with h3 | h3
   ·exact h3
   ·rcases hy2 with h4 | h4
    ·exact h4
    ·exact absurd h3 h4
  ·simp only [KV.ex, Ex.ok, Bool.and_eq_true]
   exact ⟨hok.1, h2⟩
theorem KE.closed : ∀ {r : KE}, r.wf → ∀ (bd : List As) (e : Ex), e.ok = true → (∀ y ∈ (r.cl bd e).occ [], y ∈ e.occ [] ∧ (y ∈ bd ∨ y ∉ r.dom)) ∧ (r.cl bd e).ok = true
 | .nil, _, bd, e, he => ⟨fun y hy => ⟨hy, .inr (by simp [KE.dom])⟩, he⟩
 | .cons n v up, h, bd, e, he => by
  have hv := KV.closed h.2.1
  have hok : (e.putIf n v.ex bd).ok = true := by
   unfold Ex.putIf
   split
   ·exact he
   ·exact Ex.put_ok he hv.2.2
  obtain ⟨h1, h2⟩ := KE.closed h.2.2 bd (e.putIf n v.ex bd) hok; refine ⟨fun y hy => ?_, h2⟩; obtain ⟨h3, h4⟩ := h1 y hy
  by_cases hn : n ∈ bd
  ·rw [Xz hn] at h3; refine ⟨h3, ?_⟩
   rcases h4 with h4 | h4
   ·exact .inl h4
   ·by_cases hyn : y = n
    ·exact .inl (hyn ▸ hn)
    ·exact .inr (by simp only [KE.dom, List.mem_cons, not_or]; exact ⟨hyn, h4⟩)
  ·rw [Ly hn] at h3; obtain ⟨h5, h6⟩ := (Ex.put_occ hv.1).1 h3; refine ⟨h5, ?_⟩
   rcases h4 with h4 | h4
   ·exact .inl h4
   ·exact .inr (by simp only [KE.dom, List.mem_cons, not_or]; exact ⟨h6, h4⟩)
end
inductive Goes : Ex → Ex → Prop
 | refl {e : Ex} : Goes e e
 | next {e d f : Ex} : e.step = some d → Goes d f → Goes e f
theorem Goes.trans {a b c : Ex} (h : Goes a b) (h' : Goes b c) : Goes a c := by
 induction h with
 | refl => exact h'
 | next hs _ ih => exact .next hs (ih h')
theorem Th {e d : Ex} (h : e.step = some d) : e.value = false := by
 cases hv : e.value with
 | false => rfl
 | true => rw [Zg hv] at h; cases h
theorem Goes.bin1 {o : B5} {a a' b : Ex} (h : Goes a a') : Goes (.bin o a b) (.bin o a' b) := by
 induction h with
 | refl => exact .refl
 | next hs _ ih => exact .next Nj ih
theorem Goes.bin2 {o : B5} {a b b' : Ex} (ha : a.value = true) (h : Goes b b') : Goes (.bin o a b) (.bin o a b') := by
 induction h with
 | refl => exact .refl
 | next hs _ ih => exact .next (by simp only [Ex.step, ha, Bool.true_eq_false, if_false, Th hs, if_true, hs, Option.map_some]) ih
theorem Goes.ite1 {a a' b c : Ex} (h : Goes a a') : Goes (.ite a b c) (.ite a' b c) := by
 induction h with
 | refl => exact .refl
 | next hs _ ih => exact .next Nj ih
theorem Goes.lt1 {x : As} {a a' b : Ex} (h : Goes a a') : Goes (.lt x a b) (.lt x a' b) := by
 induction h with
 | refl => exact .refl
 | next hs _ ih => exact .next Nj ih
theorem Goes.un1 {o : U2} {a a' : Ex} (h : Goes a a') : Goes (.un o a) (.un o a') := by
 induction h with
 | refl => exact .refl
 | next hs _ ih => exact .next Nj ih
theorem Goes.end {e v d : Ex} (h : Goes e v) (hv : v.step = none) (h' : Goes e d) (hd : d.step = none) : v = d := by
 induction h with
 | refl =>
  cases h' with
  | refl => rfl
  | next hs _ => rw [hv] at hs; cases hs
 | next hs _ ih =>
  cases h' with
  | refl => rw [hd] at hs; cases hs
  | next hs' h2 =>
   rw [hs] at hs'; obtain rfl := Option.some.inj hs'
   exact ih hv h2
def Ex.jam (e : Ex) : Prop := e.value = false ∧ e.step = none
def Res.says (r : Res) (e : Ex) : Prop := match r.v with
 | some w => w.wf ∧ Goes e w.ex ∧ r.stuck = false
 | none => r.stuck = true → ∃ d, Goes e d ∧ d.jam
theorem Res.says.from {r : Res} {e e' : Ex} (h : r.says e') (hg : Goes e e') : r.says e := by
 unfold Res.says at h ⊢
 split at h
 ·exact ⟨h.1, hg.trans h.2.1, h.2.2⟩
 ·intro hs; obtain ⟨d, h1, h2⟩ := h hs; exact ⟨d, hg.trans h1, h2⟩
theorem Res.says.up {r : Res} {e e' : Ex} (hn : r.v = none) (h : r.says e') (hg : ∀ d, Goes e' d → d.jam → ∃ d', Goes e d' ∧ d'.jam) : r.says e := by
 unfold Res.says at h ⊢
 rw [hn] at h ⊢; intro hs; obtain ⟨d, h1, h2⟩ := h hs
 exact hg d h1 h2
theorem Res.says.some {r : Res} {e : Ex} {w : KV} (hn : r.v = Option.some w) (h : r.says e) : w.wf ∧ Goes e w.ex := by
 unfold Res.says at h
 rw [hn] at h
 exact ⟨h.1, h.2.1⟩
def Res.fin (r : Res) : Prop := r.v ≠ none ∨ r.stuck = true
def Ag0 (o : B5) (u w : KV) (q : Nat) : Res := match o, u with
 | .call, .clo f x s t c r => eval q c (.cons x w (.cons f (.clo f x s t c r) r))
 | o, u => .of (o.act u w) q
def Res.at (r : Res) (n m : Nat) : Res := ⟨r.v, m + r.left - n, r.stuck⟩
def Ex.kv (k : KE) : Ex → KV
 | .num s => .num s
 | .bin _ a b => .pair (a.kv k) (b.kv k)
 | .fn f x s t b => .clo f x s t b k
 | _ => .num []
def Ex.cost : Ex → Nat
 | .bin _ a b => 1 + a.cost + b.cost
 | _ => 1
def KV.show : KV → As
 | .num s => s
 | .pair a b => [40, 112, 97, 105, 114, 32] ++ a.show ++ [32] ++ b.show ++ [41]
 | .clo _ _ _ _ _ _ => [102, 117, 110]
def KV.wr (m : Nat) : KV → As → As
 | .num s, o => if m < o.length then o else o ++ s
 | .pair a b, o => if m < o.length then o else b.wr m (a.wr m (o ++ [40, 112, 97, 105, 114, 32]) ++ [32]) ++ [41]
 | .clo _ _ _ _ _ _, o => if m < o.length then o else o ++ [102, 117, 110]
mutual
def KV.high : KV → Nat
 | .num _ => 0
 | .pair a b => 1 + max a.high b.high
 | .clo _ _ _ _ _ r => r.high
def KE.high : KE → Nat
 | .nil => 0
 | .cons _ v up => max v.high up.high
end
mutual
def KV.tall : KV → Nat
 | .num _ => 0
 | .pair a b => max a.tall b.tall
 | .clo _ _ _ _ _ r => r.tall
def KE.tall : KE → Nat
 | .nil => 0
 | .cons _ v up => 1 + max v.tall up.tall
end
def KE.names : KE → List As
 | .nil => []
 | .cons n _ up => up.names ++ [n]
def Agc (e : Ex) (n : Nat) : Option (As × Nat) := match (eval n e .nil).v with
 | some w => if w.show.length ≤ 12000 then some (w.show, n - (eval n e .nil).left) else none
 | none => none
def Agd (s : As) (n : Int) : Option (As × Nat) := if 0 ≤ n ∧ n ≤ 2000 then (Ho s).bind fun e => Agc e n.toNat else none
def Ags (s : As) (n : Int) : Bool := if 0 ≤ n ∧ n ≤ 2000 then (match Ho s with | some e => (eval n.toNat e .nil).stuck | none => false) else false
def Ahf (s : As) : Int := match Agd s 2000 with
 | some r => (r.2 : Nat)
 | none => -1
theorem Goes.ty {e d : Ex} (h : Goes e d) {t : Ty} (hok : e.ok = true) (hc : e.occ [] = []) (ht : e.ty [] [] = some t) : d.ty [] [] = some t ∧ d.ok = true ∧ d.occ [] = [] := by
 induction h with
 | refl => exact ⟨ht, hok, hc⟩
 | next hs _ ih => exact ih (Ex.step_ok hok hs) (Ex.step_closed hc hs) (Jj hok hc hs ht)
inductive Ev : Nat → KE → Ex → KV → Prop
 | num {d : Nat} {k : KE} {s : As} : Ev d k (.num s) (.num s)
 | name {d : Nat} {k : KE} {s : As} {v : KV} (h : k.look s = some v) : Ev d k (.name s) v
 | fn {d : Nat} {k : KE} {f x : As} {s t : Ty} {b : Ex} : Ev d k (.fn f x s t b) (.clo f x s t b k)
 | bin {d : Nat} {k : KE} {o : B5} {a b : Ex} {u v w : KV} (ha : Ev d k a u) (hb : Ev d k b v) (h : o.act u v = some w) : Ev d k (.bin o a b) w
 | call {d d' : Nat} {k : KE} {a b : Ex} {f x : As} {s t : Ty} {c : Ex} {r : KE} {v w : KV} (ha : Ev d k a (.clo f x s t c r)) (hb : Ev d k b v) (hd : d' < d) (hc : Ev d' (.cons x v (.cons f (.clo f x s t c r) r)) c w) : Ev d k (.bin .call a b) w
 | ite {d : Nat} {k : KE} {a b c : Ex} {s : As} {w : KV} (ha : Ev d k a (.num s)) (hb : Ev d k (if s = [48] then b else c) w) : Ev d k (.ite a b c) w
 | lt {d : Nat} {k : KE} {x : As} {a b : Ex} {u w : KV} (ha : Ev d k a u) (hb : Ev d (.cons x u k) b w) : Ev d k (.lt x a b) w
 | un {d : Nat} {k : KE} {o : U2} {a : Ex} {u w : KV} (ha : Ev d k a u) (h : o.act u = some w) : Ev d k (.un o a) w
theorem Ev.up {d e : Nat} (h : d ≤ e) {k : KE} {a : Ex} {w : KV} (hv : Ev d k a w) : Ev e k a w := by
 induction hv with
 | num => exact .num
 | name hl => exact .name hl
 | fn => exact .fn
 | bin _ _ ha ih1 ih2 => exact .bin (ih1 h) (ih2 h) ha
 | call _ _ hd hc ih1 ih2 _ => exact .call (ih1 h) (ih2 h) (Nat.lt_of_lt_of_le hd h) hc
 | ite _ _ ih1 ih2 => exact .ite (ih1 h) (ih2 h)
 | lt _ _ ih1 ih2 => exact .lt (ih1 h) (ih2 h)
 | un _ ha ih => exact .un (ih h) ha
inductive VR : KV → KV → Prop
 | num (s : As) : VR (.num s) (.num s)
 | pair {a b a' b' : KV} (h : VR a a') (h' : VR b b') : VR (.pair a b) (.pair a' b')
 | clo {f x : As} {s t : Ty} {b b' : Ex} {r r' : KE} (hb : Eqv b b') (g g' : As → KV) (h1 : ∀ y, y ∈ b.occ [] → y ≠ f → y ≠ x → r.look y = some (g y)) (h2 : ∀ y, y ∈ b.occ [] → y ≠ f → y ≠ x → r'.look y = some (g' y)) (h3 : ∀ y, y ∈ b.occ [] → y ≠ f → y ≠ x → VR (g y) (g' y)) : VR (.clo f x s t b r) (.clo f x s t b' r')
def KK (e : Ex) (k k' : KE) : Prop := ∀ y ∈ e.occ [], ∃ v v', k.look y = some v ∧ k'.look y = some v' ∧ VR v v'
theorem KK.clo {f x : As} {s t : Ty} {b b' : Ex} {r r' : KE} (hb : Eqv b b') (h : KK (.fn f x s t b) r r') : VR (.clo f x s t b r) (.clo f x s t b' r') := by
 have key : ∀ y, y ∈ b.occ [] → y ≠ f → y ≠ x → ∃ v v', r.look y = some v ∧ r'.look y = some v' ∧ VR v v' := fun y h1 h2 h3 => h y (Qo.2 ⟨h1, h2, h3⟩)
 refine .clo hb (fun y => (r.look y).getD (.num [])) (fun y => (r'.look y).getD (.num [])) (fun y h1 h2 h3 => ?_) (fun y h1 h2 h3 => ?_) (fun y h1 h2 h3 => ?_)
 ·obtain ⟨v, v', e1, e2, e3⟩ := key y h1 h2 h3; simp only [e1, Option.getD_some]
 ·obtain ⟨v, v', e1, e2, e3⟩ := key y h1 h2 h3; simp only [e2, Option.getD_some]
 ·obtain ⟨v, v', e1, e2, e3⟩ := key y h1 h2 h3; simp only [e1, e2, Option.getD_some]; exact e3
theorem VR.env {f x : As} {s t : Ty} {b b' : Ex} {r r' : KE} (h : VR (.clo f x s t b r) (.clo f x s t b' r')) {v v' : KV} (hv : VR v v') : KK b (.cons x v (.cons f (.clo f x s t b r) r)) (.cons x v' (.cons f (.clo f x s t b' r') r')) := by
 have h0 := h
 cases h with
 | clo hb g g' h1 h2 h3 =>
  intro y hy
  simp only [KE.look]
  by_cases e : x = y
  ·rw [if_pos e, if_pos e]; exact ⟨v, v', rfl, rfl, hv⟩
  ·rw [if_neg e, if_neg e]
   by_cases e' : f = y
   ·rw [if_pos e', if_pos e']; exact ⟨_, _, rfl, rfl, h0⟩
   ·rw [if_neg e', if_neg e']
    exact ⟨_, _, h1 y hy (Ne.symm e') (Ne.symm e), h2 y hy (Ne.symm e') (Ne.symm e), h3 y hy (Ne.symm e') (Ne.symm e)⟩
theorem VR.trans {u v : KV} (h : VR u v) : ∀ {w : KV}, VR v w → VR u w := by
 induction h with
 | num s => exact fun h => h
 | pair _ _ ih1 ih2 => intro w h; cases h with
  | pair h1 h2 => exact .pair (ih1 h1) (ih2 h2)
 | @clo f x s t b b' r r' hb g g' h1 h2 h3 ih =>
  intro w h
  cases h with
  | clo hb' k k' j1 j2 j3 =>
   refine .clo (hb.trans hb') g k' h1 (fun y hy => j2 y ((hb.occ y).1 hy)) fun y hy hf hx => ih y hy hf hx ?_
   have e1 := h2 y hy hf hx
   have e2 := j1 y ((hb.occ y).1 hy) hf hx
   rw [e1] at e2; rw [Option.some.inj e2]
   exact j3 y ((hb.occ y).1 hy) hf hx
theorem VR.show {u v : KV} (h : VR u v) : u.show = v.show := by
 induction h with
 | num s => rfl
 | pair _ _ ih1 ih2 => simp only [KV.show, ih1, ih2]
 | clo => rfl
inductive VS : KV → Prop
 | num (s : As) : VS (.num s)
 | pair {a b : KV} (h : VS a) (h' : VS b) : VS (.pair a b)
 | clo {f x : As} {s t : Ty} {b : Ex} {r : KE} (g : As → KV) (h1 : ∀ y, y ∈ b.occ [] → y ≠ f → y ≠ x → r.look y = some (g y)) (h3 : ∀ y, y ∈ b.occ [] → y ≠ f → y ≠ x → VS (g y)) : VS (.clo f x s t b r)
theorem VR.left {u v : KV} (h : VR u v) : VR u u := by
 induction h with
 | num s => exact .num s
 | pair _ _ ih1 ih2 => exact .pair ih1 ih2
 | clo hb g g' h1 h2 h3 ih => exact .clo (.refl _) g g h1 h1 ih
theorem KK.left {e : Ex} {k k' : KE} (h : KK e k k') : KK e k k := fun y hy => by
 obtain ⟨v, v', h1, h2, h3⟩ := h y hy
 exact ⟨v, v, h1, h1, h3.left⟩
theorem KK.sub {e e' : Ex} {k k' : KE} (h : KK e k k') (hs : ∀ y ∈ e'.occ [], y ∈ e.occ []) : KK e' k k' := fun y hy => h y (hs y hy)
theorem KK.add {e e' : Ex} {k k' : KE} {x : As} {v v' : KV} (h : KK e k k') (hs : ∀ y ∈ e'.occ [], y ≠ x → y ∈ e.occ []) (hv : VR v v') : KK e' (.cons x v k) (.cons x v' k') := fun y hy => by
 simp only [KE.look]
 by_cases e : x = y
 ·rw [if_pos e, if_pos e]; exact ⟨v, v', rfl, rfl, hv⟩
 ·rw [if_neg e, if_neg e]; exact h y (hs y hy (Ne.symm e))
theorem KK.more {e : Ex} {k k' : KE} {x : As} {v' : KV} (h : KK e k k') (hx : x ∉ e.occ []) : KK e k (.cons x v' k') := fun y hy => by
 simp only [KE.look]
 rw [if_neg (fun e : x = y => hx (e ▸ hy))]; exact h y hy
def Sim (d : Nat) : Prop := ∀ {e e' : Ex}, Eqv e e' → ∀ {k : KE} {w : KV}, Ev d k e w → ∀ {k' : KE}, KK e k k' → ∃ w', Ev d k' e' w' ∧ VR w w'
mutual
def KV.db : KV → KV
 | .num s => .num s
 | .pair a b => .pair a.db b.db
 | .clo f x s t b r => .clo [] [] s t (b.db (r.names ++ [f, x])) r.db
def KE.db : KE → KE
 | .nil => .nil
 | .cons n v up => .cons [] v.db up.db
end
def Res.db (r : Res) : Res := ⟨r.v.map KV.db, r.left, r.stuck⟩
theorem Aes {s o : As} (h : S3 s = some o) : ∃ e, Eu s = some e ∧ e.normal.fine = true ∧ o = e.normal.tree.text ∧ Eu o = some e.normal := by
 cases hx : Eu s with
 | none => rw [Ql hx] at h; cases h
 | some e =>
  rw [Nu hx] at h
  split at h
  ·rename_i hf
   obtain rfl := (Option.some.inj h).symm
   exact ⟨e, rfl, hf, rfl, Ui hf⟩
  ·cases h
theorem Ab8 {a b : As} {e f : Ex} (h : Eu a = some e) (h' : Eu b = some f) (hq : Eqv e f) (l m : List As) : Sg l m a = Sg l m b := by
 by_cases hv : Hl l m = true
 ·rw [Pj hv h, Pj hv h']
  have hlm : l.length = (Ib m).length := by
   unfold Hl at hv
   simp only [Bool.and_eq_true, decide_eq_true_eq] at hv
   simp [Ib, hv.1.1.2]
  rw [hq.ty hlm]
 ·rw [Pi (.inl (by simpa using hv)), Pi (.inl (by simpa using hv))]
theorem Aa1 {l m : List As} (hl : l.Nodup) (hm : m.Nodup) (h : ∀ x, x ∈ l ↔ x ∈ m) : l.length = m.length :=
 Nat.le_antisymm (Mk hl fun x hx => (h x).1 hx) (Mk hm fun x hx => (h x).2 hx)
theorem S5 {s o : As} (h : S3 s = some o) : ∃ (f g : List As) (x : As), Kp s = some f ∧ Kp o = some g ∧ f.length = g.length ∧ (∀ y ∈ f, y ∈ g) ∧ M3 true o = true ∧ S3 o = some x ∧ Ke x o = true ∧ (∀ l m, Sg l m s = Sg l m o) ∧ o.length ≤ 12000 ∧ x.length ≤ 12000 := by
 obtain ⟨e, hx, hf, rfl, ho⟩ := Aes h
 have hfe := (H0 hx).1
 have hq := Y0 hfe
 have hxp := Sd hx
 have hn := Aet ho (Pr e)
 have hfr : ∀ y, y ∈ e.free ↔ y ∈ e.normal.free := fun y => by
  rw [← ((Ex.plain_as e).free (H0 hxp).2.1 (H0 hx).2.1).1, Ex.free_mem, Ex.free_mem]
  exact hq.occ y
 refine ⟨e.free, e.normal.free, e.normal.plain.tree.text, Ra hx, Ra ho, Aa1 e.free_nodup e.normal.free_nodup hfr, fun y hy => (hfr y).1 hy, ?_, hn.1, hn.2.2.2, fun l m => ?_, Ab9 ho, Ab9 hn.2.1⟩
 ·unfold M3 Jf
  rw [ho]; simp [Pr e]
 ·rw [← Aeb hxp hx (Ex.plain_as e) l m, Ab8 hxp ho hq l m]
theorem Sy {I : Heap} (ht : Tab I) {oa : Option Addr} {code : List UInt8} {c : Nat} (h : Bytes I oa code c) (L : Bo) : Fun Tryz.prog 8 [.slice oa code.length c] I L (YES L) := by
 have hlen := h.len
 refine Ao Af ?_; refine Se rfl (Oa rfl (Ab (Ah (Se rfl (Om rfl (On rfl (Oc rfl rfl rfl (Ab ?_)))))))); refine A0 rfl ?_ ?_
 ·intro c0
  try simp only [nb] at c0
  refine Se rfl (Oa rfl (Ab (Al (.tmp rfl .nil) ?_)))
  exact ⟨I, L, .refl _, fun _ h => h, rfl, rfl⟩
 intro c0
 try simp only [nb] at c0
 refine Ak (Se rfl (Om rfl ?_)); refine Ca rfl (Su h _) ?_; rintro _ J1 _ e1 ⟨s, rfl, hsl, rfl⟩
 have hs : s.length ≤ Ba := by unfold Ba; omega
 refine Oa rfl (Ab (Se rfl (Om rfl ?_))); refine Ca rfl (Sk s hs (ht.mono e1) _) ?_; rintro _ J2 _ e2 ⟨rfl, rfl⟩; refine Om rfl (Oe rfl rfl (Oe rfl rfl (Oa rfl (Oa rfl (Ab (Se rfl (Om rfl ?_))))))); refine Ca rfl (Yv s (Qk hs) _ _) ?_; rintro _ J3 _ e3 ⟨rfl, rfl⟩
 have hle := (e1.trans e2).trans e3
 refine Om rfl (Oe rfl rfl (Oe rfl rfl (Oa rfl (Oa rfl (Ab (Ah (Se rfl (Om rfl (Om rfl ?_))))))))); refine Y1 rfl rfl rfl .free rfl ?_; refine Om rfl ?_
 apply G5 39 43 rfl
 ·intro g6_4 hk
  try simp only [nb] at g6_4
  refine Ow rfl (Ow rfl ?_); refine Gf rfl rfl rfl (.met rfl rfl) rfl ?_; refine Of rfl rfl ?_
  exact A7 3 rfl rfl hk
 ·intro _ hk; refine Bj 3 rfl ?_; refine Ot rfl rfl ?_
  exact A7 3 rfl rfl hk
 refine Om rfl ?_
 apply G5 44 47 rfl
 ·intro g6_9 hk
  try simp only [nb] at g6_9
  refine Ow rfl ?_; refine Ec rfl (.met rfl rfl) rfl ?_; refine Of rfl rfl ?_
  exact A7 2 rfl rfl hk
 ·intro _ hk; refine Bj 2 rfl ?_; refine Ot rfl rfl ?_
  exact A7 2 rfl rfl hk
 refine Ab ?_; refine A0 rfl ?_ ?_
 ·intro c1
  try simp only [nb] at c1
  refine Se rfl (Om rfl (Om rfl ?_)); refine Y1 rfl rfl rfl .free rfl ?_; refine Om rfl ?_
  apply Ep 51 55 rfl
  ·intro g7_4 hk
   try simp only [nb] at g7_4
   refine Ow rfl (Ow rfl ?_); refine Gf rfl rfl rfl (.met rfl rfl) rfl ?_; refine Ot rfl rfl ?_
   exact A7 3 rfl rfl hk
  ·intro _ hk; refine Bj 3 rfl ?_; refine Of rfl rfl ?_
   exact A7 3 rfl rfl hk
  refine Oa rfl (Ab (Al (.tmp rfl .nil) ?_)); refine ⟨J3, L, hle, Bk, ?_, rfl⟩
  simp [Ck]
 intro c1
 try simp only [nb] at c1
 obtain ⟨o, ho⟩ : ∃ o, S3 s = some o := Option.isSome_iff_exists.1 (by simpa using c1); obtain ⟨f, g, x, hf, hg, hfg, hsub, hno, hnx, hal, hty, hol, hxl⟩ := S5 ho
 have hoN : o.length ≤ Ba := by unfold Ba; omega
 have hxN : x.length ≤ Ba := by unfold Ba; omega
 clear c1
 rw [ho]
 simp only [Option.getD_some, Option.isSome_some]
 refine Ak (Se rfl (Om rfl ?_)); refine Ca rfl (Sk o hoN (ht.mono hle) _) ?_; rintro _ J4 _ e4 ⟨rfl, rfl⟩; rw [hnx]
 simp only [Option.getD_some, Option.isSome_some]
 have hle := hle.trans e4
 refine Om rfl (Oe rfl rfl (Oe rfl rfl (Oa rfl (Oa rfl (Ab (Se rfl (Om rfl ?_))))))); refine Ca rfl (Sh s hs _ _) ?_; rintro _ J5 _ e5 ⟨of, cf, rfl, hfS, rfl⟩; rw [hf] at hfS; rw [hf]
 simp only [Option.getD_some, Option.isSome_some] at hfS ⊢
 have hle := hle.trans e5
 refine Om rfl (Oe rfl rfl (Oe rfl rfl (Oa rfl (Oa rfl (Ab (Se rfl (Om rfl ?_))))))); refine Ca rfl (Sh o hoN _ _) ?_; rintro _ J6 _ e6 ⟨og, cg, rfl, hgS, rfl⟩; rw [hg] at hgS; rw [hg]
 simp only [Option.getD_some, Option.isSome_some] at hgS ⊢
 have hfS := hfS.mono e6
 have hle := hle.trans e6
 have hflen := hfS.len
 unfold Ba at hflen
 refine Om rfl (Oe rfl rfl (Oe rfl rfl (Oa rfl (Oa rfl (Ab (Ah (Se rfl (Oa rfl (Ab (Aq ?_)))))))))); refine C7 (X := Nat) (fun i => f.length - i) (fun i => [(3, .string (str s)), (4, .string (str o)), (8, .string (str x)), (9, .bool true), (10, .slice of f.length cf), (11, .bool true), (12, .slice og g.length cg), (13, .bool true), (14, .int .i64 (i : Nat))]) (fun _ => J6) (fun _ => L) (fun i => i ≤ f.length) 0 (Nat.zero_le _) ⟨rfl, rfl, rfl, rfl, rfl, rfl, rfl, rfl, rfl, trivial⟩ Bk ?_; rintro i hi ih; refine Ah (Se rfl (Om rfl (Om rfl (On rfl (Oc rfl rfl rfl (Ab ?_)))))); refine A0 rfl ?_ ?_
 ·intro c2
  try simp only [nb] at c2
  have hi1 : i < f.length := by omega
  have hst := hfS.st i hi1
  have hmem : f.getD i [] ∈ g := hsub _ (by rw [show f.getD i [] = f[i] by simp [hi1]]; exact List.getElem_mem _)
  refine Ak (Ah (Aq (Se rfl ?_)))
  iterate 3 refine Om rfl ?_
  first | refine Bx rfl rfl _ rfl .free rfl ?_ | refine By rfl rfl _ rfl .free rfl ?_
  refine Ei rfl .free rfl ?_; refine Ca rfl (Abo hgS _ _) ?_; rintro _ _ _ _ ⟨rfl, rfl, rfl⟩; refine Ec rfl .free rfl ?_; refine Ab ?_
  first | refine Fq rfl hmem ?_ | refine Fp rfl hmem ?_ | refine Bl Av ?_
  refine Ak (Ar (Am rfl (Om rfl ?_))); refine Or rfl rfl rfl ?_; refine Oa rfl (Ab ?_)
  exact Dy (E' := [(3, .string (str s)), (4, .string (str o)), (8, .string (str x)), (9, .bool true), (10, .slice of f.length cf), (11, .bool true), (12, .slice og g.length cg), (13, .bool true), (14, .int .i64 ((i + 1 : Nat)))]) ⟨rfl, rfl, rfl, rfl, rfl, rfl, rfl, rfl, rfl, trivial⟩ (ih (i + 1) Aa Aa)
 intro c2
 try simp only [nb] at c2
 refine Ce rfl ?_; refine Se rfl ?_; refine Ol rfl rfl ?_; intro b84; refine D5 [[97], [98], [120, 48]] Ae Ae ?_; intro J7 e7 k1; refine Oa rfl (Ab (Se rfl ?_)); refine Ol rfl rfl ?_; intro b85; refine D5 [[105], [40, 42, 32, 105, 32, 105, 41], [105]] Ae Ae ?_; intro J8 e8 k2
 have k1 := k1.mono e8
 have hle := (hle.trans e7).trans e8
 refine Oa rfl (Ab (Se rfl ?_))
 iterate 3 refine Om rfl ?_
 refine Ca rfl (Sj k1 k2 s hs _) ?_; rintro _ J9 _ e9 ⟨rfl, rfl⟩
 have k1 := k1.mono e9
 have k2 := k2.mono e9
 have hle := hle.trans e9
 refine Om rfl (Oe rfl rfl (Oe rfl rfl (Oa rfl (Oa rfl (Ab (Se rfl ?_))))))
 iterate 3 refine Om rfl ?_
 refine Ca rfl (Sj k1 k2 o hoN _) ?_; rintro _ J10 _ e10 ⟨rfl, rfl⟩; rw [hty]
 have hle := hle.trans e10
 refine Om rfl (Oe rfl rfl (Oe rfl rfl (Oa rfl (Oa rfl (Ab (Se rfl (Om rfl (Om rfl ?_))))))))
 apply Ep 101 103 rfl
 ·intro g20_2 hk
  try simp only [nb] at g20_2
  refine Ow rfl (Ot rfl rfl ?_)
  exact A7 1 rfl rfl hk
 ·intro _ hk; refine Bj 1 rfl ?_; refine Of rfl rfl ?_
  exact A7 1 rfl rfl hk
 refine Om rfl ?_
 apply Ep 104 107 rfl
 ·intro g20_5 hk
  try simp only [nb] at g20_5
  refine Ow rfl ?_; refine Cq rfl (.met rfl rfl) rfl (Yq o hoN _ _) ?_; rintro _ J11 _ e11 ⟨rfl, rfl⟩; refine Dp (fun w h => Mem.le e11 h) ?_; refine Ot rfl rfl ?_
  exact A7 2 rfl rfl hk
 ·intro _ hk; refine Bj 2 rfl ?_; refine Of rfl rfl ?_
  exact A7 2 rfl rfl hk
 refine Om rfl ?_
 apply Ep 108 116 rfl
 ·intro g20_9 hk
  try simp only [nb] at g20_9
  refine Ow rfl ?_; refine Ec rfl (.met rfl rfl) rfl ?_; refine Ow rfl ?_
  apply G5 111 115 rfl
  ·intro g20_12 hk
   try simp only [nb] at g20_12
   refine Ow rfl (Ow rfl ?_); refine Cq rfl (.met rfl rfl) rfl (W2 x o hxN hoN _ _) ?_; rintro _ J12 _ e12 ⟨rfl, rfl⟩; refine Dp (fun w h => Mem.le e12 h) ?_; refine Du rfl rfl (.met rfl rfl) rfl ?_
   exact A7 3 rfl rfl hk
  ·intro _ hk; refine Bj 3 rfl ?_; refine Ee rfl rfl (.met rfl rfl) rfl ?_
   exact A7 3 rfl rfl hk
  refine Ot rfl rfl ?_
  exact A7 4 rfl rfl hk
 ·intro _ hk; refine Bj 7 rfl ?_; refine Of rfl rfl ?_
  exact A7 7 rfl rfl hk
 refine Om rfl ?_
 apply Ep 117 123 rfl
 ·intro g20_18 hk
  try simp only [nb] at g20_18
  refine Ow rfl ?_; refine Ht rfl (.met rfl rfl) rfl ?_; refine Ow rfl ?_; refine Ht rfl (.met rfl rfl) rfl ?_; refine D0 rfl rfl rfl (.met rfl rfl) rfl ?_; refine Ot rfl rfl ?_
  exact A7 5 rfl rfl hk
 ·intro _ hk; refine Bj 5 rfl ?_; refine Of rfl rfl ?_
  exact A7 5 rfl rfl hk
 refine Om rfl ?_
 apply Ep 124 128 rfl
 ·intro g20_25 hk
  try simp only [nb] at g20_25
  refine Ow rfl (Ow rfl ?_); refine Y1 rfl rfl rfl (.met rfl rfl) rfl ?_; refine Ot rfl rfl ?_
  exact A7 3 rfl rfl hk
 ·intro _ hk; refine Bj 3 rfl ?_; refine Of rfl rfl ?_
  exact A7 3 rfl rfl hk
 refine Om rfl ?_
 apply Ep 129 133 rfl
 ·intro g20_30 hk
  try simp only [nb] at g20_30
  refine Ow rfl (Ow rfl ?_); refine Gf rfl rfl rfl (.met rfl rfl) rfl ?_; refine Ot rfl rfl ?_
  exact A7 3 rfl rfl hk
 ·intro _ hk; refine Bj 3 rfl ?_; refine Of rfl rfl ?_
  exact A7 3 rfl rfl hk
 refine Oa rfl (Ab (Al (.tmp rfl .nil) ?_)); refine ⟨J10, L, hle, Bk, ?_, rfl⟩
 simp [Ck, hno, hal, hfg]
def X8 (P : Program) (s : String) : Bool :=
 match P.globalNamed s with
 | some g => match (P.globals[g]?).map (·.type) with
  | some t => match P.underlying t with
   | some (.array n e) => (match P.underlying e with | some (.int .u64) => true | _ => false) && (P.cellsOf e == 1) && (P.cellsOf t == n)
   | _ => false
  | none => false
 | none => false
theorem Afz {laid : List (String × DataW Unit)} {W : World} (h : laidMetH Tryz.prog laid W)
  (hk : (laid.filter fun x => x.1 == "internal/strconv.uint64pow10") = [("internal/strconv.uint64pow10", Lib.tabData .u64 Lib.pow10Tab)]) (ht : X8 Tryz.prog "internal/strconv.uint64pow10" = true) : Tab (R0 W) := by
 have h1 := h.filter (fun x => x.1 == "internal/strconv.uint64pow10")
 rw [hk] at h1
 have h1 : laidMet Tryz.prog [("internal/strconv.uint64pow10", Lib.tabData .u64 Lib.pow10Tab)] W := (laidMetH_iff.1 h1).1
 have h2 : Lib.TabIs Tryz.prog W "internal/strconv.uint64pow10" .u64 Lib.pow10Tab := by
  unfold X8 at ht
  split at ht
  ·rename_i g hg
   split at ht
   ·rename_i t hty
    split at ht
    ·rename_i n e hu
     simp only [Bool.and_eq_true, beq_iff_eq] at ht
     obtain ⟨⟨h3, h4⟩, h5⟩ := ht
     split at h3
     ·rename_i he
      exact Lib.tabIs_of_head hg hty hu he h4 h5 h1
     ·cases h3
    ·cases ht
   ·cases ht
  ·cases ht
 intro L w hm
 unfold Lib.TabIs World.var? at h2 ⊢
 cases hg : Tryz.prog.globalNamed "internal/strconv.uint64pow10" with
 | none => rw [hg] at h2; cases h2
 | some g =>
  rw [hg] at h2
  simp only [Option.bind_some] at h2 ⊢
  cases ho : W.heap[g]? with
  | none => rw [ho] at h2; cases h2
  | some o => rw [ho] at h2; rw [hm.1.1 g o ho]; exact h2
end Go.Proofs.YtmfagaajiakgoaaGreatDoor
