/- Normal expressions; heads of expressions. No conditions. -/
import Derived.Test.YtfddjcmeejjhiaaGreatDoorG5

namespace Go.Proofs.YtfddjcmeejjhiaaGreatDoor
set_option maxRecDepth 100000
set_option linter.unusedVariables false
set_option linter.unusedSimpArgs false

def Ex.bare : Ex → Bool
 | .num _ => true
 | .name _ => true
 | _ => false
def Ex.norm : Ex → Bool → Bool
 | .num _, _ => true
 | .name _, _ => true
 | .bin _ a b, _ => a.bare && b.bare
 | .ite a b c, _ => a.bare && b.norm true && c.norm true
 | .lt _ a b, n => n && a.norm false && b.norm true
 | .fn _ _ _ _ b, _ => b.norm true
 | .un _ a, _ => a.bare
theorem Ex.of_let {e : Ex} (h : e.tree.head = Dk) : ∃ x a b, e = .lt x a b := by
 cases e with
 | num s => cases h
 | name s => cases h
 | bin o a b => exact absurd h o.txt_ne.2.1
 | un o a => exact absurd h o.txt_ne.2.1
 | ite a b c => exact absurd (show F5 = Dk from h) (by decide)
 | lt x a b => exact ⟨x, a, b, rfl⟩
 | fn f x s t b => exact absurd (show Dj = Dk from h) (by decide)
theorem Ex.of_fun {e : Ex} (h : e.tree.head = Dj) : ∃ f x s t b, e = .fn f x s t b := by
 cases e with
 | num s => cases h
 | name s => cases h
 | bin o a b => exact absurd h o.txt_ne.2.2.1
 | un o a => exact absurd h o.txt_ne.2.2.1
 | ite a b c => exact absurd (show F5 = Dj from h) (by decide)
 | lt x a b => exact absurd (show Dk = Dj from h) (by decide)
 | fn f x s t b => exact ⟨f, x, s, t, b, rfl⟩
theorem B5.txt_inj {o o' : B5} (h : o.txt = o'.txt) : o = o' := by have := congrArg B5.of h; rw [B5.of_txt, B5.of_txt] at this; exact Option.some.inj this
theorem U2.txt_inj {o o' : U2} (h : o.txt = o'.txt) : o = o' := by have := congrArg U2.of h; rw [U2.of_txt, U2.of_txt] at this; exact Option.some.inj this
theorem Lr (o : B5) (u : U2) : o.txt ≠ u.txt := by cases o <;> cases u <;> decide
theorem Ex.of_bin {e : Ex} {o : B5} (h : e.tree.head = o.txt) : ∃ a b, e = .bin o a b := by
 cases e with
 | num s => exact absurd h.symm o.txt_ne.2.2.2.2
 | name s => exact absurd h.symm o.txt_ne.2.2.2.2
 | bin o' a b => have := B5.txt_inj (o := o') (o' := o) h; subst this; exact ⟨a, b, rfl⟩
 | un u a => exact absurd h.symm (Lr o u)
 | ite a b c => exact absurd h.symm o.txt_ne.1
 | lt x a b => exact absurd h.symm o.txt_ne.2.1
 | fn f x s t b => exact absurd h.symm o.txt_ne.2.2.1
theorem Mq (o : B5) (a b : Ex) : C9 (Ex.bin o a b).tree = [1, 2] := by cases o <;> rfl
theorem Pd (o : U2) (a : Ex) : C9 (Ex.un o a).tree = [1] := by cases o <;> rfl
theorem Mt (a b c : Ex) : C9 (Ex.ite a b c).tree = [1, 2, 3] := rfl
theorem Mu (x : Ap) (a b : Ex) : C9 (Ex.lt x a b).tree = [2, 3] := rfl
theorem Mr (f x : Ap) (s t : Ty) (b : Ex) : C9 (Ex.fn f x s t b).tree = [5] := rfl
theorem Ex.bare_atom {e : Ex} (h : e.ok = true) : decide (e.tree.atom = []) = !e.bare := by
 cases e with
 | num s => have h := Us h; simp [Ex.tree, Tree.atom, h, Ex.bare]
 | name s => have h := G0 h; simp [Ex.tree, Tree.atom, h, Ex.bare]
 | _ => rfl
theorem Ex.bare_parts {e : Ex} : e.bare = e.tree.parts.isEmpty := by cases e <;> rfl
theorem Aai {t : Tree} (h : C9 t ≠ []) : t.parts.length = (Ay t.head).2 := by
 unfold C9 at h
 split at h
 ·assumption
 ·exact absurd rfl h
theorem Tree.size_maxN {t : Tree} (h : t.len ≤ 12000 * 1000) : t.size ≤ Az := by have := t.size_len; unfold Az; omega
theorem Qs : ∀ (n : Nat) {I : Heap} {t : Tree} {cs : List Value} (_ : SizeOf.sizeOf t < n) (_ : Rep I t cs) (_ : t.good = true) (_ : t.len ≤ 12000000) (L : Bh),
  Fun Tryz.prog 110 [.agg cs.toArray] I L (D0 (.bool t.ex.isSome) I L) := by
 intro n
 induction n with
 | zero => intro I t cs h; omega
 | succ n ihn =>
  intro I t cs hlt h hg hz L; obtain ⟨oa, c, oaf, cf, rfl, hf⟩ := h.at'
  have hp := hf.len
  unfold Az at hp
  refine Ag (by simp) ?_; refine Se rfl ?_; refine B7 rfl rfl .free rfl ?_; intro b1; refine Oa rfl (Aa (Ab (Se rfl ?_))); refine A3 rfl .free rfl ?_; refine Ca rfl (Bu h _) ?_; rintro _ _ _ _ ⟨rfl, rfl, rfl⟩; refine Aa ?_; refine As rfl ?_ ?_
  ·intro c0
   try simp only [nb] at c0
   refine Se rfl ?_; refine A3 rfl .free rfl ?_; refine Ca rfl (Qr h _) ?_; rintro _ _ _ _ ⟨rfl, rfl, rfl⟩; refine Oa rfl (Aa (Ad (.tmp rfl .nil) ?_)); refine only rfl ?_
   have e : t.parts = [] := by simpa using c0
   refine congrArg Value.bool ?_
   cases t with
   | node a ps =>
    simp only [Tree.parts] at e
    subst e
    simp only [Tree.parts, Tree.atom, Tree.ex, List.isEmpty_nil, Bool.true_and]
    cases Bv a <;> cases By a <;> rfl
  intro c0
  try simp only [nb] at c0
  have hne : t.parts ≠ [] := by simpa using c0
  refine Ae (Se rfl ?_); refine A3 rfl .free rfl ?_; refine Ca rfl (Ej h _) ?_; rintro _ J _ e ⟨ok, ck, rfl, hk, rfl⟩
  have hf := hf.mono e
  refine Oa rfl (Aa (Ab (Se rfl (Om rfl (On rfl (Oc rfl rfl rfl (Aa ?_))))))); refine As rfl ?_ ?_
  ·intro c1
   try simp only [nb] at c1
   have hk0 : C9 t = [] := List.length_eq_zero_iff.1 (by omega)
   refine Se rfl (Oa rfl (Aa (Ad (.tmp rfl .nil) ?_))); refine G5 e Bf ?_; rw [Rg hne hk0]; rfl
  intro c1
  try simp only [nb] at c1
  have hk0 : C9 t ≠ [] := fun h0 => c1 (by rw [h0]; rfl)
  have hkl := Aai hk0
  have hks := Rh hk0
  have hkm := hk.cap
  have hk5 := Abv t
  refine Ae (Ab (Se rfl (Om rfl (On rfl (Om rfl (Aa (Aj ?_))))))); refine Dv (X := Nat) (fun i => (C9 t).length - i) (fun i => [(1, .pointer (some ⟨b1, 0, none⟩)), (17, .slice ok (C9 t).length ck), (18, .int .i64 ((C9 t).length : Nat)), (19, .int .i64 (i : Nat))]) (fun _ => J) (fun _ => (b1, .cells [.string (str t.atom), .slice oa t.parts.length c].toArray _ (0, 0)) :: L) (fun i => i ≤ (C9 t).length ∧ ((C9 t).take i).all (fun i => (t.pt i).ex.isSome) = true) 0 ⟨by omega, rfl⟩ ⟨rfl, rfl, rfl, rfl, trivial⟩ Bf ?_; rintro i ⟨hi, hall⟩ ih; refine Se rfl (Oc rfl rfl rfl (Aa (Ab ?_)))
  refine As rfl ?_ ?_
  ·intro c2
   try simp only [nb] at c2
   have hki : (C9 t).getD i 0 = (C9 t)[i] := by simp [show i < (C9 t).length by omega]
   have hkt : (C9 t).getD i 0 < t.parts.length := by rw [hki]; exact (Abw (List.getElem_mem (show i < (C9 t).length by omega))).1
   refine Ae (Ab (Aj (Se rfl ?_)))
   first | refine A5 rfl rfl _ rfl .free rfl ?_ | refine A6 rfl rfl _ rfl .free rfl ?_
   refine Ef rfl .free rfl ?_; refine Oa rfl (Aa (Se rfl (Oh rfl ?_))); refine A1 rfl .free rfl ?_; refine Om rfl ?_
   first | refine A5 rfl rfl _ rfl .free rfl ?_ | refine A6 rfl rfl _ rfl .free rfl ?_
   refine D9 rfl .free rfl ?_; refine Ca rfl (ihn (t := t.pt ((C9 t).getD i 0)) (by have := t.pt_lt _ hkt; omega) (hf.rp _ hkt) (Tree.pt_good hg _ hkt) (by have := t.pt_len _ hkt; omega) _) ?_; rintro _ _ _ _ ⟨rfl, rfl, rfl⟩; refine Cp rfl .free rfl ?_; refine Aa ?_; refine As rfl ?_ ?_
   ·intro c3
    try simp only [nb] at c3
    refine Se rfl (Oa rfl (Aa (Ad (.tmp rfl .nil) ?_))); refine G5 e Bf ?_; rw [hks]
    have : (C9 t).all (fun i => (t.pt i).ex.isSome) = false := by
     rw [List.all_eq_false]; exact ⟨_, List.getElem_mem (show i < (C9 t).length by omega), by rw [← hki]; simpa using c3⟩
    rw [this]; rfl
   intro c3
   try simp only [nb] at c3
   refine Ae (Ak (Af rfl ?_)); refine Or rfl rfl rfl ?_; refine Om rfl (Aa ?_); refine Bp (E' := [(1, .pointer (some ⟨b1, 0, none⟩)), (17, .slice ok (C9 t).length ck), (18, .int .i64 ((C9 t).length : Nat)), (19, .int .i64 ((i + 1 : Nat)))]) ⟨rfl, rfl, rfl, rfl, trivial⟩ (ih (i + 1) ⟨by omega, ?_⟩ (by omega)); rw [List.take_succ_eq_append_getElem (by omega), List.all_append, hall]
   simp only [List.all_cons, List.all_nil, Bool.and_true, Bool.true_and]
   rw [← hki]; simpa using c3
  intro c2
  try simp only [nb] at c2
  obtain rfl : i = (C9 t).length := by omega
  rw [List.take_length] at hall; rw [hall] at hks; refine Bz rfl ?_; refine Ab (Se rfl ?_); refine A3 rfl .free rfl ?_; refine Ca rfl (Bk hf.rep _) ?_; rintro _ _ _ _ ⟨rfl, rfl, rfl⟩; refine Aa (Aj (Se rfl (Od rfl rfl rfl (Oa rfl (Aa ?_))))); refine As rfl ?_ ?_
  ·intro c4
   try simp only [nb] at c4
   have hl4 : t.parts.length = 4 := by rw [hkl, c4]; decide
   have ha1 := (hf.rp 1 (by omega)).atom_le
   refine Se rfl (Oh rfl ?_); refine A1 rfl .free rfl ?_
   first | refine A5 rfl rfl 1 rfl .free rfl ?_ | refine A6 rfl rfl 1 rfl .free rfl ?_
   refine Bd rfl .free rfl ?_; refine Fo rfl .free rfl ?_; refine Ca rfl (Ip (t.pt 1).atom ha1 _ _) ?_; rintro _ _ _ _ ⟨rfl, rfl, rfl⟩; refine Oa rfl (Aa (Ad (.tmp rfl .nil) ?_)); refine G5 e Bf ?_; rw [hks, J9, if_pos (show t.head = Dk from c4)]; rfl
  intro c4
  try simp only [nb] at c4
  refine Se rfl (Od rfl rfl rfl (Oa rfl (Aa ?_))); refine As rfl ?_ ?_
  ·intro c5
   try simp only [nb] at c5
   have hl6 : t.parts.length = 6 := by rw [hkl, c5]; decide
   have ha1 := (hf.rp 1 (by omega)).atom_le
   have ha2 := (hf.rp 2 (by omega)).atom_le
   have hz3 := t.pt_len 3 (by omega)
   have hz4 := t.pt_len 4 (by omega)
   refine Ab ?_; refine Dp 12 rfl rfl ?_; refine Da 0 rfl (Ai rfl) ?_; refine Dt 1 [12] rfl (Br rfl) ?_
   first | refine Da 2 rfl (Bl rfl rfl 1 rfl) ?_ | refine Da 2 rfl (Bm rfl rfl 1 rfl) ?_
   refine Da 3 rfl (Bb rfl) ?_; refine Dt 4 [12] rfl (Jd rfl) ?_; refine Da 5 rfl (Ai rfl) ?_; refine Dt 6 [12] rfl (Br rfl) ?_
   first | refine Da 7 rfl (Bl rfl rfl 2 rfl) ?_ | refine Da 7 rfl (Bm rfl rfl 2 rfl) ?_
   refine Da 8 rfl (Bb rfl) ?_; refine Dt 9 [12] rfl (Jd rfl) ?_; refine Da 10 rfl (A2 rfl) ?_; refine Da 11 rfl (A2 rfl) ?_; refine At (by kernel_rfl) ?_; refine Se rfl (Om rfl ?_); refine Ca rfl (Ip (t.pt 1).atom ha1 _ _) ?_; rintro _ _ _ _ ⟨rfl, rfl, rfl⟩; refine Om rfl ?_
   apply Ci 55 58 rfl
   ·intro g17_3 hk
    try simp only [nb] at g17_3
    refine Ow rfl ?_; refine B9 rfl (.met rfl rfl) rfl (Ip (t.pt 2).atom ha2 _ _) ?_; rintro _ _ _ _ ⟨rfl, rfl, rfl⟩; refine Ot rfl rfl ?_
    exact Ar 2 rfl rfl hk
   ·intro _ hk; refine A0 2 rfl ?_; refine Of rfl rfl ?_
    exact Ar 2 rfl rfl hk
   refine Om rfl ?_
   apply Ci 59 63 rfl
   ·intro g17_7 hk
    try simp only [nb] at g17_7
    refine Ow rfl (Ow rfl ?_); refine Cg rfl rfl rfl (.met rfl rfl) rfl ?_; refine Ot rfl rfl ?_
    exact Ar 3 rfl rfl hk
   ·intro _ hk; refine A0 3 rfl ?_; refine Of rfl rfl ?_
    exact Ar 3 rfl rfl hk
   refine Om rfl ?_
   apply Ci 64 70 rfl
   ·intro g17_12 hk
    try simp only [nb] at g17_12
    refine Ax rfl (.met rfl rfl) rfl ?_; refine A1 rfl (.met rfl rfl) rfl ?_
    first | refine A5 rfl rfl 3 rfl (.met rfl rfl) rfl ?_ | refine A6 rfl rfl 3 rfl (.met rfl rfl) rfl ?_
    refine D9 rfl (.met rfl rfl) rfl ?_; refine B9 rfl (.met rfl rfl) rfl (Ml (hf.rp 3 (by omega)) (Tree.size_maxN (by omega)) _) ?_; rintro _ _ _ _ ⟨rfl, rfl, rfl⟩; refine Ot rfl rfl ?_
    exact Ar 5 rfl rfl hk
   ·intro _ hk; refine A0 5 rfl ?_; refine Of rfl rfl ?_
    exact Ar 5 rfl rfl hk
   refine Om rfl ?_
   apply Ci 71 77 rfl
   ·intro g17_19 hk
    try simp only [nb] at g17_19
    refine Ax rfl (.met rfl rfl) rfl ?_; refine A1 rfl (.met rfl rfl) rfl ?_
    first | refine A5 rfl rfl 4 rfl (.met rfl rfl) rfl ?_ | refine A6 rfl rfl 4 rfl (.met rfl rfl) rfl ?_
    refine D9 rfl (.met rfl rfl) rfl ?_; refine B9 rfl (.met rfl rfl) rfl (Ml (hf.rp 4 (by omega)) (Tree.size_maxN (by omega)) _) ?_; rintro _ _ _ _ ⟨rfl, rfl, rfl⟩; refine Ot rfl rfl ?_
    exact Ar 5 rfl rfl hk
   ·intro _ hk; refine A0 5 rfl ?_; refine Of rfl rfl ?_
    exact Ar 5 rfl rfl hk
   refine Oa rfl (Aa (Ad (.tmp rfl .nil) ?_)); refine G5 e Bf ?_; rw [hks, J9, if_neg (show ¬ t.head = Dk from c4), if_pos (show t.head = Dj from c5)]
   simp [C2]
  intro c5
  try simp only [nb] at c5
  refine Ae (Ak (Se rfl (Oa rfl (Aa (Ad (.tmp rfl .nil) ?_))))); refine G5 e Bf ?_; rw [hks, J9, if_neg (show ¬ t.head = Dk from c4), if_neg (show ¬ t.head = Dj from c5)]; rfl
theorem I0 {t : Tree} (hg : t.good = true) (h : t.atom = []) : t.parts ≠ [] ∧ 0 < t.parts.length := by
 have : t.parts ≠ [] := by rcases t.good_cases hg with hh | hh <;> simp_all
 exact ⟨this, List.length_pos_iff.2 this⟩
theorem Jp {t : Tree} (hg : t.good = true) (h : t.atom ≠ []) : t.parts = [] := by rcases t.good_cases hg with hh | hh <;> simp_all
theorem Kc {t : Tree} (h : 0 < t.parts.length) : t.head = (t.pt 0).atom := by
 cases t with
 | node a ps => cases ps with
  | nil => simp [Tree.parts] at h
  | cons p ps => rfl
theorem Abg {t : Tree} (h : t.parts = []) : t.ex.isSome = (Bv t.atom || By t.atom) := by
 cases t with
 | node a ps =>
  simp only [Tree.parts] at h
  subst h
  simp only [Tree.atom, Tree.ex]
  cases Bv a <;> cases By a <;> rfl
theorem U9 (h : Ap) : (Ay h).1 ≤ (Ay h).2 ∧ (Ay h).2 ≤ 6 ∧ ((Ay h).1 = 0 → (Ay h).2 = 0) ∧ ((Ay h).1 ≠ 0 → (Ay h).1 < (Ay h).2) ∧ (1 < (Ay h).1 ↔ h = Dk ∨ h = Dj) ∧ ((Ay h).1 = 5 ↔ h = Dj) ∧ ((Ay h).1 = 5 → (Ay h).2 = 6) := by
 rcases F7 h with ⟨o, e, hr⟩ | ⟨e, hr⟩ | ⟨e, hr⟩ | ⟨e, hr⟩ | ⟨o, e, hr⟩ | ⟨hr, _, _, _, h4, h5⟩
 ·rw [hr, e]; have := o.txt_ne; simp [this]
 ·rw [hr, e]; simp; decide
 ·rw [hr, e]; simp; decide
 ·rw [hr, e]; simp
 ·rw [hr, e]; have := o.txt_ne; simp [this]
 ·rw [hr]; simp [h4, h5]
theorem Wh {t : Tree} (h : t.parts.length = (Ay t.head).2) : C9 t = List.range' (Ay t.head).1 ((Ay t.head).2 - (Ay t.head).1) := if_pos h

theorem Yb : ∀ (n : Nat) {I : Heap} {t : Tree} {cs : List Value} (_ : SizeOf.sizeOf t < n) (_ : Rep I t cs) (_ : t.good = true) (_ : t.len ≤ 12000000) (L : Bh),
  Fun Tryz.prog 66 [.agg cs.toArray] I L (D0 (.bool t.ex.isSome) I L) := by
 intro n
 induction n with
 | zero => intro I t cs h; omega
 | succ n ihn =>
  intro I t cs hlt h hg hz L; obtain ⟨oa, c, oaf, cf, rfl, hf⟩ := h.at'
  have hp := hf.len
  have ha := hf.alen
  unfold Az at hp
  refine Ag (by simp) ?_; refine Se rfl ?_; refine B7 rfl rfl .free rfl ?_; intro b1; refine Oa rfl (Aa (Ab (Se rfl (Oh rfl ?_)))); refine A1 rfl .free rfl ?_; refine Od rfl rfl rfl (Aa ?_); refine As rfl ?_ ?_
  ·intro c0
   try simp only [nb] at c0
   refine Se rfl (Oh rfl ?_); refine A1 rfl .free rfl ?_; refine Ca rfl (L8 t.atom ha _ _) ?_; rintro _ _ _ _ ⟨rfl, rfl, rfl⟩; refine Om rfl (Oe rfl rfl (Oe rfl rfl (Oa rfl (Oa rfl (Aa (Se rfl (Om rfl (Om rfl ?_))))))))
   apply Fx 18 22 rfl
   ·intro g3_2 hk
    try simp only [nb] at g3_2
    refine Ax rfl (.met rfl rfl) rfl ?_; refine A1 rfl (.met rfl rfl) rfl ?_; refine B9 rfl (.met rfl rfl) rfl (Kz t.atom ha _ _) ?_; rintro _ _ _ _ ⟨rfl, rfl, rfl⟩; refine Of rfl rfl ?_
    exact Ar 3 rfl rfl hk
   ·intro _ hk; refine A0 3 rfl ?_; refine Ot rfl rfl ?_
    exact Ar 3 rfl rfl hk
   refine Oa rfl (Aa (Ad (.tmp rfl .nil) ?_)); refine only rfl ?_; rw [Abg (Jp hg (by simpa using c0))]
   exact congrArg Value.bool (Bool.or_comm ..)
  intro c0
  try simp only [nb] at c0
  obtain ⟨hne, h0⟩ := I0 hg (by simpa using c0)
  have hhd := Kc h0
  obtain ⟨k1, k2, k3, k4, k5, k6, k7⟩ := U9 t.head; refine Ae (Se rfl (Oh rfl ?_)); refine A1 rfl .free rfl ?_
  first | refine A5 rfl rfl 0 rfl .free rfl ?_ | refine A6 rfl rfl 0 rfl .free rfl ?_
  refine Bd rfl .free rfl ?_; refine Fo rfl .free rfl ?_; refine Ca rfl (Um (t.pt 0).atom _ _) ?_; rw [← hhd]; rintro _ _ _ _ ⟨rfl, rfl, rfl⟩; refine Om rfl (Oe rfl rfl (Oe rfl rfl (Oa rfl (Oa rfl (Aa (Ab (Se rfl (Om rfl (Oc rfl rfl rfl (Om rfl ?_))))))))))
  apply Fx 34 40 rfl
  ·intro g5_3 hk
   try simp only [nb] at g5_3
   refine Ax rfl (.met rfl rfl) rfl ?_; refine A1 rfl (.met rfl rfl) rfl ?_; refine I6 rfl (.met rfl rfl) rfl ?_; refine Ow rfl ?_; refine Dh rfl rfl rfl (.met rfl rfl) rfl ?_; refine Of rfl rfl ?_
   exact Ar 5 rfl rfl hk
  ·intro _ hk; refine A0 5 rfl ?_; refine Ot rfl rfl ?_
   exact Ar 5 rfl rfl hk
  refine Aa ?_; refine As rfl ?_ ?_
  ·intro c1
   try simp only [nb] at c1
   refine Se rfl (Oa rfl (Aa (Ad (.tmp rfl .nil) ?_))); refine only rfl ?_
   have hk : C9 t = [] := by
    unfold C9
    split
    ·have : (Ay t.head).1 = 0 := by omega
     rw [this, k3 this]; rfl
    ·rfl
   rw [Rg hne hk]; rfl
  intro c1
  try simp only [nb] at c1
  have hl : t.parts.length = (Ay t.head).2 := by omega
  have hkr := Wh hl
  have hk0 : C9 t ≠ [] := by
   intro e; rw [e] at hkr; have := congrArg List.length hkr; simp at this; omega
  have hks := Rh hk0
  refine Ae (Ab (Se rfl (Om rfl (Oc rfl rfl rfl (Om rfl ?_)))))
  apply Ci 43 51 rfl
  ·intro g7_3 hk
   try simp only [nb] at g7_3
   have hl1 : 1 < t.parts.length := by omega
   have ha1 := (hf.rp 1 hl1).atom_le
   refine Ax rfl (.met rfl rfl) rfl ?_; refine A1 rfl (.met rfl rfl) rfl ?_
   first | refine A5 rfl rfl 1 rfl (.met rfl rfl) rfl ?_ | refine A6 rfl rfl 1 rfl (.met rfl rfl) rfl ?_
   refine Bd rfl (.met rfl rfl) rfl ?_; refine Fo rfl (.met rfl rfl) rfl ?_; refine B9 rfl (.met rfl rfl) rfl (Kz (t.pt 1).atom ha1 _ _) ?_; rintro _ _ _ _ ⟨rfl, rfl, rfl⟩; refine Cp rfl (.met rfl rfl) rfl ?_; refine Ot rfl rfl ?_
   exact Ar 7 rfl rfl hk
  ·intro _ hk; refine A0 7 rfl ?_; refine Of rfl rfl ?_
   exact Ar 7 rfl rfl hk
  refine Aa ?_; refine As rfl ?_ ?_
  ·intro c2
   try simp only [nb] at c2
   refine Se rfl (Oa rfl (Aa (Ad (.tmp rfl .nil) ?_))); refine only rfl ?_
   have hl1 : 1 < t.parts.length := by omega
   have h1 : 1 < (Ay t.head).1 := by omega
   rw [hks, J9]
   rcases k5.1 h1 with e | e
   ·rw [if_pos e, c2.2]; simp [C2]
   ·rw [if_neg (by rw [e]; decide), if_pos e, c2.2]; simp [C2]
  intro c2
  try simp only [nb] at c2
  refine Ae (Ab (Ab ?_)); refine Dp 40 rfl rfl ?_; refine Da 0 rfl (Ah rfl) ?_; refine Da 1 rfl (O5 rfl rfl rfl) ?_; refine Da 2 rfl (Ah rfl) ?_
  apply T0 54 91 rfl
  ·intro g9_3 hk
   try simp only [nb] at g9_3
   have h56 : (Ay t.head).1 = 5 := by omega
   have h6 := k7 h56
   have ha1 := (hf.rp 1 (by omega)).atom_le
   have ha2 := (hf.rp 2 (by omega)).atom_le
   have hz3 := t.pt_len 3 (by omega)
   have hz4 := t.pt_len 4 (by omega)
   have hg3 := Tree.pt_good hg 3 (by omega)
   have hg4 := Tree.pt_good hg 4 (by omega)
   refine Dm 3 rfl (Ai rfl) ?_; refine Gi 4 [40] rfl (by kernel_rfl) rfl Ao (Br rfl) (.met rfl rfl) rfl ?_
   first | refine Dm 5 rfl (Bl rfl rfl 2 rfl) ?_ | refine Dm 5 rfl (Bm rfl rfl 2 rfl) ?_
   refine Dm 6 rfl (Bb rfl) ?_; refine Gi 7 [40] rfl (by kernel_rfl) rfl Ao (Jd rfl) (.met rfl rfl) rfl ?_; refine Jx 8 rfl (by kernel_rfl) rfl rfl (.met rfl rfl) rfl (Kz (t.pt 2).atom ha2 _ _) ?_; rintro _ _ _ _ ⟨rfl, rfl, rfl⟩; refine Hx ?_; refine Dm 9 rfl (Xk rfl) ?_; refine Dm 10 rfl (Ah rfl) ?_
   apply Ack 62 74 rfl
   ·intro g9_11 hk
    try simp only [nb] at g9_11
    refine Dm 11 rfl (Ai rfl) ?_; refine Gi 12 [40] rfl (by kernel_rfl) rfl Ao (Br rfl) (.met rfl rfl) rfl ?_
    first | refine Dm 13 rfl (Bl rfl rfl 1 rfl) ?_ | refine Dm 13 rfl (Bm rfl rfl 1 rfl) ?_
    refine Dm 14 rfl (Bb rfl) ?_; refine Gi 15 [40] rfl (by kernel_rfl) rfl Ao (Jd rfl) (.met rfl rfl) rfl ?_; refine Dm 16 rfl (Ai rfl) ?_; refine Gi 17 [40] rfl (by kernel_rfl) rfl Ao (Br rfl) (.met rfl rfl) rfl ?_
    first | refine Dm 18 rfl (Bl rfl rfl 2 rfl) ?_ | refine Dm 18 rfl (Bm rfl rfl 2 rfl) ?_
    refine Dm 19 rfl (Bb rfl) ?_; refine Gi 20 [40] rfl (by kernel_rfl) rfl Ao (Jd rfl) (.met rfl rfl) rfl ?_; refine Dm 21 rfl (Tp rfl rfl rfl) ?_; refine Dm 22 rfl (Ep rfl rfl) ?_
    exact H2 11 rfl rfl hk
   ·intro _ hk; refine Ds 11 rfl rfl rfl ?_; refine Ds 12 rfl rfl rfl ?_; refine Ds 13 rfl rfl rfl ?_; refine Ds 14 rfl rfl rfl ?_; refine Ds 15 rfl rfl rfl ?_; refine Ds 16 rfl rfl rfl ?_; refine Ds 17 rfl rfl rfl ?_; refine Ds 18 rfl rfl rfl ?_; refine Ds 19 rfl rfl rfl ?_; refine Ds 20 rfl rfl rfl ?_; refine Ds 21 rfl rfl rfl ?_; refine Dm 22 rfl (E4 rfl rfl) ?_
    exact H2 11 rfl rfl hk
   refine Dm 23 rfl (Ah rfl) ?_
   apply Ack 75 82 rfl
   ·intro g9_24 hk
    try simp only [nb] at g9_24
    refine Dm 24 rfl (Ai rfl) ?_; refine Gi 25 [40] rfl (by kernel_rfl) rfl Ao (Br rfl) (.met rfl rfl) rfl ?_
    first | refine Dm 26 rfl (Bl rfl rfl 3 rfl) ?_ | refine Dm 26 rfl (Bm rfl rfl 3 rfl) ?_
    refine Gi 27 [40] rfl (by kernel_rfl) rfl Ao (Bq rfl) (.met rfl rfl) rfl ?_; refine Jx 28 rfl (by kernel_rfl) rfl rfl (.met rfl rfl) rfl (Lf (hf.rp 3 (by omega)) hg3 (Tree.size_maxN (by omega)) _) ?_; rintro _ _ _ _ ⟨rfl, rfl, rfl⟩; refine Hx ?_; refine Dm 29 rfl (Xk rfl) ?_; refine Dm 30 rfl (Ep rfl rfl) ?_
    exact H2 6 rfl rfl hk
   ·intro _ hk; refine Ds 24 rfl rfl rfl ?_; refine Ds 25 rfl rfl rfl ?_; refine Ds 26 rfl rfl rfl ?_; refine Ds 27 rfl rfl rfl ?_; refine Ds 28 rfl rfl rfl ?_; refine Ds 29 rfl rfl rfl ?_; refine Dm 30 rfl (E4 rfl rfl) ?_
    exact H2 6 rfl rfl hk
   refine Dm 31 rfl (Ah rfl) ?_
   apply Ack 83 90 rfl
   ·intro g9_32 hk
    try simp only [nb] at g9_32
    refine Dm 32 rfl (Ai rfl) ?_; refine Gi 33 [40] rfl (by kernel_rfl) rfl Ao (Br rfl) (.met rfl rfl) rfl ?_
    first | refine Dm 34 rfl (Bl rfl rfl 4 rfl) ?_ | refine Dm 34 rfl (Bm rfl rfl 4 rfl) ?_
    refine Gi 35 [40] rfl (by kernel_rfl) rfl Ao (Bq rfl) (.met rfl rfl) rfl ?_; refine Jx 36 rfl (by kernel_rfl) rfl rfl (.met rfl rfl) rfl (Lf (hf.rp 4 (by omega)) hg4 (Tree.size_maxN (by omega)) _) ?_; rintro _ _ _ _ ⟨rfl, rfl, rfl⟩; refine Hx ?_; refine Dm 37 rfl (Xk rfl) ?_; refine Dm 38 rfl (Ep rfl rfl) ?_
    exact H2 6 rfl rfl hk
   ·intro _ hk; refine Ds 32 rfl rfl rfl ?_; refine Ds 33 rfl rfl rfl ?_; refine Ds 34 rfl rfl rfl ?_; refine Ds 35 rfl rfl rfl ?_; refine Ds 36 rfl rfl rfl ?_; refine Ds 37 rfl rfl rfl ?_; refine Dm 38 rfl (E4 rfl rfl) ?_
    exact H2 6 rfl rfl hk
   refine Da 39 rfl (E4 rfl rfl) ?_
   exact H2 13 rfl rfl hk
  ·intro _ hk; refine Ds 3 rfl rfl rfl ?_; refine Ds 4 rfl rfl rfl ?_; refine Ds 5 rfl rfl rfl ?_; refine Ds 6 rfl rfl rfl ?_; refine Ds 7 rfl rfl rfl ?_; refine Ds 8 rfl rfl rfl ?_; refine Ds 9 rfl rfl rfl ?_; refine Ds 10 rfl rfl rfl ?_; refine Ck 11 rfl (by kernel_rfl) rfl (.inr Ao) rfl rfl rfl ?_; refine Ck 12 rfl (by kernel_rfl) rfl (.inr Ao) rfl rfl rfl ?_; refine Ck 13 rfl (by kernel_rfl) rfl (.inr Ao) rfl rfl rfl ?_; refine Ck 14 rfl (by kernel_rfl) rfl (.inr Ao) rfl rfl rfl ?_; refine Ck 15 rfl (by kernel_rfl) rfl (.inr Ao) rfl rfl rfl ?_
   refine Ck 16 rfl (by kernel_rfl) rfl (.inr Ao) rfl rfl rfl ?_; refine Ck 17 rfl (by kernel_rfl) rfl (.inr Ao) rfl rfl rfl ?_; refine Ck 18 rfl (by kernel_rfl) rfl (.inr Ao) rfl rfl rfl ?_; refine Ck 19 rfl (by kernel_rfl) rfl (.inr Ao) rfl rfl rfl ?_; refine Ck 20 rfl (by kernel_rfl) rfl (.inr Ao) rfl rfl rfl ?_; refine Ck 21 rfl (by kernel_rfl) rfl (.inr Ao) rfl rfl rfl ?_; refine Ds 22 rfl rfl rfl ?_; refine Ds 23 rfl rfl rfl ?_; refine Ck 24 rfl (by kernel_rfl) rfl (.inr Ao) rfl rfl rfl ?_; refine Ck 25 rfl (by kernel_rfl) rfl (.inr Ao) rfl rfl rfl ?_
   refine Ck 26 rfl (by kernel_rfl) rfl (.inr Ao) rfl rfl rfl ?_; refine Ck 27 rfl (by kernel_rfl) rfl (.inr Ao) rfl rfl rfl ?_; refine Ck 28 rfl (by kernel_rfl) rfl (.inr Ao) rfl rfl rfl ?_; refine Ck 29 rfl (by kernel_rfl) rfl (.inr Ao) rfl rfl rfl ?_; refine Ds 30 rfl rfl rfl ?_; refine Ds 31 rfl rfl rfl ?_; refine Ck 32 rfl (by kernel_rfl) rfl (.inr Ao) rfl rfl rfl ?_; refine Ck 33 rfl (by kernel_rfl) rfl (.inr Ao) rfl rfl rfl ?_; refine Ck 34 rfl (by kernel_rfl) rfl (.inr Ao) rfl rfl rfl ?_; refine Ck 35 rfl (by kernel_rfl) rfl (.inr Ao) rfl rfl rfl ?_
   refine Ck 36 rfl (by kernel_rfl) rfl (.inr Ao) rfl rfl rfl ?_; refine Ck 37 rfl (by kernel_rfl) rfl (.inr Ao) rfl rfl rfl ?_; refine Ds 38 rfl rfl rfl ?_; refine Da 39 rfl (Ep rfl rfl) ?_
   exact H2 36 rfl rfl hk
  refine At (by kernel_rfl) ?_; refine As rfl ?_ ?_
  ·intro c3
   try simp only [nb] at c3
   have h56 : (Ay t.head).1 = 5 := by omega
   have h6 := k7 h56
   refine Se rfl (Oa rfl (Aa (Ad (.tmp rfl .nil) ?_))); refine only rfl ?_
   have hh := k6.1 h56
   rw [hks, J9, if_neg (by rw [hh]; decide), if_pos hh]
   have : (Bv (t.pt 1).atom && Bv (t.pt 2).atom && decide ((t.pt 1).atom ≠ (t.pt 2).atom) && (t.pt 3).typed && (t.pt 4).typed) = false := by
    have := c3.2
    grind
   rw [this]; simp [C2]
  intro c3
  try simp only [nb] at c3
  have htail : J9 t = true := by
   unfold J9
   by_cases e : t.head = Dk
   ·rw [if_pos e]
    have := k5.2 (.inl e)
    rcases c2 with h | h
    ·omega
    ·simpa using h
   ·rw [if_neg e]
    by_cases e' : t.head = Dj
    ·have h5 := k6.2 e'
     have h6 := k7 h5
     rw [if_pos e']
     grind
    ·rw [if_neg e']
  refine Ae (Ab (Se rfl (Om rfl (Oa rfl (Aa (Aj ?_)))))); refine Dv (X := Nat) (fun j => (C9 t).length - j) (fun j => [(1, .pointer (some ⟨b1, 0, none⟩)), (6, .int .i64 ((Ay t.head).2 : Nat)), (7, .int .i64 (((Ay t.head).1 + j : Nat)))]) (fun _ => I) (fun _ => (b1, .cells [.string (str t.atom), .slice oa t.parts.length c].toArray _ (0, 0)) :: L) (fun j => j ≤ (C9 t).length ∧ ((C9 t).take j).all (fun i => (t.pt i).ex.isSome) = true) 0 ⟨by omega, rfl⟩ ⟨rfl, rfl, rfl, trivial⟩ Bf ?_; rintro j ⟨hj, hall⟩ ih
  have hkl : (C9 t).length = (Ay t.head).2 - (Ay t.head).1 := by rw [hkr, List.length_range']
  refine Ab (Se rfl (Om rfl (Om rfl (Oc rfl rfl rfl (Aa ?_))))); refine As rfl ?_ ?_
  ·intro c4
   try simp only [nb] at c4
   have hjl : j < (C9 t).length := by omega
   have hkj : (C9 t)[j] = (Ay t.head).1 + j := by simp only [hkr, List.getElem_range']; omega
   have hkt : (Ay t.head).1 + j < t.parts.length := by omega
   refine Ae (Ab (Aj (Se rfl (Oh rfl ?_)))); refine A1 rfl .free rfl ?_; refine Om rfl ?_
   first | refine A5 rfl rfl _ rfl .free rfl ?_ | refine A6 rfl rfl _ rfl .free rfl ?_
   refine D9 rfl .free rfl ?_; refine Ca rfl (ihn (t := t.pt ((Ay t.head).1 + j)) (by have := t.pt_lt _ hkt; omega) (hf.rp _ hkt) (Tree.pt_good hg _ hkt) (by have := t.pt_len _ hkt; omega) _) ?_; rintro _ _ _ _ ⟨rfl, rfl, rfl⟩; refine Cp rfl .free rfl ?_; refine Aa ?_; refine As rfl ?_ ?_
   ·intro c5
    try simp only [nb] at c5
    refine Se rfl (Oa rfl (Aa (Ad (.tmp rfl .nil) ?_))); refine only rfl ?_; rw [hks]
    have : (C9 t).all (fun i => (t.pt i).ex.isSome) = false := by
     rw [List.all_eq_false]; exact ⟨_, List.getElem_mem hjl, by rw [hkj]; simpa using c5⟩
    rw [this]; rfl
   intro c5
   try simp only [nb] at c5
   refine Ae (Ak (Af rfl (Om rfl ?_))); refine Or rfl rfl rfl ?_; refine Oa rfl (Aa ?_); refine Bp (E' := [(1, .pointer (some ⟨b1, 0, none⟩)), (6, .int .i64 ((Ay t.head).2 : Nat)), (7, .int .i64 (((Ay t.head).1 + (j + 1) : Nat)))]) ⟨rfl, rfl, rfl, trivial⟩ (ih (j + 1) ⟨by omega, ?_⟩ (by omega)); rw [List.take_succ_eq_append_getElem hjl, List.all_append, hall]
   simp only [List.all_cons, List.all_nil, Bool.and_true, Bool.true_and]
   rw [hkj]; simpa using c5
  intro c4
  try simp only [nb] at c4
  refine Bz rfl ?_; refine Se rfl (Oa rfl (Aa (Ad (.tmp rfl .nil) ?_))); refine only rfl ?_; obtain rfl : j = (C9 t).length := by omega
  rw [List.take_length] at hall; rw [hks, hall, htail]; rfl

def Qd (ps : List Tree) (i : Nat) : Ap := if i = 0 then [40] else Gg (ps.take i)
theorem Yt (ps : List Tree) (i : Nat) (hi : i < ps.length) : Qd ps (i + 1) = (if i = 0 then Qd ps i else Qd ps i ++ [32]) ++ ps[i].text := by
 unfold Qd
 rw [if_neg (by omega), Qc ps i hi]
 by_cases h : i = 0
 ·simp [h, Gg]
 ·simp [h]
theorem Aaw (ps : List Tree) (i : Nat) (hi : i ≤ ps.length) : (Qd ps i).length ≤ 1 + (Gg ps).length := by
 unfold Qd
 split
 ·simp
 ·have := Rm ps i; omega
theorem Ky : ∀ (n : Nat) {I : Heap} {t : Tree} {cs : List Value} (_ : SizeOf.sizeOf t < n) (_ : Rep I t cs) (_ : t.good = true) (_ : t.len ≤ 12000000) (L : Bh),
  Fun Tryz.prog 39 [.agg cs.toArray] I L (D0 (.string (str t.text)) I L) := by
 intro n
 induction n with
 | zero => intro I t cs h; omega
 | succ n ihn =>
  intro I t cs hlt h hg hz L; obtain ⟨oa, c, oaf, cf, rfl, hf⟩ := h.at'
  have hp := hf.len
  unfold Az at hp
  refine Ag (by simp) ?_; refine Se rfl ?_; refine B7 rfl rfl .free rfl ?_; intro b1; refine Oa rfl (Aa (Ab (Se rfl (Oh rfl ?_)))); refine A1 rfl .free rfl ?_; refine Od rfl rfl rfl (Aa ?_); refine As rfl ?_ ?_
  ·intro c0
   try simp only [nb] at c0
   refine Se rfl (Oh rfl ?_); refine A1 rfl .free rfl ?_; refine Oa rfl (Aa (Ad (.tmp rfl .nil) ?_)); refine only rfl ?_; rw [t.text_atom (Jp hg (by simpa using c0))]; rfl
  intro c0
  try simp only [nb] at c0
  obtain ⟨hne, h0⟩ := I0 hg (by simpa using c0)
  have htx := t.text_eq hne
  have htl := t.text_len
  rw [htx, List.length_append] at htl
  simp only [List.length_cons, List.length_nil] at htl
  refine Ae (Se rfl (Oa rfl (Aa (Ab (Se rfl (Oa rfl (Aa (Aj ?_)))))))); refine Dv (X := Nat) (fun i => t.parts.length - i) (fun i => [(1, .pointer (some ⟨b1, 0, none⟩)), (3, .string (str (Qd t.parts i))), (4, .int .i64 (i : Nat))]) (fun _ => I) (fun _ => (b1, .cells [.string (str t.atom), .slice oa t.parts.length c].toArray _ (0, 0)) :: L) (fun i => i ≤ t.parts.length) 0 (by omega) ⟨rfl, rfl, rfl, trivial⟩ Bf ?_; rintro i hi ih
  have hol := Aaw t.parts i hi
  refine Ab (Se rfl (Om rfl (Oh rfl ?_))); refine A1 rfl .free rfl ?_; refine On rfl (Oc rfl rfl rfl (Aa ?_)); refine As rfl ?_ ?_
  ·intro c1
   try simp only [nb] at c1
   have hpl := t.pt_len i (by omega)
   have hos := Yt t.parts i (by omega)
   rw [← Tree.pt_at (by omega)] at hos
   have hpt := (t.pt i).text_len
   refine Ae (Ab (Aj (Ab (Se rfl (Om rfl (Oc rfl rfl rfl (Aa ?_))))))); refine As rfl ?_ ?_
   ·intro c2
    try simp only [nb] at c2
    refine Af rfl (Om rfl ?_); refine Ok rfl rfl ?_; refine Oa rfl (Aa (Af rfl (Om rfl (Oh rfl ?_)))); refine A1 rfl .free rfl ?_; refine Om rfl ?_
    first | refine A5 rfl rfl _ rfl .free rfl ?_ | refine A6 rfl rfl _ rfl .free rfl ?_
    refine D9 rfl .free rfl ?_; refine Ca rfl (ihn (t := t.pt i) (by have := t.pt_lt i (by omega); omega) (hf.rp i (by omega)) (Tree.pt_good hg i (by omega)) (by omega) _) ?_; rintro _ _ _ _ ⟨rfl, rfl, rfl⟩; refine Ok rfl rfl ?_; refine Oa rfl (Aa (Ak (Af rfl (Om rfl ?_)))); refine Or rfl rfl rfl ?_; refine Oa rfl (Aa ?_); refine Bp (E' := [(1, .pointer (some ⟨b1, 0, none⟩)), (3, .string (str (Qd t.parts (i + 1)))), (4, .int .i64 ((i + 1 : Nat)))]) ⟨rfl, ?_, rfl, trivial⟩ (ih (i + 1) (by omega) (by omega))
    first
     | (rw [hos, if_neg (by omega)]; rfl)
     | (rw [hos, if_pos (by omega)]; rfl)
   intro c2
   try simp only [nb] at c2
   refine Ae (Af rfl (Om rfl (Oh rfl ?_))); refine A1 rfl .free rfl ?_; refine Om rfl ?_
   first | refine A5 rfl rfl _ rfl .free rfl ?_ | refine A6 rfl rfl _ rfl .free rfl ?_
   refine D9 rfl .free rfl ?_; refine Ca rfl (ihn (t := t.pt i) (by have := t.pt_lt i (by omega); omega) (hf.rp i (by omega)) (Tree.pt_good hg i (by omega)) (by omega) _) ?_; rintro _ _ _ _ ⟨rfl, rfl, rfl⟩; refine Ok rfl rfl ?_; refine Oa rfl (Aa (Ak (Af rfl (Om rfl ?_)))); refine Or rfl rfl rfl ?_; refine Oa rfl (Aa ?_); refine Bp (E' := [(1, .pointer (some ⟨b1, 0, none⟩)), (3, .string (str (Qd t.parts (i + 1)))), (4, .int .i64 ((i + 1 : Nat)))]) ⟨rfl, ?_, rfl, trivial⟩ (ih (i + 1) (by omega) (by omega))
   first
    | (rw [hos, if_neg (by omega)]; rfl)
    | (rw [hos, if_pos (by omega)]; rfl)
  intro c1
  try simp only [nb] at c1
  obtain rfl : i = t.parts.length := by omega
  have hpos : Qd t.parts t.parts.length = Gg t.parts := by unfold Qd; rw [if_neg (by omega), List.take_length]
  rw [hpos]; refine Bz rfl ?_; refine Se rfl (Om rfl ?_); refine Ok rfl rfl ?_; refine Oa rfl (Aa (Ad (.tmp rfl .nil) ?_)); refine only rfl ?_; rw [htx]; rfl

theorem H4 {I : Heap} {t : Tree} {cs : List Value} (h : Rep I t cs) (hg : t.good = true) (hz : t.len ≤ 12000000) (L : Bh) :
  Fun Tryz.prog 63 [.agg cs.toArray] I L (D0 (.bool (decide (t.size ≤ 120) && t.fits && t.ex.isSome)) I L) := by
 obtain ⟨oa, c, oaf, cf, rfl, hf⟩ := h.at'; refine Ag (by simp) ?_; refine Se rfl ?_; refine B7 rfl rfl .free rfl ?_; intro b1; refine Oa rfl (Aa (Se rfl ?_)); refine A3 rfl .free rfl ?_; refine Ca rfl (Oi _ (Nat.lt_succ_self _) h (Tree.size_maxN hz) _) ?_; rintro _ _ _ _ ⟨rfl, rfl, rfl⟩; refine Oc rfl rfl rfl (Om rfl ?_)
 apply Ci 6 9 rfl
 ·intro g1_4 hk
  try simp only [nb] at g1_4
  refine A3 rfl (.met rfl rfl) rfl ?_; refine B9 rfl (.met rfl rfl) rfl (Uc h (by unfold Az; omega) _) ?_; rintro _ _ _ _ ⟨rfl, rfl, rfl⟩; refine Ot rfl rfl ?_
  exact Ar 2 rfl rfl hk
 ·intro _ hk; refine A0 2 rfl ?_; refine Of rfl rfl ?_
  exact Ar 2 rfl rfl hk
 refine Om rfl ?_
 apply Ci 10 13 rfl
 ·intro g1_8 hk
  try simp only [nb] at g1_8
  refine A3 rfl (.met rfl rfl) rfl ?_; refine B9 rfl (.met rfl rfl) rfl (Qs _ (Nat.lt_succ_self _) h hg hz _) ?_; rintro _ _ _ _ ⟨rfl, rfl, rfl⟩; refine Ot rfl rfl ?_
  exact Ar 2 rfl rfl hk
 ·intro _ hk; refine A0 2 rfl ?_; refine Of rfl rfl ?_
  exact Ar 2 rfl rfl hk
 refine Oa rfl (Aa (Ad (.tmp rfl .nil) ?_)); refine only rfl ?_
 have e : decide ((t.size : Int) ≤ 120) = decide (t.size ≤ 120) := by rw [Bool.eq_iff_iff]; simp; omega
 simp only [C2, e]

def RX (p : Option Ex) (L : Bh ) : Cs   := fun v I' L' => ∃ t cs ok, v = .tuple #[.agg cs.toArray, .bool ok] ∧ Rep I' t cs ∧ L = L' ∧
  (match p with
   | some e => ok = true ∧ t = e.tree
   | none => ok = false)
theorem G3 {s : Ap} {t : Tree} {ok : Bool} (hpf : match C7 s with | some t0 => ok = true ∧ t = t0 | none => ok = false) (h : ok = true) : C7 s = some t := by
 cases hp : C7 s with
 | none => rw [hp] at hpf; simp [h] at hpf
 | some t0 => rw [hp] at hpf; rw [hpf.2]
theorem E7 {s : Ap} {t : Tree} (h : C7 s = some t) : t.good = true ∧ t.len ≤ 12000000 ∧ t.fits = true := by
 obtain ⟨h1, h2, h3⟩ := Gv h
 simp only [Tree.fits, Bool.and_eq_true, decide_eq_true_eq] at h1
 exact ⟨h2, by omega, by simp [Tree.fits, h1]⟩
theorem Xb {s : Ap} {t : Tree} {ok : Bool} (hpf : match C7 s with | some t0 => ok = true ∧ t = t0 | none => ok = false) (b : Bool) (hb : b = (ok && (decide (t.size ≤ 120) && t.ex.isSome))) :
  match E5 s with | some e => b = true ∧ t = e.tree | none => b = false := by
 cases ok with
 | false =>
  have hp : C7 s = none := by
   cases hp : C7 s with
   | none => rfl
   | some t0 => rw [hp] at hpf; exact absurd hpf.1 (by simp)
  unfold E5
  rw [hp]; simpa using hb
 | true =>
  have hp := G3 hpf rfl
  have hx : E5 s = match t.ex with | some e => (if e.size ≤ 120 then some e else none) | none => none := by unfold E5; rw [hp] <;> rfl
  cases he : t.ex with
  | none =>
   have h2 : E5 s = none := by rw [hx, he]
   rw [h2]; simpa [he] using hb
  | some e =>
   obtain ⟨rfl, _⟩ := Tree.ex_tree (E7 hp).1 he; rw [Ex.tree_size] at hb
   by_cases hz : e.size ≤ 120
   ·have h2 : E5 s = some e := by rw [hx, he]; exact if_pos hz
    rw [h2]; exact ⟨by rw [hb]; simp [hz, he], rfl⟩
   ·have h2 : E5 s = none := by rw [hx, he]; exact if_neg hz
    rw [h2]; simp [hb, hz]
theorem V4 (s : Ap) (hs : s.length ≤ Az) (I : Heap) (L : Bh) : Fun Tryz.prog 41 [.string (str s)] I L (RX (E5 s) L) := by
 refine Ag (by simp) ?_; refine Se rfl ?_; refine Aw .free rfl ?_; intro b2; refine Oa rfl (Aa (Se rfl (Om rfl ?_))); refine Ca rfl (Aco s hs _ _) ?_; rintro _ J _ hleJ ⟨t, cs, ok, rfl, hrep, rfl, hpf⟩; obtain ⟨oa, cc, vs, rfl, -⟩ := hrep.open; refine Om rfl (Oe rfl rfl (Oe rfl rfl ?_)); refine Aw .free rfl ?_; intro b4; refine Bn rfl rfl rfl rfl .free ?_; refine Oa rfl (Aa (Ab ?_)); refine Dp 8 rfl rfl ?_; refine Dt 0 [6] rfl (Cx rfl) ?_; refine Da 1 rfl (Ah rfl) ?_; refine Da 2 rfl (Ah rfl) ?_
 apply T0 13 16 rfl
 ·intro g2_3 hk
  try simp only [nb] at g2_3
  obtain ⟨hg, hz, hfit⟩ := E7 (G3 hpf g2_3); refine Gi 3 [4, 6] rfl (by kernel_rfl) rfl Ao (Cx rfl) (.met rfl rfl) rfl ?_; refine Jx 4 rfl (by kernel_rfl) rfl rfl (.met rfl rfl) rfl (H4 hrep hg hz _) ?_; rintro _ _ _ _ ⟨rfl, rfl, rfl⟩; refine Hx ?_; refine Da 5 rfl (E4 rfl rfl) ?_
  exact H2 2 rfl rfl hk
 ·intro _ hk; refine Ds 3 rfl rfl rfl ?_; refine Ds 4 rfl rfl rfl ?_; refine Da 5 rfl (Ep rfl rfl) ?_
  exact H2 2 rfl rfl hk
 refine Dx 6 rfl rfl rfl rfl ?_; refine Db 7 rfl (A2 rfl) ?_; refine At (by kernel_rfl) ?_; refine Ad (.c rfl (.tmp rfl .nil)) ?_; refine ⟨J, L, hleJ, fun _ h => h.drop.drop, t, _, _, rfl, hrep, rfl, Xb hpf _ ?_⟩
 cases ok with
 | false => rfl
 | true =>
  obtain ⟨hg, hz, hfit⟩ := E7 (G3 hpf rfl)
  simp [hfit]
theorem Kb (s : Ap) (hs : s.length ≤ Iz) (I : Heap) (L : Bh) : Fun Tryz.prog 34 [.string (str s)] I L (RX (E5 s) L) := by
 refine Ag (by simp) ?_; refine Se rfl ?_; refine Aw .free rfl ?_; intro b2; refine Oa rfl (Aa (Se rfl (Om rfl ?_))); refine Ca rfl (Gs s hs _ _) ?_; rintro _ J _ hleJ ⟨t, cs, ok, rfl, hrep, rfl, hpf⟩; obtain ⟨oa, cc, vs, rfl, -⟩ := hrep.open; refine Om rfl (Oe rfl rfl (Oe rfl rfl ?_)); refine Aw .free rfl ?_; intro b4; refine Bn rfl rfl rfl rfl .free ?_; refine Oa rfl (Aa (Ab ?_)); refine Dp 13 rfl rfl ?_; refine Dt 0 [11] rfl (Cx rfl) ?_; refine Da 1 rfl (Ah rfl) ?_; refine Da 2 rfl (Ah rfl) ?_
 apply T0 13 16 rfl
 ·intro g2_3 hk
  try simp only [nb] at g2_3
  obtain ⟨hg, hz, hfit⟩ := E7 (G3 hpf g2_3); refine Gi 3 [4, 6, 8, 11] rfl (by kernel_rfl) rfl Ao (Cx rfl) (.met rfl rfl) rfl ?_; refine Jx 4 rfl (by kernel_rfl) rfl rfl (.met rfl rfl) rfl (Yb _ (Nat.lt_succ_self _) hrep hg hz _) ?_; rintro _ _ _ _ ⟨rfl, rfl, rfl⟩; refine Hx ?_; refine Da 5 rfl (E4 rfl rfl) ?_
  exact H2 2 rfl rfl hk
 ·intro _ hk; refine Ds 3 rfl rfl rfl ?_; refine Ds 4 rfl rfl rfl ?_; refine Da 5 rfl (Ep rfl rfl) ?_
  exact H2 2 rfl rfl hk
 refine Da 6 rfl (Ah rfl) ?_
 apply T0 17 21 rfl
 ·intro g2_7 hk
  try simp only [nb] at g2_7
  obtain ⟨hg, hz, hfit⟩ := E7 (G3 hpf g2_7.1); refine Gi 7 [8, 11] rfl (by kernel_rfl) rfl Ao (Cx rfl) (.met rfl rfl) rfl ?_; refine Jx 8 rfl (by kernel_rfl) rfl rfl (.met rfl rfl) rfl (Ul _ (Nat.lt_succ_self _) hrep hg (Tree.size_maxN hz) _) ?_; rintro _ _ _ _ ⟨rfl, rfl, rfl⟩; refine Hx ?_; refine Dm 9 rfl (O5 rfl rfl rfl) ?_; refine Da 10 rfl (E4 rfl rfl) ?_
  exact H2 3 rfl rfl hk
 ·intro _ hk; refine Ds 7 rfl rfl rfl ?_; refine Ds 8 rfl rfl rfl ?_; refine Ds 9 rfl rfl rfl ?_; refine Da 10 rfl (Ep rfl rfl) ?_
  exact H2 3 rfl rfl hk
 refine Dx 11 rfl rfl rfl rfl ?_; refine Db 12 rfl (A2 rfl) ?_; refine At (by kernel_rfl) ?_; refine Ad (.c rfl (.tmp rfl .nil)) ?_; refine ⟨J, L, hleJ, fun _ h => h.drop.drop, t, _, _, rfl, hrep, rfl, Xb hpf _ ?_⟩
 have e : decide ((t.size : Int) ≤ 120) = decide (t.size ≤ 120) := by rw [Bool.eq_iff_iff]; simp; omega
 rw [e]
 cases ok <;> cases t.ex.isSome <;> simp
theorem Sw (s : Ap) (hs : s.length ≤ Iz) (I : Heap) (L : Bh) : Fun Tryz.prog 38 [.string (str s)] I L (D0 (.bool (E5 s).isSome) I L) := by
 refine Ag (by simp) ?_; refine Se rfl (Oa rfl (Aa (Se rfl (Om rfl ?_)))); refine Ca rfl (Kb s hs _ _) ?_; rintro _ J _ hleJ ⟨t, cs, ok, rfl, hrep, rfl, hpf⟩; obtain ⟨oa, cc, vs, rfl, -⟩ := hrep.open; refine Om rfl (Oe rfl rfl (Oe rfl rfl ?_)); refine Aw .free rfl ?_; intro b3; refine Bn rfl rfl rfl rfl .free ?_; refine Oa rfl (Aa (Se rfl (Om rfl (Oa rfl (Aa (Ad (.tmp rfl .nil) ?_)))))); refine G5 hleJ Bf ?_; refine congrArg Value.bool ?_
 cases hp : E5 s with
 | none => rw [hp] at hpf; exact hpf
 | some e => rw [hp] at hpf; exact hpf.1
theorem Kx (s : Ap) (hs : s.length ≤ Az) (I : Heap) (L : Bh) : Fun Tryz.prog 38 [.string (str s)] I L (D0 (.bool (E5 s).isSome) I L) := Sw s (Jq hs) I L
section rules
variable {P : Program} {f : FuncId} {n : Nat} {I₀ : Heap} {Q : Cs} {k : List Item} {E : Gm} {I : Heap} {L : Bh}
variable {ops : Array Oper} {d : Nat} {ty : TypeId} {pos : String} {af : Array Edge} {g : Option (Nat × Bool)} {l : List Oper}
theorem Aa8 {T e : TypeId} {parts : Array (Nat × Operand)} {is : List Nat} {vs us : List Value} {m : Nat} {sz bb esz ebb : Nat} {z ez : List Value} {dd : TypeDesc} [ht : Aq P T (.slice e) sz bb z] [hte : Aq P e dd esz ebb ez]
  (hp : parts.toList.map (·.1) = is) (ho : G9 E (parts.toList.map (·.2)) = some vs) (hr : is = List.range' 0 vs.length) (hm : vs.length = m) (hfl : Mo esz vs = some us) (hm0 : m * esz ≠ 0) (hm1 : m * esz ≤ 2 ^ 24) (hez : ez.length = esz)
  (a : Act) (w : World) (he : EnvOk E a) (hmm : Mem I L w) :
  ∃ w', (execOp a.eval ⟨some d, .buildSlice T m parts, ty, pos, af, g⟩).run P w = .ok (.value (.slice (some ⟨w.heap.size, 0, none⟩) m m)) w' ∧ Mem I ((w.heap.size, .cells us.toArray e (0, 0)) :: L) w' := by
 have hfill : Instr.fill (fun i => some (i * esz, esz)) ((Array.range (m * esz)).map (ez.toArray[· % ez.toArray.size]!)) (is.zip vs) = some us.toArray := by
  rw [hr]
  have := Q9 (esz := esz) 0 [] (((Array.range (m * esz)).map (ez.toArray[· % ez.toArray.size]!)).toList) hfl (by simp) (by simp [hm])
  rw [List.nil_append, List.nil_append, Array.toArray_toList] at this
  exact this
 refine ⟨{ w with heap := w.heap.push (.cells us.toArray e (0, 0)) }, ?_, hmm.alloc _⟩
 have h1 : parts.map (fun (i, x) => (i, a.eval x)) = (is.zip vs).toArray := by
  apply Array.ext'
  have := he.evals ho
  rw [← hp, ← this]
  simp [List.zip_map', Function.comp_def]
 simp only [execOp]
 rw [h1]; refine Ac (a := .slice (some ⟨w.heap.size, 0, none⟩) m m) (w' := { w with heap := w.heap.push (.cells us.toArray e (0, 0)) }) ?_ |>.trans rfl
 unfold Instr.buildSlice
 rw [Ac (A8 ht.und w)]
 simp only []
 rw [Ac (Ez hte w)]; rw [if_neg (by omega), if_neg hm0]; obtain ⟨zv, hz1, hz2⟩ := Hs hte w
 have hz3 : zv.cells = ez.toArray := by rw [← hz2]
 simp only [bind_assoc, pure_bind]
 rw [Ac hz1, hz3]; rw [hfill]
 rfl
theorem Fg {S : World → Prop} {fuel : Nat} {listed listed' : Array Bool} (i : Nat) {T e : TypeId} {parts : Array (Nat × Operand)} {is : List Nat} {vs us : List Value} {m : Nat} {sz bb esz ebb : Nat} {z ez : List Value} {dd : TypeDesc} [ht : Aq P T (.slice e) sz bb z] [hte : Aq P e dd esz ebb ez]
  (hi : ops[i]? = some ⟨some d, .buildSlice T m parts, ty, pos, af, g⟩) (hc : decide (Region.ready .any ops listed = [i]) = true) (hl : listed' = listed.setIfInBounds i true)
  (hp : parts.toList.map (·.1) = is) (ho : G9 E (parts.toList.map (·.2)) = some vs) (hr : is = List.range' 0 vs.length) (hm : vs.length = m) (hfl : Mo esz vs = some us) (hm0 : m * esz ≠ 0) (hm1 : m * esz ≤ 2 ^ 24) (hez : ez.length = esz)
  (hg : Wants ops E g) (hdn : Nat.blt d n = true) (hS : Eu ops listed' = true ∨ ∀ w, Mem I L w → S w)
  (h : ∀ b, Cq P f n I₀ Q ops S fuel listed' k ((d, .slice (some ⟨b, 0, none⟩) m m) :: E) I ((b, .cells us.toArray e (0, 0)) :: L)) : Cq P f n I₀ Q ops S (fuel + 1) listed k E I L := by
 refine Mj i hi hc hl rfl hdn (fun a he => hg.wanted a he) fun a w he hmm => ?_
 obtain ⟨w', h1, h2⟩ := Aa8 (P := P) (T := T) (e := e) (d := d) (ty := ty) (pos := pos) (af := af) (g := g) hp ho hr hm hfl hm0 hm1 hez a w he hmm
 exact ⟨_, w', I, _, h1, h2, hS.imp id fun hS w hw => hS w hw.drop, h _⟩
theorem D1 {S : World → Prop} {fuel : Nat} {listed : Array Bool} {b : Nat} {o : Obj} (h : HLe I (I.set b o) → Cq P f n I₀ Q ops S fuel listed k E (I.set b o) L) : Cq P f n I₀ Q ops S fuel listed k E I ((b, o) :: L) :=
 fun a w ha hd he hm => h hm.freeze.2 a w ha hd he hm.freeze.1
theorem C3 {S : World → Prop} {fuel : Nat} {listed : Array Bool} {I' : Heap} {L' : Bh} (hm : ∀ w, Mem I L w → Mem I' L' w) (h : Cq P f n I₀ Q ops S fuel listed k E I' L') : Cq P f n I₀ Q ops S fuel listed k E I L :=
 fun a w ha hd he hw => h a w ha hd he (hm w hw)
end rules

structure Forms (I : Heap) (oa : Option Addr) (ts : List Tree) (c : Nat) : Prop where
 rep : ∃ vs, RepL I ts vs ∧ ∀ x, oa = some x → Still I x vs
 nil : oa = none → ts = []
 cap : ts.length ≤ c
 len : ts.length ≤ Az
theorem Forms.mono {I I' : Heap} (hle : HLe I I') {oa : Option Addr} {ts : List Tree} {c : Nat} (h : Forms I oa ts c) : Forms I' oa ts c := by
 obtain ⟨⟨vs, h1, h2⟩, h3, h4, h5⟩ := h
 exact ⟨⟨vs, h1.mono hle, fun x hx => (h2 x hx).mono hle⟩, h3, h4, h5⟩
theorem Forms.form {I : Heap} {oa : Option Addr} {ts : List Tree} {c : Nat} (h : Forms I oa ts c) (a : Ap) (ha : a.length ≤ Az) : Rep I (.node a ts) [.string (str a), .slice oa ts.length c] := by
 obtain ⟨⟨vs, h1, h2⟩, h3, h4, h5⟩ := h
 exact .mk h1 h2 h3 h4 ha h5
theorem FormAt.forms {I : Heap} {t : Tree} {oa : Option Addr} {c : Nat} {oaf : Nat → Option Addr} {cf : Nat → Nat} (h : FormAt I t oa c oaf cf) : Forms I oa t.parts c := by
 obtain ⟨oa', c', vs, he, hl, hs, hn, hc, ha, hp⟩ := h.rep.open
 simp only [List.cons.injEq, Value.slice.injEq, and_true, true_and] at he
 obtain ⟨rfl, rfl⟩ := he
 exact ⟨⟨vs, hl, hs⟩, hn, hc, hp⟩
theorem Rb {I : Heap} {b : Nat} {ts : List Tree} {vs sp : List Value} {e : TypeId} {fr : Nat × Nat} {c : Nat} (hl : RepL I ts vs) (hle : HLe I (I.set b (.cells (vs ++ sp).toArray e fr))) (hc : ts.length ≤ c) (hn : ts.length ≤ Az) :
  Forms (I.set b (.cells (vs ++ sp).toArray e fr)) (some ⟨b, 0, none⟩) ts c :=
 ⟨⟨vs, hl.mono hle, fun y hy => by cases hy; exact Be⟩, by simp, hc, hn⟩
theorem V6 {I : Heap} {b : Nat} {ts : List Tree} {vs : List Value} {e : TypeId} {fr : Nat × Nat} {c : Nat} (hl : RepL I ts vs) (hle : HLe I (I.set b (.cells vs.toArray e fr))) (hc : ts.length ≤ c) (hn : ts.length ≤ Az) :
  Forms (I.set b (.cells vs.toArray e fr)) (some ⟨b, 0, none⟩) ts c := by
 have := Rb (sp := []) (e := e) (fr := fr) (b := b) hl (by simpa using hle) hc hn
 simpa using this
theorem RepL.one {I : Heap} {t : Tree} {cs : List Value} (h : Rep I t cs) : RepL I [t] cs := by
 obtain ⟨oa, c, vs, rfl, _⟩ := h.open
 exact .cons h .nil
theorem Rep.vals {I : Heap} {t : Tree} {cs : List Value} (h : Rep I t cs) : cs.all Cj = true := by
 obtain ⟨oa, c, vs, rfl, _⟩ := h.open; rfl
theorem RepL.two {I : Heap} {t u : Tree} {cs ds : List Value} (h : Rep I t cs) (h' : Rep I u ds) : RepL I [t, u] (cs ++ ds) := (RepL.one h).append (.one h')
def RP (t : Tree) (L : Bh) : Cs := fun v I' L' => ∃ cs, v = .agg (List.toArray cs) ∧ Rep I' t cs ∧ L = L'
theorem Pu (s : Ap) (hs : s.length ≤ Az) (I : Heap) (L : Bh) : Fun Tryz.prog 86 [.string (str s)] I L (D0 (.agg [.string (str s), .slice none 0 0].toArray) I L) := by
 refine Ag (by simp) ?_; refine Se rfl ?_; refine Aw .free rfl ?_; intro b2; refine Aa (Se rfl (Om rfl ?_)); refine Bt rfl rfl rfl .free rfl ?_; refine Bn rfl rfl rfl rfl .free ?_; refine Aa ?_; refine Ad (.c rfl .nil) ?_; refine only rfl ?_
 rfl
theorem Zp (s : Ap) (hs : s.length ≤ Az) {I : Heap} {oa : Option Addr} {ps : List Tree} {c : Nat} (h : Forms I oa ps c) (hp : ps.length < Az) (L : Bh) :
  Fun Tryz.prog 96 [.string (str s), .slice oa ps.length c] I L (RP (.node [] (.node s [] :: ps)) L) := by
 obtain ⟨⟨vs, hl, hst⟩, hn, hc, hlen⟩ := h
 unfold Az at hp
 have hvl := hl.length
 refine Ag (by simp) ?_; refine Se rfl ?_; refine Aw .free rfl ?_; intro b4; refine Aa (Se rfl (Om rfl ?_)); refine Ca rfl (Pu s hs _ _) ?_; rintro _ _ _ _ ⟨rfl, rfl, rfl⟩; refine Ol rfl rfl ?_; intro b7; refine Om rfl ?_
 refine Jr (B := some (b7, [])) (xs := [.string (str s), .slice none 0 0]) (ys := vs) (m := 1) (c := 1) (L₀ := (b4, _) :: L) (by intro kk; simp) (by rfl) rfl rfl ⟨rfl, Nat.le_refl _, rfl⟩ (fun _ h => h) (by omega) (fun a ha => (hst a ha).reads) (fun ha => by rw [hn ha] at hvl; exact List.length_eq_zero_iff.1 (by simpa using hvl)) hl.plain (by decide) (by omega) (by decide) .free rfl ?_; intro B' c' hB'; obtain ⟨⟨bb, sp⟩, rfl⟩ : ∃ p, B' = some p := by
  cases B' with
  | none => exact absurd hB'.1 (by simp)
  | some p => exact ⟨p, rfl⟩
 simp only [Cf, List.cons_append, List.nil_append]
 refine Bt rfl rfl rfl .free rfl ?_; refine Bn rfl rfl rfl rfl .free ?_; refine Aa ?_; refine Bi ?_; intro hz; refine Ad (.c rfl .nil) ?_; refine ⟨_, L, hz, Bf, _, rfl, .mk' (by simp; omega) ((RepL.cons (.ofAtom hs) hl).mono hz) (fun y hy => by cases hy; exact Be) (by simp) hB'.2.1 (by simp [Az]) (by unfold Az; omega), rfl⟩
section rules
variable {P : Program} {f : FuncId} {n : Nat} {I₀ : Heap} {Q : Cs} {k : List Item} {E : Gm} {I : Heap} {L : Bh}
variable {ops : Array Oper} {d : Nat} {ty : TypeId} {pos : String} {af : Array Edge} {g : Option (Nat × Bool)} {l : List Oper}
theorem Vq {S : World → Prop} {x : Operand} {ad : Option Addr} {m c : Nat} {e T : TypeId} {sz bb : Nat} {z : List Value} [ht : Aq P T (.slice e) sz bb z] (hx : A7 E x = some (.slice ad m c)) : Gn P E S ⟨some d, .call ⟨.builtin .cap, #[x], #[T]⟩, ty, pos, af, g⟩ (.int .i64 (c : Nat)) := fun a w he _ => by
  simp only [execOp, resolve, List.map_toArray, List.map, he.eval hx]
  simp only [pure_bind, invoke, builtin, Builtin.cap_]
  refine Ac (a := _) (w' := w) ?_ |>.trans rfl
  simp only [List.getElem?_toArray, List.getElem?_cons_zero]
  rw [Ac (A8 ht.und w)]
  rfl
theorem Oz {x : Operand} {ad : Option Addr} {m c : Nat} {e T : TypeId} {sz bb : Nat} {z : List Value} [ht : Aq P T (.slice e) sz bb z] (hx : A7 E x = some (.slice ad m c)) (hg : Wants ops E g) (hdn : Nat.blt d n = true)
  (h : A4 P f n I₀ Q ops l k ((d, .int .i64 (c : Nat)) :: E) I L) : A4 P f n I₀ Q ops (⟨some d, .call ⟨.builtin .cap, #[x], #[T]⟩, ty, pos, af, g⟩ :: l) k E I L := Dr (Vq hx) hg hdn h
theorem W3 {S : World → Prop} {kf : FuncId} {fst cap : Array Operand} {vs us : List Value} (hf : G9 E fst.toList = some vs) (hc : G9 E cap.toList = some us) : Gn P E S ⟨some d, .makeFunc (.func kf) fst cap, ty, pos, af, g⟩ (.func (.func kf) vs.toArray us.toArray) := fun a w he _ => by
  have h1 : fst.map a.eval = vs.toArray := Array.ext' (by simpa using he.evals hf)
  have h2 : cap.map a.eval = us.toArray := Array.ext' (by simpa using he.evals hc)
  simp only [execOp, h1, h2]
  rfl
theorem Wn {kf : FuncId} {fst cap : Array Operand} {vs us : List Value} (hf : G9 E fst.toList = some vs) (hc : G9 E cap.toList = some us) (hg : Wants ops E g) (hdn : Nat.blt d n = true)
  (h : A4 P f n I₀ Q ops l k ((d, .func (.func kf) vs.toArray us.toArray) :: E) I L) : A4 P f n I₀ Q ops (⟨some d, .makeFunc (.func kf) fst cap, ty, pos, af, g⟩ :: l) k E I L := Dr (W3 hf hc) hg hdn h
theorem R2 {T T2 e : TypeId} {sz bb esz ebb sz2 bb2 : Nat} {z ez z2 : List Value} {dd dd2 : TypeDesc} [ht : Aq P T (.slice e) sz bb z] [hte : Aq P e dd esz ebb ez] [ht2 : Aq P T2 dd2 sz2 bb2 z2]
  {x y : Operand} {B : Ju} {xs ys : List Value} {m c : Nat} {ad2 : Option Addr} {m2 c2 : Nat} {L₀ : Bh} (hni : ∀ kk, dd2 ≠ .int kk) (hez : ez.length = esz)
  (hx : A7 E x = some (B8 m c B)) (hy : A7 E y = some (.slice ad2 m2 c2)) (hB : Er esz m c xs B) (hL : ∀ w, Mem I L w → Mem I (Cf e xs B ++ L₀) w)
  (hyl : ys.length = m2 * esz) (hyr : ∀ a, ad2 = some a → Fv I L₀ a ys) (hyn : ad2 = none → ys = []) (hyp : ys.all Cj = true) (hesz : 0 < esz)
  (hsize : (m + m2) ≤ 4294967296) (hbytes : ebb ≤ 1024) (a : Act) (w : World) (he : EnvOk E a) (hm : Mem I L w) :
  ∃ w' B' c', (execOp a.eval ⟨some d, .call ⟨.builtin .append, #[x, y], #[T, T2]⟩, T, pos, af, g⟩).run P w = .ok (.value (B8 (m + m2) c' B')) w' ∧ Er esz (m + m2) c' (xs ++ ys) B' ∧ Mem I (Cf e (xs ++ ys) B' ++ L₀) w' := by
 by_cases hm2 : 0 < m2
 ·obtain ⟨w', B', c', hr, hne, hB', hm'⟩ := Md (x := .slice ad2 m2 c2) ht hte hez ht2.und hni hB (hL w hm) hyl (fun _ => rfl) (fun w hw => F9 hw hyl hyr hyn) hyp hm2 hesz hsize hbytes; refine ⟨w', B', c', ?_, hB', hm'⟩
  simp only [execOp, resolve, List.map_toArray, List.map, he.eval hx, he.eval hy, pure_bind, invoke, builtin]
  exact Ac hr |>.trans rfl
 ·obtain rfl : m2 = 0 := by omega
  obtain rfl : ys = [] := List.eq_nil_of_length_eq_zero (by simpa using hyl)
  have hv : ∃ base cc, B8 m c B = .slice base m cc ∧ m ≤ cc ∧ cc = c := by
   cases B with
   | none => obtain ⟨h1, h2, h3⟩ := hB; exact ⟨none, 0, by simp [B8, h2], by omega, h3.symm⟩
   | some p => exact ⟨_, c, rfl, hB.2.1, rfl⟩
  obtain ⟨base, cc, hbv, hmc, rfl⟩ := hv
  have := K4 (P := P) (T2 := T2) (base := base) (x := .slice ad2 0 c2) (w := w) ht hte ht2.und hni hmc rfl (F9 (hL w hm) hyl (fun a _ v _ i hi => absurd hi (by simp)) hyn)
  refine ⟨w, B, cc, ?_, by simpa using hB, by simpa using hL w hm⟩
  simp only [execOp, resolve, List.map_toArray, List.map, he.eval hx, he.eval hy, pure_bind, invoke, builtin, hbv, Nat.add_zero]
  exact Ac this |>.trans rfl
theorem C4 {S : World → Prop} {fuel : Nat} {listed listed' : Array Bool} (i : Nat) {T T2 e : TypeId} {sz bb esz ebb sz2 bb2 : Nat} {z ez z2 : List Value} {dd dd2 : TypeDesc} [ht : Aq P T (.slice e) sz bb z] [hte : Aq P e dd esz ebb ez] [ht2 : Aq P T2 dd2 sz2 bb2 z2]
  {x y : Operand} {B : Ju} {xs ys : List Value} {m c : Nat} {ad2 : Option Addr} {m2 c2 : Nat} {L₀ : Bh}
  (hi : ops[i]? = some ⟨some d, .call ⟨.builtin .append, #[x, y], #[T, T2]⟩, T, pos, af, g⟩) (hc : decide (Region.ready .any ops listed = [i]) = true) (hl : listed' = listed.setIfInBounds i true) (hni : ∀ kk, dd2 ≠ .int kk) (hez : ez.length = esz)
  (hx : A7 E x = some (B8 m c B)) (hy : A7 E y = some (.slice ad2 m2 c2)) (hB : Er esz m c xs B) (hL : ∀ w, Mem I L w → Mem I (Cf e xs B ++ L₀) w)
  (hyl : ys.length = m2 * esz) (hyr : ∀ a, ad2 = some a → Fv I L₀ a ys) (hyn : ad2 = none → ys = []) (hyp : ys.all Cj = true) (hesz : 0 < esz)
  (hsize : (m + m2) ≤ 4294967296) (hbytes : ebb ≤ 1024) (hg : Wants ops E g) (hdn : Nat.blt d n = true) (hS : ∀ B', Eu ops listed' = true ∨ ∀ w, Mem I (Cf e (xs ++ ys) B' ++ L₀) w → S w)
  (h : ∀ B' c', Er esz (m + m2) c' (xs ++ ys) B' → Cq P f n I₀ Q ops S fuel listed' k ((d, B8 (m + m2) c' B') :: E) I (Cf e (xs ++ ys) B' ++ L₀)) : Cq P f n I₀ Q ops S (fuel + 1) listed k E I L := by
 refine Mj i hi hc hl rfl hdn (fun a he => hg.wanted a he) fun a w he hm => ?_
 obtain ⟨w', B', c', h1, h2, h3⟩ := R2 (P := P) (T := T) (T2 := T2) (e := e) (d := d) (pos := pos) (af := af) (g := g) hni hez hx hy hB hL hyl hyr hyn hyp hesz hsize hbytes a w he hm
 exact ⟨_, w', I, _, h1, h3, hS B', h B' c' h2⟩
theorem Hn {S : World → Prop} {fuel : Nat} {listed listed' : Array Bool} (i : Nat) {T e : TypeId} {sz bb esz ebb : Nat} {z ez : List Value} {dd : TypeDesc} [ht : Aq P T (.slice e) sz bb z] [hte : Aq P e dd esz ebb ez]
  (hi : ops[i]? = some ⟨some d, .buildSlice T 0 #[], ty, pos, af, g⟩) (hc : decide (Region.ready .any ops listed = [i]) = true) (hl : listed' = listed.setIfInBounds i true) (hg : Wants ops E g) (hdn : Nat.blt d n = true) (hS : Eu ops listed' = true ∨ ∀ w, Mem I L w → S w)
  (h : ∀ b, Cq P f n I₀ Q ops S fuel listed' k ((d, .slice (some ⟨b, 0, none⟩) 0 0) :: E) I ((b, .cells [].toArray e (0, 0)) :: L)) : Cq P f n I₀ Q ops S (fuel + 1) listed k E I L := by
 refine Mj i hi hc hl rfl hdn (fun a he => hg.wanted a he) fun a w he hm => ?_
 refine ⟨.slice (some ⟨w.heap.size, 0, none⟩) 0 0, { w with heap := w.heap.push (.cells [].toArray e (0, 0)) }, I, (w.heap.size, .cells [].toArray e (0, 0)) :: L, ?_, hm.alloc _, hS.imp id fun hS w hw => hS w hw.drop, h _⟩
 simp only [execOp]
 refine Ac (a := .slice (some ⟨w.heap.size, 0, none⟩) 0 0) (w' := { w with heap := w.heap.push (.cells [].toArray e (0, 0)) }) ?_ |>.trans rfl
 unfold Instr.buildSlice
 rw [Ac (A8 ht.und w)]
 simp only []
 rw [Ac (Ez hte w)]; rw [if_neg (by omega), if_pos (by omega)]
 have e0 : ∀ h : Nat → Value, (Array.range 0).map h = #[] := fun h => by simp
 have e1 : (Array.map (fun x : Nat × Operand => (x.fst, a.eval x.snd)) #[]).toList = [] := by simp
 simp only [pure_bind, Nat.zero_mul, e0, e1]
 rfl
theorem Yp {T T2 e : TypeId} {sz bb esz ebb sz2 bb2 : Nat} {z ez z2 : List Value} {dd : TypeDesc} [ht : Aq P T (.slice e) sz bb z] [hte : Aq P e dd esz ebb ez] [ht2 : Aq P T2 (.int .i64) sz2 bb2 z2]
  {x y : Operand} {m : Nat} {ad : Option Addr} (hez : ez.length = esz) (hx : A7 E x = some (.slice ad 0 0)) (had : ad = none) (hy : A7 E y = some (.int .i64 (m : Nat))) (hm0 : 0 < m) (hesz : 0 < esz) (hsize : m ≤ 4294967296) (hbytes : ebb ≤ 1024) (hg : Wants ops E g) (hdn : Nat.blt d n = true)
  (h : ∀ b Z c', Z.length = c' * esz → m ≤ c' → A4 P f n I₀ Q ops l k ((d, .slice (some ⟨b, 0, none⟩) m c') :: E) I ((b, .cells (List.toArray Z) e (0, 0)) :: L)) :
  A4 P f n I₀ Q ops (⟨some d, .call ⟨.builtin .append, #[x, y], #[T, T2]⟩, T, pos, af, g⟩ :: l) k E I L := by
 subst had; refine Ia rfl hdn (fun a he => hg.wanted a he) fun a w he hm => ?_
 obtain ⟨einf, hein, hebb⟩ := I9 hte w
 let NC := (Question.appendCap m 0 e).cut (w.tape w.drawn (.appendCap m 0 e))
 let w1 : World := { w with drawn := w.drawn + 1 }
 have hNC : m ≤ NC := by simp [NC, Question.cut]
 obtain ⟨zv1, hz1, hz2⟩ := Hs hte w1
 have hzs : zv1.cells.size = esz := by rw [← hez, ← hz2]; simp
 refine ⟨.slice (some ⟨w.heap.size, 0, none⟩) m NC, { w1 with heap := w1.heap.push (.cells (Builtin.zeroCells zv1.cells m ++ Builtin.zeroCells zv1.cells (NC - m)) e (0, 0)) }, I, _, ?_, hm.alloc _, h _ (Builtin.zeroCells zv1.cells m ++ Builtin.zeroCells zv1.cells (NC - m)).toList NC ?_ hNC⟩
 ·simp only [execOp, resolve, List.map_toArray, List.map, he.eval hx, he.eval hy, pure_bind, invoke, builtin]
  refine Ac (a := .slice (some ⟨w.heap.size, 0, none⟩) m NC) (w' := { w1 with heap := w1.heap.push (.cells (Builtin.zeroCells zv1.cells m ++ Builtin.zeroCells zv1.cells (NC - m)) e (0, 0)) }) ?_ |>.trans rfl
  unfold Builtin.append_
  simp only [List.getElem?_toArray, List.getElem?_cons_zero, List.getElem?_cons_succ]
  rw [Ac (A8 ht.und w)]
  simp only []
  rw [Ac (Ez hte w)]; rw [Ac (A8 ht2.und w)]
  have hwr : IntKind.i64.wrap (m : Int) = (m : Int) := by simp [IntKind.wrap, IntKind.bits, IntKind.signed]; omega
  simp only [pure_bind, if_true, Bool.not_true, Bool.false_eq_true, if_false, asInt, asIntOf, hwr]
  have hneg : ¬ ((m : Int) < 0) := by omega
  simp only [hwr, if_neg hneg, pure_bind, bind_assoc]
  rw [Ac hein]
  have hbig : ¬ ((m : Int) * (einf.bytes : Int) > 2 ^ 48) := by
   rw [hebb]
   have : m * ebb ≤ 4294967296 * 1024 := Nat.mul_le_mul hsize hbytes
   rw [← Int.natCast_mul]; omega
  simp only [if_neg hbig, pure_bind, Int.toNat_natCast, Nat.zero_add]
  rw [if_neg (by omega)]
  have hmax : ¬ (((m : Nat) : Int) > IntKind.i64.max) := by simp [IntKind.max, IntKind.bits, IntKind.signed]; omega
  rw [Ac hein]
  simp only [hmax, false_and, if_false, pure_bind]
  rw [Ac hein]
  have hcap : ¬ (Builtin.nextslicecap m 0 * einf.bytes > 2 ^ 48) := by
   have h1 := Qa m 0 (by omega)
   have h2 : Builtin.nextslicecap m 0 * einf.bytes ≤ (2 * m + 1000) * 1024 := Nat.mul_le_mul h1 (by omega)
   omega
  simp only [if_neg hcap, pure_bind]
  have hch : (choose (.appendCap m 0 e)).run P w = .ok NC w1 := by simp [choose, Sem.run, Question.forced, NC, w1]
  rw [Ac hch]; obtain ⟨einf1, hein1, _⟩ := I9 hte w1; rw [Ac hein1]
  have hroom : (askRoom (NC * einf1.bytes)).run P w1 = .ok () w1 := by unfold askRoom; split <;> rfl
  rw [Ac hroom]
  have hne : ¬ (m * esz = 0) := by
   have := Nat.mul_pos hm0 hesz; omega
  simp only [Builtin.firstCells, pure_bind, if_neg hne, bind_assoc]
  rw [Ac hz1]; rw [Ac hz1]
  simp only [Array.empty_append]
  rfl
 ·simp only [Array.toList_append, List.length_append, Array.length_toList, Lb, hzs]
  rw [← Nat.add_mul]; congr 1; omega
end rules

structure RStrs (I : Heap) (L : Bh) (oa : Option Addr) (l : List Ap) : Prop where
 reads : ∀ a, oa = some a → Fv I L a (l.map sv)
 nil : oa = none → l.length = 0
 len : l.length ≤ Az
theorem Strs.rd {I : Heap} {oa : Option Addr} {l : List Ap} {c : Nat} (h : Strs I oa l c) (L : Bh) : RStrs I L oa l := ⟨h.reads, h.nil', h.len⟩
theorem RStrs.st {I : Heap} {L : Bh} {oa : Option Addr} {l : List Ap} (h : RStrs I L oa l) (i : Nat) (hi : i < l.length) : Fv I L ((Ts oa).add (i * 1)) [.string (str (l.getD i []))] := by
 obtain ⟨x, rfl⟩ : ∃ x, oa = some x := by
  cases oa with
  | none => have := h.nil rfl; omega
  | some x => exact ⟨x, rfl⟩
 intro w hw j hj; obtain rfl : j = 0 := by simpa using hj
 have h1 := h.reads x rfl w hw i (by simpa using hi)
 have e : ((Ts (some x)).add (i * 1)).add 0 = x.add i := by simp [Ts, Addr.add]
 rw [e, h1]
 simp [sv, hi]
theorem RStrs.sub {I : Heap} {L L' : Bh} {oa : Option Addr} {l : List Ap} (h : RStrs I L oa l) (hs : ∀ w, Mem I L' w → Mem I L w) : RStrs I L' oa l :=
 ⟨fun a ha w hw => h.reads a ha w (hs w hw), h.nil, h.len⟩
theorem Ze {I : Heap} {L : Bh} {e : TypeId} {l : List Ap} {B : Ju} {m c : Nat} (hB : Er 1 m c (l.map sv) B) (hm : m = l.length) (hl : l.length ≤ Az) :
  ∃ oa c', B8 m c B = .slice oa l.length c' ∧ RStrs I (Cf e (l.map sv) B ++ L) oa l := by
 subst hm
 cases B with
 | none =>
  obtain ⟨h1, h2, h3⟩ := hB
  exact ⟨none, 0, by rw [B8, h2], ⟨by simp, fun _ => h2, hl⟩⟩
 | some p =>
  obtain ⟨b, sp⟩ := p; refine ⟨some ⟨b, 0, none⟩, c, rfl, ⟨?_, by simp, hl⟩⟩; intro a ha
  cases ha
  intro w hw i hi; rw [Mf (hw.2.1 _ (List.mem_append_left _ (List.mem_singleton.2 rfl))).1]
  simp only [Nat.zero_add, List.getElem?_toArray]
  rw [List.getElem?_append_left hi, List.getElem?_eq_getElem hi]
theorem Px {I : Heap} {L : Bh} {oa : Option Addr} {l : List Ap} (h : RStrs I L oa l) (c : Nat) (s : Ap) : Fun Tryz.prog 145 [.slice oa l.length c, .string (str s)] I L (fun v I' L' => ∃ i : Int, v = .int .i64 i ∧ (0 ≤ i ↔ s ∈ l) ∧ I = I' ∧ L = L') := by
 have hlen := h.len
 have hnil := h.nil
 unfold Az at hlen
 refine Ag (by simp) ?_; refine Se rfl (Oa rfl (Aa (Ab (Se rfl (Om rfl (On rfl (Om rfl (Aa (Aj ?_))))))))); refine Dv (X := Nat) (fun i => l.length - i) (fun i => [(0, .slice oa l.length c), (1, .string (str s)), (7, .int .i64 (l.length : Nat)), (8, .int .i64 (i : Nat))]) (fun _ => I) (fun _ => L) (fun i => i ≤ l.length ∧ s ∉ l.take i) 0 ⟨by simp, by simp⟩ ⟨rfl, rfl, rfl, rfl, trivial⟩ (fun _ h => h) ?_; rintro i ⟨hi, hs⟩ ih; refine Se rfl (Oc rfl rfl rfl (Aa (Ab ?_))); refine As rfl ?_ ?_
 ·intro c0
  try simp only [nb] at c0
  have hgx : l.getD i [] = l[i] := by simp [show i < l.length by omega]
  have hst := h.st i (by omega)
  refine Ae (Ab (Aj (Se rfl (Om rfl (Oa rfl (Aa (Se rfl ?_)))))))
  iterate 3 refine Om rfl ?_
  first | refine A5 rfl rfl _ rfl .free rfl ?_ | refine A6 rfl rfl _ rfl .free rfl ?_
  refine Ef rfl .free rfl ?_; refine Od rfl rfl rfl (Aa ?_); refine As rfl ?_ ?_
  ·intro c1
   try simp only [nb] at c1
   refine Se rfl (Om rfl (Oa rfl (Aa (Ad (.tmp rfl .nil) ?_))))
   exact ⟨I, L, .refl _, fun _ h => h, _, rfl, ⟨fun _ => by rw [c1, hgx]; exact List.getElem_mem _, fun _ => by omega⟩, rfl, rfl⟩
  intro c1
  try simp only [nb] at c1
  refine Ae (Ak (Af rfl ?_)); refine Or rfl rfl rfl ?_; refine Om rfl (Aa ?_); refine Bp (E' := [(0, .slice oa l.length c), (1, .string (str s)), (7, .int .i64 (l.length : Nat)), (8, .int .i64 ((i + 1 : Nat)))]) ⟨rfl, rfl, rfl, rfl, trivial⟩ (ih (i + 1) ⟨by omega, ?_⟩ (by omega)); rw [List.take_succ_eq_append_getElem (by omega), List.mem_append]; rintro (h1 | h1)
  ·exact hs h1
  ·exact c1 (by rw [hgx]; exact List.mem_singleton.1 h1)
 intro c0
 try simp only [nb] at c0
 refine Bz rfl ?_; refine Se rfl (Oa rfl (Aa (Ad (.tmp rfl .nil) ?_))); refine ⟨I, L, .refl _, fun _ h => h, _, rfl, ⟨fun h => by simp at h, fun h => ?_⟩, rfl, rfl⟩; rw [List.take_of_length_le (by omega)] at hs
 exact absurd h hs
theorem C0 {I : Heap} {L : Bh} {oa : Option Addr} {l : List Ap} (h : RStrs I L oa l) (c : Nat) (s : Ap) : Fun Tryz.prog 107 [.slice oa l.length c, .string (str s)] I L (D0 (.bool (decide (s ∈ l))) I L) := by
 refine Ag (by simp) ?_; refine Se rfl (Oa rfl (Aa (Se rfl (Om rfl (Om rfl ?_))))); refine Ca rfl (Px h c s) ?_; rintro _ _ _ _ ⟨i, rfl, hi, rfl, rfl⟩; refine Oc rfl rfl rfl (Oa rfl (Aa (Ad (.tmp rfl .nil) ?_))); refine only rfl ?_
 simp [C2, hi]
theorem Xc {I : Heap} {L : Bh} {oa : Option Addr} {l : List Ap} (h : RStrs I L oa l) (c : Nat) (s : Ap) : Fun Tryz.prog 143 [.slice oa l.length c, .string (str s)] I L (D0 (.bool (decide (s ∈ l))) I L) := by
 have hlen := h.len
 have hnil := h.nil
 unfold Az at hlen
 refine Ag (by simp) ?_; refine Se rfl (Oa rfl (Aa (Ab (Se rfl (Oa rfl (Aa (Aj ?_))))))); refine Dv (X := Nat) (fun i => l.length - i) (fun i => [(0, .slice oa l.length c), (1, .string (str s)), (5, .int .i64 (i : Nat))]) (fun _ => I) (fun _ => L) (fun i => i ≤ l.length ∧ s ∉ l.take i) 0 ⟨by simp, by simp⟩ ⟨rfl, rfl, rfl, trivial⟩ (fun _ h => h) ?_; rintro i ⟨hi, hs⟩ ih; refine Ab (Se rfl (Om rfl (Om rfl (On rfl (Oc rfl rfl rfl (Aa ?_)))))); refine As rfl ?_ ?_
 ·intro c0
  try simp only [nb] at c0
  have hgx : l.getD i [] = l[i] := by simp [show i < l.length by omega]
  have hst := h.st i (by omega)
  refine Ae (Ab (Aj (Se rfl (Om rfl (Om rfl ?_)))))
  first | refine A5 rfl rfl _ rfl .free rfl ?_ | refine A6 rfl rfl _ rfl .free rfl ?_
  refine Ef rfl .free rfl ?_; refine Om rfl (Od rfl rfl rfl (Aa ?_)); refine As rfl ?_ ?_
  ·intro c1
   try simp only [nb] at c1
   refine Se rfl (Oa rfl (Aa (Ad (.tmp rfl .nil) ?_))); refine only rfl ?_
   have : s ∈ l := by rw [← c1, hgx]; exact List.getElem_mem _
   simp [C2, this]
  intro c1
  try simp only [nb] at c1
  refine Ae (Ak (Af rfl (Om rfl ?_))); refine Or rfl rfl rfl ?_; refine Oa rfl (Aa ?_); refine Bp (E' := [(0, .slice oa l.length c), (1, .string (str s)), (5, .int .i64 ((i + 1 : Nat)))]) ⟨rfl, rfl, rfl, trivial⟩ (ih (i + 1) ⟨by omega, ?_⟩ (by omega)); rw [List.take_succ_eq_append_getElem (by omega), List.mem_append]; rintro (h1 | h1)
  ·exact hs h1
  ·exact c1 (by rw [hgx]; exact (List.mem_singleton.1 h1).symm)
 intro c0
 try simp only [nb] at c0
 refine Bz rfl ?_; refine Se rfl (Oa rfl (Aa (Ad (.tmp rfl .nil) ?_))); refine only rfl ?_
 have : s ∉ l := by rwa [List.take_of_length_le (by omega)] at hs
 simp [C2, this]
theorem Qw (m : Nat) (hm : m ≤ 4294967296) (I : Heap) (L : Bh) : Fun Tryz.prog 165 [.slice none 0 0, .int .i64 (m : Nat)] I L
  (fun v I' L' => ∃ B c, v = B8 0 c B ∧ Er 1 0 c [] B ∧ I = I' ∧ L' = Cf 9 [] B ++ L) := by
 refine Ag (by simp) ?_; refine Se rfl (Oa rfl (Aa (Ab (Se rfl (Om rfl (Oc rfl rfl rfl (Aa ?_)))))))
 first | refine Sf rfl (by omega) ?_ | refine Al (by simp [look, A7, *]) ?_
 refine Ae (Ab (Se rfl (Om rfl (Om rfl ?_)))); refine Oz rfl .free rfl ?_; refine Om rfl (On rfl ?_); refine Or rfl rfl rfl ?_; refine Or rfl rfl rfl ?_; refine Oa rfl (Aa (Ab ?_)); refine Kp (t := 1) (v' := .int .i64 (m : Nat)) rfl (by congr 1) ?_; refine Af rfl (Om rfl (Oc rfl rfl rfl (Aa ?_))); refine As rfl ?_ ?_
 ·intro c1
  try simp only [nb] at c1
  have hm0 : 0 < m := by omega
  refine Af rfl (Om rfl (Om rfl ?_)); refine Oz rfl .free rfl ?_; refine Jg rfl rfl rfl 0 _ rfl rfl (by first | omega | exact Cb (by assumption) (by decide) | (simp; done) | (simp; omega) | decide | (simp at *; omega)) .free rfl ?_; refine Om rfl ?_; refine Yp (m := m) (by rfl) rfl rfl rfl (by omega) (by decide) hm (by decide) .free rfl ?_; intro b Z c' hZ hmc; refine Om rfl (On rfl ?_); refine Jg rfl rfl rfl 0 _ rfl rfl (by first | omega | exact Cb (by assumption) (by decide) | (simp; done) | (simp; omega) | decide | (simp at *; omega)) .free rfl ?_
  refine Oa rfl (Aa (Se rfl (Om rfl (Oa rfl (Aa (Ad (.tmp rfl .nil) ?_))))))
  first
   | exact ⟨I, _, .refl _, fun _ h => h, some (b, Z), c', by simp [C2, B8, Addr.add], ⟨rfl, Nat.zero_le _, by simpa using hZ⟩, rfl, rfl⟩
   | exact ⟨I, _, .refl _, fun _ h => h, none, 0, rfl, ⟨rfl, rfl, rfl⟩, rfl, rfl⟩
 intro c1
 try simp only [nb] at c1
 refine Ae (Se rfl (Om rfl (Oa rfl (Aa (Ad (.tmp rfl .nil) ?_)))))
 first
  | exact ⟨I, _, .refl _, fun _ h => h, some (b, Z), c', by simp [C2, B8, Addr.add], ⟨rfl, Nat.zero_le _, by simpa using hZ⟩, rfl, rfl⟩
  | exact ⟨I, _, .refl _, fun _ h => h, none, 0, rfl, ⟨rfl, rfl, rfl⟩, rfl, rfl⟩

def SS (l : List Ap) (L : Bh) : Cs := fun v I' L' => ∃ oa c, v = .slice oa (List.length l) c ∧ Strs I' oa l c ∧ L = L'
theorem Strs.append {I : Heap} {oa ob : Option Addr} {l m : List Ap} {c c' : Nat} (h : Strs I oa l c) (h' : Strs I ob m c') : ∀ s ∈ l ++ m, s.length ≤ Az := by
 intro s hs
 rcases List.mem_append.1 hs with hs | hs
 ·exact h.each s hs
 ·exact h'.each s hs
theorem D2 {I : Heap} {oa ob : Option Addr} {l m : List Ap} {c c' : Nat} {x : Addr} (hx : Still I x [.slice oa l.length c, .slice ob m.length c']) (h : Strs I oa l c) (h' : Strs I ob m c') (hz : l.length + m.length ≤ Az) (L : Bh) :
  Fun Tryz.prog 144 [.slice (some x) 2 2] I L (SS (l ++ m) L) := by
 unfold Az at hz
 have h0 : Still I ((Ts (some x)).add (0 * 1)) [.slice oa l.length c] := hx.part (0 * 1) (by intro i hi; obtain rfl : i = 0 := (by simpa using hi); rfl)
 have h1 : Still I ((Ts (some x)).add (1 * 1)) [.slice ob m.length c'] := hx.part (1 * 1) (by intro i hi; obtain rfl : i = 0 := (by simpa using hi); rfl)
 have hn : some x = none → 2 = 0 := by intro e; cases e
 refine Ag (by simp) ?_; refine Se rfl (Oa rfl (Aa (Se rfl (Oa rfl (Aa (Ab (Se rfl (Om rfl (On rfl (Om rfl (Aa (Aj ?_)))))))))))); refine Dz ?_; refine Se rfl (Oc rfl rfl rfl (Aa (Ab ?_))); refine Cc rfl (by first | rfl | decide | (simp; done) | omega) ?_; refine Ae (Ab (Aj (Se rfl ?_)))
 first | refine A5 rfl rfl _ rfl .free rfl ?_ | refine A6 rfl rfl _ rfl .free rfl ?_
 refine Ef rfl .free rfl ?_; refine Oa rfl (Aa (Se rfl (Om rfl (Om rfl (On rfl ?_))))); refine Or rfl rfl rfl ?_; refine Oa rfl (Aa (Se rfl (Om rfl (Oc rfl rfl rfl (Aa ?_)))))
 first | refine Sf rfl (by omega) ?_ | refine Al (by simp [look, A7, *]) ?_
 refine Ae (Ak (Af rfl ?_)); refine Or rfl rfl rfl ?_; refine Om rfl (Aa ?_); refine B0 ?_; refine Se rfl (Oc rfl rfl rfl (Aa (Ab ?_))); refine Cc rfl (by first | rfl | decide | (simp; done) | omega) ?_; refine Ae (Ab (Aj (Se rfl ?_)))
 first | refine A5 rfl rfl _ rfl .free rfl ?_ | refine A6 rfl rfl _ rfl .free rfl ?_
 refine Ef rfl .free rfl ?_; refine Oa rfl (Aa (Se rfl (Om rfl (Om rfl (On rfl ?_))))); refine Or rfl rfl rfl ?_; refine Oa rfl (Aa (Se rfl (Om rfl (Oc rfl rfl rfl (Aa ?_)))))
 first | refine Sf rfl (by omega) ?_ | refine Al (by simp [look, A7, *]) ?_
 refine Ae (Ak (Af rfl ?_)); refine Or rfl rfl rfl ?_; refine Om rfl (Aa ?_); refine B0 ?_; refine Se rfl (Oc rfl rfl rfl (Aa (Ab ?_))); refine C5 rfl (by first | rfl | decide | (simp; done) | omega) ?_; refine Bz rfl ?_; refine Ab ?_; refine Kp (t := 3) (v' := .int .i64 ((l.length + m.length : Nat))) rfl (by congr 1; omega) ?_; refine Af rfl (Om rfl ?_); refine Ca rfl (Qw (l.length + m.length) hz _ _) ?_; rintro _ _ _ _ ⟨B, c0, rfl, hB0, rfl, rfl⟩; refine Oa rfl (Aa (Ab (Se rfl (Om rfl (On rfl (Om rfl (Aa (Aj ?_)))))))); refine Dz ?_; refine Se rfl (Oc rfl rfl rfl (Aa (Ab ?_)))
 refine Cc rfl (by first | rfl | decide | (simp; done) | omega) ?_; refine Ae (Ab (Aj (Se rfl ?_)))
 first | refine A5 rfl rfl _ rfl .free rfl ?_ | refine A6 rfl rfl _ rfl .free rfl ?_
 refine Ef rfl .free rfl ?_; refine Oa rfl (Aa (Af rfl (Om rfl (Om rfl ?_)))); refine Jr (B := B) (xs := []) (ys := l.map sv) (m := 0) (c := c0) (L₀ := L) (by intro kk; simp) (by rfl) rfl rfl hB0 (fun _ h => h) (by simp) h.reads h.none (Dy l) (by decide) (by omega) (by decide) .free rfl ?_; intro B1 c1 hB1; refine Oa rfl (Aa (Ak (Af rfl ?_))); refine Or rfl rfl rfl ?_; refine Om rfl (Aa ?_); refine B0 ?_; refine Se rfl (Oc rfl rfl rfl (Aa (Ab ?_))); refine Cc rfl (by first | rfl | decide | (simp; done) | omega) ?_; refine Ae (Ab (Aj (Se rfl ?_)))
 first | refine A5 rfl rfl _ rfl .free rfl ?_ | refine A6 rfl rfl _ rfl .free rfl ?_
 refine Ef rfl .free rfl ?_; refine Oa rfl (Aa (Af rfl (Om rfl (Om rfl ?_)))); refine Jr (B := B1) (xs := l.map sv) (ys := m.map sv) (m := 0 + l.length) (c := c1) (L₀ := L) (by intro kk; simp) (by rfl) rfl rfl hB1 (fun _ h => h) (by simp) h'.reads h'.none (Dy m) (by decide) (by omega) (by decide) .free rfl ?_; intro B2 c2 hB2; refine Oa rfl (Aa (Ak (Af rfl ?_))); refine Or rfl rfl rfl ?_; refine Om rfl (Aa ?_); refine B0 ?_; refine Se rfl (Oc rfl rfl rfl (Aa (Ab ?_))); refine C5 rfl (by first | rfl | decide | (simp; done) | omega) ?_; refine Bz rfl ?_; refine Ab ?_
 have hB3 : Er 1 (0 + l.length + m.length) c2 ((l ++ m).map sv) B2 := by simpa using hB2
 rw [← List.map_append]; refine Ge hB3 (by simp) (by simp [Az]; omega) (h.append h') ?_; intro I' oc c3 hle hbv hst; refine Kp (t := 6) (v' := .slice oc (l ++ m).length c3) rfl hbv ?_; refine Af rfl (Om rfl (Oa rfl (Aa (Ad (.tmp rfl .nil) ?_))))
 exact ⟨I', L, hle, fun _ h => h, oc, c3, rfl, hst, rfl⟩
theorem FormAt.as {I : Heap} {t : Tree} {oa : Option Addr} {c : Nat} {oaf : Nat → Option Addr} {cf : Nat → Nat} (h : FormAt I t oa c oaf cf) (i : Nat) (u : Tree) (hi : i < t.parts.length) (hu : t.pt i = u) : Rep I u [.string (str u.atom), .slice (oaf i) u.parts.length (cf i)] := by
 subst hu; exact h.rp i hi
structure XS where
 e : Ex
 oa : Option Addr
 c : Nat
theorem Ex.atom_iff {e : Ex} (h : e.ok = true) : e.tree.atom = [] ↔ e.bare = false := by
 have := Ex.bare_atom h
 cases hb : e.bare <;> simp_all
section rules
variable {P : Program} {f : FuncId} {n : Nat} {I₀ : Heap} {Q : Cs} {k : List Item} {E : Gm} {I : Heap} {L : Bh}
variable {ops : Array Oper} {d : Nat} {ty : TypeId} {pos : String} {af : Array Edge} {g : Option (Nat × Bool)} {l : List Oper}
theorem Ja {op : BinOp} {T : TypeId} {x y : Operand} {a b : Option Addr} {m c m' c' : Nat} (w : World) : (eqGuard op T x y (.slice a m c) (.slice b m' c')).run P w = .ok () w := by
 unfold eqGuard; split <;> rfl
theorem Yz {S : World → Prop} {T T' e sz bb : Nat} {z : List Value} [ht : Aq P T (.slice e) sz bb z] {x y : Operand} {oa : Option Addr} {m c : Nat} (hx : A7 E x = some (.slice oa m c)) (hy : A7 E y = some (.slice none 0 0)) :
  Gn P E S ⟨some d, .binOp .eql T x y T', ty, pos, af, g⟩ (.bool oa.isNone) := fun ac w he _ => by
 simp only [execOp, he.eval hx, he.eval hy]
 refine Ac (a := _) (w' := w) ?_ |>.trans rfl
 rw [Ac (Ja w)]
 have h : ∀ d : Nat, (Op.equalIn (d + 1) T (.slice oa m c) (.slice none 0 0)).run P w = .ok oa.isNone w := fun d => by
  unfold Op.equalIn
  rw [Ac (A8 ht.und w)]
  cases oa <;> rfl
 simp only [binOp, Op.equal]
 exact Ac (h 9999) |>.trans rfl
theorem Hg {T T' e sz bb : Nat} {z : List Value} [ht : Aq P T (.slice e) sz bb z] {x y : Operand} {oa : Option Addr} {m c : Nat} (hx : A7 E x = some (.slice oa m c)) (hy : A7 E y = some (.slice none 0 0)) (hg : Wants ops E g) (hdn : Nat.blt d n = true)
  (h : A4 P f n I₀ Q ops l k ((d, .bool oa.isNone) :: E) I L) : A4 P f n I₀ Q ops (⟨some d, .binOp .eql T x y T', ty, pos, af, g⟩ :: l) k E I L := Dr (Yz hx hy) hg hdn h
end rules

def El (oaf : Nat → Option Addr) (cf : Nat → Nat) : Nat → List Tree → List Value
 | _, [] => []
 | k, t :: ts => .string (str t.atom) :: .slice (oaf k) t.parts.length (cf k) :: El oaf cf (k + 1) ts
theorem Mg {f f' : Nat → Option Addr} {g g' : Nat → Nat} : ∀ (ts : List Tree) (k : Nat), (∀ i, k ≤ i → f i = f' i ∧ g i = g' i) → El f g k ts = El f' g' k ts
 | [], _, _ => rfl
 | t :: ts, k, h => by
  simp only [El]
  rw [(h k (Nat.le_refl _)).1, (h k (Nat.le_refl _)).2, Mg ts (k + 1) (fun i hi => h i (by omega))]
theorem RepL.cells {I : Heap} : ∀ {ts : List Tree} {vs : List Value} (k : Nat), RepL I ts vs → ∃ oaf cf, vs = El oaf cf k ts
 | _, _, k, .nil => ⟨fun _ => none, fun _ => 0, rfl⟩
 | _, _, k, .cons (ts := ts) h hs => by
  obtain ⟨f, g, rfl⟩ := RepL.cells (k + 1) hs; obtain ⟨oa, c, vs, he, _⟩ := h.open
  simp only [List.cons.injEq, and_true] at he
  obtain ⟨rfl, rfl⟩ := he; refine ⟨fun i => if i = k then oa else f i, fun i => if i = k then c else g i, ?_⟩
  simp only [El, if_true]
  congr 2
  exact Mg ts (k + 1) (fun i hi => by rw [if_neg (by omega), if_neg (by omega)]; exact ⟨rfl, rfl⟩)
theorem Pm {f : Nat → Option Addr} {g : Nat → Nat} : ∀ (ts : List Tree) (k i : Nat) (hi : i < ts.length), (El f g k ts)[i * 2]? = some (.string (str ts[i].atom)) ∧ (El f g k ts)[i * 2 + 1]? = some (.slice (f (k + i)) ts[i].parts.length (g (k + i)))
 | [], _, _, hi => by simp at hi
 | t :: ts, k, 0, _ => ⟨rfl, rfl⟩
 | t :: ts, k, i + 1, hi => by
  obtain ⟨h1, h2⟩ := Pm (f := f) (g := g) ts (k + 1) i (by simpa using hi); refine ⟨?_, ?_⟩
  ·rw [show (i + 1) * 2 = i * 2 + 1 + 1 by omega]; simpa [El] using h1
  ·rw [show (i + 1) * 2 + 1 = i * 2 + 1 + 1 + 1 by omega, show k + (i + 1) = k + 1 + i by omega]; simpa [El] using h2
theorem Rep.cells {I : Heap} {t : Tree} {cs : List Value} (h : Rep I t cs) : ∃ oa c oaf cf, cs = [.string (str t.atom), .slice oa t.parts.length c] ∧ FormAt I t oa c oaf cf ∧ RepL I t.parts (El oaf cf 0 t.parts) ∧ (∀ x, oa = some x → Still I x (El oaf cf 0 t.parts)) := by
 obtain ⟨oa, c, vs, rfl, hl, hs, hn, hc, ha, hp⟩ := h.open; obtain ⟨oaf, cf, rfl⟩ := hl.cells 0; refine ⟨oa, c, oaf, cf, rfl, ⟨h, fun i hi => ?_, fun e => by rw [hn e]; rfl, hp, ha, hc⟩, hl, hs⟩; obtain ⟨c1, c2, h1, h2, h3⟩ := hl.get i hi; obtain ⟨h4, h5⟩ := Pm (f := oaf) (g := cf) t.parts 0 i hi; rw [h4] at h2; rw [h5, Nat.zero_add] at h3
 cases h2; cases h3
 rw [Tree.pt_at hi]; obtain ⟨x, rfl⟩ : ∃ x, oa = some x := by
  cases oa with
  | none => have := hn rfl; rw [this] at hi; simp at hi
  | some x => exact ⟨x, rfl⟩
 refine ⟨h1, (hs x rfl).part (i * 2) ?_⟩; intro j hj
 match j, hj with
 | 0, _ => simpa using h4
 | 1, _ => simpa using h5

def CL (e : TypeId) (vs : List Value) (n : Nat) (I : Heap) (L : Bh) : Cs := fun v I' L' => ∃ b sp c, v = .slice (some ⟨b, 0, none⟩) n c ∧ n ≤ c ∧ I = I' ∧ L' = (b, .cells (vs ++ sp).toArray e (0, 0)) :: L
theorem Fm {I : Heap} {x : Addr} {n c : Nat} {vs : List Value} (hs : Still I x vs) (hv : vs.length = n * 2) (hp : vs.all Cj = true) (hn0 : 0 < n) (hn : n ≤ 4294967296) (L : Bh) :
  Fun Tryz.prog 85 [.slice (some x) n c] I L (CL 39 vs n I L) := by
 refine Ag (by simp) ?_; refine Se rfl (Oa rfl (Aa (Ab (Se rfl (Om rfl ?_))))); refine Hg rfl rfl .free rfl ?_; refine Aa ?_
 first | refine Sf rfl (by simp) ?_ | refine Al (by simp [look, A7, *]) ?_
 refine Ae (Se rfl ?_); refine D7 .free rfl ?_; intro b5; refine Om rfl ?_; refine Dw (B := some (b5, [])) (xs := []) (ys := vs) (m := 0) (c := 0) (L₀ := L) (by intro kk; simp) (by rfl) rfl rfl ⟨rfl, Nat.le_refl _, rfl⟩ (fun _ h => h) (by omega) (fun a ha => by cases ha; exact hs.reads) (by simp) hp hn0 (by decide) (by omega) (by decide) .free rfl ?_; intro b sp c' hB'; refine Oa rfl (Aa (Ad (.tmp rfl .nil) ?_))
 exact ⟨I, _, .refl _, fun _ h => h, b, sp, c', by rw [Nat.zero_add]; rfl, by have := hB'.2.1; omega, rfl, rfl⟩
abbrev Xm := List (Ap × Ex)
def Ac0 : Xm → Ex → Ex
 | [], f => f
 | (x, e) :: bs, f => .lt x e (Ac0 bs f)
def Wj (b : Bool) (s : Ap) : Option Ex := match E5 s with
 | some e => if e.norm b = true then some e else none
 | none => none
def Acl (b : Bool) (s : Ap) : Bool := (Wj b s).isSome
def Ac5 (x s : Ap) : Ap × Ex := (x, (Wj false s).getD (.num []))
def Xh (l m : List Ap) : Xm := l.zipWith Ac5 m
def Ad0 (l m : List Ap) (s : Ap) : Option Ap := match Wj true s with
 | none => none
 | some f => if l.length = m.length ∧ l.all Bv = true ∧ m.all (Acl false) = true ∧ (Ac0 (Xh l m) f).fine = true then some (Ac0 (Xh l m) f).tree.text else none

def Ad7 (bs : Xm) : Prop := ∀ p ∈ bs, Bv p.1 = true ∧ p.2.ok = true ∧ p.2.norm false = true ∧ p.2.tree.len ≤ 12000
theorem Pc {s : Ap} {t : Tree} {ok : Bool} (hpf : match E5 s with | some e => ok = true ∧ t = e.tree | none => ok = false) (h : ok = true) : ∃ e, E5 s = some e ∧ t = e.tree ∧ e.ok = true ∧ e.tree.len ≤ 12000 ∧ e.fine = true ∧ s = e.tree.text := by
 cases hx : E5 s with
 | none => rw [hx] at hpf; simp [h] at hpf
 | some e =>
  rw [hx] at hpf; obtain ⟨h1, h2, h3⟩ := Jn hx
  have hfine := h2
  simp only [Ex.fine, Bool.and_eq_true, Tree.fits, decide_eq_true_eq] at h2
  exact ⟨e, rfl, hpf.2, h2.1.1, h2.2.2, hfine, h3⟩
theorem R5 {s : Ap} {t : Tree} {ok : Bool} (hpf : match E5 s with | some e => ok = true ∧ t = e.tree | none => ok = false) (h : ok = false) : E5 s = none := by
 cases hx : E5 s with
 | none => rfl
 | some e => rw [hx] at hpf; simp [h] at hpf
def RN (p : Option Ex) (L : Bh) : Cs := RX p L
/- Bindings in memory. -/
inductive BindL : Heap → Xm → List Value → Prop
 | nil {I : Heap} : BindL I [] []
 | cons {I : Heap} {x : Ap} {e : Ex} {bs : Xm} {c1 c2 : Value} {vs : List Value} (hx : x.length ≤ Az) (h : Rep I e.tree [c1, c2]) (hs : BindL I bs vs) : BindL I ((x, e) :: bs) (.string (str x) :: c1 :: c2 :: vs)
theorem BindL.mono {I I' : Heap} (hle : HLe I I') {bs : Xm} {vs : List Value} (h : BindL I bs vs) : BindL I' bs vs := by
 induction h with
 | nil => exact .nil
 | cons hx h _ ih => exact .cons hx (h.mono hle) ih
theorem BindL.length {I : Heap} {bs : Xm} {vs : List Value} (h : BindL I bs vs) : vs.length = bs.length * 3 := by
 induction h with
 | nil => rfl
 | cons hx h _ ih => simp [ih]; omega
theorem BindL.plain {I : Heap} {bs : Xm} {vs : List Value} (h : BindL I bs vs) : vs.all Cj = true := by
 induction h with
 | nil => rfl
 | cons hx h _ ih =>
  have h2 := h.vals
  simp only [List.all_cons, List.all_nil, Bool.and_true, Bool.and_eq_true] at h2 ⊢
  exact ⟨rfl, h2.1, h2.2, ih⟩
theorem BindL.append {I : Heap} {bs cs : Xm} {vs ws : List Value} (h : BindL I bs vs) (h' : BindL I cs ws) : BindL I (bs ++ cs) (vs ++ ws) := by
 induction h with
 | nil => exact h'
 | cons hx h _ ih => exact .cons hx h ih
theorem BindL.get {I : Heap} {bs : Xm} {vs : List Value} (h : BindL I bs vs) : ∀ i (hi : i < bs.length), ∃ c1 c2, Rep I bs[i].2.tree [c1, c2] ∧ bs[i].1.length ≤ Az ∧ vs[i * 3]? = some (.string (str bs[i].1)) ∧ vs[i * 3 + 1]? = some c1 ∧ vs[i * 3 + 2]? = some c2 := by
 induction h with
 | nil => intro i hi; simp at hi
 | @cons x e bs c1 c2 vs hx h hs ih =>
  intro i hi
  cases i with
  | zero => exact ⟨c1, c2, h, hx, rfl, rfl, rfl⟩
  | succ i =>
   obtain ⟨d1, d2, h1, h2, h3, h4, h5⟩ := ih i (by simpa using hi); refine ⟨d1, d2, by simpa using h1, by simpa using h2, ?_, ?_, ?_⟩
   ·rw [show (i + 1) * 3 = i * 3 + 1 + 1 + 1 by omega]; simpa using h3
   ·rw [show (i + 1) * 3 + 1 = i * 3 + 1 + 1 + 1 + 1 by omega]; simpa using h4
   ·rw [show (i + 1) * 3 + 2 = i * 3 + 2 + 1 + 1 + 1 by omega]; simpa using h5
structure Binds (I : Heap) (oa : Option Addr) (bs : Xm) (c : Nat) : Prop where
 rep : ∃ vs, BindL I bs vs ∧ ∀ x, oa = some x → Still I x vs
 nil : oa = none → bs.length = 0
 cap : bs.length ≤ c
 len : bs.length ≤ Az
theorem Binds.mono {I I' : Heap} (hle : HLe I I') {oa : Option Addr} {bs : Xm} {c : Nat} (h : Binds I oa bs c) : Binds I' oa bs c := by
 obtain ⟨⟨vs, h1, h2⟩, h3, h4, h5⟩ := h
 exact ⟨⟨vs, h1.mono hle, fun x hx => (h2 x hx).mono hle⟩, h3, h4, h5⟩
theorem Binds.at {I : Heap} {oa : Option Addr} {bs : Xm} {c : Nat} (h : Binds I oa bs c) (i : Nat) (hi : i < bs.length) :
  ∃ ob d, Rep I bs[i].2.tree [.string (str bs[i].2.tree.atom), .slice ob bs[i].2.tree.parts.length d] ∧ bs[i].1.length ≤ Az ∧
   Still I ((Ts oa).add (i * 3)) [.string (str bs[i].1), .string (str bs[i].2.tree.atom), .slice ob bs[i].2.tree.parts.length d] := by
 obtain ⟨⟨vs, h1, h2⟩, h3, h4, h5⟩ := h; obtain ⟨c1, c2, r, hx, e1, e2, e3⟩ := h1.get i hi; obtain ⟨ob, d, ws, he, _⟩ := r.open
 simp only [List.cons.injEq, and_true] at he
 obtain ⟨rfl, rfl⟩ := he; obtain ⟨y, rfl⟩ : ∃ y, oa = some y := by
  cases oa with
  | none => have := h3 rfl; omega
  | some y => exact ⟨y, rfl⟩
 refine ⟨ob, d, r, hx, (h2 y rfl).part (i * 3) ?_⟩; intro j hj
 match j, hj with
 | 0, _ => simpa using e1
 | 1, _ => simpa using e2
 | 2, _ => simpa using e3
structure YS where
 I : Heap
 k : Nat
 oa : Option Addr
 c : Nat
section rules
variable {P : Program} {f : FuncId} {n : Nat} {I₀ : Heap} {Q : Cs} {k : List Item} {E : Gm} {I : Heap} {L : Bh}
variable {ops : Array Oper} {d : Nat} {ty : TypeId} {pos : String} {af : Array Edge} {g : Option (Nat × Bool)} {l : List Oper}
def Kr (P : Program) (f : FuncId) (n : Nat) (I₀ : Heap) (Q : Cs) (ops : Array Oper) (S : World → Prop) (fuel : Nat) (listed : Array Bool) (i : Nat) (k : List Item) (E : Gm) (I : Heap) (L : Bh) : Prop :=
 ∀ a w, a.tmps.size = n → a.defers = [] → EnvOk E a → Mem I L w → wpOp P ops (QK P f n I₀ Q k) i (fun a' w' => Qp ops S (listed.setIfInBounds i true) w' ∧ Qq P ops (QK P f n I₀ Q k) S fuel (listed.setIfInBounds i true) a' w') a w
theorem Sc {S : World → Prop} {fuel : Nat} {listed : Array Bool} (is : List Nat) (hc : decide (Region.ready .any ops listed = is) = true) (hne : is.isEmpty = false)
  (h : ∀ i ∈ is, Kr P f n I₀ Q ops S fuel listed i k E I L) : Cq P f n I₀ Q ops S (fuel + 1) listed k E I L := by
 have hr := of_decide_eq_true hc
 intro a w ha hd he hm; refine ⟨fun h0 => (by rw [hr] at h0; rw [h0] at hne; cases hne), fun i hi => h i (hr ▸ hi) a w ha hd he hm⟩
theorem C6 {S : World → Prop} {fuel : Nat} {listed : Array Bool} (i j : Nat) (hc : decide (Region.ready .any ops listed = [i, j]) = true)
  (h1 : Kr P f n I₀ Q ops S fuel listed i k E I L) (h2 : Kr P f n I₀ Q ops S fuel listed j k E I L) : Cq P f n I₀ Q ops S (fuel + 1) listed k E I L :=
 Sc [i, j] hc rfl fun x hx => by
  simp only [List.mem_cons, List.not_mem_nil, or_false] at hx
  rcases hx with rfl | rfl
  ·exact h1
  ·exact h2
theorem Ld {S : World → Prop} {fuel : Nat} {listed : Array Bool} (i j m : Nat) (hc : decide (Region.ready .any ops listed = [i, j, m]) = true)
  (h1 : Kr P f n I₀ Q ops S fuel listed i k E I L) (h2 : Kr P f n I₀ Q ops S fuel listed j k E I L) (h3 : Kr P f n I₀ Q ops S fuel listed m k E I L) : Cq P f n I₀ Q ops S (fuel + 1) listed k E I L :=
 Sc [i, j, m] hc rfl fun x hx => by
  simp only [List.mem_cons, List.not_mem_nil, or_false] at hx
  rcases hx with rfl | rfl | rfl
  ·exact h1
  ·exact h2
  ·exact h3
theorem Vz {S : World → Prop} {fuel : Nat} {listed : Array Bool} {X : Type} (E' : X → Gm) (I' : X → Heap) (L' : X → Bh) (R : X → Prop)
  (hk : ∀ x, R x → RunS P f n I₀ Q k (E' x) (I' x) (L' x ++ L)) (h : (∀ x, R x → RunS P f n I₀ Q k (E' x) (I' x) (L' x ++ L)) → Cq P f n I₀ Q ops S fuel listed k E I L) : Cq P f n I₀ Q ops S fuel listed k E I L := h hk
theorem Aad {S : World → Prop} {fuel : Nat} {listed : Array Bool} (i : Nat) {o : Oper} (hi : ops[i]? = some o)
  {a : Act} {w : World} (hw : Region.wanted o (yielded ops a.tmps) = true)
  (h : o.wp P a w (fun a' w' => Qp ops S (listed.setIfInBounds i true) w' ∧ Qq P ops (QK P f n I₀ Q k) S fuel (listed.setIfInBounds i true) a' w') (QK P f n I₀ Q k)) :
  wpOp P ops (QK P f n I₀ Q k) i (fun a' w' => Qp ops S (listed.setIfInBounds i true) w' ∧ Qq P ops (QK P f n I₀ Q k) S fuel (listed.setIfInBounds i true) a' w') a w := by
 unfold wpOp
 simp only [hi, hw, if_true]
 exact .inl h
theorem Li {S : World → Prop} {fuel : Nat} {listed listed' : Array Bool} (i : Nat) {o : Oper} (hi : ops[i]? = some o) (hl : listed' = listed.setIfInBounds i true)
  (hd : o.dst = some d) (hdn : Nat.blt d n = true) (hw : ∀ a, EnvOk E a → Region.wanted o (yielded ops a.tmps) = true)
  (hx : ∀ a w, EnvOk E a → Mem I L w → ∃ v w' I' L', (execOp a.eval o).run P w = .ok (.value v) w' ∧ Mem I' L' w' ∧ (Eu ops listed' = true ∨ ∀ w, Mem I' L' w → S w) ∧ Cq P f n I₀ Q ops S fuel listed' k ((d, v) :: E) I' L') :
  Kr P f n I₀ Q ops S fuel listed i k E I L := by
 intro a w ha hds he hm; obtain ⟨v, w', I', L', hrun, hm', hS, h⟩ := hx a w he hm; refine Aad i hi (hw a he) ?_
 simp only [Oper.wp, hrun, Oper.upon, hd]
 rw [← hl]
 exact ⟨hS.imp id fun h => h _ hm', h _ _ (by simp [Act.put, ha]) (by simpa [Act.put] using hds) (he.put (by rw [ha]; exact Nat.blt_eq ▸ hdn)) hm'⟩
theorem Do {S : World → Prop} {fuel : Nat} {listed listed' : Array Bool} (i : Nat) {op : Op} {v : Value} (hi : ops[i]? = some ⟨some d, op, ty, pos, af, g⟩) (hl : listed' = listed.setIfInBounds i true)
  (hx : Gn P E (Mem I L) ⟨some d, op, ty, pos, af, g⟩ v) (hg : Wants ops E g) (hdn : Nat.blt d n = true) (hS : Eu ops listed' = true ∨ ∀ w, Mem I L w → S w)
  (h : Cq P f n I₀ Q ops S fuel listed' k ((d, v) :: E) I L) : Kr P f n I₀ Q ops S fuel listed i k E I L :=
 Li i hi hl rfl hdn (fun a he => hg.wanted a he) fun a w he hm => ⟨v, w, I, L, hx a w he hm, hm, hS, h⟩
theorem E3 {S : World → Prop} {fuel : Nat} {listed listed' : Array Bool} (i : Nat) {op : Op} {v : Value} (hi : ops[i]? = some ⟨some d, op, ty, pos, af, g⟩) (hc : decide (Region.ready .any ops listed = [i]) = true) (hl : listed' = listed.setIfInBounds i true)
  (hx : Gn P E (Mem I L) ⟨some d, op, ty, pos, af, g⟩ v) (hg : Wants ops E g) (hdn : Nat.blt d n = true) (hS : Eu ops listed' = true ∨ ∀ w, Mem I L w → S w)
  (h : Cq P f n I₀ Q ops S fuel listed' k ((d, v) :: E) I L) : Cq P f n I₀ Q ops S (fuel + 1) listed k E I L :=
 Mj i hi hc hl rfl hdn (fun a he => hg.wanted a he) fun a w he hm => ⟨v, w, I, L, hx a w he hm, hm, hS, h⟩
theorem Uq {S : World → Prop} {fuel : Nat} {listed listed' : Array Bool} (i : Nat) {o : Oper} {I' : Heap} {L' : Bh} (hi : ops[i]? = some o) (hl : listed' = listed.setIfInBounds i true)
  (hd : o.dst = none) (hw : ∀ a, EnvOk E a → Region.wanted o (yielded ops a.tmps) = true)
  (hx : ∀ a w, EnvOk E a → Mem I L w → ∃ w', ((execOp a.eval o).run P w = .ok .skip w' ∨ ∃ v, (execOp a.eval o).run P w = .ok (.value v) w') ∧ Mem I' L' w') (hS : Eu ops listed' = true ∨ ∀ w, Mem I' L' w → S w)
  (h : Cq P f n I₀ Q ops S fuel listed' k E I' L') : Kr P f n I₀ Q ops S fuel listed i k E I L := by
 intro a w ha hds he hm; obtain ⟨w', hrun, hm'⟩ := hx a w he hm; refine Aad i hi (hw a he) ?_
 rcases hrun with hrun | ⟨v, hrun⟩ <;>
 ·simp only [Oper.wp, hrun, Oper.upon, hd, Act.put]
  rw [← hl]
  exact ⟨hS.imp id fun h => h _ hm', h a w' ha hds he hm'⟩
theorem Aac {S : World → Prop} {fuel : Nat} {listed listed' : Array Bool} (i : Nat) {o : Oper} {kf : FuncId} {vs : List Value} {Q' : Cs} (hi : ops[i]? = some o) (hl : listed' = listed.setIfInBounds i true)
  (hd : o.dst = some d) (hdn : Nat.blt d n = true) (hw : ∀ a, EnvOk E a → Region.wanted o (yielded ops a.tmps) = true)
  (hx : ∀ a w, EnvOk E a → (execOp a.eval o).run P w = .ok (.enter kf vs.toArray) w) (hF : Fun P kf vs I L Q')
  (h : ∀ v I' L', HLe I I' → Q' v I' L' → (Eu ops listed' = true ∨ ∀ w, Mem I' L' w → S w) ∧ Cq P f n I₀ Q ops S fuel listed' k ((d, v) :: E) I' L') : Kr P f n I₀ Q ops S fuel listed i k E I L := by
 intro a w ha hds he hm; refine Aad i hi (hw a he) ?_
 simp only [Oper.wp, hx a w he, Oper.upon, hd]
 refine (hF.run w hm).mono fun e w' hE => ?_
 obtain ⟨v, I', L', rfl, hle, hm', hq⟩ := hE; obtain ⟨hS, h⟩ := h v I' L' hle hq; rw [← hl]
 exact ⟨hS.imp id fun h => h _ hm', h _ _ (by simp [Act.put, ha]) (by simpa [Act.put] using hds) (he.put (by rw [ha]; exact Nat.blt_eq ▸ hdn)) hm'⟩
theorem Kd {S : World → Prop} {fuel : Nat} {listed listed' : Array Bool} (i : Nat) {kf : FuncId} {args : Array Operand} {tys : Array TypeId} {vs : List Value} {Q' : Cs} {c : Code} {m : Nat} {rs : List ResultVar} [hf : Bo P kf c m rs]
  (hi : ops[i]? = some ⟨some d, .call ⟨.value (.func kf), args, tys⟩, ty, pos, af, g⟩) (hl : listed' = listed.setIfInBounds i true)
  (ha : G9 E args.toList = some vs) (hg : Wants ops E g) (hdn : Nat.blt d n = true) (hF : Fun P kf vs I L Q')
  (h : ∀ v I' L', HLe I I' → Q' v I' L' → (Eu ops listed' = true ∨ ∀ w, Mem I' L' w → S w) ∧ Cq P f n I₀ Q ops S fuel listed' k ((d, v) :: E) I' L') : Kr P f n I₀ Q ops S fuel listed i k E I L :=
 Aac i hi hl rfl hdn (fun a he => hg.wanted a he) (W2 ha) hF h
theorem L9 {S : World → Prop} {fuel : Nat} {listed listed' : Array Bool} (i : Nat) {T e : TypeId} {parts : Array (Nat × Operand)} {is : List Nat} {vs us : List Value} {m : Nat} {sz bb esz ebb : Nat} {z ez : List Value} {dd : TypeDesc} [ht : Aq P T (.slice e) sz bb z] [hte : Aq P e dd esz ebb ez]
  (hi : ops[i]? = some ⟨some d, .buildSlice T m parts, ty, pos, af, g⟩) (hl : listed' = listed.setIfInBounds i true)
  (hp : parts.toList.map (·.1) = is) (ho : G9 E (parts.toList.map (·.2)) = some vs) (hr : is = List.range' 0 vs.length) (hm : vs.length = m) (hfl : Mo esz vs = some us) (hm0 : m * esz ≠ 0) (hm1 : m * esz ≤ 2 ^ 24) (hez : ez.length = esz)
  (hg : Wants ops E g) (hdn : Nat.blt d n = true) (hS : Eu ops listed' = true ∨ ∀ w, Mem I L w → S w)
  (h : ∀ b, Cq P f n I₀ Q ops S fuel listed' k ((d, .slice (some ⟨b, 0, none⟩) m m) :: E) I ((b, .cells us.toArray e (0, 0)) :: L)) : Kr P f n I₀ Q ops S fuel listed i k E I L := by
 refine Li i hi hl rfl hdn (fun a he => hg.wanted a he) fun a w he hmm => ?_
 obtain ⟨w', h1, h2⟩ := Aa8 (P := P) (T := T) (e := e) (d := d) (ty := ty) (pos := pos) (af := af) (g := g) hp ho hr hm hfl hm0 hm1 hez a w he hmm
 exact ⟨_, w', I, _, h1, h2, hS.imp id fun hS w hw => hS w hw.drop, h _⟩
theorem Ab6 {T e : TypeId} {sz bb esz ebb : Nat} {z ez : List Value} {dd : TypeDesc} [ht : Aq P T (.slice e) sz bb z] [hte : Aq P e dd esz ebb ez] (a : Act) (w : World) :
  (execOp a.eval ⟨some d, .buildSlice T 0 #[], ty, pos, af, g⟩).run P w = .ok (.value (.slice (some ⟨w.heap.size, 0, none⟩) 0 0)) { w with heap := w.heap.push (.cells [].toArray e (0, 0)) } := by
 simp only [execOp]
 refine Ac (a := .slice (some ⟨w.heap.size, 0, none⟩) 0 0) (w' := { w with heap := w.heap.push (.cells [].toArray e (0, 0)) }) ?_ |>.trans rfl
 unfold Instr.buildSlice
 rw [Ac (A8 ht.und w)]
 simp only []
 rw [Ac (Ez hte w)]; rw [if_neg (by omega), if_pos (by omega)]
 have e0 : ∀ h : Nat → Value, (Array.range 0).map h = #[] := fun h => by simp
 have e1 : (Array.map (fun x : Nat × Operand => (x.fst, a.eval x.snd)) #[]).toList = [] := by simp
 simp only [pure_bind, Nat.zero_mul, e0, e1]
 rfl
theorem Abr {S : World → Prop} {fuel : Nat} {listed listed' : Array Bool} (i : Nat) {T e : TypeId} {sz bb esz ebb : Nat} {z ez : List Value} {dd : TypeDesc} [ht : Aq P T (.slice e) sz bb z] [hte : Aq P e dd esz ebb ez]
  (hi : ops[i]? = some ⟨some d, .buildSlice T 0 #[], ty, pos, af, g⟩) (hl : listed' = listed.setIfInBounds i true) (hg : Wants ops E g) (hdn : Nat.blt d n = true) (hS : Eu ops listed' = true ∨ ∀ w, Mem I L w → S w)
  (h : ∀ b, Cq P f n I₀ Q ops S fuel listed' k ((d, .slice (some ⟨b, 0, none⟩) 0 0) :: E) I ((b, .cells [].toArray e (0, 0)) :: L)) : Kr P f n I₀ Q ops S fuel listed i k E I L := by
 refine Li i hi hl rfl hdn (fun a he => hg.wanted a he) fun a w he hm => ?_
 exact ⟨_, _, I, _, Ab6 a w, hm.alloc _, hS.imp id fun hS w hw => hS w hw.drop, h _⟩
theorem Ab4 {T : TypeId} {dd : TypeDesc} {sz bb : Nat} {z : List Value} [ht : Aq P T dd sz bb z] (a : Act) (w : World) :
  (execOp a.eval ⟨some d, .alloc T, ty, pos, af, g⟩).run P w = .ok (.value (.pointer (some ⟨w.heap.size, 0, none⟩))) { w with heap := w.heap.push (.cells z.toArray T (0, 0)) } := by
 obtain ⟨v, hv, hz⟩ := Hs ht w
 simp only [execOp, Instr.alloc]
 refine Ac (a := .pointer (some ⟨w.heap.size, 0, none⟩)) (w' := { w with heap := w.heap.push (.cells z.toArray T (0, 0)) }) ?_ |>.trans rfl
 rw [Ac hv]
 have : v.cells = z.toArray := by rw [← hz]
 simp only [newVar, newRow, newObj, this]
 rfl
theorem Cl {S : World → Prop} {fuel : Nat} {listed listed' : Array Bool} (i : Nat) {T : TypeId} {dd : TypeDesc} {sz bb : Nat} {z : List Value} [ht : Aq P T dd sz bb z]
  (hi : ops[i]? = some ⟨some d, .alloc T, ty, pos, af, g⟩) (hl : listed' = listed.setIfInBounds i true) (hg : Wants ops E g) (hdn : Nat.blt d n = true) (hS : Eu ops listed' = true ∨ ∀ w, Mem I L w → S w)
  (h : ∀ b, Cq P f n I₀ Q ops S fuel listed' k ((d, .pointer (some ⟨b, 0, none⟩)) :: E) I ((b, .cells z.toArray T (0, 0)) :: L)) : Kr P f n I₀ Q ops S fuel listed i k E I L := by
 refine Li i hi hl rfl hdn (fun a he => hg.wanted a he) fun a w he hm => ?_
 exact ⟨_, _, I, _, Ab4 (T := T) a w, hm.alloc _, hS.imp id fun hS w hw => hS w hw.drop, h _⟩
theorem Eb {S : World → Prop} {fuel : Nat} {listed listed' : Array Bool} (i : Nat) {T : TypeId} {dd : TypeDesc} {sz bb : Nat} {z : List Value} [ht : Aq P T dd sz bb z]
  (hi : ops[i]? = some ⟨some d, .alloc T, ty, pos, af, g⟩) (hc : decide (Region.ready .any ops listed = [i]) = true) (hl : listed' = listed.setIfInBounds i true) (hg : Wants ops E g) (hdn : Nat.blt d n = true) (hS : Eu ops listed' = true ∨ ∀ w, Mem I L w → S w)
  (h : ∀ b, Cq P f n I₀ Q ops S fuel listed' k ((d, .pointer (some ⟨b, 0, none⟩)) :: E) I ((b, .cells z.toArray T (0, 0)) :: L)) : Cq P f n I₀ Q ops S (fuel + 1) listed k E I L :=
 Sc [i] hc rfl fun x hx => by
  obtain rfl := List.mem_singleton.1 hx
  exact Cl x hi hl hg hdn hS h
theorem Ym {S : World → Prop} {fuel : Nat} {listed listed' : Array Bool} (i : Nat) {T T2 e : TypeId} {sz bb esz ebb sz2 bb2 : Nat} {z ez z2 : List Value} {dd dd2 : TypeDesc} [ht : Aq P T (.slice e) sz bb z] [hte : Aq P e dd esz ebb ez] [ht2 : Aq P T2 dd2 sz2 bb2 z2]
  {x y : Operand} {B : Ju} {xs ys : List Value} {m c : Nat} {ad2 : Option Addr} {m2 c2 : Nat} {L₀ : Bh}
  (hi : ops[i]? = some ⟨some d, .call ⟨.builtin .append, #[x, y], #[T, T2]⟩, T, pos, af, g⟩) (hl : listed' = listed.setIfInBounds i true) (hni : ∀ kk, dd2 ≠ .int kk) (hez : ez.length = esz)
  (hx : A7 E x = some (B8 m c B)) (hy : A7 E y = some (.slice ad2 m2 c2)) (hB : Er esz m c xs B) (hL : ∀ w, Mem I L w → Mem I (Cf e xs B ++ L₀) w)
  (hyl : ys.length = m2 * esz) (hyr : ∀ a, ad2 = some a → Fv I L₀ a ys) (hyn : ad2 = none → ys = []) (hyp : ys.all Cj = true) (hesz : 0 < esz)
  (hsize : (m + m2) ≤ 4294967296) (hbytes : ebb ≤ 1024) (hg : Wants ops E g) (hdn : Nat.blt d n = true) (hS : ∀ B', Eu ops listed' = true ∨ ∀ w, Mem I (Cf e (xs ++ ys) B' ++ L₀) w → S w)
  (h : ∀ B' c', Er esz (m + m2) c' (xs ++ ys) B' → Cq P f n I₀ Q ops S fuel listed' k ((d, B8 (m + m2) c' B') :: E) I (Cf e (xs ++ ys) B' ++ L₀)) : Kr P f n I₀ Q ops S fuel listed i k E I L := by
 refine Li i hi hl rfl hdn (fun a he => hg.wanted a he) fun a w he hm => ?_
 obtain ⟨w', B', c', h1, h2, h3⟩ := R2 (P := P) (T := T) (T2 := T2) (e := e) (d := d) (pos := pos) (af := af) (g := g) hni hez hx hy hB hL hyl hyr hyn hyp hesz hsize hbytes a w he hm
 exact ⟨_, w', I, _, h1, h3, hS B', h B' c' h2⟩
theorem Abs {S : World → Prop} {fuel : Nat} {listed listed' : Array Bool} (i : Nat) {T U : TypeId} {x y : Operand} {b off : Nat} {v : Value} {vs cs us : List Value} {L' : Bh} {dd : TypeDesc} {sz bb : Nat} {z : List Value} [ht : Aq P T dd sz bb z]
  (hi : ops[i]? = some ⟨none, .store T x y, ty, pos, af, g⟩) (hl' : listed' = listed.setIfInBounds i true)
  (hx : A7 E x = some (.pointer (some ⟨b, off, none⟩))) (hy : A7 E y = some v) (hv : Fc v = some vs) (hl : vs.length = sz) (hp : vs.all Cj = true)
  (hu : Upd b (.cells us.toArray U (0, 0)) (.cells cs.toArray U (0, 0)) L L') (hus : Mc off vs cs = some us) (hg : Wants ops E g) (hS : Eu ops listed' = true ∨ ∀ w, Mem I L' w → S w)
  (h : Cq P f n I₀ Q ops S fuel listed' k E I L') : Kr P f n I₀ Q ops S fuel listed i k E I L :=
 Uq i hi hl' rfl (fun a he => hg.wanted a he) (To hx hy hv hl hp hu hus) hS h
theorem H6 {S : World → Prop} {fuel : Nat} {listed listed' : Array Bool} (i : Nat) {T U : TypeId} {x y : Operand} {b off : Nat} {v : Value} {vs cs us : List Value} {L' : Bh} {dd : TypeDesc} {sz bb : Nat} {z : List Value} [ht : Aq P T dd sz bb z]
  (hi : ops[i]? = some ⟨none, .store T x y, ty, pos, af, g⟩) (hl' : listed' = listed.setIfInBounds i true)
  (hx : A7 E x = some (.pointer (some ⟨b, off, none⟩))) (hy : A7 E y = some v) (hv : Fc v = some vs) (hl : vs.length = sz) (hg : Wants ops E g) (hS : Eu ops listed' = true ∨ ∀ w, Mem I L' w → S w) (h : Cq P f n I₀ Q ops S fuel listed' k E I L')
  (hp : vs.all Cj = true := by first | rfl | (simp only [List.toList_toArray, List.all_cons, List.all_nil, Gk, Bool.and_true, Bool.true_and] <;> rfl)) (hu : Upd b (.cells us.toArray U (0, 0)) (.cells cs.toArray U (0, 0)) L L' := by first | exact u0 | exact u1 | exact u2 | exact u3 | exact u4 | exact u5 | exact u6) (hus : Mc off vs cs = some us := by rfl) : Kr P f n I₀ Q ops S fuel listed i k E I L := Abs i hi hl' hx hy hv hl hp hu hus hg hS h
end rules
theorem K6 {P : Program} {f : FuncId} {n : Nat} {I₀ : Heap} {Q : Cs} {k : List Item} {E : Gm} {I : Heap} {L : Bh} (h : HLe I I → RunS P f n I₀ Q k E I L) : RunS P f n I₀ Q k E I L := h (.refl _)
theorem Lp {P : Program} {f : FuncId} {n : Nat} {I₀ : Heap} {Q : Cs} {k : List Item} {E : Gm} {I : Heap} {id : Nat} {ops : Array Oper} {p : Nat × Obj} {L₀ : Bh} (N : Nat) (hN : ops.size = N) (hm : P.follows .mixedOrders = true)
  (h : Cq P f n I₀ Q ops (Mem I L₀) N (Array.replicate N false) k E I (p :: L₀)) : RunS P f n I₀ Q (.code (.region id ops true) :: k) E I (p :: L₀) := Sh I L₀ N hN hm h
mutual
def Tree.dec : (t u : Tree) → Decidable (t = u)
 | .node a ps, .node b qs => if h : a = b then (match Add ps qs with
   | isTrue h' => isTrue (by rw [h, h'])
   | isFalse h' => isFalse (fun e => h' (Tree.node.inj e).2)) else isFalse (fun e => h (Tree.node.inj e).1)
def Add : (ps qs : List Tree) → Decidable (ps = qs)
 | [], [] => isTrue rfl
 | [], _ :: _ => isFalse (by simp)
 | _ :: _, [] => isFalse (by simp)
 | t :: ts, u :: us => match Tree.dec t u, Add ts us with
  | isTrue h, isTrue h' => isTrue (by rw [h, h'])
  | isFalse h, _ => isFalse (fun e => h (List.cons.inj e).1)
  | _, isFalse h => isFalse (fun e => h (List.cons.inj e).2)
end
instance : DecidableEq Tree := Tree.dec

theorem Forms.fa {I : Heap} {oa : Option Addr} {ts : List Tree} {c : Nat} (h : Forms I oa ts c) : Rep I (.node [] ts) [.string (str []), .slice oa ts.length c] := h.form [] (by simp [Az])
def Aea (n : Nat) : Prop := ∀ {I : Heap} {t u : Tree} {cs ds : List Value} (_ : SizeOf.sizeOf t < n) (_ : Rep I t cs) (_ : Rep I u ds) (L : Bh), Fun Tryz.prog 126 [.agg cs.toArray, .agg ds.toArray] I L (D0 (.bool (decide (t = u))) I L)
end Go.Proofs.YtfddjcmeejjhiaaGreatDoor
