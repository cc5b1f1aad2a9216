/- Which forms are expressions, by the program. No conditions. -/
import Derived.Test.YtmfagaajiakgoaaGreatDoorG5

namespace Go.Proofs.YtmfagaajiakgoaaGreatDoor
set_option maxRecDepth 100000
set_option linter.unusedVariables false
set_option linter.unusedSimpArgs false

theorem Acw {t : Tree} (h : C3 t ≠ []) : t.parts.length = (Az t.head).2 := by
 unfold C3 at h
 split at h
 ·assumption
 ·exact absurd rfl h
theorem Tree.size_maxN {t : Tree} (h : t.len ≤ 12000 * 1000) : t.size ≤ Ba := by have := t.size_len; unfold Ba; omega
theorem Tv : ∀ (n : Nat) {I : Heap} {t : Tree} {cs : List Value} (_ : SizeOf.sizeOf t < n) (_ : Rep I t cs) (_ : t.good = true) (_ : t.len ≤ 12000000) (L : Bo),
  Fun Tryz.prog 141 [.agg cs.toArray] I L (E1 (.bool t.ex.isSome) I L) := by
 intro n
 induction n with
 | zero => intro I t cs h; omega
 | succ n ihn =>
  intro I t cs hlt h hg hz L; obtain ⟨oa, c, oaf, cf, rfl, hf⟩ := h.at'
  have hp := hf.len
  unfold Ba at hp
  refine Ao Af ?_; refine Se rfl ?_; refine Cn rfl rfl .free rfl ?_; intro b1; refine Oa rfl (Ab (Ah (Se rfl ?_))); refine A2 rfl .free rfl ?_; refine Ca rfl (Co h _) ?_; rintro _ _ _ _ ⟨rfl, rfl, rfl⟩; refine Ab ?_; refine A0 rfl ?_ ?_
  ·intro c0
   try simp only [nb] at c0
   refine Se rfl ?_; refine A2 rfl .free rfl ?_; refine Ca rfl (N6 h _) ?_; rintro _ _ _ _ ⟨rfl, rfl, rfl⟩; refine Oa rfl (Ab (Al (.tmp rfl .nil) ?_)); refine only rfl ?_
   have e : t.parts = [] := by simpa using c0
   refine congrArg Value.bool ?_
   cases t with
   | node a ps =>
    simp only [Tree.parts] at e
    subst e
    simp only [Tree.parts, Tree.atom, Tree.ex, List.isEmpty_nil, Bool.true_and]
    cases B0 a <;> cases C4 a <;> rfl
  intro c0
  try simp only [nb] at c0
  have hne : t.parts ≠ [] := by simpa using c0
  refine Ak (Se rfl ?_); refine A2 rfl .free rfl ?_; refine Ca rfl (Cr h _) ?_; rintro _ J _ e ⟨ok, ck, rfl, hk, rfl⟩
  have hf := hf.mono e
  refine Oa rfl (Ab (Ah (Se rfl (Om rfl (On rfl (Oc rfl rfl rfl (Ab ?_))))))); refine A0 rfl ?_ ?_
  ·intro c1
   try simp only [nb] at c1
   have hk0 : C3 t = [] := List.length_eq_zero_iff.1 Aa
   refine Se rfl (Oa rfl (Ab (Al (.tmp rfl .nil) ?_))); refine Hq e Bk ?_; rw [Up hne hk0]; rfl
  intro c1
  try simp only [nb] at c1
  have hk0 : C3 t ≠ [] := fun h0 => c1 (by rw [h0]; rfl)
  have hkl := Acw hk0
  have hks := Uq hk0
  have hkm := hk.cap
  have hk5 := Aen t
  refine Ak (Ah (Se rfl (Om rfl (On rfl (Om rfl (Ab (Aq ?_))))))); refine C7 (X := Nat) (fun i => (C3 t).length - i) (fun i => [(1, .pointer (some ⟨b1, 0, none⟩)), (17, .slice ok (C3 t).length ck), (18, .int .i64 ((C3 t).length : Nat)), (19, .int .i64 (i : Nat))]) (fun _ => J) (fun _ => (b1, .cells [.string (str t.atom), .slice oa t.parts.length c].toArray _ (0, 0)) :: L) (fun i => i ≤ (C3 t).length ∧ ((C3 t).take i).all (fun i => (t.pt i).ex.isSome) = true) 0 ⟨by omega, rfl⟩ ⟨rfl, rfl, rfl, rfl, trivial⟩ Bk ?_; rintro i ⟨hi, hall⟩ ih; refine Se rfl (Oc rfl rfl rfl (Ab (Ah ?_)))
  refine A0 rfl ?_ ?_
  ·intro c2
   try simp only [nb] at c2
   have hki : (C3 t).getD i 0 = (C3 t)[i] := by simp [show i < (C3 t).length by omega]
   have hkt : (C3 t).getD i 0 < t.parts.length := by rw [hki]; exact (Zy (List.getElem_mem (show i < (C3 t).length by omega))).1
   refine Ak (Ah (Aq (Se rfl ?_)))
   first | refine Bx rfl rfl _ rfl .free rfl ?_ | refine By rfl rfl _ rfl .free rfl ?_
   refine Ei rfl .free rfl ?_; refine Oa rfl (Ab (Se rfl (Oh rfl ?_))); refine Bz rfl .free rfl ?_; refine Om rfl ?_
   first | refine Bx rfl rfl _ rfl .free rfl ?_ | refine By rfl rfl _ rfl .free rfl ?_
   refine Fy rfl .free rfl ?_; refine Ca rfl (ihn (t := t.pt ((C3 t).getD i 0)) (by have := t.pt_lt _ hkt; omega) (hf.rp _ hkt) (Tree.pt_good hg _ hkt) (by have := t.pt_len _ hkt; omega) _) ?_; rintro _ _ _ _ ⟨rfl, rfl, rfl⟩; refine Ec rfl .free rfl ?_; refine Ab ?_; refine A0 rfl ?_ ?_
   ·intro c3
    try simp only [nb] at c3
    refine Se rfl (Oa rfl (Ab (Al (.tmp rfl .nil) ?_))); refine Hq e Bk ?_; rw [hks]
    have : (C3 t).all (fun i => (t.pt i).ex.isSome) = false := by
     rw [List.all_eq_false]; exact ⟨_, List.getElem_mem (show i < (C3 t).length by omega), by rw [← hki]; simpa using c3⟩
    rw [this]; rfl
   intro c3
   try simp only [nb] at c3
   refine Ak (Ar (Am rfl ?_)); refine Or rfl rfl rfl ?_; refine Om rfl (Ab ?_); refine Dy (E' := [(1, .pointer (some ⟨b1, 0, none⟩)), (17, .slice ok (C3 t).length ck), (18, .int .i64 ((C3 t).length : Nat)), (19, .int .i64 ((i + 1 : Nat)))]) ⟨rfl, rfl, rfl, rfl, trivial⟩ (ih (i + 1) ⟨by omega, ?_⟩ Aa); rw [List.take_succ_eq_append_getElem Aa, List.all_append, hall]
   simp only [List.all_cons, List.all_nil, Bool.and_true, Bool.true_and]
   rw [← hki]; simpa using c3
  intro c2
  try simp only [nb] at c2
  obtain rfl : i = (C3 t).length := by omega
  rw [List.take_length] at hall; rw [hall] at hks; refine Ce rfl ?_; refine Ah (Se rfl ?_); refine A2 rfl .free rfl ?_; refine Ca rfl (Bq hf.rep _) ?_; rintro _ _ _ _ ⟨rfl, rfl, rfl⟩; refine Ab (Aq (Se rfl (Od rfl rfl rfl (Oa rfl (Ab ?_))))); refine A0 rfl ?_ ?_
  ·intro c4
   try simp only [nb] at c4
   have hl4 : t.parts.length = 4 := by rw [hkl, c4]; decide
   have ha1 := (hf.rp 1 Aa).atom_le
   refine Se rfl (Oh rfl ?_); refine Bz rfl .free rfl ?_
   first | refine Bx rfl rfl 1 rfl .free rfl ?_ | refine By rfl rfl 1 rfl .free rfl ?_
   refine Bg rfl .free rfl ?_; refine Gb rfl .free rfl ?_; refine Ca rfl (Kn (t.pt 1).atom ha1 _ _) ?_; rintro _ _ _ _ ⟨rfl, rfl, rfl⟩; refine Oa rfl (Ab (Al (.tmp rfl .nil) ?_)); refine Hq e Bk ?_; rw [hks, L3, if_pos (show t.head = Dq from c4)]; rfl
  intro c4
  try simp only [nb] at c4
  refine Se rfl (Od rfl rfl rfl (Oa rfl (Ab ?_))); refine A0 rfl ?_ ?_
  ·intro c5
   try simp only [nb] at c5
   have hl6 : t.parts.length = 6 := by rw [hkl, c5]; decide
   have ha1 := (hf.rp 1 Aa).atom_le
   have ha2 := (hf.rp 2 Aa).atom_le
   have hz3 := t.pt_len 3 Aa
   have hz4 := t.pt_len 4 Aa
   refine Ah ?_; refine Dn 12 rfl rfl ?_; refine Da 0 rfl (Aj rfl) ?_; refine Dt 1 [12] rfl (Bc rfl) ?_
   first | refine Da 2 rfl (A3 rfl rfl 1 rfl) ?_ | refine Da 2 rfl (A4 rfl rfl 1 rfl) ?_
   refine Da 3 rfl (Bi rfl) ?_; refine Dt 4 [12] rfl (I6 rfl) ?_; refine Da 5 rfl (Aj rfl) ?_; refine Dt 6 [12] rfl (Bc rfl) ?_
   first | refine Da 7 rfl (A3 rfl rfl 2 rfl) ?_ | refine Da 7 rfl (A4 rfl rfl 2 rfl) ?_
   refine Da 8 rfl (Bi rfl) ?_; refine Dt 9 [12] rfl (I6 rfl) ?_; refine Da 10 rfl (A5 rfl) ?_; refine Da 11 rfl (A5 rfl) ?_; refine At Ad ?_; refine Se rfl (Om rfl ?_); refine Ca rfl (Kn (t.pt 1).atom ha1 _ _) ?_; rintro _ _ _ _ ⟨rfl, rfl, rfl⟩; refine Om rfl ?_
   apply Ep 55 58 rfl
   ·intro g17_3 hk
    try simp only [nb] at g17_3
    refine Ow rfl ?_; refine Cq rfl (.met rfl rfl) rfl (Kn (t.pt 2).atom ha2 _ _) ?_; rintro _ _ _ _ ⟨rfl, rfl, rfl⟩; refine Ot rfl rfl ?_
    exact A7 2 rfl rfl hk
   ·intro _ hk; refine Bj 2 rfl ?_; refine Of rfl rfl ?_
    exact A7 2 rfl rfl hk
   refine Om rfl ?_
   apply Ep 59 63 rfl
   ·intro g17_7 hk
    try simp only [nb] at g17_7
    refine Ow rfl (Ow rfl ?_); refine Gf rfl rfl rfl (.met rfl rfl) rfl ?_; refine Ot rfl rfl ?_
    exact A7 3 rfl rfl hk
   ·intro _ hk; refine Bj 3 rfl ?_; refine Of rfl rfl ?_
    exact A7 3 rfl rfl hk
   refine Om rfl ?_
   apply Ep 64 70 rfl
   ·intro g17_12 hk
    try simp only [nb] at g17_12
    refine Cf rfl (.met rfl rfl) rfl ?_; refine Bz rfl (.met rfl rfl) rfl ?_
    first | refine Bx rfl rfl 3 rfl (.met rfl rfl) rfl ?_ | refine By rfl rfl 3 rfl (.met rfl rfl) rfl ?_
    refine Fy rfl (.met rfl rfl) rfl ?_; refine Cq rfl (.met rfl rfl) rfl (H1 (hf.rp 3 Aa) (Tree.size_maxN Aa) _) ?_; rintro _ _ _ _ ⟨rfl, rfl, rfl⟩; refine Ot rfl rfl ?_
    exact A7 5 rfl rfl hk
   ·intro _ hk; refine Bj 5 rfl ?_; refine Of rfl rfl ?_
    exact A7 5 rfl rfl hk
   refine Om rfl ?_
   apply Ep 71 77 rfl
   ·intro g17_19 hk
    try simp only [nb] at g17_19
    refine Cf rfl (.met rfl rfl) rfl ?_; refine Bz rfl (.met rfl rfl) rfl ?_
    first | refine Bx rfl rfl 4 rfl (.met rfl rfl) rfl ?_ | refine By rfl rfl 4 rfl (.met rfl rfl) rfl ?_
    refine Fy rfl (.met rfl rfl) rfl ?_; refine Cq rfl (.met rfl rfl) rfl (H1 (hf.rp 4 Aa) (Tree.size_maxN Aa) _) ?_; rintro _ _ _ _ ⟨rfl, rfl, rfl⟩; refine Ot rfl rfl ?_
    exact A7 5 rfl rfl hk
   ·intro _ hk; refine Bj 5 rfl ?_; refine Of rfl rfl ?_
    exact A7 5 rfl rfl hk
   refine Oa rfl (Ab (Al (.tmp rfl .nil) ?_)); refine Hq e Bk ?_; rw [hks, L3, if_neg (show ¬ t.head = Dq from c4), if_pos (show t.head = C6 from c5)]
   simp [Ck]
  intro c5
  try simp only [nb] at c5
  refine Ak (Ar (Se rfl (Oa rfl (Ab (Al (.tmp rfl .nil) ?_))))); refine Hq e Bk ?_; rw [hks, L3, if_neg (show ¬ t.head = Dq from c4), if_neg (show ¬ t.head = C6 from c5)]; rfl
theorem L5 {t : Tree} (hg : t.good = true) (h : t.atom = []) : t.parts ≠ [] ∧ 0 < t.parts.length := by
 have : t.parts ≠ [] := by rcases t.good_cases hg with hh | hh <;> simp_all
 exact ⟨this, List.length_pos_iff.2 this⟩
theorem Lv {t : Tree} (hg : t.good = true) (h : t.atom ≠ []) : t.parts = [] := by rcases t.good_cases hg with hh | hh <;> simp_all
theorem I4 {t : Tree} (h : 0 < t.parts.length) : t.head = (t.pt 0).atom := by
 cases t with
 | node a ps => cases ps with
  | nil => simp [Tree.parts] at h
  | cons p ps => rfl
theorem Aef {t : Tree} (h : t.parts = []) : t.ex.isSome = (B0 t.atom || C4 t.atom) := by
 cases t with
 | node a ps =>
  simp only [Tree.parts] at h
  subst h
  simp only [Tree.atom, Tree.ex]
  cases B0 a <;> cases C4 a <;> rfl
theorem X1 (h : As) : (Az h).1 ≤ (Az h).2 ∧ (Az h).2 ≤ 6 ∧ ((Az h).1 = 0 → (Az h).2 = 0) ∧ ((Az h).1 ≠ 0 → (Az h).1 < (Az h).2) ∧ (1 < (Az h).1 ↔ h = Dq ∨ h = C6) ∧ ((Az h).1 = 5 ↔ h = C6) ∧ ((Az h).1 = 5 → (Az h).2 = 6) := by
 rcases Hs h with ⟨o, e, hr⟩ | ⟨e, hr⟩ | ⟨e, hr⟩ | ⟨e, hr⟩ | ⟨o, e, hr⟩ | ⟨hr, _, _, _, h4, h5⟩
 ·rw [hr, e]; have := o.txt_ne; simp [this]
 ·rw [hr, e]; simp; decide
 ·rw [hr, e]; simp; decide
 ·rw [hr, e]; simp
 ·rw [hr, e]; have := o.txt_ne; simp [this]
 ·rw [hr]; simp [h4, h5]
theorem Yy {t : Tree} (h : t.parts.length = (Az t.head).2) : C3 t = List.range' (Az t.head).1 ((Az t.head).2 - (Az t.head).1) := if_pos h

theorem Aam : ∀ (n : Nat) {I : Heap} {t : Tree} {cs : List Value} (_ : SizeOf.sizeOf t < n) (_ : Rep I t cs) (_ : t.good = true) (_ : t.len ≤ 12000000) (L : Bo),
  Fun Tryz.prog 95 [.agg cs.toArray] I L (E1 (.bool t.ex.isSome) I L) := by
 intro n
 induction n with
 | zero => intro I t cs h; omega
 | succ n ihn =>
  intro I t cs hlt h hg hz L; obtain ⟨oa, c, oaf, cf, rfl, hf⟩ := h.at'
  have hp := hf.len
  have ha := hf.alen
  unfold Ba at hp
  refine Ao Af ?_; refine Se rfl ?_; refine Cn rfl rfl .free rfl ?_; intro b1; refine Oa rfl (Ab (Ah (Se rfl (Oh rfl ?_)))); refine Bz rfl .free rfl ?_; refine Od rfl rfl rfl (Ab ?_); refine A0 rfl ?_ ?_
  ·intro c0
   try simp only [nb] at c0
   refine Se rfl (Oh rfl ?_); refine Bz rfl .free rfl ?_; refine Ca rfl (Yx t.atom ha _ _) ?_; rintro _ _ _ _ ⟨rfl, rfl, rfl⟩; refine Om rfl (Oe rfl rfl (Oe rfl rfl (Oa rfl (Oa rfl (Ab (Se rfl (Om rfl (Om rfl ?_))))))))
   apply G5 18 22 rfl
   ·intro g3_2 hk
    try simp only [nb] at g3_2
    refine Cf rfl (.met rfl rfl) rfl ?_; refine Bz rfl (.met rfl rfl) rfl ?_; refine Cq rfl (.met rfl rfl) rfl (M6 t.atom ha _ _) ?_; rintro _ _ _ _ ⟨rfl, rfl, rfl⟩; refine Of rfl rfl ?_
    exact A7 3 rfl rfl hk
   ·intro _ hk; refine Bj 3 rfl ?_; refine Ot rfl rfl ?_
    exact A7 3 rfl rfl hk
   refine Oa rfl (Ab (Al (.tmp rfl .nil) ?_)); refine only rfl ?_; rw [Aef (Lv hg Fv)]
   exact congrArg Value.bool (Bool.or_comm ..)
  intro c0
  try simp only [nb] at c0
  obtain ⟨hne, h0⟩ := L5 hg Fv
  have hhd := I4 h0
  obtain ⟨k1, k2, k3, k4, k5, k6, k7⟩ := X1 t.head; refine Ak (Se rfl (Oh rfl ?_)); refine Bz rfl .free rfl ?_
  first | refine Bx rfl rfl 0 rfl .free rfl ?_ | refine By rfl rfl 0 rfl .free rfl ?_
  refine Bg rfl .free rfl ?_; refine Gb rfl .free rfl ?_; refine Ca rfl (Kr (t.pt 0).atom _ _) ?_; rw [← hhd]; rintro _ _ _ _ ⟨rfl, rfl, rfl⟩; refine Om rfl (Oe rfl rfl (Oe rfl rfl (Oa rfl (Oa rfl (Ab (Ah (Se rfl (Om rfl (Oc rfl rfl rfl (Om rfl ?_))))))))))
  apply G5 34 40 rfl
  ·intro g5_3 hk
   try simp only [nb] at g5_3
   refine Cf rfl (.met rfl rfl) rfl ?_; refine Bz rfl (.met rfl rfl) rfl ?_; refine Ht rfl (.met rfl rfl) rfl ?_; refine Ow rfl ?_; refine D0 rfl rfl rfl (.met rfl rfl) rfl ?_; refine Of rfl rfl ?_
   exact A7 5 rfl rfl hk
  ·intro _ hk; refine Bj 5 rfl ?_; refine Ot rfl rfl ?_
   exact A7 5 rfl rfl hk
  refine Ab ?_; refine A0 rfl ?_ ?_
  ·intro c1
   try simp only [nb] at c1
   refine Se rfl (Oa rfl (Ab (Al (.tmp rfl .nil) ?_))); refine only rfl ?_
   have hk : C3 t = [] := by
    unfold C3
    split
    ·have : (Az t.head).1 = 0 := by omega
     rw [this, k3 this]; rfl
    ·rfl
   rw [Up hne hk]; rfl
  intro c1
  try simp only [nb] at c1
  have hl : t.parts.length = (Az t.head).2 := by omega
  have hkr := Yy hl
  have hk0 : C3 t ≠ [] := by
   intro e; rw [e] at hkr; have := congrArg List.length hkr; simp at this; omega
  have hks := Uq hk0
  refine Ak (Ah (Se rfl (Om rfl (Oc rfl rfl rfl (Om rfl ?_)))))
  apply Ep 43 51 rfl
  ·intro g7_3 hk
   try simp only [nb] at g7_3
   have hl1 : 1 < t.parts.length := by omega
   have ha1 := (hf.rp 1 hl1).atom_le
   refine Cf rfl (.met rfl rfl) rfl ?_; refine Bz rfl (.met rfl rfl) rfl ?_
   first | refine Bx rfl rfl 1 rfl (.met rfl rfl) rfl ?_ | refine By rfl rfl 1 rfl (.met rfl rfl) rfl ?_
   refine Bg rfl (.met rfl rfl) rfl ?_; refine Gb rfl (.met rfl rfl) rfl ?_; refine Cq rfl (.met rfl rfl) rfl (M6 (t.pt 1).atom ha1 _ _) ?_; rintro _ _ _ _ ⟨rfl, rfl, rfl⟩; refine Ec rfl (.met rfl rfl) rfl ?_; refine Ot rfl rfl ?_
   exact A7 7 rfl rfl hk
  ·intro _ hk; refine Bj 7 rfl ?_; refine Of rfl rfl ?_
   exact A7 7 rfl rfl hk
  refine Ab ?_; refine A0 rfl ?_ ?_
  ·intro c2
   try simp only [nb] at c2
   refine Se rfl (Oa rfl (Ab (Al (.tmp rfl .nil) ?_))); refine only rfl ?_
   have hl1 : 1 < t.parts.length := by omega
   have h1 : 1 < (Az t.head).1 := by omega
   rw [hks, L3]
   rcases k5.1 h1 with e | e
   ·rw [if_pos e, c2.2]; simp [Ck]
   ·rw [if_neg (by rw [e]; decide), if_pos e, c2.2]; simp [Ck]
  intro c2
  try simp only [nb] at c2
  refine Ak (Ah (Ah ?_)); refine Dn 40 rfl rfl ?_; refine Da 0 rfl (Ag rfl) ?_; refine Da 1 rfl (K8 rfl rfl rfl) ?_; refine Da 2 rfl (Ag rfl) ?_
  apply N3 54 91 rfl
  ·intro g9_3 hk
   try simp only [nb] at g9_3
   have h56 : (Az t.head).1 = 5 := by omega
   have h6 := k7 h56
   have ha1 := (hf.rp 1 Aa).atom_le
   have ha2 := (hf.rp 2 Aa).atom_le
   have hz3 := t.pt_len 3 Aa
   have hz4 := t.pt_len 4 Aa
   have hg3 := Tree.pt_good hg 3 Aa
   have hg4 := Tree.pt_good hg 4 Aa
   refine Dm 3 rfl (Aj rfl) ?_; refine Ef 4 [40] rfl Ad rfl Ap (Bc rfl) (.met rfl rfl) rfl ?_
   first | refine Dm 5 rfl (A3 rfl rfl 2 rfl) ?_ | refine Dm 5 rfl (A4 rfl rfl 2 rfl) ?_
   refine Dm 6 rfl (Bi rfl) ?_; refine Ef 7 [40] rfl Ad rfl Ap (I6 rfl) (.met rfl rfl) rfl ?_; refine Gx 8 rfl Ad rfl rfl (.met rfl rfl) rfl (M6 (t.pt 2).atom ha2 _ _) ?_; rintro _ _ _ _ ⟨rfl, rfl, rfl⟩; refine Hx ?_; refine Dm 9 rfl (Jy rfl) ?_; refine Dm 10 rfl (Ag rfl) ?_
   apply Aaa 62 74 rfl
   ·intro g9_11 hk
    try simp only [nb] at g9_11
    refine Dm 11 rfl (Aj rfl) ?_; refine Ef 12 [40] rfl Ad rfl Ap (Bc rfl) (.met rfl rfl) rfl ?_
    first | refine Dm 13 rfl (A3 rfl rfl 1 rfl) ?_ | refine Dm 13 rfl (A4 rfl rfl 1 rfl) ?_
    refine Dm 14 rfl (Bi rfl) ?_; refine Ef 15 [40] rfl Ad rfl Ap (I6 rfl) (.met rfl rfl) rfl ?_; refine Dm 16 rfl (Aj rfl) ?_; refine Ef 17 [40] rfl Ad rfl Ap (Bc rfl) (.met rfl rfl) rfl ?_
    first | refine Dm 18 rfl (A3 rfl rfl 2 rfl) ?_ | refine Dm 18 rfl (A4 rfl rfl 2 rfl) ?_
    refine Dm 19 rfl (Bi rfl) ?_; refine Ef 20 [40] rfl Ad rfl Ap (I6 rfl) (.met rfl rfl) rfl ?_; refine Dm 21 rfl (Mq rfl rfl rfl) ?_; refine Dm 22 rfl (Cu rfl rfl) ?_
    exact F9 11 rfl rfl hk
   ·intro _ hk; refine Ds 11 rfl rfl rfl ?_; refine Ds 12 rfl rfl rfl ?_; refine Ds 13 rfl rfl rfl ?_; refine Ds 14 rfl rfl rfl ?_; refine Ds 15 rfl rfl rfl ?_; refine Ds 16 rfl rfl rfl ?_; refine Ds 17 rfl rfl rfl ?_; refine Ds 18 rfl rfl rfl ?_; refine Ds 19 rfl rfl rfl ?_; refine Ds 20 rfl rfl rfl ?_; refine Ds 21 rfl rfl rfl ?_; refine Dm 22 rfl (Dj rfl rfl) ?_
    exact F9 11 rfl rfl hk
   refine Dm 23 rfl (Ag rfl) ?_
   apply Aaa 75 82 rfl
   ·intro g9_24 hk
    try simp only [nb] at g9_24
    refine Dm 24 rfl (Aj rfl) ?_; refine Ef 25 [40] rfl Ad rfl Ap (Bc rfl) (.met rfl rfl) rfl ?_
    first | refine Dm 26 rfl (A3 rfl rfl 3 rfl) ?_ | refine Dm 26 rfl (A4 rfl rfl 3 rfl) ?_
    refine Ef 27 [40] rfl Ad rfl Ap (B7 rfl) (.met rfl rfl) rfl ?_; refine Gx 28 rfl Ad rfl rfl (.met rfl rfl) rfl (Nr (hf.rp 3 Aa) hg3 (Tree.size_maxN Aa) _) ?_; rintro _ _ _ _ ⟨rfl, rfl, rfl⟩; refine Hx ?_; refine Dm 29 rfl (Jy rfl) ?_; refine Dm 30 rfl (Cu rfl rfl) ?_
    exact F9 6 rfl rfl hk
   ·intro _ hk; refine Ds 24 rfl rfl rfl ?_; refine Ds 25 rfl rfl rfl ?_; refine Ds 26 rfl rfl rfl ?_; refine Ds 27 rfl rfl rfl ?_; refine Ds 28 rfl rfl rfl ?_; refine Ds 29 rfl rfl rfl ?_; refine Dm 30 rfl (Dj rfl rfl) ?_
    exact F9 6 rfl rfl hk
   refine Dm 31 rfl (Ag rfl) ?_
   apply Aaa 83 90 rfl
   ·intro g9_32 hk
    try simp only [nb] at g9_32
    refine Dm 32 rfl (Aj rfl) ?_; refine Ef 33 [40] rfl Ad rfl Ap (Bc rfl) (.met rfl rfl) rfl ?_
    first | refine Dm 34 rfl (A3 rfl rfl 4 rfl) ?_ | refine Dm 34 rfl (A4 rfl rfl 4 rfl) ?_
    refine Ef 35 [40] rfl Ad rfl Ap (B7 rfl) (.met rfl rfl) rfl ?_; refine Gx 36 rfl Ad rfl rfl (.met rfl rfl) rfl (Nr (hf.rp 4 Aa) hg4 (Tree.size_maxN Aa) _) ?_; rintro _ _ _ _ ⟨rfl, rfl, rfl⟩; refine Hx ?_; refine Dm 37 rfl (Jy rfl) ?_; refine Dm 38 rfl (Cu rfl rfl) ?_
    exact F9 6 rfl rfl hk
   ·intro _ hk; refine Ds 32 rfl rfl rfl ?_; refine Ds 33 rfl rfl rfl ?_; refine Ds 34 rfl rfl rfl ?_; refine Ds 35 rfl rfl rfl ?_; refine Ds 36 rfl rfl rfl ?_; refine Ds 37 rfl rfl rfl ?_; refine Dm 38 rfl (Dj rfl rfl) ?_
    exact F9 6 rfl rfl hk
   refine Da 39 rfl (Dj rfl rfl) ?_
   exact F9 13 rfl rfl hk
  ·intro _ hk; refine Ds 3 rfl rfl rfl ?_; refine Ds 4 rfl rfl rfl ?_; refine Ds 5 rfl rfl rfl ?_; refine Ds 6 rfl rfl rfl ?_; refine Ds 7 rfl rfl rfl ?_; refine Ds 8 rfl rfl rfl ?_; refine Ds 9 rfl rfl rfl ?_; refine Ds 10 rfl rfl rfl ?_; refine A1 11 rfl Ad rfl (.inr Ap) rfl rfl rfl ?_; refine A1 12 rfl Ad rfl (.inr Ap) rfl rfl rfl ?_; refine A1 13 rfl Ad rfl (.inr Ap) rfl rfl rfl ?_; refine A1 14 rfl Ad rfl (.inr Ap) rfl rfl rfl ?_; refine A1 15 rfl Ad rfl (.inr Ap) rfl rfl rfl ?_; refine A1 16 rfl Ad rfl (.inr Ap) rfl rfl rfl ?_; refine A1 17 rfl Ad rfl (.inr Ap) rfl rfl rfl ?_
   refine A1 18 rfl Ad rfl (.inr Ap) rfl rfl rfl ?_; refine A1 19 rfl Ad rfl (.inr Ap) rfl rfl rfl ?_; refine A1 20 rfl Ad rfl (.inr Ap) rfl rfl rfl ?_; refine A1 21 rfl Ad rfl (.inr Ap) rfl rfl rfl ?_; refine Ds 22 rfl rfl rfl ?_; refine Ds 23 rfl rfl rfl ?_; refine A1 24 rfl Ad rfl (.inr Ap) rfl rfl rfl ?_; refine A1 25 rfl Ad rfl (.inr Ap) rfl rfl rfl ?_; refine A1 26 rfl Ad rfl (.inr Ap) rfl rfl rfl ?_; refine A1 27 rfl Ad rfl (.inr Ap) rfl rfl rfl ?_; refine A1 28 rfl Ad rfl (.inr Ap) rfl rfl rfl ?_; refine A1 29 rfl Ad rfl (.inr Ap) rfl rfl rfl ?_; refine Ds 30 rfl rfl rfl ?_
   refine Ds 31 rfl rfl rfl ?_; refine A1 32 rfl Ad rfl (.inr Ap) rfl rfl rfl ?_; refine A1 33 rfl Ad rfl (.inr Ap) rfl rfl rfl ?_; refine A1 34 rfl Ad rfl (.inr Ap) rfl rfl rfl ?_; refine A1 35 rfl Ad rfl (.inr Ap) rfl rfl rfl ?_; refine A1 36 rfl Ad rfl (.inr Ap) rfl rfl rfl ?_; refine A1 37 rfl Ad rfl (.inr Ap) rfl rfl rfl ?_; refine Ds 38 rfl rfl rfl ?_; refine Da 39 rfl (Cu rfl rfl) ?_
   exact F9 36 rfl rfl hk
  refine At Ad ?_; refine A0 rfl ?_ ?_
  ·intro c3
   try simp only [nb] at c3
   have h56 : (Az t.head).1 = 5 := by omega
   have h6 := k7 h56
   refine Se rfl (Oa rfl (Ab (Al (.tmp rfl .nil) ?_))); refine only rfl ?_
   have hh := k6.1 h56
   rw [hks, L3, if_neg (by rw [hh]; decide), if_pos hh]
   have : (B0 (t.pt 1).atom && B0 (t.pt 2).atom && decide ((t.pt 1).atom ≠ (t.pt 2).atom) && (t.pt 3).typed && (t.pt 4).typed) = false := by
    have := c3.2
    grind
   rw [this]; simp [Ck]
  intro c3
  try simp only [nb] at c3
  have htail : L3 t = true := by
   unfold L3
   by_cases e : t.head = Dq
   ·rw [if_pos e]
    have := k5.2 (.inl e)
    rcases c2 with h | h
    ·omega
    ·simpa using h
   ·rw [if_neg e]
    by_cases e' : t.head = C6
    ·have h5 := k6.2 e'
     have h6 := k7 h5
     rw [if_pos e']
     grind
    ·rw [if_neg e']
  refine Ak (Ah (Se rfl (Om rfl (Oa rfl (Ab (Aq ?_)))))); refine C7 (X := Nat) (fun j => (C3 t).length - j) (fun j => [(1, .pointer (some ⟨b1, 0, none⟩)), (6, .int .i64 ((Az t.head).2 : Nat)), (7, .int .i64 (((Az t.head).1 + j : Nat)))]) (fun _ => I) (fun _ => (b1, .cells [.string (str t.atom), .slice oa t.parts.length c].toArray _ (0, 0)) :: L) (fun j => j ≤ (C3 t).length ∧ ((C3 t).take j).all (fun i => (t.pt i).ex.isSome) = true) 0 ⟨by omega, rfl⟩ ⟨rfl, rfl, rfl, trivial⟩ Bk ?_; rintro j ⟨hj, hall⟩ ih
  have hkl : (C3 t).length = (Az t.head).2 - (Az t.head).1 := by rw [hkr, List.length_range']
  refine Ah (Se rfl (Om rfl (Om rfl (Oc rfl rfl rfl (Ab ?_))))); refine A0 rfl ?_ ?_
  ·intro c4
   try simp only [nb] at c4
   have hjl : j < (C3 t).length := by omega
   have hkj : (C3 t)[j] = (Az t.head).1 + j := by simp only [hkr, List.getElem_range']; omega
   have hkt : (Az t.head).1 + j < t.parts.length := by omega
   refine Ak (Ah (Aq (Se rfl (Oh rfl ?_)))); refine Bz rfl .free rfl ?_; refine Om rfl ?_
   first | refine Bx rfl rfl _ rfl .free rfl ?_ | refine By rfl rfl _ rfl .free rfl ?_
   refine Fy rfl .free rfl ?_; refine Ca rfl (ihn (t := t.pt ((Az t.head).1 + j)) (by have := t.pt_lt _ hkt; omega) (hf.rp _ hkt) (Tree.pt_good hg _ hkt) (by have := t.pt_len _ hkt; omega) _) ?_; rintro _ _ _ _ ⟨rfl, rfl, rfl⟩; refine Ec rfl .free rfl ?_; refine Ab ?_; refine A0 rfl ?_ ?_
   ·intro c5
    try simp only [nb] at c5
    refine Se rfl (Oa rfl (Ab (Al (.tmp rfl .nil) ?_))); refine only rfl ?_; rw [hks]
    have : (C3 t).all (fun i => (t.pt i).ex.isSome) = false := by
     rw [List.all_eq_false]; exact ⟨_, List.getElem_mem hjl, by rw [hkj]; simpa using c5⟩
    rw [this]; rfl
   intro c5
   try simp only [nb] at c5
   refine Ak (Ar (Am rfl (Om rfl ?_))); refine Or rfl rfl rfl ?_; refine Oa rfl (Ab ?_); refine Dy (E' := [(1, .pointer (some ⟨b1, 0, none⟩)), (6, .int .i64 ((Az t.head).2 : Nat)), (7, .int .i64 (((Az t.head).1 + (j + 1) : Nat)))]) ⟨rfl, rfl, rfl, trivial⟩ (ih (j + 1) ⟨by omega, ?_⟩ Aa); rw [List.take_succ_eq_append_getElem hjl, List.all_append, hall]
   simp only [List.all_cons, List.all_nil, Bool.and_true, Bool.true_and]
   rw [hkj]; simpa using c5
  intro c4
  try simp only [nb] at c4
  refine Ce rfl ?_; refine Se rfl (Oa rfl (Ab (Al (.tmp rfl .nil) ?_))); refine only rfl ?_; obtain rfl : j = (C3 t).length := by omega
  rw [List.take_length] at hall; rw [hks, hall, htail]; rfl

def S9 (ps : List Tree) (i : Nat) : As := if i = 0 then [40] else H7 (ps.take i)
theorem Aa8 (ps : List Tree) (i : Nat) (hi : i < ps.length) : S9 ps (i + 1) = (if i = 0 then S9 ps i else S9 ps i ++ [32]) ++ ps[i].text := by
 unfold S9
 rw [if_neg Aa, S8 ps i hi]
 by_cases h : i = 0
 ·simp [h, H7]
 ·simp [h]
theorem Adj (ps : List Tree) (i : Nat) (hi : i ≤ ps.length) : (S9 ps i).length ≤ 1 + (H7 ps).length := by
 unfold S9
 split
 ·simp
 ·have := Uv ps i; omega
theorem Kq : ∀ (n : Nat) {I : Heap} {t : Tree} {cs : List Value} (_ : SizeOf.sizeOf t < n) (_ : Rep I t cs) (_ : t.good = true) (_ : t.len ≤ 12000000) (L : Bo),
  Fun Tryz.prog 73 [.agg cs.toArray] I L (E1 (.string (str t.text)) I L) := by
 intro n
 induction n with
 | zero => intro I t cs h; omega
 | succ n ihn =>
  intro I t cs hlt h hg hz L; obtain ⟨oa, c, oaf, cf, rfl, hf⟩ := h.at'
  have hp := hf.len
  unfold Ba at hp
  refine Ao Af ?_; refine Se rfl ?_; refine Cn rfl rfl .free rfl ?_; intro b1; refine Oa rfl (Ab (Ah (Se rfl (Oh rfl ?_)))); refine Bz rfl .free rfl ?_; refine Od rfl rfl rfl (Ab ?_); refine A0 rfl ?_ ?_
  ·intro c0
   try simp only [nb] at c0
   refine Se rfl (Oh rfl ?_); refine Bz rfl .free rfl ?_; refine Oa rfl (Ab (Al (.tmp rfl .nil) ?_)); refine only rfl ?_; rw [t.text_atom (Lv hg Fv)]; rfl
  intro c0
  try simp only [nb] at c0
  obtain ⟨hne, h0⟩ := L5 hg Fv
  have htx := t.text_eq hne
  have htl := t.text_len
  rw [htx, List.length_append] at htl
  simp only [List.length_cons, List.length_nil] at htl
  refine Ak (Se rfl (Oa rfl (Ab (Ah (Se rfl (Oa rfl (Ab (Aq ?_)))))))); refine C7 (X := Nat) (fun i => t.parts.length - i) (fun i => [(1, .pointer (some ⟨b1, 0, none⟩)), (3, .string (str (S9 t.parts i))), (4, .int .i64 (i : Nat))]) (fun _ => I) (fun _ => (b1, .cells [.string (str t.atom), .slice oa t.parts.length c].toArray _ (0, 0)) :: L) (fun i => i ≤ t.parts.length) 0 Aa ⟨rfl, rfl, rfl, trivial⟩ Bk ?_; rintro i hi ih
  have hol := Adj t.parts i hi
  refine Ah (Se rfl (Om rfl (Oh rfl ?_))); refine Bz rfl .free rfl ?_; refine On rfl (Oc rfl rfl rfl (Ab ?_)); refine A0 rfl ?_ ?_
  ·intro c1
   try simp only [nb] at c1
   have hpl := t.pt_len i Aa
   have hos := Aa8 t.parts i Aa
   rw [← Tree.pt_at Aa] at hos
   have hpt := (t.pt i).text_len
   refine Ak (Ah (Aq (Ah (Se rfl (Om rfl (Oc rfl rfl rfl (Ab ?_))))))); refine A0 rfl ?_ ?_
   ·intro c2
    try simp only [nb] at c2
    refine Am rfl (Om rfl ?_); refine Ok rfl rfl ?_; refine Oa rfl (Ab (Am rfl (Om rfl (Oh rfl ?_)))); refine Bz rfl .free rfl ?_; refine Om rfl ?_
    first | refine Bx rfl rfl _ rfl .free rfl ?_ | refine By rfl rfl _ rfl .free rfl ?_
    refine Fy rfl .free rfl ?_; refine Ca rfl (ihn (t := t.pt i) (by have := t.pt_lt i Aa; omega) (hf.rp i Aa) (Tree.pt_good hg i Aa) Aa _) ?_; rintro _ _ _ _ ⟨rfl, rfl, rfl⟩; refine Ok rfl rfl ?_; refine Oa rfl (Ab (Ar (Am rfl (Om rfl ?_)))); refine Or rfl rfl rfl ?_; refine Oa rfl (Ab ?_); refine Dy (E' := [(1, .pointer (some ⟨b1, 0, none⟩)), (3, .string (str (S9 t.parts (i + 1)))), (4, .int .i64 ((i + 1 : Nat)))]) ⟨rfl, ?_, rfl, trivial⟩ (ih (i + 1) Aa Aa)
    first
     | (rw [hos, if_neg Aa]; rfl)
     | (rw [hos, if_pos Aa]; rfl)
   intro c2
   try simp only [nb] at c2
   refine Ak (Am rfl (Om rfl (Oh rfl ?_))); refine Bz rfl .free rfl ?_; refine Om rfl ?_
   first | refine Bx rfl rfl _ rfl .free rfl ?_ | refine By rfl rfl _ rfl .free rfl ?_
   refine Fy rfl .free rfl ?_; refine Ca rfl (ihn (t := t.pt i) (by have := t.pt_lt i Aa; omega) (hf.rp i Aa) (Tree.pt_good hg i Aa) Aa _) ?_; rintro _ _ _ _ ⟨rfl, rfl, rfl⟩; refine Ok rfl rfl ?_; refine Oa rfl (Ab (Ar (Am rfl (Om rfl ?_)))); refine Or rfl rfl rfl ?_; refine Oa rfl (Ab ?_); refine Dy (E' := [(1, .pointer (some ⟨b1, 0, none⟩)), (3, .string (str (S9 t.parts (i + 1)))), (4, .int .i64 ((i + 1 : Nat)))]) ⟨rfl, ?_, rfl, trivial⟩ (ih (i + 1) Aa Aa)
   first
    | (rw [hos, if_neg Aa]; rfl)
    | (rw [hos, if_pos Aa]; rfl)
  intro c1
  try simp only [nb] at c1
  obtain rfl : i = t.parts.length := by omega
  have hpos : S9 t.parts t.parts.length = H7 t.parts := by unfold S9; rw [if_neg Aa, List.take_length]
  rw [hpos]; refine Ce rfl ?_; refine Se rfl (Om rfl ?_); refine Ok rfl rfl ?_; refine Oa rfl (Ab (Al (.tmp rfl .nil) ?_)); refine only rfl ?_; rw [htx]; rfl

theorem Kb {I : Heap} {t : Tree} {cs : List Value} (h : Rep I t cs) (hg : t.good = true) (hz : t.len ≤ 12000000) (L : Bo) :
  Fun Tryz.prog 91 [.agg cs.toArray] I L (E1 (.bool (decide (t.size ≤ 120) && t.fits && t.ex.isSome)) I L) := by
 obtain ⟨oa, c, oaf, cf, rfl, hf⟩ := h.at'; refine Ao Af ?_; refine Se rfl ?_; refine Cn rfl rfl .free rfl ?_; intro b1; refine Oa rfl (Ab (Se rfl ?_)); refine A2 rfl .free rfl ?_; refine Ca rfl (Q8 _ (Nat.lt_succ_self _) h (Tree.size_maxN hz) _) ?_; rintro _ _ _ _ ⟨rfl, rfl, rfl⟩; refine Oc rfl rfl rfl (Om rfl ?_)
 apply Ep 6 9 rfl
 ·intro g1_4 hk
  try simp only [nb] at g1_4
  refine A2 rfl (.met rfl rfl) rfl ?_; refine Cq rfl (.met rfl rfl) rfl (W3 h Ch _) ?_; rintro _ _ _ _ ⟨rfl, rfl, rfl⟩; refine Ot rfl rfl ?_
  exact A7 2 rfl rfl hk
 ·intro _ hk; refine Bj 2 rfl ?_; refine Of rfl rfl ?_
  exact A7 2 rfl rfl hk
 refine Om rfl ?_
 apply Ep 10 13 rfl
 ·intro g1_8 hk
  try simp only [nb] at g1_8
  refine A2 rfl (.met rfl rfl) rfl ?_; refine Cq rfl (.met rfl rfl) rfl (Tv _ (Nat.lt_succ_self _) h hg hz _) ?_; rintro _ _ _ _ ⟨rfl, rfl, rfl⟩; refine Ot rfl rfl ?_
  exact A7 2 rfl rfl hk
 ·intro _ hk; refine Bj 2 rfl ?_; refine Of rfl rfl ?_
  exact A7 2 rfl rfl hk
 refine Oa rfl (Ab (Al (.tmp rfl .nil) ?_)); refine only rfl ?_
 have e : decide ((t.size : Int) ≤ 120) = decide (t.size ≤ 120) := by rw [Bool.eq_iff_iff]; simp; omega
 simp only [Ck, e]

def RX (p : Option Ex) (L : Bo ) : De   := fun v I' L' => ∃ t cs ok, v = .tuple #[.agg cs.toArray, .bool ok] ∧ Rep I' t cs ∧ L = L' ∧
  (match p with
   | some e => ok = true ∧ t = e.tree
   | none => ok = false)
theorem Iy {s : As} {t : Tree} {ok : Bool} (hpf : match Dw s with | some t0 => ok = true ∧ t = t0 | none => ok = false) (h : ok = true) : Dw s = some t := by
 cases hp : Dw s with
 | none => rw [hp] at hpf; simp [h] at hpf
 | some t0 => rw [hp] at hpf; rw [hpf.2]
theorem Gg {s : As} {t : Tree} (h : Dw s = some t) : t.good = true ∧ t.len ≤ 12000000 ∧ t.fits = true := by
 obtain ⟨h1, h2, h3⟩ := Ij h
 simp only [Tree.fits, Bool.and_eq_true, decide_eq_true_eq] at h1
 exact ⟨h2, by omega, by simp [Tree.fits, h1]⟩
theorem Zt {s : As} {t : Tree} {ok : Bool} (hpf : match Dw s with | some t0 => ok = true ∧ t = t0 | none => ok = false) (b : Bool) (hb : b = (ok && (decide (t.size ≤ 120) && t.ex.isSome))) :
  match Eu s with | some e => b = true ∧ t = e.tree | none => b = false := by
 cases ok with
 | false =>
  have hp : Dw s = none := by
   cases hp : Dw s with
   | none => rfl
   | some t0 => rw [hp] at hpf; exact absurd hpf.1 Af
  unfold Eu
  rw [hp]; simpa using hb
 | true =>
  have hp := Iy hpf rfl
  have hx : Eu s = match t.ex with | some e => (if e.size ≤ 120 then some e else none) | none => none := by unfold Eu; rw [hp] <;> rfl
  cases he : t.ex with
  | none =>
   have h2 : Eu s = none := by rw [hx, he]
   rw [h2]; simpa [he] using hb
  | some e =>
   obtain ⟨rfl, _⟩ := Tree.ex_tree (Gg hp).1 he; rw [Ex.tree_size] at hb
   by_cases hz : e.size ≤ 120
   ·have h2 : Eu s = some e := by rw [hx, he]; exact if_pos hz
    rw [h2]; exact ⟨by rw [hb]; simp [hz, he], rfl⟩
   ·have h2 : Eu s = none := by rw [hx, he]; exact if_neg hz
    rw [h2]; simp [hb, hz]
theorem Jb (s : As) (hs : s.length ≤ Ba) (I : Heap) (L : Bo) : Fun Tryz.prog 47 [.string (str s)] I L (RX (Eu s) L) := by
 refine Ao Af ?_; refine Se rfl ?_; refine Aw .free rfl ?_; intro b2; refine Oa rfl (Ab (Se rfl (Om rfl ?_))); refine Ca rfl (Acb s hs _ _) ?_; rintro _ J _ hleJ ⟨t, cs, ok, rfl, hrep, rfl, hpf⟩; obtain ⟨oa, cc, vs, rfl, -⟩ := hrep.open; refine Om rfl (Oe rfl rfl (Oe rfl rfl ?_)); refine Aw .free rfl ?_; intro b4; refine Bu rfl rfl rfl rfl .free ?_; refine Oa rfl (Ab (Ah ?_)); refine Dn 8 rfl rfl ?_; refine Dt 0 [6] rfl (Cd rfl) ?_; refine Da 1 rfl (Ag rfl) ?_; refine Da 2 rfl (Ag rfl) ?_
 apply N3 13 16 rfl
 ·intro g2_3 hk
  try simp only [nb] at g2_3
  obtain ⟨hg, hz, hfit⟩ := Gg (Iy hpf g2_3); refine Ef 3 [4, 6] rfl Ad rfl Ap (Cd rfl) (.met rfl rfl) rfl ?_; refine Gx 4 rfl Ad rfl rfl (.met rfl rfl) rfl (Kb hrep hg hz _) ?_; rintro _ _ _ _ ⟨rfl, rfl, rfl⟩; refine Hx ?_; refine Da 5 rfl (Dj rfl rfl) ?_
  exact F9 2 rfl rfl hk
 ·intro _ hk; refine Ds 3 rfl rfl rfl ?_; refine Ds 4 rfl rfl rfl ?_; refine Da 5 rfl (Cu rfl rfl) ?_
  exact F9 2 rfl rfl hk
 refine Dx 6 rfl rfl rfl rfl ?_; refine Db 7 rfl (A5 rfl) ?_; refine At Ad ?_; refine Al (.c rfl (.tmp rfl .nil)) ?_; refine ⟨J, L, hleJ, fun _ h => h.drop.drop, t, _, _, rfl, hrep, rfl, Zt hpf _ ?_⟩
 cases ok with
 | false => rfl
 | true =>
  obtain ⟨hg, hz, hfit⟩ := Gg (Iy hpf rfl)
  simp [hfit]
theorem Sv (s : As) (hs : s.length ≤ L8) (I : Heap) (L : Bo) : Fun Tryz.prog 51 [.string (str s)] I L (RX (Eu s) L) := by
 refine Ao Af ?_; refine Se rfl ?_; refine Aw .free rfl ?_; intro b2; refine Oa rfl (Ab (Se rfl (Om rfl ?_))); refine Ca rfl (Ig s hs _ _) ?_; rintro _ J _ hleJ ⟨t, cs, ok, rfl, hrep, rfl, hpf⟩; obtain ⟨oa, cc, vs, rfl, -⟩ := hrep.open; refine Om rfl (Oe rfl rfl (Oe rfl rfl ?_)); refine Aw .free rfl ?_; intro b4; refine Bu rfl rfl rfl rfl .free ?_; refine Oa rfl (Ab (Ah ?_)); refine Dn 13 rfl rfl ?_; refine Dt 0 [11] rfl (Cd rfl) ?_; refine Da 1 rfl (Ag rfl) ?_; refine Da 2 rfl (Ag rfl) ?_
 apply N3 13 16 rfl
 ·intro g2_3 hk
  try simp only [nb] at g2_3
  obtain ⟨hg, hz, hfit⟩ := Gg (Iy hpf g2_3); refine Ef 3 [4, 6, 8, 11] rfl Ad rfl Ap (Cd rfl) (.met rfl rfl) rfl ?_; refine Gx 4 rfl Ad rfl rfl (.met rfl rfl) rfl (Aam _ (Nat.lt_succ_self _) hrep hg hz _) ?_; rintro _ _ _ _ ⟨rfl, rfl, rfl⟩; refine Hx ?_; refine Da 5 rfl (Dj rfl rfl) ?_
  exact F9 2 rfl rfl hk
 ·intro _ hk; refine Ds 3 rfl rfl rfl ?_; refine Ds 4 rfl rfl rfl ?_; refine Da 5 rfl (Cu rfl rfl) ?_
  exact F9 2 rfl rfl hk
 refine Da 6 rfl (Ag rfl) ?_
 apply N3 17 21 rfl
 ·intro g2_7 hk
  try simp only [nb] at g2_7
  obtain ⟨hg, hz, hfit⟩ := Gg (Iy hpf g2_7.1); refine Ef 7 [8, 11] rfl Ad rfl Ap (Cd rfl) (.met rfl rfl) rfl ?_; refine Gx 8 rfl Ad rfl rfl (.met rfl rfl) rfl (Xe _ (Nat.lt_succ_self _) hrep hg (Tree.size_maxN hz) _) ?_; rintro _ _ _ _ ⟨rfl, rfl, rfl⟩; refine Hx ?_; refine Dm 9 rfl (K8 rfl rfl rfl) ?_; refine Da 10 rfl (Dj rfl rfl) ?_
  exact F9 3 rfl rfl hk
 ·intro _ hk; refine Ds 7 rfl rfl rfl ?_; refine Ds 8 rfl rfl rfl ?_; refine Ds 9 rfl rfl rfl ?_; refine Da 10 rfl (Cu rfl rfl) ?_
  exact F9 3 rfl rfl hk
 refine Dx 11 rfl rfl rfl rfl ?_; refine Db 12 rfl (A5 rfl) ?_; refine At Ad ?_; refine Al (.c rfl (.tmp rfl .nil)) ?_; refine ⟨J, L, hleJ, fun _ h => h.drop.drop, t, _, _, rfl, hrep, rfl, Zt hpf _ ?_⟩
 have e : decide ((t.size : Int) ≤ 120) = decide (t.size ≤ 120) := by rw [Bool.eq_iff_iff]; simp; omega
 rw [e]
 cases ok <;> cases t.ex.isSome <;> simp
theorem Pm (s : As) (hs : s.length ≤ L8) (I : Heap) (L : Bo) : Fun Tryz.prog 72 [.string (str s)] I L (E1 (.bool (Eu s).isSome) I L) := by
 refine Ao Af ?_; refine Se rfl (Oa rfl (Ab (Se rfl (Om rfl ?_)))); refine Ca rfl (Sv s hs _ _) ?_; rintro _ J _ hleJ ⟨t, cs, ok, rfl, hrep, rfl, hpf⟩; obtain ⟨oa, cc, vs, rfl, -⟩ := hrep.open; refine Om rfl (Oe rfl rfl (Oe rfl rfl ?_)); refine Aw .free rfl ?_; intro b3; refine Bu rfl rfl rfl rfl .free ?_; refine Oa rfl (Ab (Se rfl (Om rfl (Oa rfl (Ab (Al (.tmp rfl .nil) ?_)))))); refine Hq hleJ Bk ?_; refine congrArg Value.bool ?_
 cases hp : Eu s with
 | none => rw [hp] at hpf; exact hpf
 | some e => rw [hp] at hpf; exact hpf.1
theorem M5 (s : As) (hs : s.length ≤ Ba) (I : Heap) (L : Bo) : Fun Tryz.prog 72 [.string (str s)] I L (E1 (.bool (Eu s).isSome) I L) := Pm s (Qk hs) I L
section rules
variable {P : Program} {f : FuncId} {n : Nat} {I₀ : Heap} {Q : De} {k : List Item} {E : Hy} {I : Heap} {L : Bo}
variable {ops : Array Oper} {d : Nat} {ty : TypeId} {pos : String} {af : Array Edge} {g : Option (Nat × Bool)} {l : List Oper}
theorem Ad3 {T e : TypeId} {parts : Array (Nat × Operand)} {is : List Nat} {vs us : List Value} {m : Nat} {sz bb esz ebb : Nat} {z ez : List Value} {dd : TypeDesc} [ht : Ay P T (.slice e) sz bb z] [hte : Ay P e dd esz ebb ez]
  (hp : parts.toList.map (·.1) = is) (ho : I7 E (parts.toList.map (·.2)) = some vs) (hr : is = List.range' 0 vs.length) (hm : vs.length = m) (hfl : Pl esz vs = some us) (hm0 : m * esz ≠ 0) (hm1 : m * esz ≤ 2 ^ 24) (hez : ez.length = esz)
  (a : Act) (w : World) (he : EnvOk E a) (hmm : Mem I L w) :
  ∃ w', (execOp a.eval ⟨some d, .buildSlice T m parts, ty, pos, af, g⟩).run P w = .ok (.value (.slice (some ⟨w.heap.size, 0, none⟩) m m)) w' ∧ Mem I ((w.heap.size, .cells us.toArray e (0, 0)) :: L) w' := by
 have hfill : Instr.fill (fun i => some (i * esz, esz)) ((Array.range (m * esz)).map (ez.toArray[· % ez.toArray.size]!)) (is.zip vs) = some us.toArray := by
  rw [hr]
  have := Uj (esz := esz) 0 [] (((Array.range (m * esz)).map (ez.toArray[· % ez.toArray.size]!)).toList) hfl Af (by simp [hm])
  rw [List.nil_append, List.nil_append, Array.toArray_toList] at this
  exact this
 refine ⟨{ w with heap := w.heap.push (.cells us.toArray e (0, 0)) }, ?_, hmm.alloc _⟩
 have h1 : parts.map (fun (i, x) => (i, a.eval x)) = (is.zip vs).toArray := by
  apply Array.ext'
  have := he.evals ho
  rw [← hp, ← this]
  simp [List.zip_map', Function.comp_def]
 simp only [execOp]
 rw [h1]; refine Ai (a := .slice (some ⟨w.heap.size, 0, none⟩) m m) (w' := { w with heap := w.heap.push (.cells us.toArray e (0, 0)) }) ?_ |>.trans rfl
 unfold Instr.buildSlice
 rw [Ai (A9 ht.und w)]
 simp only []
 rw [Ai (Fz hte w)]; rw [if_neg Aa, if_neg hm0]; obtain ⟨zv, hz1, hz2⟩ := Jw hte w
 have hz3 : zv.cells = ez.toArray := by rw [← hz2]
 simp only [bind_assoc, pure_bind]
 rw [Ai hz1, hz3]; rw [hfill]
 rfl
theorem C5 {S : World → Prop} {fuel : Nat} {listed listed' : Array Bool} (i : Nat) {T e : TypeId} {parts : Array (Nat × Operand)} {is : List Nat} {vs us : List Value} {m : Nat} {sz bb esz ebb : Nat} {z ez : List Value} {dd : TypeDesc} [ht : Ay P T (.slice e) sz bb z] [hte : Ay P e dd esz ebb ez]
  (hi : ops[i]? = some ⟨some d, .buildSlice T m parts, ty, pos, af, g⟩) (hc : decide (Region.ready .any ops listed = [i]) = true) (hl : listed' = listed.setIfInBounds i true)
  (hp : parts.toList.map (·.1) = is) (ho : I7 E (parts.toList.map (·.2)) = some vs) (hr : is = List.range' 0 vs.length) (hm : vs.length = m) (hfl : Pl esz vs = some us) (hm0 : m * esz ≠ 0) (hm1 : m * esz ≤ 2 ^ 24) (hez : ez.length = esz)
  (hg : Wants ops E g) (hdn : Nat.blt d n = true) (hS : F2 ops listed' = true ∨ ∀ w, Mem I L w → S w)
  (h : ∀ b, Cv P f n I₀ Q ops S fuel listed' k ((d, .slice (some ⟨b, 0, none⟩) m m) :: E) I ((b, .cells us.toArray e (0, 0)) :: L)) : Cv P f n I₀ Q ops S (fuel + 1) listed k E I L := by
 refine Ph i hi hc hl rfl hdn (fun a he => hg.wanted a he) fun a w he hmm => ?_
 obtain ⟨w', h1, h2⟩ := Ad3 (P := P) (T := T) (e := e) (d := d) (ty := ty) (pos := pos) (af := af) (g := g) hp ho hr hm hfl hm0 hm1 hez a w he hmm
 exact ⟨_, w', I, _, h1, h2, hS.imp id fun hS w hw => hS w hw.drop, h _⟩
theorem Cp {S : World → Prop} {fuel : Nat} {listed : Array Bool} {b : Nat} {o : Obj} (h : HLe I (I.set b o) → Cv P f n I₀ Q ops S fuel listed k E (I.set b o) L) : Cv P f n I₀ Q ops S fuel listed k E I ((b, o) :: L) :=
 fun a w ha hd he hm => h hm.freeze.2 a w ha hd he hm.freeze.1
theorem Br {S : World → Prop} {fuel : Nat} {listed : Array Bool} {I' : Heap} {L' : Bo} (hm : ∀ w, Mem I L w → Mem I' L' w) (h : Cv P f n I₀ Q ops S fuel listed k E I' L') : Cv P f n I₀ Q ops S fuel listed k E I L :=
 fun a w ha hd he hw => h a w ha hd he (hm w hw)
end rules

structure Forms (I : Heap) (oa : Option Addr) (ts : List Tree) (c : Nat) : Prop where
 rep : ∃ vs, RepL I ts vs ∧ ∀ x, oa = some x → Still I x vs
 nil : oa = none → ts = []
 cap : ts.length ≤ c
 len : ts.length ≤ Ba
theorem Forms.mono {I I' : Heap} (hle : HLe I I') {oa : Option Addr} {ts : List Tree} {c : Nat} (h : Forms I oa ts c) : Forms I' oa ts c := by
 obtain ⟨⟨vs, h1, h2⟩, h3, h4, h5⟩ := h
 exact ⟨⟨vs, h1.mono hle, fun x hx => (h2 x hx).mono hle⟩, h3, h4, h5⟩
theorem Forms.form {I : Heap} {oa : Option Addr} {ts : List Tree} {c : Nat} (h : Forms I oa ts c) (a : As) (ha : a.length ≤ Ba) : Rep I (.node a ts) [.string (str a), .slice oa ts.length c] := by
 obtain ⟨⟨vs, h1, h2⟩, h3, h4, h5⟩ := h
 exact .mk h1 h2 h3 h4 ha h5
theorem FormAt.forms {I : Heap} {t : Tree} {oa : Option Addr} {c : Nat} {oaf : Nat → Option Addr} {cf : Nat → Nat} (h : FormAt I t oa c oaf cf) : Forms I oa t.parts c := by
 obtain ⟨oa', c', vs, he, hl, hs, hn, hc, ha, hp⟩ := h.rep.open
 simp only [List.cons.injEq, Value.slice.injEq, and_true, true_and] at he
 obtain ⟨rfl, rfl⟩ := he
 exact ⟨⟨vs, hl, hs⟩, hn, hc, hp⟩
theorem Nq {I : Heap} {b : Nat} {ts : List Tree} {vs sp : List Value} {e : TypeId} {fr : Nat × Nat} {c : Nat} (hl : RepL I ts vs) (hle : HLe I (I.set b (.cells (vs ++ sp).toArray e fr))) (hc : ts.length ≤ c) (hn : ts.length ≤ Ba) :
  Forms (I.set b (.cells (vs ++ sp).toArray e fr)) (some ⟨b, 0, none⟩) ts c :=
 ⟨⟨vs, hl.mono hle, fun y hy => by cases hy; exact A6⟩, by simp, hc, hn⟩
theorem L4 {I : Heap} {b : Nat} {ts : List Tree} {vs : List Value} {e : TypeId} {fr : Nat × Nat} {c : Nat} (hl : RepL I ts vs) (hle : HLe I (I.set b (.cells vs.toArray e fr))) (hc : ts.length ≤ c) (hn : ts.length ≤ Ba) :
  Forms (I.set b (.cells vs.toArray e fr)) (some ⟨b, 0, none⟩) ts c := by
 have := Nq (sp := []) (e := e) (fr := fr) (b := b) hl (by simpa using hle) hc hn
 simpa using this
theorem RepL.one {I : Heap} {t : Tree} {cs : List Value} (h : Rep I t cs) : RepL I [t] cs := by
 obtain ⟨oa, c, vs, rfl, _⟩ := h.open
 exact .cons h .nil
theorem Rep.vals {I : Heap} {t : Tree} {cs : List Value} (h : Rep I t cs) : cs.all Dd = true := by
 obtain ⟨oa, c, vs, rfl, _⟩ := h.open; rfl
theorem RepL.two {I : Heap} {t u : Tree} {cs ds : List Value} (h : Rep I t cs) (h' : Rep I u ds) : RepL I [t, u] (cs ++ ds) := (RepL.one h).append (.one h')
theorem RepL.three {I : Heap} {t u v : Tree} {cs ds es : List Value} (h : Rep I t cs) (h' : Rep I u ds) (h'' : Rep I v es) : RepL I [t, u, v] (cs ++ (ds ++ es)) := (RepL.one h).append ((RepL.one h').append (.one h''))

def RP (t : Tree) (L : Bo) : De := fun v I' L' => ∃ cs, v = .agg (List.toArray cs) ∧ Rep I' t cs ∧ L = L'
theorem Km (s : As) (hs : s.length ≤ Ba) (I : Heap) (L : Bo) : Fun Tryz.prog 104 [.string (str s)] I L (E1 (.agg [.string (str s), .slice none 0 0].toArray) I L) := by
 refine Ao Af ?_; refine Se rfl ?_; refine Aw .free rfl ?_; intro b2; refine Ab (Se rfl (Om rfl ?_)); refine Cg rfl rfl rfl .free rfl ?_; refine Bu rfl rfl rfl rfl .free ?_; refine Ab ?_; refine Al (.c rfl .nil) ?_; refine only rfl ?_
 rfl
theorem Sl (s : As) (hs : s.length ≤ Ba) {I : Heap} {oa : Option Addr} {ps : List Tree} {c : Nat} (h : Forms I oa ps c) (hp : ps.length < Ba) (L : Bo) :
  Fun Tryz.prog 103 [.string (str s), .slice oa ps.length c] I L (RP (.node [] (.node s [] :: ps)) L) := by
 obtain ⟨⟨vs, hl, hst⟩, hn, hc, hlen⟩ := h
 unfold Ba at hp
 have hvl := hl.length
 refine Ao Af ?_; refine Se rfl ?_; refine Aw .free rfl ?_; intro b4; refine Ab (Se rfl (Om rfl ?_)); refine Ca rfl (Km s hs _ _) ?_; rintro _ _ _ _ ⟨rfl, rfl, rfl⟩; refine Ol rfl rfl ?_; intro b7; refine Om rfl ?_; refine Gd (B := some (b7, [])) (xs := [.string (str s), .slice none 0 0]) (ys := vs) (m := 1) (c := 1) (L₀ := (b4, _) :: L) Au Ac rfl rfl ⟨rfl, Nat.le_refl _, rfl⟩ (fun _ h => h) Aa (fun a ha => (hst a ha).reads) (fun ha => by rw [hn ha] at hvl; exact List.length_eq_zero_iff.1 (by simpa using hvl)) hl.plain Ae Aa Ae .free rfl ?_; intro B' c' hB'
 obtain ⟨⟨bb, sp⟩, rfl⟩ : ∃ p, B' = some p := by
  cases B' with
  | none => exact absurd hB'.1 Af
  | some p => exact ⟨p, rfl⟩
 simp only [A8, List.cons_append, List.nil_append]
 refine Cg rfl rfl rfl .free rfl ?_; refine Bu rfl rfl rfl rfl .free ?_; refine Ab ?_; refine Ci ?_; intro hz; refine Al (.c rfl .nil) ?_; refine ⟨_, L, hz, Bk, _, rfl, .mk' Cm ((RepL.cons (.ofAtom hs) hl).mono hz) (fun y hy => by cases hy; exact A6) Af hB'.2.1 Be Ch, rfl⟩
section rules
variable {P : Program} {f : FuncId} {n : Nat} {I₀ : Heap} {Q : De} {k : List Item} {E : Hy} {I : Heap} {L : Bo}
variable {ops : Array Oper} {d : Nat} {ty : TypeId} {pos : String} {af : Array Edge} {g : Option (Nat × Bool)} {l : List Oper}
theorem Ye {S : World → Prop} {x : Operand} {ad : Option Addr} {m c : Nat} {e T : TypeId} {sz bb : Nat} {z : List Value} [ht : Ay P T (.slice e) sz bb z] (hx : Cw E x = some (.slice ad m c)) : Iw P E S ⟨some d, .call ⟨.builtin .cap, #[x], #[T]⟩, ty, pos, af, g⟩ (.int .i64 (c : Nat)) := fun a w he _ => by
  simp only [execOp, resolve, List.map_toArray, List.map, he.eval hx]
  simp only [pure_bind, invoke, builtin, Builtin.cap_]
  refine Ai (a := _) (w' := w) ?_ |>.trans rfl
  simp only [List.getElem?_toArray, List.getElem?_cons_zero]
  rw [Ai (A9 ht.und w)]
  rfl
theorem Rf {x : Operand} {ad : Option Addr} {m c : Nat} {e T : TypeId} {sz bb : Nat} {z : List Value} [ht : Ay P T (.slice e) sz bb z] (hx : Cw E x = some (.slice ad m c)) (hg : Wants ops E g) (hdn : Nat.blt d n = true)
  (h : Bd P f n I₀ Q ops l k ((d, .int .i64 (c : Nat)) :: E) I L) : Bd P f n I₀ Q ops (⟨some d, .call ⟨.builtin .cap, #[x], #[T]⟩, ty, pos, af, g⟩ :: l) k E I L := E2 (Ye hx) hg hdn h
theorem Zi {S : World → Prop} {kf : FuncId} {fst cap : Array Operand} {vs us : List Value} (hf : I7 E fst.toList = some vs) (hc : I7 E cap.toList = some us) : Iw P E S ⟨some d, .makeFunc (.func kf) fst cap, ty, pos, af, g⟩ (.func (.func kf) vs.toArray us.toArray) := fun a w he _ => by
  have h1 : fst.map a.eval = vs.toArray := Array.ext' (by simpa using he.evals hf)
  have h2 : cap.map a.eval = us.toArray := Array.ext' (by simpa using he.evals hc)
  simp only [execOp, h1, h2]
  rfl
theorem S6 {kf : FuncId} {fst cap : Array Operand} {vs us : List Value} (hf : I7 E fst.toList = some vs) (hc : I7 E cap.toList = some us) (hg : Wants ops E g) (hdn : Nat.blt d n = true)
  (h : Bd P f n I₀ Q ops l k ((d, .func (.func kf) vs.toArray us.toArray) :: E) I L) : Bd P f n I₀ Q ops (⟨some d, .makeFunc (.func kf) fst cap, ty, pos, af, g⟩ :: l) k E I L := E2 (Zi hf hc) hg hdn h
theorem U9 {T T2 e : TypeId} {sz bb esz ebb sz2 bb2 : Nat} {z ez z2 : List Value} {dd dd2 : TypeDesc} [ht : Ay P T (.slice e) sz bb z] [hte : Ay P e dd esz ebb ez] [ht2 : Ay P T2 dd2 sz2 bb2 z2]
  {x y : Operand} {B : Kd} {xs ys : List Value} {m c : Nat} {ad2 : Option Addr} {m2 c2 : Nat} {L₀ : Bo} (hni : ∀ kk, dd2 ≠ .int kk) (hez : ez.length = esz)
  (hx : Cw E x = some (Bn m c B)) (hy : Cw E y = some (.slice ad2 m2 c2)) (hB : C8 esz m c xs B) (hL : ∀ w, Mem I L w → Mem I (A8 e xs B ++ L₀) w)
  (hyl : ys.length = m2 * esz) (hyr : ∀ a, ad2 = some a → Hj I L₀ a ys) (hyn : ad2 = none → ys = []) (hyp : ys.all Dd = true) (hesz : 0 < esz)
  (hsize : (m + m2) ≤ 4294967296) (hbytes : ebb ≤ 1024) (a : Act) (w : World) (he : EnvOk E a) (hm : Mem I L w) :
  ∃ w' B' c', (execOp a.eval ⟨some d, .call ⟨.builtin .append, #[x, y], #[T, T2]⟩, T, pos, af, g⟩).run P w = .ok (.value (Bn (m + m2) c' B')) w' ∧ C8 esz (m + m2) c' (xs ++ ys) B' ∧ Mem I (A8 e (xs ++ ys) B' ++ L₀) w' := by
 by_cases hm2 : 0 < m2
 ·obtain ⟨w', B', c', hr, hne, hB', hm'⟩ := O6 (x := .slice ad2 m2 c2) ht hte hez ht2.und hni hB (hL w hm) hyl (fun _ => rfl) (fun w hw => Hv hw hyl hyr hyn) hyp hm2 hesz hsize hbytes; refine ⟨w', B', c', ?_, hB', hm'⟩
  simp only [execOp, resolve, List.map_toArray, List.map, he.eval hx, he.eval hy, pure_bind, invoke, builtin]
  exact Ai hr |>.trans rfl
 ·obtain rfl : m2 = 0 := by omega
  obtain rfl : ys = [] := List.eq_nil_of_length_eq_zero (by simpa using hyl)
  have hv : ∃ base cc, Bn m c B = .slice base m cc ∧ m ≤ cc ∧ cc = c := by
   cases B with
   | none => obtain ⟨h1, h2, h3⟩ := hB; exact ⟨none, 0, by simp [Bn, h2], by omega, h3.symm⟩
   | some p => exact ⟨_, c, rfl, hB.2.1, rfl⟩
  obtain ⟨base, cc, hbv, hmc, rfl⟩ := hv
  have := Nc (P := P) (T2 := T2) (base := base) (x := .slice ad2 0 c2) (w := w) ht hte ht2.und hni hmc rfl (Hv (hL w hm) hyl (fun a _ v _ i hi => absurd hi Af) hyn)
  refine ⟨w, B, cc, ?_, by simpa using hB, by simpa using hL w hm⟩
  simp only [execOp, resolve, List.map_toArray, List.map, he.eval hx, he.eval hy, pure_bind, invoke, builtin, hbv, Nat.add_zero]
  exact Ai this |>.trans rfl
theorem Bt {S : World → Prop} {fuel : Nat} {listed listed' : Array Bool} (i : Nat) {T T2 e : TypeId} {sz bb esz ebb sz2 bb2 : Nat} {z ez z2 : List Value} {dd dd2 : TypeDesc} [ht : Ay P T (.slice e) sz bb z] [hte : Ay P e dd esz ebb ez] [ht2 : Ay P T2 dd2 sz2 bb2 z2]
  {x y : Operand} {B : Kd} {xs ys : List Value} {m c : Nat} {ad2 : Option Addr} {m2 c2 : Nat} {L₀ : Bo}
  (hi : ops[i]? = some ⟨some d, .call ⟨.builtin .append, #[x, y], #[T, T2]⟩, T, pos, af, g⟩) (hc : decide (Region.ready .any ops listed = [i]) = true) (hl : listed' = listed.setIfInBounds i true) (hni : ∀ kk, dd2 ≠ .int kk) (hez : ez.length = esz)
  (hx : Cw E x = some (Bn m c B)) (hy : Cw E y = some (.slice ad2 m2 c2)) (hB : C8 esz m c xs B) (hL : ∀ w, Mem I L w → Mem I (A8 e xs B ++ L₀) w)
  (hyl : ys.length = m2 * esz) (hyr : ∀ a, ad2 = some a → Hj I L₀ a ys) (hyn : ad2 = none → ys = []) (hyp : ys.all Dd = true) (hesz : 0 < esz)
  (hsize : (m + m2) ≤ 4294967296) (hbytes : ebb ≤ 1024) (hg : Wants ops E g) (hdn : Nat.blt d n = true) (hS : ∀ B', F2 ops listed' = true ∨ ∀ w, Mem I (A8 e (xs ++ ys) B' ++ L₀) w → S w)
  (h : ∀ B' c', C8 esz (m + m2) c' (xs ++ ys) B' → Cv P f n I₀ Q ops S fuel listed' k ((d, Bn (m + m2) c' B') :: E) I (A8 e (xs ++ ys) B' ++ L₀)) : Cv P f n I₀ Q ops S (fuel + 1) listed k E I L := by
 refine Ph i hi hc hl rfl hdn (fun a he => hg.wanted a he) fun a w he hm => ?_
 obtain ⟨w', B', c', h1, h2, h3⟩ := U9 (P := P) (T := T) (T2 := T2) (e := e) (d := d) (pos := pos) (af := af) (g := g) hni hez hx hy hB hL hyl hyr hyn hyp hesz hsize hbytes a w he hm
 exact ⟨_, w', I, _, h1, h3, hS B', h B' c' h2⟩
theorem Ic {S : World → Prop} {fuel : Nat} {listed listed' : Array Bool} (i : Nat) {T e : TypeId} {sz bb esz ebb : Nat} {z ez : List Value} {dd : TypeDesc} [ht : Ay P T (.slice e) sz bb z] [hte : Ay P e dd esz ebb ez]
  (hi : ops[i]? = some ⟨some d, .buildSlice T 0 #[], ty, pos, af, g⟩) (hc : decide (Region.ready .any ops listed = [i]) = true) (hl : listed' = listed.setIfInBounds i true) (hg : Wants ops E g) (hdn : Nat.blt d n = true) (hS : F2 ops listed' = true ∨ ∀ w, Mem I L w → S w)
  (h : ∀ b, Cv P f n I₀ Q ops S fuel listed' k ((d, .slice (some ⟨b, 0, none⟩) 0 0) :: E) I ((b, .cells [].toArray e (0, 0)) :: L)) : Cv P f n I₀ Q ops S (fuel + 1) listed k E I L := by
 refine Ph i hi hc hl rfl hdn (fun a he => hg.wanted a he) fun a w he hm => ?_
 refine ⟨.slice (some ⟨w.heap.size, 0, none⟩) 0 0, { w with heap := w.heap.push (.cells [].toArray e (0, 0)) }, I, (w.heap.size, .cells [].toArray e (0, 0)) :: L, ?_, hm.alloc _, hS.imp id fun hS w hw => hS w hw.drop, h _⟩
 simp only [execOp]
 refine Ai (a := .slice (some ⟨w.heap.size, 0, none⟩) 0 0) (w' := { w with heap := w.heap.push (.cells [].toArray e (0, 0)) }) ?_ |>.trans rfl
 unfold Instr.buildSlice
 rw [Ai (A9 ht.und w)]
 simp only []
 rw [Ai (Fz hte w)]; rw [if_neg Aa, if_pos Aa]
 have e0 : ∀ h : Nat → Value, (Array.range 0).map h = #[] := fun h => by simp
 have e1 : (Array.map (fun x : Nat × Operand => (x.fst, a.eval x.snd)) #[]).toList = [] := by simp
 simp only [pure_bind, Nat.zero_mul, e0, e1]
 rfl
theorem Aa3 {T T2 e : TypeId} {sz bb esz ebb sz2 bb2 : Nat} {z ez z2 : List Value} {dd : TypeDesc} [ht : Ay P T (.slice e) sz bb z] [hte : Ay P e dd esz ebb ez] [ht2 : Ay P T2 (.int .i64) sz2 bb2 z2]
  {x y : Operand} {m : Nat} {ad : Option Addr} (hez : ez.length = esz) (hx : Cw E x = some (.slice ad 0 0)) (had : ad = none) (hy : Cw E y = some (.int .i64 (m : Nat))) (hm0 : 0 < m) (hesz : 0 < esz) (hsize : m ≤ 4294967296) (hbytes : ebb ≤ 1024) (hg : Wants ops E g) (hdn : Nat.blt d n = true)
  (h : ∀ b Z c', Z.length = c' * esz → m ≤ c' → Bd P f n I₀ Q ops l k ((d, .slice (some ⟨b, 0, none⟩) m c') :: E) I ((b, .cells (List.toArray Z) e (0, 0)) :: L)) :
  Bd P f n I₀ Q ops (⟨some d, .call ⟨.builtin .append, #[x, y], #[T, T2]⟩, T, pos, af, g⟩ :: l) k E I L := by
 subst had; refine Jn rfl hdn (fun a he => hg.wanted a he) fun a w he hm => ?_
 obtain ⟨einf, hein, hebb⟩ := K4 hte w
 let NC := (Question.appendCap m 0 e).cut (w.tape w.drawn (.appendCap m 0 e))
 let w1 : World := { w with drawn := w.drawn + 1 }
 have hNC : m ≤ NC := by simp [NC, Question.cut]
 obtain ⟨zv1, hz1, hz2⟩ := Jw hte w1
 have hzs : zv1.cells.size = esz := by rw [← hez, ← hz2]; simp
 refine ⟨.slice (some ⟨w.heap.size, 0, none⟩) m NC, { w1 with heap := w1.heap.push (.cells (Builtin.zeroCells zv1.cells m ++ Builtin.zeroCells zv1.cells (NC - m)) e (0, 0)) }, I, _, ?_, hm.alloc _, h _ (Builtin.zeroCells zv1.cells m ++ Builtin.zeroCells zv1.cells (NC - m)).toList NC ?_ hNC⟩
 ·simp only [execOp, resolve, List.map_toArray, List.map, he.eval hx, he.eval hy, pure_bind, invoke, builtin]
  refine Ai (a := .slice (some ⟨w.heap.size, 0, none⟩) m NC) (w' := { w1 with heap := w1.heap.push (.cells (Builtin.zeroCells zv1.cells m ++ Builtin.zeroCells zv1.cells (NC - m)) e (0, 0)) }) ?_ |>.trans rfl
  unfold Builtin.append_
  simp only [List.getElem?_toArray, List.getElem?_cons_zero, List.getElem?_cons_succ]
  rw [Ai (A9 ht.und w)]
  simp only []
  rw [Ai (Fz hte w)]; rw [Ai (A9 ht2.und w)]
  have hwr : IntKind.i64.wrap (m : Int) = (m : Int) := by simp [IntKind.wrap, IntKind.bits, IntKind.signed]; omega
  simp only [pure_bind, if_true, Bool.not_true, Bool.false_eq_true, if_false, asInt, asIntOf, hwr]
  have hneg : ¬ ((m : Int) < 0) := by omega
  simp only [hwr, if_neg hneg, pure_bind, bind_assoc]
  rw [Ai hein]
  have hbig : ¬ ((m : Int) * (einf.bytes : Int) > 2 ^ 48) := by
   rw [hebb]
   have : m * ebb ≤ 4294967296 * 1024 := Nat.mul_le_mul hsize hbytes
   rw [← Int.natCast_mul]; omega
  simp only [if_neg hbig, pure_bind, Int.toNat_natCast, Nat.zero_add]
  rw [if_neg Aa]
  have hmax : ¬ (((m : Nat) : Int) > IntKind.i64.max) := by simp [IntKind.max, IntKind.bits, IntKind.signed]; omega
  rw [Ai hein]
  simp only [hmax, false_and, if_false, pure_bind]
  rw [Ai hein]
  have hcap : ¬ (Builtin.nextslicecap m 0 * einf.bytes > 2 ^ 48) := by
   have h1 := S2 m 0 Aa
   have h2 : Builtin.nextslicecap m 0 * einf.bytes ≤ (2 * m + 1000) * 1024 := Nat.mul_le_mul h1 Aa
   omega
  simp only [if_neg hcap, pure_bind]
  have hch : (choose (.appendCap m 0 e)).run P w = .ok NC w1 := by simp [choose, Sem.run, Question.forced, NC, w1]
  rw [Ai hch]; obtain ⟨einf1, hein1, _⟩ := K4 hte w1; rw [Ai hein1]
  have hroom : (askRoom (NC * einf1.bytes)).run P w1 = .ok () w1 := by unfold askRoom; split <;> rfl
  rw [Ai hroom]
  have hne : ¬ (m * esz = 0) := by
   have := Nat.mul_pos hm0 hesz; omega
  simp only [Builtin.firstCells, pure_bind, if_neg hne, bind_assoc]
  rw [Ai hz1]; rw [Ai hz1]
  simp only [Array.empty_append]
  rfl
 ·simp only [Array.toList_append, List.length_append, Array.length_toList, Nh, hzs]
  rw [← Nat.add_mul]; congr 1; omega
end rules

structure RStrs (I : Heap) (L : Bo) (oa : Option Addr) (l : List As) : Prop where
 reads : ∀ a, oa = some a → Hj I L a (l.map sv)
 nil : oa = none → l.length = 0
 len : l.length ≤ Ba
theorem Strs.rd {I : Heap} {oa : Option Addr} {l : List As} {c : Nat} (h : Strs I oa l c) (L : Bo) : RStrs I L oa l := ⟨h.reads, h.nil', h.len⟩
theorem RStrs.st {I : Heap} {L : Bo} {oa : Option Addr} {l : List As} (h : RStrs I L oa l) (i : Nat) (hi : i < l.length) : Hj I L ((Wb oa).add (i * 1)) [.string (str (l.getD i []))] := by
 obtain ⟨x, rfl⟩ : ∃ x, oa = some x := by
  cases oa with
  | none => have := h.nil rfl; omega
  | some x => exact ⟨x, rfl⟩
 intro w hw j hj; obtain rfl : j = 0 := by simpa using hj
 have h1 := h.reads x rfl w hw i (by simpa using hi)
 have e : ((Wb (some x)).add (i * 1)).add 0 = x.add i := by simp [Wb, Addr.add]
 rw [e, h1]
 simp [sv, hi]
theorem RStrs.sub {I : Heap} {L L' : Bo} {oa : Option Addr} {l : List As} (h : RStrs I L oa l) (hs : ∀ w, Mem I L' w → Mem I L w) : RStrs I L' oa l :=
 ⟨fun a ha w hw => h.reads a ha w (hs w hw), h.nil, h.len⟩
theorem Abz {I : Heap} {L : Bo} {e : TypeId} {l : List As} {B : Kd} {m c : Nat} (hB : C8 1 m c (l.map sv) B) (hm : m = l.length) (hl : l.length ≤ Ba) :
  ∃ oa c', Bn m c B = .slice oa l.length c' ∧ RStrs I (A8 e (l.map sv) B ++ L) oa l := by
 subst hm
 cases B with
 | none =>
  obtain ⟨h1, h2, h3⟩ := hB
  exact ⟨none, 0, by rw [Bn, h2], ⟨by simp, fun _ => h2, hl⟩⟩
 | some p =>
  obtain ⟨b, sp⟩ := p; refine ⟨some ⟨b, 0, none⟩, c, rfl, ⟨?_, by simp, hl⟩⟩; intro a ha
  cases ha
  intro w hw i hi; rw [Nn (hw.2.1 _ (List.mem_append_left _ (List.mem_singleton.2 rfl))).1]
  simp only [Nat.zero_add, List.getElem?_toArray]
  rw [List.getElem?_append_left hi, List.getElem?_eq_getElem hi]
theorem Sn {I : Heap} {L : Bo} {oa : Option Addr} {l : List As} (h : RStrs I L oa l) (c : Nat) (s : As) : Fun Tryz.prog 173 [.slice oa l.length c, .string (str s)] I L (fun v I' L' => ∃ i : Int, v = .int .i64 i ∧ (0 ≤ i ↔ s ∈ l) ∧ I = I' ∧ L = L') := by
 have hlen := h.len
 have hnil := h.nil
 unfold Ba at hlen
 refine Ao Af ?_; refine Se rfl (Oa rfl (Ab (Ah (Se rfl (Om rfl (On rfl (Om rfl (Ab (Aq ?_))))))))); refine C7 (X := Nat) (fun i => l.length - i) (fun i => [(0, .slice oa l.length c), (1, .string (str s)), (7, .int .i64 (l.length : Nat)), (8, .int .i64 (i : Nat))]) (fun _ => I) (fun _ => L) (fun i => i ≤ l.length ∧ s ∉ l.take i) 0 ⟨by simp, by simp⟩ ⟨rfl, rfl, rfl, rfl, trivial⟩ (fun _ h => h) ?_; rintro i ⟨hi, hs⟩ ih; refine Se rfl (Oc rfl rfl rfl (Ab (Ah ?_))); refine A0 rfl ?_ ?_
 ·intro c0
  try simp only [nb] at c0
  have hgx : l.getD i [] = l[i] := by simp [show i < l.length by omega]
  have hst := h.st i Aa
  refine Ak (Ah (Aq (Se rfl (Om rfl (Oa rfl (Ab (Se rfl ?_)))))))
  iterate 3 refine Om rfl ?_
  first | refine Bx rfl rfl _ rfl .free rfl ?_ | refine By rfl rfl _ rfl .free rfl ?_
  refine Ei rfl .free rfl ?_; refine Od rfl rfl rfl (Ab ?_); refine A0 rfl ?_ ?_
  ·intro c1
   try simp only [nb] at c1
   refine Se rfl (Om rfl (Oa rfl (Ab (Al (.tmp rfl .nil) ?_))))
   exact ⟨I, L, .refl _, fun _ h => h, _, rfl, ⟨fun _ => by rw [c1, hgx]; exact List.getElem_mem _, fun _ => by omega⟩, rfl, rfl⟩
  intro c1
  try simp only [nb] at c1
  refine Ak (Ar (Am rfl ?_)); refine Or rfl rfl rfl ?_; refine Om rfl (Ab ?_); refine Dy (E' := [(0, .slice oa l.length c), (1, .string (str s)), (7, .int .i64 (l.length : Nat)), (8, .int .i64 ((i + 1 : Nat)))]) ⟨rfl, rfl, rfl, rfl, trivial⟩ (ih (i + 1) ⟨by omega, ?_⟩ Aa); rw [List.take_succ_eq_append_getElem Aa, List.mem_append]; rintro (h1 | h1)
  ·exact hs h1
  ·exact c1 (by rw [hgx]; exact List.mem_singleton.1 h1)
 intro c0
 try simp only [nb] at c0
 refine Ce rfl ?_; refine Se rfl (Oa rfl (Ab (Al (.tmp rfl .nil) ?_))); refine ⟨I, L, .refl _, fun _ h => h, _, rfl, ⟨fun h => by simp at h, fun h => ?_⟩, rfl, rfl⟩; rw [List.take_of_length_le Aa] at hs
 exact absurd h hs
theorem I3 {I : Heap} {L : Bo} {oa : Option Addr} {l : List As} (h : RStrs I L oa l) (c : Nat) (s : As) : Fun Tryz.prog 128 [.slice oa l.length c, .string (str s)] I L (E1 (.bool (decide (s ∈ l))) I L) := by
 refine Ao Af ?_; refine Se rfl (Oa rfl (Ab (Se rfl (Om rfl (Om rfl ?_))))); refine Ca rfl (Sn h c s) ?_; rintro _ _ _ _ ⟨i, rfl, hi, rfl, rfl⟩; refine Oc rfl rfl rfl (Oa rfl (Ab (Al (.tmp rfl .nil) ?_))); refine only rfl ?_
 simp [Ck, hi]
theorem Rv {I : Heap} {L : Bo} {oa : Option Addr} {l : List As} (h : RStrs I L oa l) (c : Nat) (s : As) : Fun Tryz.prog 170 [.slice oa l.length c, .string (str s)] I L (E1 (.bool (decide (s ∈ l))) I L) := by
 have hlen := h.len
 have hnil := h.nil
 unfold Ba at hlen
 refine Ao Af ?_; refine Se rfl (Oa rfl (Ab (Ah (Se rfl (Oa rfl (Ab (Aq ?_))))))); refine C7 (X := Nat) (fun i => l.length - i) (fun i => [(0, .slice oa l.length c), (1, .string (str s)), (5, .int .i64 (i : Nat))]) (fun _ => I) (fun _ => L) (fun i => i ≤ l.length ∧ s ∉ l.take i) 0 ⟨by simp, by simp⟩ ⟨rfl, rfl, rfl, trivial⟩ (fun _ h => h) ?_; rintro i ⟨hi, hs⟩ ih; refine Ah (Se rfl (Om rfl (Om rfl (On rfl (Oc rfl rfl rfl (Ab ?_)))))); refine A0 rfl ?_ ?_
 ·intro c0
  try simp only [nb] at c0
  have hgx : l.getD i [] = l[i] := by simp [show i < l.length by omega]
  have hst := h.st i Aa
  refine Ak (Ah (Aq (Se rfl (Om rfl (Om rfl ?_)))))
  first | refine Bx rfl rfl _ rfl .free rfl ?_ | refine By rfl rfl _ rfl .free rfl ?_
  refine Ei rfl .free rfl ?_; refine Om rfl (Od rfl rfl rfl (Ab ?_)); refine A0 rfl ?_ ?_
  ·intro c1
   try simp only [nb] at c1
   refine Se rfl (Oa rfl (Ab (Al (.tmp rfl .nil) ?_))); refine only rfl ?_
   have : s ∈ l := by rw [← c1, hgx]; exact List.getElem_mem _
   simp [Ck, this]
  intro c1
  try simp only [nb] at c1
  refine Ak (Ar (Am rfl (Om rfl ?_))); refine Or rfl rfl rfl ?_; refine Oa rfl (Ab ?_); refine Dy (E' := [(0, .slice oa l.length c), (1, .string (str s)), (5, .int .i64 ((i + 1 : Nat)))]) ⟨rfl, rfl, rfl, trivial⟩ (ih (i + 1) ⟨by omega, ?_⟩ Aa); rw [List.take_succ_eq_append_getElem Aa, List.mem_append]; rintro (h1 | h1)
  ·exact hs h1
  ·exact c1 (by rw [hgx]; exact (List.mem_singleton.1 h1).symm)
 intro c0
 try simp only [nb] at c0
 refine Ce rfl ?_; refine Se rfl (Oa rfl (Ab (Al (.tmp rfl .nil) ?_))); refine only rfl ?_
 have : s ∉ l := by rwa [List.take_of_length_le Aa] at hs
 simp [Ck, this]
theorem T1 (m : Nat) (hm : m ≤ 4294967296) (I : Heap) (L : Bo) : Fun Tryz.prog 176 [.slice none 0 0, .int .i64 (m : Nat)] I L
  (fun v I' L' => ∃ B c, v = Bn 0 c B ∧ C8 1 0 c [] B ∧ I = I' ∧ L' = A8 9 [] B ++ L) := by
 refine Ao Af ?_; refine Se rfl (Oa rfl (Ab (Ah (Se rfl (Om rfl (Oc rfl rfl rfl (Ab ?_)))))))
 first | refine Sf rfl Aa ?_ | refine Bl Av ?_
 refine Ak (Ah (Se rfl (Om rfl (Om rfl ?_)))); refine Rf rfl .free rfl ?_; refine Om rfl (On rfl ?_); refine Or rfl rfl rfl ?_; refine Or rfl rfl rfl ?_; refine Oa rfl (Ab (Ah ?_)); refine I9 (t := 1) (v' := .int .i64 (m : Nat)) rfl (by congr 1) ?_; refine Am rfl (Om rfl (Oc rfl rfl rfl (Ab ?_))); refine A0 rfl ?_ ?_
 ·intro c1
  try simp only [nb] at c1
  have hm0 : 0 < m := by omega
  refine Am rfl (Om rfl (Om rfl ?_)); refine Rf rfl .free rfl ?_; refine Li rfl rfl rfl 0 _ rfl rfl Cc .free rfl ?_; refine Om rfl ?_; refine Aa3 (m := m) Ac rfl rfl rfl Aa Ae hm Ae .free rfl ?_; intro b Z c' hZ hmc; refine Om rfl (On rfl ?_); refine Li rfl rfl rfl 0 _ rfl rfl Cc .free rfl ?_; refine Oa rfl (Ab (Se rfl (Om rfl (Oa rfl (Ab (Al (.tmp rfl .nil) ?_))))))
  first
   | exact ⟨I, _, .refl _, fun _ h => h, some (b, Z), c', by simp [Ck, Bn, Addr.add], ⟨rfl, Nat.zero_le _, by simpa using hZ⟩, rfl, rfl⟩
   | exact ⟨I, _, .refl _, fun _ h => h, none, 0, rfl, ⟨rfl, rfl, rfl⟩, rfl, rfl⟩
 intro c1
 try simp only [nb] at c1
 refine Ak (Se rfl (Om rfl (Oa rfl (Ab (Al (.tmp rfl .nil) ?_)))))
 first
  | exact ⟨I, _, .refl _, fun _ h => h, some (b, Z), c', by simp [Ck, Bn, Addr.add], ⟨rfl, Nat.zero_le _, by simpa using hZ⟩, rfl, rfl⟩
  | exact ⟨I, _, .refl _, fun _ h => h, none, 0, rfl, ⟨rfl, rfl, rfl⟩, rfl, rfl⟩

def SS (l : List As) (L : Bo) : De := fun v I' L' => ∃ oa c, v = .slice oa (List.length l) c ∧ Strs I' oa l c ∧ L = L'
theorem Strs.append {I : Heap} {oa ob : Option Addr} {l m : List As} {c c' : Nat} (h : Strs I oa l c) (h' : Strs I ob m c') : ∀ s ∈ l ++ m, s.length ≤ Ba := by
 intro s hs
 rcases List.mem_append.1 hs with hs | hs
 ·exact h.each s hs
 ·exact h'.each s hs
theorem Bb {I : Heap} {oa ob : Option Addr} {l m : List As} {c c' : Nat} {x : Addr} (hx : Still I x [.slice oa l.length c, .slice ob m.length c']) (h : Strs I oa l c) (h' : Strs I ob m c') (hz : l.length + m.length ≤ Ba) (L : Bo) :
  Fun Tryz.prog 132 [.slice (some x) 2 2] I L (SS (l ++ m) L) := by
 unfold Ba at hz
 have h0 : Still I ((Wb (some x)).add (0 * 1)) [.slice oa l.length c] := hx.part (0 * 1) (by intro i hi; obtain rfl : i = 0 := (by simpa using hi); rfl)
 have h1 : Still I ((Wb (some x)).add (1 * 1)) [.slice ob m.length c'] := hx.part (1 * 1) (by intro i hi; obtain rfl : i = 0 := (by simpa using hi); rfl)
 have hn : some x = none → 2 = 0 := by intro e; cases e
 refine Ao Af ?_; refine Se rfl (Oa rfl (Ab (Se rfl (Oa rfl (Ab (Ah (Se rfl (Om rfl (On rfl (Om rfl (Ab (Aq ?_)))))))))))); refine Ed ?_; refine Se rfl (Oc rfl rfl rfl (Ab (Ah ?_))); refine Cb rfl Ax ?_; refine Ak (Ah (Aq (Se rfl ?_)))
 first | refine Bx rfl rfl _ rfl .free rfl ?_ | refine By rfl rfl _ rfl .free rfl ?_
 refine Ei rfl .free rfl ?_; refine Oa rfl (Ab (Se rfl (Om rfl (Om rfl (On rfl ?_))))); refine Or rfl rfl rfl ?_; refine Oa rfl (Ab (Se rfl (Om rfl (Oc rfl rfl rfl (Ab ?_)))))
 first | refine Sf rfl Aa ?_ | refine Bl Av ?_
 refine Ak (Ar (Am rfl ?_)); refine Or rfl rfl rfl ?_; refine Om rfl (Ab ?_); refine B6 ?_; refine Se rfl (Oc rfl rfl rfl (Ab (Ah ?_))); refine Cb rfl Ax ?_; refine Ak (Ah (Aq (Se rfl ?_)))
 first | refine Bx rfl rfl _ rfl .free rfl ?_ | refine By rfl rfl _ rfl .free rfl ?_
 refine Ei rfl .free rfl ?_; refine Oa rfl (Ab (Se rfl (Om rfl (Om rfl (On rfl ?_))))); refine Or rfl rfl rfl ?_; refine Oa rfl (Ab (Se rfl (Om rfl (Oc rfl rfl rfl (Ab ?_)))))
 first | refine Sf rfl Aa ?_ | refine Bl Av ?_
 refine Ak (Ar (Am rfl ?_)); refine Or rfl rfl rfl ?_; refine Om rfl (Ab ?_); refine B6 ?_; refine Se rfl (Oc rfl rfl rfl (Ab (Ah ?_))); refine Dg rfl Ax ?_; refine Ce rfl ?_; refine Ah ?_; refine I9 (t := 3) (v' := .int .i64 ((l.length + m.length : Nat))) rfl Gl ?_; refine Am rfl (Om rfl ?_); refine Ca rfl (T1 (l.length + m.length) hz _ _) ?_; rintro _ _ _ _ ⟨B, c0, rfl, hB0, rfl, rfl⟩; refine Oa rfl (Ab (Ah (Se rfl (Om rfl (On rfl (Om rfl (Ab (Aq ?_)))))))); refine Ed ?_; refine Se rfl (Oc rfl rfl rfl (Ab (Ah ?_))); refine Cb rfl Ax ?_; refine Ak (Ah (Aq (Se rfl ?_)))
 first | refine Bx rfl rfl _ rfl .free rfl ?_ | refine By rfl rfl _ rfl .free rfl ?_
 refine Ei rfl .free rfl ?_; refine Oa rfl (Ab (Am rfl (Om rfl (Om rfl ?_)))); refine Gd (B := B) (xs := []) (ys := l.map sv) (m := 0) (c := c0) (L₀ := L) Au Ac rfl rfl hB0 (fun _ h => h) Af h.reads h.none (Ct l) Ae Aa Ae .free rfl ?_; intro B1 c1 hB1; refine Oa rfl (Ab (Ar (Am rfl ?_))); refine Or rfl rfl rfl ?_; refine Om rfl (Ab ?_); refine B6 ?_; refine Se rfl (Oc rfl rfl rfl (Ab (Ah ?_))); refine Cb rfl Ax ?_; refine Ak (Ah (Aq (Se rfl ?_)))
 first | refine Bx rfl rfl _ rfl .free rfl ?_ | refine By rfl rfl _ rfl .free rfl ?_
 refine Ei rfl .free rfl ?_; refine Oa rfl (Ab (Am rfl (Om rfl (Om rfl ?_)))); refine Gd (B := B1) (xs := l.map sv) (ys := m.map sv) (m := 0 + l.length) (c := c1) (L₀ := L) Au Ac rfl rfl hB1 (fun _ h => h) Af h'.reads h'.none (Ct m) Ae Aa Ae .free rfl ?_; intro B2 c2 hB2; refine Oa rfl (Ab (Ar (Am rfl ?_))); refine Or rfl rfl rfl ?_; refine Om rfl (Ab ?_); refine B6 ?_; refine Se rfl (Oc rfl rfl rfl (Ab (Ah ?_))); refine Dg rfl Ax ?_; refine Ce rfl ?_; refine Ah ?_
 have hB3 : C8 1 (0 + l.length + m.length) c2 ((l ++ m).map sv) B2 := by simpa using hB2
 rw [← List.map_append]; refine Gr hB3 Af C9 (h.append h') ?_; intro I' oc c3 hle hbv hst; refine I9 (t := 6) (v' := .slice oc (l ++ m).length c3) rfl hbv ?_; refine Am rfl (Om rfl (Oa rfl (Ab (Al (.tmp rfl .nil) ?_))))
 exact ⟨I', L, hle, fun _ h => h, oc, c3, rfl, hst, rfl⟩
section rules
variable {P : Program} {f : FuncId} {n : Nat} {I₀ : Heap} {Q : De} {k : List Item} {E : Hy} {I : Heap} {L : Bo}
variable {ops : Array Oper} {d : Nat} {ty : TypeId} {pos : String} {af : Array Edge} {g : Option (Nat × Bool)} {l : List Oper}
def La (P : Program) (f : FuncId) (n : Nat) (I₀ : Heap) (Q : De) (ops : Array Oper) (S : World → Prop) (fuel : Nat) (listed : Array Bool) (i : Nat) (k : List Item) (E : Hy) (I : Heap) (L : Bo) : Prop :=
 ∀ a w, a.tmps.size = n → a.defers = [] → EnvOk E a → Mem I L w → wpOp P ops (QK P f n I₀ Q k) i (fun a' w' => Ts ops S (listed.setIfInBounds i true) w' ∧ Tu P ops (QK P f n I₀ Q k) S fuel (listed.setIfInBounds i true) a' w') a w
theorem Vj {S : World → Prop} {fuel : Nat} {listed : Array Bool} (is : List Nat) (hc : decide (Region.ready .any ops listed = is) = true) (hne : is.isEmpty = false)
  (h : ∀ i ∈ is, La P f n I₀ Q ops S fuel listed i k E I L) : Cv P f n I₀ Q ops S (fuel + 1) listed k E I L := by
 have hr := of_decide_eq_true hc
 intro a w ha hd he hm; refine ⟨fun h0 => (by rw [hr] at h0; rw [h0] at hne; cases hne), fun i hi => h i (hr ▸ hi) a w ha hd he hm⟩
theorem El {S : World → Prop} {fuel : Nat} {listed : Array Bool} (i j : Nat) (hc : decide (Region.ready .any ops listed = [i, j]) = true)
  (h1 : La P f n I₀ Q ops S fuel listed i k E I L) (h2 : La P f n I₀ Q ops S fuel listed j k E I L) : Cv P f n I₀ Q ops S (fuel + 1) listed k E I L :=
 Vj [i, j] hc rfl fun x hx => by
  simp only [List.mem_cons, List.not_mem_nil, or_false] at hx
  rcases hx with rfl | rfl
  ·exact h1
  ·exact h2
theorem Iz {S : World → Prop} {fuel : Nat} {listed : Array Bool} (i j m : Nat) (hc : decide (Region.ready .any ops listed = [i, j, m]) = true)
  (h1 : La P f n I₀ Q ops S fuel listed i k E I L) (h2 : La P f n I₀ Q ops S fuel listed j k E I L) (h3 : La P f n I₀ Q ops S fuel listed m k E I L) : Cv P f n I₀ Q ops S (fuel + 1) listed k E I L :=
 Vj [i, j, m] hc rfl fun x hx => by
  simp only [List.mem_cons, List.not_mem_nil, or_false] at hx
  rcases hx with rfl | rfl | rfl
  ·exact h1
  ·exact h2
  ·exact h3
theorem Ab4 {S : World → Prop} {fuel : Nat} {listed : Array Bool} (i j m q : Nat) (hc : decide (Region.ready .any ops listed = [i, j, m, q]) = true)
  (h1 : La P f n I₀ Q ops S fuel listed i k E I L) (h2 : La P f n I₀ Q ops S fuel listed j k E I L) (h3 : La P f n I₀ Q ops S fuel listed m k E I L) (h4 : La P f n I₀ Q ops S fuel listed q k E I L) : Cv P f n I₀ Q ops S (fuel + 1) listed k E I L :=
 Vj [i, j, m, q] hc rfl fun x hx => by
  simp only [List.mem_cons, List.not_mem_nil, or_false] at hx
  rcases hx with rfl | rfl | rfl | rfl
  ·exact h1
  ·exact h2
  ·exact h3
  ·exact h4
theorem Afl {S : World → Prop} {fuel : Nat} {listed : Array Bool} {X : Type} (E' : X → Hy) (I' : X → Heap) (L' : X → Bo) (R : X → Prop)
  (hk : ∀ x, R x → RunS P f n I₀ Q k (E' x) (I' x) (L' x ++ L)) (h : (∀ x, R x → RunS P f n I₀ Q k (E' x) (I' x) (L' x ++ L)) → Cv P f n I₀ Q ops S fuel listed k E I L) : Cv P f n I₀ Q ops S fuel listed k E I L := h hk
theorem Acr {S : World → Prop} {fuel : Nat} {listed : Array Bool} (i : Nat) {o : Oper} (hi : ops[i]? = some o)
  {a : Act} {w : World} (hw : Region.wanted o (yielded ops a.tmps) = true)
  (h : o.wp P a w (fun a' w' => Ts ops S (listed.setIfInBounds i true) w' ∧ Tu P ops (QK P f n I₀ Q k) S fuel (listed.setIfInBounds i true) a' w') (QK P f n I₀ Q k)) :
  wpOp P ops (QK P f n I₀ Q k) i (fun a' w' => Ts ops S (listed.setIfInBounds i true) w' ∧ Tu P ops (QK P f n I₀ Q k) S fuel (listed.setIfInBounds i true) a' w') a w := by
 unfold wpOp
 simp only [hi, hw, if_true]
 exact .inl h
theorem Pn {S : World → Prop} {fuel : Nat} {listed listed' : Array Bool} (i : Nat) {o : Oper} (hi : ops[i]? = some o) (hl : listed' = listed.setIfInBounds i true)
  (hd : o.dst = some d) (hdn : Nat.blt d n = true) (hw : ∀ a, EnvOk E a → Region.wanted o (yielded ops a.tmps) = true)
  (hx : ∀ a w, EnvOk E a → Mem I L w → ∃ v w' I' L', (execOp a.eval o).run P w = .ok (.value v) w' ∧ Mem I' L' w' ∧ (F2 ops listed' = true ∨ ∀ w, Mem I' L' w → S w) ∧ Cv P f n I₀ Q ops S fuel listed' k ((d, v) :: E) I' L') :
  La P f n I₀ Q ops S fuel listed i k E I L := by
 intro a w ha hds he hm; obtain ⟨v, w', I', L', hrun, hm', hS, h⟩ := hx a w he hm; refine Acr i hi (hw a he) ?_
 simp only [Oper.wp, hrun, Oper.upon, hd]
 rw [← hl]
 exact ⟨hS.imp id fun h => h _ hm', h _ _ Gw Io (he.put Gv) hm'⟩
theorem Lw {S : World → Prop} {fuel : Nat} {listed listed' : Array Bool} (i : Nat) {op : Op} {v : Value} (hi : ops[i]? = some ⟨some d, op, ty, pos, af, g⟩) (hl : listed' = listed.setIfInBounds i true)
  (hx : Iw P E (Mem I L) ⟨some d, op, ty, pos, af, g⟩ v) (hg : Wants ops E g) (hdn : Nat.blt d n = true) (hS : F2 ops listed' = true ∨ ∀ w, Mem I L w → S w)
  (h : Cv P f n I₀ Q ops S fuel listed' k ((d, v) :: E) I L) : La P f n I₀ Q ops S fuel listed i k E I L :=
 Pn i hi hl rfl hdn (fun a he => hg.wanted a he) fun a w he hm => ⟨v, w, I, L, hx a w he hm, hm, hS, h⟩
theorem M2 {S : World → Prop} {fuel : Nat} {listed listed' : Array Bool} (i : Nat) {op : Op} {v : Value} (hi : ops[i]? = some ⟨some d, op, ty, pos, af, g⟩) (hc : decide (Region.ready .any ops listed = [i]) = true) (hl : listed' = listed.setIfInBounds i true)
  (hx : Iw P E (Mem I L) ⟨some d, op, ty, pos, af, g⟩ v) (hg : Wants ops E g) (hdn : Nat.blt d n = true) (hS : F2 ops listed' = true ∨ ∀ w, Mem I L w → S w)
  (h : Cv P f n I₀ Q ops S fuel listed' k ((d, v) :: E) I L) : Cv P f n I₀ Q ops S (fuel + 1) listed k E I L :=
 Ph i hi hc hl rfl hdn (fun a he => hg.wanted a he) fun a w he hm => ⟨v, w, I, L, hx a w he hm, hm, hS, h⟩
theorem Xh {S : World → Prop} {fuel : Nat} {listed listed' : Array Bool} (i : Nat) {o : Oper} {I' : Heap} {L' : Bo} (hi : ops[i]? = some o) (hl : listed' = listed.setIfInBounds i true)
  (hd : o.dst = none) (hw : ∀ a, EnvOk E a → Region.wanted o (yielded ops a.tmps) = true)
  (hx : ∀ a w, EnvOk E a → Mem I L w → ∃ w', ((execOp a.eval o).run P w = .ok .skip w' ∨ ∃ v, (execOp a.eval o).run P w = .ok (.value v) w') ∧ Mem I' L' w') (hS : F2 ops listed' = true ∨ ∀ w, Mem I' L' w → S w)
  (h : Cv P f n I₀ Q ops S fuel listed' k E I' L') : La P f n I₀ Q ops S fuel listed i k E I L := by
 intro a w ha hds he hm; obtain ⟨w', hrun, hm'⟩ := hx a w he hm; refine Acr i hi (hw a he) ?_
 rcases hrun with hrun | ⟨v, hrun⟩ <;>
 ·simp only [Oper.wp, hrun, Oper.upon, hd, Act.put]
  rw [← hl]
  exact ⟨hS.imp id fun h => h _ hm', h a w' ha hds he hm'⟩
theorem Acq {S : World → Prop} {fuel : Nat} {listed listed' : Array Bool} (i : Nat) {o : Oper} {kf : FuncId} {vs : List Value} {Q' : De} (hi : ops[i]? = some o) (hl : listed' = listed.setIfInBounds i true)
  (hd : o.dst = some d) (hdn : Nat.blt d n = true) (hw : ∀ a, EnvOk E a → Region.wanted o (yielded ops a.tmps) = true)
  (hx : ∀ a w, EnvOk E a → (execOp a.eval o).run P w = .ok (.enter kf vs.toArray) w) (hF : Fun P kf vs I L Q')
  (h : ∀ v I' L', HLe I I' → Q' v I' L' → (F2 ops listed' = true ∨ ∀ w, Mem I' L' w → S w) ∧ Cv P f n I₀ Q ops S fuel listed' k ((d, v) :: E) I' L') : La P f n I₀ Q ops S fuel listed i k E I L := by
 intro a w ha hds he hm; refine Acr i hi (hw a he) ?_
 simp only [Oper.wp, hx a w he, Oper.upon, hd]
 refine (hF.run w hm).mono fun e w' hE => ?_
 obtain ⟨v, I', L', rfl, hle, hm', hq⟩ := hE; obtain ⟨hS, h⟩ := h v I' L' hle hq; rw [← hl]
 exact ⟨hS.imp id fun h => h _ hm', h _ _ Gw Io (he.put Gv) hm'⟩
theorem G0 {S : World → Prop} {fuel : Nat} {listed listed' : Array Bool} (i : Nat) {kf : FuncId} {args : Array Operand} {tys : Array TypeId} {vs : List Value} {Q' : De} {c : Code} {m : Nat} {rs : List ResultVar} [hf : B8 P kf c m rs]
  (hi : ops[i]? = some ⟨some d, .call ⟨.value (.func kf), args, tys⟩, ty, pos, af, g⟩) (hl : listed' = listed.setIfInBounds i true)
  (ha : I7 E args.toList = some vs) (hg : Wants ops E g) (hdn : Nat.blt d n = true) (hF : Fun P kf vs I L Q')
  (h : ∀ v I' L', HLe I I' → Q' v I' L' → (F2 ops listed' = true ∨ ∀ w, Mem I' L' w → S w) ∧ Cv P f n I₀ Q ops S fuel listed' k ((d, v) :: E) I' L') : La P f n I₀ Q ops S fuel listed i k E I L :=
 Acq i hi hl rfl hdn (fun a he => hg.wanted a he) (Zh ha) hF h
theorem D3 {S : World → Prop} {fuel : Nat} {listed listed' : Array Bool} (i : Nat) {T e : TypeId} {parts : Array (Nat × Operand)} {is : List Nat} {vs us : List Value} {m : Nat} {sz bb esz ebb : Nat} {z ez : List Value} {dd : TypeDesc} [ht : Ay P T (.slice e) sz bb z] [hte : Ay P e dd esz ebb ez]
  (hi : ops[i]? = some ⟨some d, .buildSlice T m parts, ty, pos, af, g⟩) (hl : listed' = listed.setIfInBounds i true)
  (hp : parts.toList.map (·.1) = is) (ho : I7 E (parts.toList.map (·.2)) = some vs) (hr : is = List.range' 0 vs.length) (hm : vs.length = m) (hfl : Pl esz vs = some us) (hm0 : m * esz ≠ 0) (hm1 : m * esz ≤ 2 ^ 24) (hez : ez.length = esz)
  (hg : Wants ops E g) (hdn : Nat.blt d n = true) (hS : F2 ops listed' = true ∨ ∀ w, Mem I L w → S w)
  (h : ∀ b, Cv P f n I₀ Q ops S fuel listed' k ((d, .slice (some ⟨b, 0, none⟩) m m) :: E) I ((b, .cells us.toArray e (0, 0)) :: L)) : La P f n I₀ Q ops S fuel listed i k E I L := by
 refine Pn i hi hl rfl hdn (fun a he => hg.wanted a he) fun a w he hmm => ?_
 obtain ⟨w', h1, h2⟩ := Ad3 (P := P) (T := T) (e := e) (d := d) (ty := ty) (pos := pos) (af := af) (g := g) hp ho hr hm hfl hm0 hm1 hez a w he hmm
 exact ⟨_, w', I, _, h1, h2, hS.imp id fun hS w hw => hS w hw.drop, h _⟩
theorem Ae5 {T e : TypeId} {sz bb esz ebb : Nat} {z ez : List Value} {dd : TypeDesc} [ht : Ay P T (.slice e) sz bb z] [hte : Ay P e dd esz ebb ez] (a : Act) (w : World) :
  (execOp a.eval ⟨some d, .buildSlice T 0 #[], ty, pos, af, g⟩).run P w = .ok (.value (.slice (some ⟨w.heap.size, 0, none⟩) 0 0)) { w with heap := w.heap.push (.cells [].toArray e (0, 0)) } := by
 simp only [execOp]
 refine Ai (a := .slice (some ⟨w.heap.size, 0, none⟩) 0 0) (w' := { w with heap := w.heap.push (.cells [].toArray e (0, 0)) }) ?_ |>.trans rfl
 unfold Instr.buildSlice
 rw [Ai (A9 ht.und w)]
 simp only []
 rw [Ai (Fz hte w)]; rw [if_neg Aa, if_pos Aa]
 have e0 : ∀ h : Nat → Value, (Array.range 0).map h = #[] := fun h => by simp
 have e1 : (Array.map (fun x : Nat × Operand => (x.fst, a.eval x.snd)) #[]).toList = [] := by simp
 simp only [pure_bind, Nat.zero_mul, e0, e1]
 rfl
theorem Fn {S : World → Prop} {fuel : Nat} {listed listed' : Array Bool} (i : Nat) {T e : TypeId} {sz bb esz ebb : Nat} {z ez : List Value} {dd : TypeDesc} [ht : Ay P T (.slice e) sz bb z] [hte : Ay P e dd esz ebb ez]
  (hi : ops[i]? = some ⟨some d, .buildSlice T 0 #[], ty, pos, af, g⟩) (hl : listed' = listed.setIfInBounds i true) (hg : Wants ops E g) (hdn : Nat.blt d n = true) (hS : F2 ops listed' = true ∨ ∀ w, Mem I L w → S w)
  (h : ∀ b, Cv P f n I₀ Q ops S fuel listed' k ((d, .slice (some ⟨b, 0, none⟩) 0 0) :: E) I ((b, .cells [].toArray e (0, 0)) :: L)) : La P f n I₀ Q ops S fuel listed i k E I L := by
 refine Pn i hi hl rfl hdn (fun a he => hg.wanted a he) fun a w he hm => ?_
 exact ⟨_, _, I, _, Ae5 a w, hm.alloc _, hS.imp id fun hS w hw => hS w hw.drop, h _⟩
theorem Ae3 {T : TypeId} {dd : TypeDesc} {sz bb : Nat} {z : List Value} [ht : Ay P T dd sz bb z] (a : Act) (w : World) :
  (execOp a.eval ⟨some d, .alloc T, ty, pos, af, g⟩).run P w = .ok (.value (.pointer (some ⟨w.heap.size, 0, none⟩))) { w with heap := w.heap.push (.cells z.toArray T (0, 0)) } := by
 obtain ⟨v, hv, hz⟩ := Jw ht w
 simp only [execOp, Instr.alloc]
 refine Ai (a := .pointer (some ⟨w.heap.size, 0, none⟩)) (w' := { w with heap := w.heap.push (.cells z.toArray T (0, 0)) }) ?_ |>.trans rfl
 rw [Ai hv]
 have : v.cells = z.toArray := by rw [← hz]
 simp only [newVar, newRow, newObj, this]
 rfl
theorem H3 {S : World → Prop} {fuel : Nat} {listed listed' : Array Bool} (i : Nat) {T : TypeId} {dd : TypeDesc} {sz bb : Nat} {z : List Value} [ht : Ay P T dd sz bb z]
  (hi : ops[i]? = some ⟨some d, .alloc T, ty, pos, af, g⟩) (hl : listed' = listed.setIfInBounds i true) (hg : Wants ops E g) (hdn : Nat.blt d n = true) (hS : F2 ops listed' = true ∨ ∀ w, Mem I L w → S w)
  (h : ∀ b, Cv P f n I₀ Q ops S fuel listed' k ((d, .pointer (some ⟨b, 0, none⟩)) :: E) I ((b, .cells z.toArray T (0, 0)) :: L)) : La P f n I₀ Q ops S fuel listed i k E I L := by
 refine Pn i hi hl rfl hdn (fun a he => hg.wanted a he) fun a w he hm => ?_
 exact ⟨_, _, I, _, Ae3 (T := T) a w, hm.alloc _, hS.imp id fun hS w hw => hS w hw.drop, h _⟩
theorem No {S : World → Prop} {fuel : Nat} {listed listed' : Array Bool} (i : Nat) {T : TypeId} {dd : TypeDesc} {sz bb : Nat} {z : List Value} [ht : Ay P T dd sz bb z]
  (hi : ops[i]? = some ⟨some d, .alloc T, ty, pos, af, g⟩) (hc : decide (Region.ready .any ops listed = [i]) = true) (hl : listed' = listed.setIfInBounds i true) (hg : Wants ops E g) (hdn : Nat.blt d n = true) (hS : F2 ops listed' = true ∨ ∀ w, Mem I L w → S w)
  (h : ∀ b, Cv P f n I₀ Q ops S fuel listed' k ((d, .pointer (some ⟨b, 0, none⟩)) :: E) I ((b, .cells z.toArray T (0, 0)) :: L)) : Cv P f n I₀ Q ops S (fuel + 1) listed k E I L :=
 Vj [i] hc rfl fun x hx => by
  obtain rfl := List.mem_singleton.1 hx
  exact H3 x hi hl hg hdn hS h
theorem Fw {S : World → Prop} {fuel : Nat} {listed listed' : Array Bool} (i : Nat) {T T2 e : TypeId} {sz bb esz ebb sz2 bb2 : Nat} {z ez z2 : List Value} {dd dd2 : TypeDesc} [ht : Ay P T (.slice e) sz bb z] [hte : Ay P e dd esz ebb ez] [ht2 : Ay P T2 dd2 sz2 bb2 z2]
  {x y : Operand} {B : Kd} {xs ys : List Value} {m c : Nat} {ad2 : Option Addr} {m2 c2 : Nat} {L₀ : Bo}
  (hi : ops[i]? = some ⟨some d, .call ⟨.builtin .append, #[x, y], #[T, T2]⟩, T, pos, af, g⟩) (hl : listed' = listed.setIfInBounds i true) (hni : ∀ kk, dd2 ≠ .int kk) (hez : ez.length = esz)
  (hx : Cw E x = some (Bn m c B)) (hy : Cw E y = some (.slice ad2 m2 c2)) (hB : C8 esz m c xs B) (hL : ∀ w, Mem I L w → Mem I (A8 e xs B ++ L₀) w)
  (hyl : ys.length = m2 * esz) (hyr : ∀ a, ad2 = some a → Hj I L₀ a ys) (hyn : ad2 = none → ys = []) (hyp : ys.all Dd = true) (hesz : 0 < esz)
  (hsize : (m + m2) ≤ 4294967296) (hbytes : ebb ≤ 1024) (hg : Wants ops E g) (hdn : Nat.blt d n = true) (hS : ∀ B', F2 ops listed' = true ∨ ∀ w, Mem I (A8 e (xs ++ ys) B' ++ L₀) w → S w)
  (h : ∀ B' c', C8 esz (m + m2) c' (xs ++ ys) B' → Cv P f n I₀ Q ops S fuel listed' k ((d, Bn (m + m2) c' B') :: E) I (A8 e (xs ++ ys) B' ++ L₀)) : La P f n I₀ Q ops S fuel listed i k E I L := by
 refine Pn i hi hl rfl hdn (fun a he => hg.wanted a he) fun a w he hm => ?_
 obtain ⟨w', B', c', h1, h2, h3⟩ := U9 (P := P) (T := T) (T2 := T2) (e := e) (d := d) (pos := pos) (af := af) (g := g) hni hez hx hy hB hL hyl hyr hyn hyp hesz hsize hbytes a w he hm
 exact ⟨_, w', I, _, h1, h3, hS B', h B' c' h2⟩
theorem Aek {S : World → Prop} {fuel : Nat} {listed listed' : Array Bool} (i : Nat) {T U : TypeId} {x y : Operand} {b off : Nat} {v : Value} {vs cs us : List Value} {L' : Bo} {dd : TypeDesc} {sz bb : Nat} {z : List Value} [ht : Ay P T dd sz bb z]
  (hi : ops[i]? = some ⟨none, .store T x y, ty, pos, af, g⟩) (hl' : listed' = listed.setIfInBounds i true)
  (hx : Cw E x = some (.pointer (some ⟨b, off, none⟩))) (hy : Cw E y = some v) (hv : Gs v = some vs) (hl : vs.length = sz) (hp : vs.all Dd = true)
  (hu : Upd b (.cells us.toArray U (0, 0)) (.cells cs.toArray U (0, 0)) L L') (hus : Mu off vs cs = some us) (hg : Wants ops E g) (hS : F2 ops listed' = true ∨ ∀ w, Mem I L' w → S w)
  (h : Cv P f n I₀ Q ops S fuel listed' k E I L') : La P f n I₀ Q ops S fuel listed i k E I L :=
 Xh i hi hl' rfl (fun a he => hg.wanted a he) (Wm hx hy hv hl hp hu hus) hS h
theorem Oy {S : World → Prop} {fuel : Nat} {listed listed' : Array Bool} (i : Nat) {T U : TypeId} {x y : Operand} {b off : Nat} {v : Value} {vs cs us : List Value} {L' : Bo} {dd : TypeDesc} {sz bb : Nat} {z : List Value} [ht : Ay P T dd sz bb z]
  (hi : ops[i]? = some ⟨none, .store T x y, ty, pos, af, g⟩) (hl' : listed' = listed.setIfInBounds i true)
  (hx : Cw E x = some (.pointer (some ⟨b, off, none⟩))) (hy : Cw E y = some v) (hv : Gs v = some vs) (hl : vs.length = sz) (hg : Wants ops E g) (hS : F2 ops listed' = true ∨ ∀ w, Mem I L' w → S w) (h : Cv P f n I₀ Q ops S fuel listed' k E I L')
  (hp : vs.all Dd = true := by first | rfl | (simp only [List.toList_toArray, List.all_cons, List.all_nil, Ia, Bool.and_true, Bool.true_and] <;> rfl)) (hu : Upd b (.cells us.toArray U (0, 0)) (.cells cs.toArray U (0, 0)) L L' := by first | exact u0 | exact u1 | exact u2 | exact u3 | exact u4 | exact u5 | exact u6) (hus : Mu off vs cs = some us := by rfl) : La P f n I₀ Q ops S fuel listed i k E I L := Aek i hi hl' hx hy hv hl hp hu hus hg hS h
end rules
theorem Dl {P : Program} {f : FuncId} {n : Nat} {I₀ : Heap} {Q : De} {k : List Item} {E : Hy} {I : Heap} {L : Bo} (h : HLe I I → RunS P f n I₀ Q k E I L) : RunS P f n I₀ Q k E I L := h (.refl _)
theorem Hp {P : Program} {f : FuncId} {n : Nat} {I₀ : Heap} {Q : De} {k : List Item} {E : Hy} {I : Heap} {id : Nat} {ops : Array Oper} {p : Nat × Obj} {L₀ : Bo} (N : Nat) (hN : ops.size = N) (hm : P.follows .mixedOrders = true)
  (h : Cv P f n I₀ Q ops (Mem I L₀) N (Array.replicate N false) k E I (p :: L₀)) : RunS P f n I₀ Q (.code (.region id ops true) :: k) E I (p :: L₀) := Lb I L₀ N hN hm h
def Ex.bare : Ex → Bool
 | .num _ => true
 | .name _ => true
 | _ => false
def Ex.norm : Ex → Bool → Bool
 | .num _, _ => true
 | .name _, _ => true
 | .bin _ a b, _ => a.bare && b.bare
 | .ite a b c, _ => a.bare && b.norm true && c.norm true
 | .lt _ a b, n => n && a.norm false && b.norm true
 | .fn _ _ _ _ b, _ => b.norm true
 | .un _ a, _ => a.bare
theorem Ex.of_nil {e : Ex} (h : e.tree.head = []) : e.bare = true := by
 cases e with
 | num s => rfl
 | name s => rfl
 | bin o a b => cases o <;> cases h
 | un o a => cases o <;> cases h
 | ite a b c => cases h
 | lt x a b => cases h
 | fn f x s t b => cases h
theorem Ex.of_let {e : Ex} (h : e.tree.head = Dq) : ∃ x a b, e = .lt x a b := by
 cases e with
 | num s => cases h
 | name s => cases h
 | bin o a b => exact absurd h o.txt_ne.2.1
 | un o a => exact absurd h o.txt_ne.2.1
 | ite a b c => exact absurd (show Gi = Dq from h) Ae
 | lt x a b => exact ⟨x, a, b, rfl⟩
 | fn f x s t b => exact absurd (show C6 = Dq from h) Ae
theorem Ex.of_if {e : Ex} (h : e.tree.head = Gi) : ∃ a b c, e = .ite a b c := by
 cases e with
 | num s => cases h
 | name s => cases h
 | bin o a b => exact absurd h o.txt_ne.1
 | un o a => exact absurd h o.txt_ne.1
 | ite a b c => exact ⟨a, b, c, rfl⟩
 | lt x a b => exact absurd (show Dq = Gi from h) Ae
 | fn f x s t b => exact absurd (show C6 = Gi from h) Ae
theorem Ex.of_fun {e : Ex} (h : e.tree.head = C6) : ∃ f x s t b, e = .fn f x s t b := by
 cases e with
 | num s => cases h
 | name s => cases h
 | bin o a b => exact absurd h o.txt_ne.2.2.1
 | un o a => exact absurd h o.txt_ne.2.2.1
 | ite a b c => exact absurd (show Gi = C6 from h) Ae
 | lt x a b => exact absurd (show Dq = C6 from h) Ae
 | fn f x s t b => exact ⟨f, x, s, t, b, rfl⟩
theorem B5.txt_inj {o o' : B5} (h : o.txt = o'.txt) : o = o' := by have := congrArg B5.of h; rw [B5.of_txt, B5.of_txt] at this; exact Option.some.inj this
theorem U2.txt_inj {o o' : U2} (h : o.txt = o'.txt) : o = o' := by have := congrArg U2.of h; rw [U2.of_txt, U2.of_txt] at this; exact Option.some.inj this
theorem Abs (o : B5) (u : U2) : o.txt ≠ u.txt := by cases o <;> cases u <;> decide
theorem Ex.of_bin {e : Ex} {o : B5} (h : e.tree.head = o.txt) : ∃ a b, e = .bin o a b := by
 cases e with
 | num s => exact absurd h.symm o.txt_ne.2.2.2.2
 | name s => exact absurd h.symm o.txt_ne.2.2.2.2
 | bin o' a b => have := B5.txt_inj (o := o') (o' := o) h; subst this; exact ⟨a, b, rfl⟩
 | un u a => exact absurd h.symm (Abs o u)
 | ite a b c => exact absurd h.symm o.txt_ne.1
 | lt x a b => exact absurd h.symm o.txt_ne.2.1
 | fn f x s t b => exact absurd h.symm o.txt_ne.2.2.1
theorem Ex.of_other {e : Ex} (h0 : ¬ e.tree.head = []) (h1 : ¬ e.tree.head = Dq) (h2 : ¬ e.tree.head = Gi) (h3 : ¬ e.tree.head = C6) : (∃ o a b, e = .bin o a b) ∨ (∃ o a, e = .un o a) := by
 cases e with
 | num s => exact absurd rfl h0
 | name s => exact absurd rfl h0
 | bin o a b => exact .inl ⟨o, a, b, rfl⟩
 | un o a => exact .inr ⟨o, a, rfl⟩
 | ite a b c => exact absurd rfl h2
 | lt x a b => exact absurd rfl h1
 | fn f x s t b => exact absurd rfl h3
theorem Fs (o : B5) (a b : Ex) : C3 (Ex.bin o a b).tree = [1, 2] := by cases o <;> rfl
theorem H4 (o : U2) (a : Ex) : C3 (Ex.un o a).tree = [1] := by cases o <;> rfl
theorem Jr (a b c : Ex) : C3 (Ex.ite a b c).tree = [1, 2, 3] := rfl
theorem Js (x : As) (a b : Ex) : C3 (Ex.lt x a b).tree = [2, 3] := rfl
theorem Kg (f x : As) (s t : Ty) (b : Ex) : C3 (Ex.fn f x s t b).tree = [5] := rfl
theorem Ex.bare_eq {e : Ex} (h : e.ok = true) : (e.tree.parts.isEmpty && (B0 e.tree.atom || C4 e.tree.atom)) = e.bare := by
 cases e with
 | num s => have h : C4 s = true := h; simp [Ex.tree, Tree.parts, Tree.atom, h, Ex.bare]
 | name s => have h : B0 s = true := h; simp [Ex.tree, Tree.parts, Tree.atom, h, Ex.bare]
 | _ => rfl
theorem Ex.bare_atom {e : Ex} (h : e.ok = true) : decide (e.tree.atom = []) = !e.bare := by
 cases e with
 | num s => have h := Xj h; simp [Ex.tree, Tree.atom, h, Ex.bare]
 | name s => have h := Is h; simp [Ex.tree, Tree.atom, h, Ex.bare]
 | _ => rfl
theorem Ex.bare_parts {e : Ex} : e.bare = e.tree.parts.isEmpty := by cases e <;> rfl
theorem FormAt.as {I : Heap} {t : Tree} {oa : Option Addr} {c : Nat} {oaf : Nat → Option Addr} {cf : Nat → Nat} (h : FormAt I t oa c oaf cf) (i : Nat) (u : Tree) (hi : i < t.parts.length) (hu : t.pt i = u) : Rep I u [.string (str u.atom), .slice (oaf i) u.parts.length (cf i)] := by
 subst hu; exact h.rp i hi
theorem Vo {I : Heap} {e : Ex} {cs : List Value} (h : Rep I e.tree cs) (hok : e.ok = true) (L : Bo) : Fun Tryz.prog 174 [.agg cs.toArray] I L (E1 (.bool e.bare) I L) := by
 rw [← Ex.bare_eq hok]; exact N6 h L
def Vd (n : Nat) : Prop := ∀ {I : Heap} {e : Ex} {cs : List Value} (_ : SizeOf.sizeOf e < n) (_ : Rep I e.tree cs) (_ : e.ok = true) (L : Bo), Fun Tryz.prog 129 [.agg cs.toArray] I L (E1 (.bool (e.norm false)) I L)
def Vb (n : Nat) : Prop := ∀ {I : Heap} {e : Ex} {cs : List Value} (_ : SizeOf.sizeOf e < n) (_ : Rep I e.tree cs) (_ : e.ok = true) (L : Bo), Fun Tryz.prog 75 [.agg cs.toArray] I L (E1 (.bool (e.norm true)) I L)
theorem Pz {n : Nat} (ihN : Vb n) : Vd (n + 1) := by
 intro I e cs hlt h hok L; obtain ⟨oa, c, oaf, cf, rfl, hf⟩ := h.at'; refine Ao Af ?_; refine Se rfl ?_; refine Cn rfl rfl .free rfl ?_; intro b1; refine Oa rfl (Ab (Ah (Se rfl ?_))); refine A2 rfl .free rfl ?_; refine Ca rfl (Bq hf.rep _) ?_; rintro _ _ _ _ ⟨rfl, rfl, rfl⟩; refine Ab (Aq (Se rfl (Od rfl rfl rfl (Oa rfl (Ab ?_))))); refine A0 rfl ?_ ?_
 ·intro c0
  try simp only [nb] at c0
  refine Se rfl (Oa rfl (Ab (Al (.tmp rfl .nil) ?_))); refine only rfl ?_
  have hb := Ex.of_nil c0
  cases e <;> first | rfl | cases hb
 intro c0
 try simp only [nb] at c0
 refine Se rfl (Od rfl rfl rfl (Oa rfl (Ab ?_))); refine A0 rfl ?_ ?_
 ·intro c1
  try simp only [nb] at c1
  obtain ⟨x, a, b, rfl⟩ := Ex.of_let c1; refine Se rfl (Oa rfl (Ab (Al (.tmp rfl .nil) ?_))); refine only rfl ?_
  rfl
 intro c1
 try simp only [nb] at c1
 refine Se rfl (Od rfl rfl rfl (Oa rfl (Ab ?_))); refine A0 rfl ?_ ?_
 ·intro c2
  try simp only [nb] at c2
  obtain ⟨a, b, d, rfl⟩ := Ex.of_if c2
  simp only [Ex.ok, Bool.and_eq_true] at hok
  simp only [Ex.ite.sizeOf_spec] at hlt
  have hlen : (Ex.ite a b d).tree.parts.length = 4 := rfl
  refine Se rfl (Oh rfl ?_); refine Bz rfl .free rfl ?_
  first | refine Bx rfl rfl 1 rfl .free rfl ?_ | refine By rfl rfl 1 rfl .free rfl ?_
  refine Fy rfl .free rfl ?_; refine Ca rfl (Vo (hf.as 1 a.tree Aa rfl) hok.1.1 _) ?_; rintro _ _ _ _ ⟨rfl, rfl, rfl⟩; refine Om rfl ?_
  apply Ep 18 24 rfl
  ·intro g7_6 hk
   try simp only [nb] at g7_6
   refine Cf rfl (.met rfl rfl) rfl ?_; refine Bz rfl (.met rfl rfl) rfl ?_
   first | refine Bx rfl rfl 2 rfl (.met rfl rfl) rfl ?_ | refine By rfl rfl 2 rfl (.met rfl rfl) rfl ?_
   refine Fy rfl (.met rfl rfl) rfl ?_; refine Cq rfl (.met rfl rfl) rfl (ihN Aa (hf.as 2 b.tree Aa rfl) hok.1.2 _) ?_; rintro _ _ _ _ ⟨rfl, rfl, rfl⟩; refine Ot rfl rfl ?_
   exact A7 5 rfl rfl hk
  ·intro _ hk; refine Bj 5 rfl ?_; refine Of rfl rfl ?_
   exact A7 5 rfl rfl hk
  refine Om rfl ?_
  apply Ep 25 31 rfl
  ·intro g7_13 hk
   try simp only [nb] at g7_13
   refine Cf rfl (.met rfl rfl) rfl ?_; refine Bz rfl (.met rfl rfl) rfl ?_
   first | refine Bx rfl rfl 3 rfl (.met rfl rfl) rfl ?_ | refine By rfl rfl 3 rfl (.met rfl rfl) rfl ?_
   refine Fy rfl (.met rfl rfl) rfl ?_; refine Cq rfl (.met rfl rfl) rfl (ihN Aa (hf.as 3 d.tree Aa rfl) hok.2 _) ?_; rintro _ _ _ _ ⟨rfl, rfl, rfl⟩; refine Ot rfl rfl ?_
   exact A7 5 rfl rfl hk
  ·intro _ hk; refine Bj 5 rfl ?_; refine Of rfl rfl ?_
   exact A7 5 rfl rfl hk
  refine Oa rfl (Ab (Al (.tmp rfl .nil) ?_)); refine only rfl ?_
  rfl
 intro c2
 try simp only [nb] at c2
 refine Se rfl (Od rfl rfl rfl (Oa rfl (Ab ?_))); refine A0 rfl ?_ ?_
 ·intro c3
  try simp only [nb] at c3
  obtain ⟨f, x, s, t, b, rfl⟩ := Ex.of_fun c3
  simp only [Ex.ok, Bool.and_eq_true] at hok
  simp only [Ex.fn.sizeOf_spec] at hlt
  have hlen : (Ex.fn f x s t b).tree.parts.length = 6 := rfl
  refine Se rfl (Oh rfl ?_); refine Bz rfl .free rfl ?_
  first | refine Bx rfl rfl 5 rfl .free rfl ?_ | refine By rfl rfl 5 rfl .free rfl ?_
  refine Fy rfl .free rfl ?_; refine Ca rfl (ihN Aa (hf.as 5 b.tree Aa rfl) hok.2 _) ?_; rintro _ _ _ _ ⟨rfl, rfl, rfl⟩; refine Oa rfl (Ab (Al (.tmp rfl .nil) ?_)); refine only rfl ?_
  rfl
 intro c3
 try simp only [nb] at c3
 have ho := Ex.of_other c0 c1 c2 c3
 refine Ak (Ar (Ah (Ah ?_)))
 rcases ho with ⟨o, a, b, rfl⟩ | ⟨o, a, rfl⟩
 ·skip
  skip
  refine Am rfl ?_; refine A2 rfl .free rfl ?_; refine Ca rfl (Cr hf.rep _) ?_; rintro _ J _ eJ ⟨ok, ck, rfl, hk, rfl⟩
  have hf := hf.mono eJ
  clear c0 c1 c2 c3
  rw [Fs] at hk
  simp only [Ex.ok, Bool.and_eq_true] at hok
  have hlen : (Ex.bin o a b).tree.parts.length = 3 := rfl
  rw [Fs]
  have hkl : [1, 2].length = 2 := rfl
  refine On rfl (Om rfl (Ab (Aq ?_))); refine Ed ?_; refine Se rfl (Oc rfl rfl rfl (Ab (Ah ?_))); refine Cb rfl Ax ?_; refine Ak (Ah (Aq (Se rfl ?_)))
  first | refine Bx rfl rfl _ rfl .free rfl ?_ | refine By rfl rfl _ rfl .free rfl ?_
  refine Ei rfl .free rfl ?_; refine Oa rfl (Ab (Se rfl (Oh rfl ?_))); refine Bz rfl .free rfl ?_; refine Om rfl ?_
  first | refine Bx rfl rfl _ rfl .free rfl ?_ | refine By rfl rfl _ rfl .free rfl ?_
  refine Fy rfl .free rfl ?_; refine Ca rfl (Vo (hf.as 1 a.tree Aa rfl) hok.1 _) ?_; rintro _ _ _ _ ⟨rfl, rfl, rfl⟩; refine Ec rfl .free rfl ?_; refine Ab ?_; refine A0 rfl ?_ ?_
  ·intro c5
   try simp only [nb] at c5
   refine Se rfl (Oa rfl (Ab (Al (.tmp rfl .nil) ?_))); refine Hq eJ Bk ?_
   simp [Ex.norm, Ck, *]
  intro c5
  try simp only [nb] at c5
  refine Ak (Ar (Am rfl ?_)); refine Or rfl rfl rfl ?_; refine Om rfl (Ab ?_); refine B6 ?_; refine Se rfl (Oc rfl rfl rfl (Ab (Ah ?_))); refine Cb rfl Ax ?_; refine Ak (Ah (Aq (Se rfl ?_)))
  first | refine Bx rfl rfl _ rfl .free rfl ?_ | refine By rfl rfl _ rfl .free rfl ?_
  refine Ei rfl .free rfl ?_; refine Oa rfl (Ab (Se rfl (Oh rfl ?_))); refine Bz rfl .free rfl ?_; refine Om rfl ?_
  first | refine Bx rfl rfl _ rfl .free rfl ?_ | refine By rfl rfl _ rfl .free rfl ?_
  refine Fy rfl .free rfl ?_; refine Ca rfl (Vo (hf.as 2 b.tree Aa rfl) hok.2 _) ?_; rintro _ _ _ _ ⟨rfl, rfl, rfl⟩; refine Ec rfl .free rfl ?_; refine Ab ?_; refine A0 rfl ?_ ?_
  ·intro c5
   try simp only [nb] at c5
   refine Se rfl (Oa rfl (Ab (Al (.tmp rfl .nil) ?_))); refine Hq eJ Bk ?_
   simp [Ex.norm, Ck, *]
  intro c5
  try simp only [nb] at c5
  refine Ak (Ar (Am rfl ?_)); refine Or rfl rfl rfl ?_; refine Om rfl (Ab ?_); refine B6 ?_; refine Se rfl (Oc rfl rfl rfl (Ab (Ah ?_))); refine Dg rfl Ax ?_; refine Ce rfl ?_; refine Se rfl (Oa rfl (Ab (Al (.tmp rfl .nil) ?_))); refine Hq eJ Bk ?_
  simp [Ex.norm, Ck, *]
 ·skip
  skip
  refine Am rfl ?_; refine A2 rfl .free rfl ?_; refine Ca rfl (Cr hf.rep _) ?_; rintro _ J _ eJ ⟨ok, ck, rfl, hk, rfl⟩
  have hf := hf.mono eJ
  clear c0 c1 c2 c3
  rw [H4] at hk
  simp only [Ex.ok] at hok
  have hlen : (Ex.un o a).tree.parts.length = 2 := rfl
  rw [H4]
  have hkl : [1].length = 1 := rfl
  refine On rfl (Om rfl (Ab (Aq ?_))); refine Ed ?_; refine Se rfl (Oc rfl rfl rfl (Ab (Ah ?_))); refine Cb rfl Ax ?_; refine Ak (Ah (Aq (Se rfl ?_)))
  first | refine Bx rfl rfl _ rfl .free rfl ?_ | refine By rfl rfl _ rfl .free rfl ?_
  refine Ei rfl .free rfl ?_; refine Oa rfl (Ab (Se rfl (Oh rfl ?_))); refine Bz rfl .free rfl ?_; refine Om rfl ?_
  first | refine Bx rfl rfl _ rfl .free rfl ?_ | refine By rfl rfl _ rfl .free rfl ?_
  refine Fy rfl .free rfl ?_; refine Ca rfl (Vo (hf.as 1 a.tree Aa rfl) hok _) ?_; rintro _ _ _ _ ⟨rfl, rfl, rfl⟩; refine Ec rfl .free rfl ?_; refine Ab ?_; refine A0 rfl ?_ ?_
  ·intro c5
   try simp only [nb] at c5
   refine Se rfl (Oa rfl (Ab (Al (.tmp rfl .nil) ?_))); refine Hq eJ Bk ?_
   simp [Ex.norm, Ck, *]
  intro c5
  try simp only [nb] at c5
  refine Ak (Ar (Am rfl ?_)); refine Or rfl rfl rfl ?_; refine Om rfl (Ab ?_); refine B6 ?_; refine Se rfl (Oc rfl rfl rfl (Ab (Ah ?_))); refine Dg rfl Ax ?_; refine Ce rfl ?_; refine Se rfl (Oa rfl (Ab (Al (.tmp rfl .nil) ?_))); refine Hq eJ Bk ?_
  simp [Ex.norm, Ck, *]

structure XS where
 e : Ex
 oa : Option Addr
 c : Nat
theorem V3 {n : Nat} (ihS : Vd n) : Vb n := by
 intro I e cs hlt h hok L; obtain ⟨oa, c, oaf, cf, rfl, hf⟩ := h.at'; refine Ao Af ?_; refine Se rfl ?_; refine Cn rfl rfl .free rfl ?_; intro b1; refine Oa rfl (Ab (Ah (Aq ?_)))
 refine C7 (X := XS) (fun x => SizeOf.sizeOf x.e) (fun x => [(1, .pointer (some ⟨b1, 0, none⟩))]) (fun _ => I) (fun x => (b1, .cells [.string (str x.e.tree.atom), .slice x.oa x.e.tree.parts.length x.c].toArray 49 (0, 0)) :: L) (fun x => SizeOf.sizeOf x.e < n ∧ x.e.ok = true ∧ x.e.norm true = e.norm true ∧ Rep I x.e.tree [.string (str x.e.tree.atom), .slice x.oa x.e.tree.parts.length x.c]) ⟨e, oa, c⟩ ⟨hlt, hok, rfl, hf.rep⟩ ⟨rfl, trivial⟩ (fun _ h => h) ?_; rintro ⟨e1, oa1, c1⟩ ⟨hlt1, hok1, hn1, h1⟩ ih
 simp only at hlt1 hok1 hn1 h1 ih
 obtain ⟨oa2, c2, oaf, cf, he, hf⟩ := h1.at'
 simp only [List.cons.injEq, Value.slice.injEq, and_true, true_and] at he
 obtain ⟨rfl, rfl⟩ := he; refine Ah (Se rfl ?_); refine A2 rfl .free rfl ?_; refine Ca rfl (Bq hf.rep _) ?_; rintro _ _ _ _ ⟨rfl, rfl, rfl⟩; refine Od rfl rfl rfl (Ab ?_); refine A0 rfl ?_ ?_
 ·intro c0
  try simp only [nb] at c0
  obtain ⟨x, a, b, rfl⟩ := Ex.of_let c0
  simp only [Ex.ok, Bool.and_eq_true] at hok1
  simp only [Ex.lt.sizeOf_spec] at hlt1 ih
  have hlen : (Ex.lt x a b).tree.parts.length = 4 := rfl
  simp only [Ex.norm, Bool.true_and] at hn1
  refine Ak (Aq (Ah (Se rfl (Oh rfl ?_)))); refine Bz rfl .free rfl ?_
  first | refine Bx rfl rfl 2 rfl .free rfl ?_ | refine By rfl rfl 2 rfl .free rfl ?_
  refine Fy rfl .free rfl ?_; refine Ca rfl (ihS Aa (hf.as 2 a.tree Aa rfl) hok1.1.2 _) ?_; rintro _ _ _ _ ⟨rfl, rfl, rfl⟩; refine Ec rfl .free rfl ?_; refine Ab ?_; refine A0 rfl ?_ ?_
  ·intro c1
   try simp only [nb] at c1
   refine Se rfl (Oa rfl (Ab (Al (.tmp rfl .nil) ?_))); refine only rfl ?_; rw [← hn1, c1]; rfl
  intro c1
  try simp only [nb] at c1
  refine Ak (Am rfl (Oh rfl ?_)); refine Bz rfl .free rfl ?_
  first | refine Bx rfl rfl 3 rfl .free rfl ?_ | refine By rfl rfl 3 rfl .free rfl ?_
  refine Fy rfl .free rfl ?_; refine Bu rfl rfl rfl rfl .free ?_; refine Ab (Ar ?_); refine Dy (E' := [(1, .pointer (some ⟨b1, 0, none⟩))]) ⟨rfl, trivial⟩ (ih ⟨b, oaf 3, cf 3⟩ ⟨by simp only; omega, hok1.2, by simp only; rw [← hn1, c1]; rfl, hf.as 3 b.tree Aa rfl⟩ Eo)
 intro c0
 try simp only [nb] at c0
 refine Ce rfl ?_; refine Se rfl ?_; refine A2 rfl .free rfl ?_; refine Ca rfl (ihS hlt1 hf.rep hok1 _) ?_; rintro _ _ _ _ ⟨rfl, rfl, rfl⟩; refine Oa rfl (Ab (Al (.tmp rfl .nil) ?_)); refine only rfl ?_; rw [← hn1]
 have : e1.norm false = e1.norm true := by
  cases e1 with
  | lt x a b => exact absurd rfl c0
  | _ => rfl
 rw [this]; rfl
theorem Ua (n : Nat) : Vd n ∧ Vb n := by
 induction n with
 | zero => exact ⟨by intro I e cs h; omega, by intro I e cs h; omega⟩
 | succ n ih =>
  exact ⟨@Pz n ih.2, @V3 _ (@Pz n ih.2)⟩
theorem Rl {I : Heap} {e : Ex} {cs : List Value} (h : Rep I e.tree cs) (hok : e.ok = true) (L : Bo) : Fun Tryz.prog 75 [.agg cs.toArray] I L (E1 (.bool (e.norm true)) I L) := (Ua _).2 (Nat.lt_succ_self _) h hok L

theorem Ex.atom_iff {e : Ex} (h : e.ok = true) : e.tree.atom = [] ↔ e.bare = false := by
 have := Ex.bare_atom h
 cases hb : e.bare <;> simp_all
section rules
variable {P : Program} {f : FuncId} {n : Nat} {I₀ : Heap} {Q : De} {k : List Item} {E : Hy} {I : Heap} {L : Bo}
variable {ops : Array Oper} {d : Nat} {ty : TypeId} {pos : String} {af : Array Edge} {g : Option (Nat × Bool)} {l : List Oper}
theorem Pw {op : BinOp} {T : TypeId} {x y : Operand} {a b : Option Addr} {m c m' c' : Nat} (w : World) : (eqGuard op T x y (.slice a m c) (.slice b m' c')).run P w = .ok () w := by
 unfold eqGuard; split <;> rfl
theorem Abp {S : World → Prop} {T T' e sz bb : Nat} {z : List Value} [ht : Ay P T (.slice e) sz bb z] {x y : Operand} {oa : Option Addr} {m c : Nat} (hx : Cw E x = some (.slice oa m c)) (hy : Cw E y = some (.slice none 0 0)) :
  Iw P E S ⟨some d, .binOp .eql T x y T', ty, pos, af, g⟩ (.bool oa.isNone) := fun ac w he _ => by
 simp only [execOp, he.eval hx, he.eval hy]
 refine Ai (a := _) (w' := w) ?_ |>.trans rfl
 rw [Ai (Pw w)]
 have h : ∀ d : Nat, (Op.equalIn (d + 1) T (.slice oa m c) (.slice none 0 0)).run P w = .ok oa.isNone w := fun d => by
  unfold Op.equalIn
  rw [Ai (A9 ht.und w)]
  cases oa <;> rfl
 simp only [binOp, Op.equal]
 exact Ai (h 9999) |>.trans rfl
theorem Qn {T T' e sz bb : Nat} {z : List Value} [ht : Ay P T (.slice e) sz bb z] {x y : Operand} {oa : Option Addr} {m c : Nat} (hx : Cw E x = some (.slice oa m c)) (hy : Cw E y = some (.slice none 0 0)) (hg : Wants ops E g) (hdn : Nat.blt d n = true)
  (h : Bd P f n I₀ Q ops l k ((d, .bool oa.isNone) :: E) I L) : Bd P f n I₀ Q ops (⟨some d, .binOp .eql T x y T', ty, pos, af, g⟩ :: l) k E I L := E2 (Abp hx hy) hg hdn h
end rules

def Ea (oaf : Nat → Option Addr) (cf : Nat → Nat) : Nat → List Tree → List Value
 | _, [] => []
 | k, t :: ts => .string (str t.atom) :: .slice (oaf k) t.parts.length (cf k) :: Ea oaf cf (k + 1) ts
theorem Pg {f f' : Nat → Option Addr} {g g' : Nat → Nat} : ∀ (ts : List Tree) (k : Nat), (∀ i, k ≤ i → f i = f' i ∧ g i = g' i) → Ea f g k ts = Ea f' g' k ts
 | [], _, _ => rfl
 | t :: ts, k, h => by
  simp only [Ea]
  rw [(h k (Nat.le_refl _)).1, (h k (Nat.le_refl _)).2, Pg ts (k + 1) (fun i hi => h i (by omega))]
theorem RepL.cells {I : Heap} : ∀ {ts : List Tree} {vs : List Value} (k : Nat), RepL I ts vs → ∃ oaf cf, vs = Ea oaf cf k ts
 | _, _, k, .nil => ⟨fun _ => none, fun _ => 0, rfl⟩
 | _, _, k, .cons (ts := ts) h hs => by
  obtain ⟨f, g, rfl⟩ := RepL.cells (k + 1) hs; obtain ⟨oa, c, vs, he, _⟩ := h.open
  simp only [List.cons.injEq, and_true] at he
  obtain ⟨rfl, rfl⟩ := he; refine ⟨fun i => if i = k then oa else f i, fun i => if i = k then c else g i, ?_⟩
  simp only [Ea, if_true]
  congr 2
  exact Pg ts (k + 1) (fun i hi => by rw [if_neg (by omega), if_neg (by omega)]; exact ⟨rfl, rfl⟩)
theorem R8 {f : Nat → Option Addr} {g : Nat → Nat} : ∀ (ts : List Tree) (k i : Nat) (hi : i < ts.length), (Ea f g k ts)[i * 2]? = some (.string (str ts[i].atom)) ∧ (Ea f g k ts)[i * 2 + 1]? = some (.slice (f (k + i)) ts[i].parts.length (g (k + i)))
 | [], _, _, hi => by simp at hi
 | t :: ts, k, 0, _ => ⟨rfl, rfl⟩
 | t :: ts, k, i + 1, hi => by
  obtain ⟨h1, h2⟩ := R8 (f := f) (g := g) ts (k + 1) i (by simpa using hi); refine ⟨?_, ?_⟩
  ·rw [show (i + 1) * 2 = i * 2 + 1 + 1 by omega]; simpa [Ea] using h1
  ·rw [show (i + 1) * 2 + 1 = i * 2 + 1 + 1 + 1 by omega, show k + (i + 1) = k + 1 + i by omega]; simpa [Ea] using h2
theorem Rep.cells {I : Heap} {t : Tree} {cs : List Value} (h : Rep I t cs) : ∃ oa c oaf cf, cs = [.string (str t.atom), .slice oa t.parts.length c] ∧ FormAt I t oa c oaf cf ∧ RepL I t.parts (Ea oaf cf 0 t.parts) ∧ (∀ x, oa = some x → Still I x (Ea oaf cf 0 t.parts)) := by
 obtain ⟨oa, c, vs, rfl, hl, hs, hn, hc, ha, hp⟩ := h.open; obtain ⟨oaf, cf, rfl⟩ := hl.cells 0; refine ⟨oa, c, oaf, cf, rfl, ⟨h, fun i hi => ?_, fun e => by rw [hn e]; rfl, hp, ha, hc⟩, hl, hs⟩; obtain ⟨c1, c2, h1, h2, h3⟩ := hl.get i hi; obtain ⟨h4, h5⟩ := R8 (f := oaf) (g := cf) t.parts 0 i hi; rw [h4] at h2; rw [h5, Nat.zero_add] at h3
 cases h2; cases h3
 rw [Tree.pt_at hi]; obtain ⟨x, rfl⟩ : ∃ x, oa = some x := by
  cases oa with
  | none => have := hn rfl; rw [this] at hi; simp at hi
  | some x => exact ⟨x, rfl⟩
 refine ⟨h1, (hs x rfl).part (i * 2) ?_⟩; intro j hj
 match j, hj with
 | 0, _ => simpa using h4
 | 1, _ => simpa using h5

def CL (e : TypeId) (vs : List Value) (n : Nat) (I : Heap) (L : Bo) : De := fun v I' L' => ∃ b sp c, v = .slice (some ⟨b, 0, none⟩) n c ∧ n ≤ c ∧ I = I' ∧ L' = (b, .cells (vs ++ sp).toArray e (0, 0)) :: L
theorem Hr {I : Heap} {x : Addr} {n c : Nat} {vs : List Value} (hs : Still I x vs) (hv : vs.length = n * 2) (hp : vs.all Dd = true) (hn0 : 0 < n) (hn : n ≤ 4294967296) (L : Bo) :
  Fun Tryz.prog 114 [.slice (some x) n c] I L (CL 49 vs n I L) := by
 refine Ao Af ?_; refine Se rfl (Oa rfl (Ab (Ah (Se rfl (Om rfl ?_))))); refine Qn rfl rfl .free rfl ?_; refine Ab ?_
 first | refine Sf rfl Af ?_ | refine Bl Av ?_
 refine Ak (Se rfl ?_); refine Do .free rfl ?_; intro b5; refine Om rfl ?_; refine Es (B := some (b5, [])) (xs := []) (ys := vs) (m := 0) (c := 0) (L₀ := L) Au Ac rfl rfl ⟨rfl, Nat.le_refl _, rfl⟩ (fun _ h => h) Aa (fun a ha => by cases ha; exact hs.reads) Af hp hn0 Ae Aa Ae .free rfl ?_; intro b sp c' hB'; refine Oa rfl (Ab (Al (.tmp rfl .nil) ?_))
 exact ⟨I, _, .refl _, fun _ h => h, b, sp, c', by rw [Nat.zero_add]; rfl, by have := hB'.2.1; omega, rfl, rfl⟩
mutual
def Tree.dec : (t u : Tree) → Decidable (t = u)
 | .node a ps, .node b qs => if h : a = b then (match Agb ps qs with
   | isTrue h' => isTrue (by rw [h, h'])
   | isFalse h' => isFalse (fun e => h' (Tree.node.inj e).2)) else isFalse (fun e => h (Tree.node.inj e).1)
def Agb : (ps qs : List Tree) → Decidable (ps = qs)
 | [], [] => isTrue rfl
 | [], _ :: _ => isFalse (by simp)
 | _ :: _, [] => isFalse (by simp)
 | t :: ts, u :: us => match Tree.dec t u, Agb ts us with
  | isTrue h, isTrue h' => isTrue (by rw [h, h'])
  | isFalse h, _ => isFalse (fun e => h (List.cons.inj e).1)
  | _, isFalse h => isFalse (fun e => h (List.cons.inj e).2)
end
instance : DecidableEq Tree := Tree.dec

theorem Forms.fa {I : Heap} {oa : Option Addr} {ts : List Tree} {c : Nat} (h : Forms I oa ts c) : Rep I (.node [] ts) [.string (str []), .slice oa ts.length c] := h.form [] (by simp [Ba])
def Zl (n : Nat) : Prop := ∀ {I : Heap} {t u : Tree} {cs ds : List Value} (_ : SizeOf.sizeOf t < n) (_ : Rep I t cs) (_ : Rep I u ds) (L : Bo), Fun Tryz.prog 131 [.agg cs.toArray, .agg ds.toArray] I L (E1 (.bool (decide (t = u))) I L)
theorem Oq {n : Nat} (ih : Zl n) {I : Heap} {t u : Tree} {oa ob : Option Addr} {c c' : Nat} {f g : Nat → Option Addr} {f' g' : Nat → Nat} (hlt : SizeOf.sizeOf t < n + 1) (hf : FormAt I t oa c f f') (hg : FormAt I u ob c' g g') (L : Bo) :
  Fun Tryz.prog 175 [.slice oa t.parts.length c, .slice ob u.parts.length c', .func (.func 131) #[] #[]] I L (E1 (.bool (decide (t.parts = u.parts))) I L) := by
 have hp := hf.len
 have hq := hg.len
 unfold Ba at hp hq
 refine Ao Af ?_; refine Se rfl (Oa rfl (Ab (Ah (Se rfl (Om rfl (On rfl (Om rfl (On rfl (Oc rfl rfl rfl (Ab ?_)))))))))); refine A0 rfl ?_ ?_
 ·intro c0
  try simp only [nb] at c0
  refine Se rfl (Oa rfl (Ab (Al (.tmp rfl .nil) ?_))); refine only rfl ?_
  have : ¬ t.parts = u.parts := fun e => c0 (by rw [e])
  simp [Ck, this]
 intro c0
 try simp only [nb] at c0
 refine Ak (Ah (Se rfl (Om rfl (On rfl (Om rfl (Ab (Aq ?_))))))); refine C7 (X := Nat) (fun i => t.parts.length - i) (fun i => [(1, .slice ob u.parts.length c'), (2, .func (.func 131) #[] #[]), (15, .slice oa t.parts.length c), (16, .int .i64 (t.parts.length : Nat)), (17, .int .i64 (i : Nat))]) (fun _ => I) (fun _ => L) (fun i => i ≤ t.parts.length ∧ ∀ j, j < i → t.pt j = u.pt j) 0 ⟨by omega, fun j hj => by omega⟩ ⟨rfl, rfl, rfl, rfl, rfl, trivial⟩ Bk ?_; rintro i ⟨hi, hall⟩ ih2; refine Se rfl (Oc rfl rfl rfl (Ab (Ah ?_))); refine A0 rfl ?_ ?_
 ·intro c1
  try simp only [nb] at c1
  refine Ak (Ah (Aq (Se rfl (Om rfl ?_))))
  first | refine Bx rfl rfl _ rfl .free rfl ?_ | refine By rfl rfl _ rfl .free rfl ?_
  refine Fy rfl .free rfl ?_; refine Aw .free rfl ?_; intro b8; refine Oa rfl ?_; refine Bu rfl rfl rfl rfl .free ?_; refine Ab (Se rfl (Om rfl (Om rfl ?_)))
  first | refine Bx rfl rfl _ rfl .free rfl ?_ | refine By rfl rfl _ rfl .free rfl ?_
  refine Fy rfl .free rfl ?_; refine Aw .free rfl ?_; intro b9; refine Bu rfl rfl rfl rfl .free ?_; refine Ab (Se rfl (Om rfl ?_)); refine A2 rfl .free rfl ?_; refine A2 rfl .free rfl ?_; refine V5 rfl rfl .free rfl (ih (by have := t.pt_lt i Aa; omega) (hf.rp i Aa) (hg.rp i Aa) _) ?_; rintro _ _ _ _ ⟨rfl, rfl, rfl⟩; refine Ec rfl .free rfl ?_; refine Ab ?_; refine A0 rfl ?_ ?_
  ·intro c2
   try simp only [nb] at c2
   refine Se rfl (Oa rfl (Ab (Al (.tmp rfl .nil) ?_))); refine only rfl ?_
   have : ¬ t.parts = u.parts := fun e => c2 (by unfold Tree.pt; rw [e])
   simp [Ck, this]
  intro c2
  try simp only [nb] at c2
  refine Ak (Ar (Am rfl ?_)); refine Or rfl rfl rfl ?_; refine Om rfl (Ab ?_); refine Cs Bk (Dy (E' := [(1, .slice ob u.parts.length c'), (2, .func (.func 131) #[] #[]), (15, .slice oa t.parts.length c), (16, .int .i64 (t.parts.length : Nat)), (17, .int .i64 ((i + 1 : Nat)))]) ⟨rfl, rfl, rfl, rfl, rfl, trivial⟩ (ih2 (i + 1) ⟨by omega, fun j hj => ?_⟩ Aa))
  rcases Nat.lt_or_ge j i with h | h
  ·exact hall j h
  ·obtain rfl : j = i := by omega
   exact c2
 intro c1
 try simp only [nb] at c1
 refine Ce rfl ?_; refine Se rfl (Oa rfl (Ab (Al (.tmp rfl .nil) ?_))); refine only rfl ?_
 have : t.parts = u.parts := by
  apply List.ext_getElem Aa
  intro j h1 h2
  have := hall j Aa
  rwa [Tree.pt_at h1, Tree.pt_at h2] at this
 simp [Ck, this]
theorem Zb {n : Nat} (ih : Zl n) : Zl (n + 1) := by
 intro I t u cs ds hlt h h' L; obtain ⟨oa, c, f, f', rfl, hf⟩ := h.at'; obtain ⟨ob, c', g, g', rfl, hg⟩ := h'.at'; refine Ao Af ?_; refine Se rfl ?_; refine Cn rfl rfl .free rfl ?_; intro b2; refine Cn rfl rfl .free rfl ?_; intro b3; refine Oa rfl (Ab (Se rfl (Oh rfl ?_))); refine Bz rfl .free rfl ?_; refine Oh rfl ?_; refine Bz rfl .free rfl ?_; refine Od rfl rfl rfl (Om rfl ?_)
 apply Ep 10 16 rfl
 ·intro g1_6 hk
  try simp only [nb] at g1_6
  refine Cf rfl (.met rfl rfl) rfl ?_; refine Bz rfl (.met rfl rfl) rfl ?_; refine Cf rfl (.met rfl rfl) rfl ?_; refine Bz rfl (.met rfl rfl) rfl ?_; refine Cq rfl (.met rfl rfl) rfl (Oq ih hlt hf hg _) ?_; rintro _ _ _ _ ⟨rfl, rfl, rfl⟩; refine Ot rfl rfl ?_
  exact A7 5 rfl rfl hk
 ·intro _ hk; refine Bj 5 rfl ?_; refine Of rfl rfl ?_
  exact A7 5 rfl rfl hk
 refine Oa rfl (Ab (Al (.tmp rfl .nil) ?_)); refine only rfl ?_; refine congrArg Value.bool ?_; rw [Bool.eq_iff_iff]
 simp only [Bool.and_eq_true, decide_eq_true_eq]
 cases t; cases u
 simp [Tree.atom, Tree.parts]
theorem Abk (n : Nat) : Zl n := by
 induction n with
 | zero => intro I t u cs ds h; omega
 | succ n ih => exact @Zb n ih
theorem Q7 {I : Heap} {t u : Tree} {cs ds : List Value} (h : Rep I t cs) (h' : Rep I u ds) (L : Bo) : Fun Tryz.prog 131 [.agg cs.toArray, .agg ds.toArray] I L (E1 (.bool (decide (t = u))) I L) := @Abk _ I t u cs ds (Nat.lt_succ_self _) h h' L
theorem P9 {I : Heap} {f x : As} {s t : Ty} {b : Ex} {cs : List Value} (h : Rep I (Ex.fn f x s t b).tree cs) (L : Bo) : Fun Tryz.prog 106 [.agg cs.toArray] I L (RP (Ty.fn s t).tree L) := by
 obtain ⟨oa, c, oaf, cf, rfl, hf⟩ := h.at'
 have hlen : (Ex.fn f x s t b).tree.parts.length = 6 := rfl
 refine Ao Af ?_; refine Se rfl ?_; refine Cn rfl rfl .free rfl ?_; intro b1; refine Aw .free rfl ?_; intro b2; refine Ab (Ah ?_); refine Dn 11 rfl rfl ?_; refine Da 0 rfl (Aj rfl) ?_; refine Dt 1 [10] rfl (Bc rfl) ?_
 first | refine Da 2 rfl (A3 rfl rfl 3 rfl) ?_ | refine Da 2 rfl (A4 rfl rfl 3 rfl) ?_
 refine Dt 3 [10] rfl (B7 rfl) ?_; refine Da 4 rfl (Aj rfl) ?_; refine Dt 5 [10] rfl (Bc rfl) ?_
 first | refine Da 6 rfl (A3 rfl rfl 4 rfl) ?_ | refine Da 6 rfl (A4 rfl rfl 4 rfl) ?_
 refine Dt 7 [10] rfl (B7 rfl) ?_; refine C5 8 rfl Ad rfl rfl rfl Ac Ac Ac Ae Ae Ac .free rfl (.inr Ap) ?_; intro b11; refine Cp ?_; intro hz
 have hfs := L4 (c := 2) (b := b11) (RepL.two (hf.as 3 s.tree Aa rfl) (hf.as 4 t.tree Aa rfl)) hz Af Be
 refine Dc 9 rfl rfl (Sl [62] Ae hfs Be _) ?_; rintro _ J2 _ e2 ⟨cs2, rfl, h2, rfl⟩
 have e3 := hz.trans e2
 obtain ⟨o2, k2, _, rfl, -⟩ := h2.open; refine Hx ?_; refine Dx 10 rfl rfl rfl rfl ?_; refine At Ad ?_; refine Al (.c rfl .nil) ?_
 exact ⟨J2, L, e3, Bk, _, rfl, h2, rfl⟩
abbrev Wo := List (As × Ex)
def Ft : Wo → Ex → Ex
 | [], f => f
 | (x, e) :: bs, f => .lt x e (Ft bs f)
def Jf (b : Bool) (s : As) : Option Ex := match Eu s with
 | some e => if e.norm b = true then some e else none
 | none => none
def M3 (b : Bool) (s : As) : Bool := (Jf b s).isSome
def Afv (x s : As) : As × Ex := (x, (Jf false s).getD (.num []))
def Z1 (l m : List As) : Wo := l.zipWith Afv m
def Ag4 (l m : List As) (s : As) : Option As := match Jf true s with
 | none => none
 | some f => if l.length = m.length ∧ l.all B0 = true ∧ m.all (M3 false) = true ∧ (Ft (Z1 l m) f).fine = true then some (Ft (Z1 l m) f).tree.text else none

def Ahb (bs : Wo) : Prop := ∀ p ∈ bs, B0 p.1 = true ∧ p.2.ok = true ∧ p.2.norm false = true ∧ p.2.tree.len ≤ 12000
theorem Ur {bs : Wo} {f : Ex} {i : Nat} (hi : i < bs.length) : Ft (bs.drop i) f = .lt bs[i].1 bs[i].2 (Ft (bs.drop (i + 1)) f) := by
 rw [List.drop_eq_getElem_cons hi]; rfl
theorem Nm {s : As} {t : Tree} {ok : Bool} (hpf : match Eu s with | some e => ok = true ∧ t = e.tree | none => ok = false) (h : ok = true) : ∃ e, Eu s = some e ∧ t = e.tree ∧ e.ok = true ∧ e.tree.len ≤ 12000 ∧ e.fine = true ∧ s = e.tree.text := by
 cases hx : Eu s with
 | none => rw [hx] at hpf; simp [h] at hpf
 | some e =>
  rw [hx] at hpf; obtain ⟨h1, h2, h3⟩ := Ln hx
  have hfine := h2
  simp only [Ex.fine, Bool.and_eq_true, Tree.fits, decide_eq_true_eq] at h2
  exact ⟨e, rfl, hpf.2, h2.1.1, h2.2.2, hfine, h3⟩
theorem Nl {s : As} {t : Tree} {ok : Bool} (hpf : match Eu s with | some e => ok = true ∧ t = e.tree | none => ok = false) (h : ok = false) : Eu s = none := by
 cases hx : Eu s with
 | none => rfl
 | some e => rw [hx] at hpf; simp [h] at hpf
def RN (p : Option Ex) (L : Bo) : De := RX p L
/- Bindings in memory. -/
inductive BindL : Heap → Wo → List Value → Prop
 | nil {I : Heap} : BindL I [] []
 | cons {I : Heap} {x : As} {e : Ex} {bs : Wo} {c1 c2 : Value} {vs : List Value} (hx : x.length ≤ Ba) (h : Rep I e.tree [c1, c2]) (hs : BindL I bs vs) : BindL I ((x, e) :: bs) (.string (str x) :: c1 :: c2 :: vs)
theorem BindL.mono {I I' : Heap} (hle : HLe I I') {bs : Wo} {vs : List Value} (h : BindL I bs vs) : BindL I' bs vs := by
 induction h with
 | nil => exact .nil
 | cons hx h _ ih => exact .cons hx (h.mono hle) ih
theorem BindL.length {I : Heap} {bs : Wo} {vs : List Value} (h : BindL I bs vs) : vs.length = bs.length * 3 := by
 induction h with
 | nil => rfl
 | cons hx h _ ih => simp [ih]; omega
theorem BindL.plain {I : Heap} {bs : Wo} {vs : List Value} (h : BindL I bs vs) : vs.all Dd = true := by
 induction h with
 | nil => rfl
 | cons hx h _ ih =>
  have h2 := h.vals
  simp only [List.all_cons, List.all_nil, Bool.and_true, Bool.and_eq_true] at h2 ⊢
  exact ⟨rfl, h2.1, h2.2, ih⟩
theorem BindL.append {I : Heap} {bs cs : Wo} {vs ws : List Value} (h : BindL I bs vs) (h' : BindL I cs ws) : BindL I (bs ++ cs) (vs ++ ws) := by
 induction h with
 | nil => exact h'
 | cons hx h _ ih => exact .cons hx h ih
theorem BindL.get {I : Heap} {bs : Wo} {vs : List Value} (h : BindL I bs vs) : ∀ i (hi : i < bs.length), ∃ c1 c2, Rep I bs[i].2.tree [c1, c2] ∧ bs[i].1.length ≤ Ba ∧ vs[i * 3]? = some (.string (str bs[i].1)) ∧ vs[i * 3 + 1]? = some c1 ∧ vs[i * 3 + 2]? = some c2 := by
 induction h with
 | nil => intro i hi; simp at hi
 | @cons x e bs c1 c2 vs hx h hs ih =>
  intro i hi
  cases i with
  | zero => exact ⟨c1, c2, h, hx, rfl, rfl, rfl⟩
  | succ i =>
   obtain ⟨d1, d2, h1, h2, h3, h4, h5⟩ := ih i (by simpa using hi); refine ⟨d1, d2, by simpa using h1, by simpa using h2, ?_, ?_, ?_⟩
   ·rw [show (i + 1) * 3 = i * 3 + 1 + 1 + 1 by omega]; simpa using h3
   ·rw [show (i + 1) * 3 + 1 = i * 3 + 1 + 1 + 1 + 1 by omega]; simpa using h4
   ·rw [show (i + 1) * 3 + 2 = i * 3 + 2 + 1 + 1 + 1 by omega]; simpa using h5
structure Binds (I : Heap) (oa : Option Addr) (bs : Wo) (c : Nat) : Prop where
 rep : ∃ vs, BindL I bs vs ∧ ∀ x, oa = some x → Still I x vs
 nil : oa = none → bs.length = 0
 cap : bs.length ≤ c
 len : bs.length ≤ Ba
theorem Binds.mono {I I' : Heap} (hle : HLe I I') {oa : Option Addr} {bs : Wo} {c : Nat} (h : Binds I oa bs c) : Binds I' oa bs c := by
 obtain ⟨⟨vs, h1, h2⟩, h3, h4, h5⟩ := h
 exact ⟨⟨vs, h1.mono hle, fun x hx => (h2 x hx).mono hle⟩, h3, h4, h5⟩
theorem Binds.at {I : Heap} {oa : Option Addr} {bs : Wo} {c : Nat} (h : Binds I oa bs c) (i : Nat) (hi : i < bs.length) :
  ∃ ob d, Rep I bs[i].2.tree [.string (str bs[i].2.tree.atom), .slice ob bs[i].2.tree.parts.length d] ∧ bs[i].1.length ≤ Ba ∧
   Still I ((Wb oa).add (i * 3)) [.string (str bs[i].1), .string (str bs[i].2.tree.atom), .slice ob bs[i].2.tree.parts.length d] := by
 obtain ⟨⟨vs, h1, h2⟩, h3, h4, h5⟩ := h; obtain ⟨c1, c2, r, hx, e1, e2, e3⟩ := h1.get i hi; obtain ⟨ob, d, ws, he, _⟩ := r.open
 simp only [List.cons.injEq, and_true] at he
 obtain ⟨rfl, rfl⟩ := he; obtain ⟨y, rfl⟩ : ∃ y, oa = some y := by
  cases oa with
  | none => have := h3 rfl; omega
  | some y => exact ⟨y, rfl⟩
 refine ⟨ob, d, r, hx, (h2 y rfl).part (i * 3) ?_⟩; intro j hj
 match j, hj with
 | 0, _ => simpa using e1
 | 1, _ => simpa using e2
 | 2, _ => simpa using e3
theorem T8 {P : Program} {f : FuncId} {n : Nat} {I₀ : Heap} {Q : De} {todo : List Item} {E : Hy} {I : Heap} {L : Bo} {e : TypeId} {bs : Wo} {xs : List Value} {B : Kd} {m c : Nat}
  (hb : BindL I bs xs) (hB : C8 3 m c xs B) (hm : m = bs.length) (hp : m ≤ Ba)
  (h : ∀ I' oa c', HLe I I' → Bn m c B = .slice oa bs.length c' → Binds I' oa bs c' → RunS P f n I₀ Q todo E I' L) : RunS P f n I₀ Q todo E I (A8 e xs B ++ L) := by
 cases B with
 | none =>
  obtain ⟨rfl, rfl, rfl⟩ := hB; obtain rfl : bs = [] := List.length_eq_zero_iff.1 hm.symm
  exact h I none 0 (.refl _) rfl ⟨⟨[], .nil, by simp⟩, fun _ => rfl, by simp, by simp⟩
 | some p =>
  obtain ⟨b, sp⟩ := p; refine Ci fun hle => h _ (some ⟨b, 0, none⟩) c hle (by rw [← hm]; rfl) ⟨⟨xs, hb.mono hle, fun y hy => ?_⟩, by simp, by have := hB.2.1; omega, by omega⟩
  cases hy; exact A6
structure YS where
 I : Heap
 k : Nat
 oa : Option Addr
 c : Nat
theorem Aag {I : Heap} {oa : Option Addr} {bs : Wo} {c : Nat} (h : Binds I oa bs c) {f : Ex} {cs : List Value} (hf : Rep I f.tree cs) (L : Bo) :
  Fun Tryz.prog 168 [.slice oa bs.length c, .agg cs.toArray] I L (RP (Ft bs f).tree L) := by
 obtain ⟨of, cf, _, rfl, -⟩ := hf.open
 have hlen := h.len
 unfold Ba at hlen
 refine Ao Af ?_; refine Se rfl ?_; refine Cn rfl rfl .free rfl ?_; intro b3; refine Aw .free rfl ?_; intro b4; refine Ab (Ah (Se rfl (Om rfl (On rfl ?_)))); refine Or rfl rfl rfl ?_; refine Oa rfl (Ab (Aq ?_))
 refine C7 (X := YS) (fun x => x.k) (fun x => [(0, .slice oa bs.length c), (3, .pointer (some ⟨b3, 0, none⟩)), (4, .pointer (some ⟨b4, 0, none⟩)), (5, .int .i64 ((x.k : Int) - 1))]) (fun x => x.I) (fun x => (b4, .cells [.string (str []), .slice none 0 0].toArray 49 (0, 0)) :: (b3, .cells [.string (str (Ft (bs.drop x.k) f).tree.atom), .slice x.oa (Ft (bs.drop x.k) f).tree.parts.length x.c].toArray 49 (0, 0)) :: L) (fun x => HLe I x.I ∧ x.k ≤ bs.length ∧ Rep x.I (Ft (bs.drop x.k) f).tree [.string (str (Ft (bs.drop x.k) f).tree.atom), .slice x.oa (Ft (bs.drop x.k) f).tree.parts.length x.c]) ⟨I, bs.length, of, cf⟩ ⟨.refl _, Nat.le_refl _, by simpa [Ft] using hf⟩ ⟨rfl, rfl, rfl, rfl, trivial⟩ (fun w hw => by simpa [Ft] using hw) ?_
 rintro ⟨J, k, ob, d⟩ ⟨hle, hk, hr⟩ ih
 simp only at hle hk hr ih
 dsimp only
 refine Ah (Se rfl (Om rfl (Oc rfl rfl rfl (Ab ?_)))); refine A0 rfl ?_ ?_
 ·intro c0
  try simp only [nb] at c0
  obtain ⟨k, rfl⟩ : ∃ m, k = m + 1 := ⟨k - 1, by omega⟩; refine I9 (t := 5) (v' := .int .i64 (k : Nat)) rfl Gl ?_; obtain ⟨oe, de, hre, hxl, hst⟩ := (h.mono hle).at k Aa
  have hnil := h.nil
  refine Ak (Ah (Aq ?_)); refine Dn 15 rfl rfl ?_; refine Da 0 rfl (Ag rfl) ?_; refine Da 1 rfl (Ag rfl) ?_
  first | refine Da 2 rfl (A3 rfl rfl _ rfl) ?_ | refine Da 2 rfl (A4 rfl rfl _ rfl) ?_
  refine Da 3 rfl (Bi rfl) ?_; refine Dt 4 [14] rfl (I6 rfl) ?_; refine Da 6 rfl (Ag rfl) ?_; refine Da 7 rfl (Ag rfl) ?_
  first | refine Da 8 rfl (A3 rfl rfl _ rfl) ?_ | refine Da 8 rfl (A4 rfl rfl _ rfl) ?_
  refine Da 9 rfl (Bi rfl) ?_; refine Dt 10 [14] rfl (Agn rfl) ?_; refine Dt 11 [14] rfl (Cd rfl) ?_; refine Dc 5 rfl rfl (Km _ hxl _ _) ?_; rintro _ _ _ _ ⟨rfl, rfl, rfl⟩; refine Hx ?_; refine C5 12 rfl Ad rfl rfl rfl Ac Ac Ac Ae Ae Ac .free rfl (.inr Ap) ?_; intro b25; refine Cp ?_; intro hz
  have hfs := L4 (c := 3) (b := b25) (RepL.three (.ofAtom hxl) hre hr) hz Af Be
  refine Dc 13 rfl rfl (Sl Dq Ae hfs Be _) ?_; rintro _ J2 _ e2 ⟨cs2, rfl, hr2, rfl⟩
  have e3 := hz.trans e2
  obtain ⟨oq, cq, _, rfl, -⟩ := hr2.open; refine Hx ?_; refine Dx 14 rfl rfl rfl rfl ?_; refine At Ad ?_; refine Ar (Am rfl (Om rfl ?_)); refine Or rfl rfl rfl ?_; refine Oa rfl (Ab ?_); refine Dy (E' := [(0, .slice oa bs.length c), (3, .pointer (some ⟨b3, 0, none⟩)), (4, .pointer (some ⟨b4, 0, none⟩)), (5, .int .i64 ((k : Int) - 1))]) ⟨rfl, rfl, rfl, rfl, trivial⟩ ?_
  have hd := Ur (f := f) (show k < bs.length by omega)
  refine Cs (fun w hw => ?_) (ih ⟨J2, k, oq, cq⟩ ⟨hle.trans e3, by simp only; omega, by simp only; rw [hd]; exact hr2⟩ Eo)
  simp only; rw [hd]; exact hw
 intro c0
 try simp only [nb] at c0
 obtain rfl : k = 0 := by omega
 rw [List.drop_zero] at hr
 simp only [List.drop_zero]
 refine Ce rfl ?_; refine Se rfl ?_; refine A2 rfl .free rfl ?_; refine Bu rfl rfl rfl rfl .free ?_; refine Ab ?_; refine Al (.c rfl .nil) ?_
 exact ⟨J, L, hle, Bk, _, rfl, hr, rfl⟩
end Go.Proofs.YtmfagaajiakgoaaGreatDoor
