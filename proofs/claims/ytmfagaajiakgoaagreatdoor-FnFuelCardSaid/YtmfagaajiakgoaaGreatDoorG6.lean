/- Which forms are expressions, by the program. No conditions. -/
import Derived.Test.YtmfagaajiakgoaaGreatDoorG5

namespace Go.Proofs.YtmfagaajiakgoaaGreatDoor
set_option maxRecDepth 100000
set_option linter.unusedVariables false
set_option linter.unusedSimpArgs false

theorem Abk {t : Tree} (h : De t ≠ []) : t.parts.length = (Ax t.head).2 := by
 unfold De at h
 split at h
 ·assumption
 ·exact absurd rfl h
theorem Tree.size_maxN {t : Tree} (h : t.len ≤ 12000 * 1000) : t.size ≤ Bd := by have := t.size_len; unfold Bd; omega
theorem Rr : ∀ (n : Nat) {I : Heap} {t : Tree} {cs : List Value} (_ : SizeOf.sizeOf t < n) (_ : Rep I t cs) (_ : t.good = true) (_ : t.len ≤ 12000000) (L : Bl),
  Fun Tryz.prog 141 [.agg cs.toArray] I L (Ed (.bool t.ex.isSome) I L) := by
 intro n
 induction n with
 | zero => intro I t cs h; omega
 | succ n ihn =>
  intro I t cs hlt h hg hz L; obtain ⟨oa, c, oaf, cf, rfl, hf⟩ := h.at'
  have hp := hf.len
  unfold Bd at hp
  refine Ao Ad ?_; refine Se rfl ?_; refine Cg rfl rfl .free rfl ?_; intro b1; refine Oa rfl (Ab (Ah (Se rfl ?_))); refine Bj rfl .free rfl ?_; refine Ca rfl (Cs h _) ?_; rintro _ _ _ _ ⟨rfl, rfl, rfl⟩; refine Ab ?_; refine Az rfl ?_ ?_
  ·intro c0
   try simp only [nb] at c0
   refine Se rfl ?_; refine Bj rfl .free rfl ?_; refine Ca rfl (Rq h _) ?_; rintro _ _ _ _ ⟨rfl, rfl, rfl⟩; refine Oa rfl (Ab (Al (.tmp rfl .nil) ?_)); refine only rfl ?_
   have e : t.parts = [] := by simpa using c0
   refine congrArg Value.bool ?_
   cases t with
   | node a ps =>
    simp only [Tree.parts] at e
    subst e
    simp only [Tree.parts, Tree.atom, Tree.ex, List.isEmpty_nil, Bool.true_and]
    cases Bu a <;> cases Bz a <;> rfl
  intro c0
  try simp only [nb] at c0
  have hne : t.parts ≠ [] := by simpa using c0
  refine Aj (Se rfl ?_); refine Bj rfl .free rfl ?_; refine Ca rfl (D3 h _) ?_; rintro _ J _ e ⟨ok, ck, rfl, hk, rfl⟩
  have hf := hf.mono e
  refine Oa rfl (Ab (Ah (Se rfl (Om rfl (On rfl (Oc rfl rfl rfl (Ab ?_))))))); refine Az rfl ?_ ?_
  ·intro c1
   try simp only [nb] at c1
   have hk0 : De t = [] := List.length_eq_zero_iff.1 Aa
   refine Se rfl (Oa rfl (Ab (Al (.tmp rfl .nil) ?_))); refine Jq e Cb ?_; rw [Sj hne hk0]; rfl
  intro c1
  try simp only [nb] at c1
  have hk0 : De t ≠ [] := fun h0 => c1 (by rw [h0]; rfl)
  have hkl := Abk hk0
  have hks := Sk hk0
  have hkm := hk.cap
  have hk5 := Acy t
  refine Aj (Ah (Se rfl (Om rfl (On rfl (Om rfl (Ab (Ar ?_))))))); refine Dy (X := Nat) (fun i => (De t).length - i) (fun i => [(1, .pointer (some ⟨b1, 0, none⟩)), (17, .slice ok (De t).length ck), (18, .int .i64 ((De t).length : Nat)), (19, .int .i64 (i : Nat))]) (fun _ => J) (fun _ => (b1, .cells [.string (str t.atom), .slice oa t.parts.length c].toArray _ (0, 0)) :: L) (fun i => i ≤ (De t).length ∧ ((De t).take i).all (fun i => (t.pt i).ex.isSome) = true) 0 ⟨by omega, rfl⟩ ⟨rfl, rfl, rfl, rfl, trivial⟩ Cb ?_; rintro i ⟨hi, hall⟩ ih; refine Se rfl (Oc rfl rfl rfl (Ab (Ah ?_)))
  refine Az rfl ?_ ?_
  ·intro c2
   try simp only [nb] at c2
   have hki : (De t).getD i 0 = (De t)[i] := by simp [show i < (De t).length by omega]
   have hkt : (De t).getD i 0 < t.parts.length := by rw [hki]; exact (Acz (List.getElem_mem (show i < (De t).length by omega))).1
   refine Aj (Ah (Ar (Se rfl ?_)))
   first | refine Bh rfl rfl _ rfl .free rfl ?_ | refine Bi rfl rfl _ rfl .free rfl ?_
   refine Et rfl .free rfl ?_; refine Oa rfl (Ab (Se rfl (Oh rfl ?_))); refine A9 rfl .free rfl ?_; refine Om rfl ?_
   first | refine Bh rfl rfl _ rfl .free rfl ?_ | refine Bi rfl rfl _ rfl .free rfl ?_
   refine Ia rfl .free rfl ?_; refine Ca rfl (ihn (t := t.pt ((De t).getD i 0)) (by have := t.pt_lt _ hkt; omega) (hf.rp _ hkt) (Tree.pt_good hg _ hkt) (by have := t.pt_len _ hkt; omega) _) ?_; rintro _ _ _ _ ⟨rfl, rfl, rfl⟩; refine Dv rfl .free rfl ?_; refine Ab ?_; refine Az rfl ?_ ?_
   ·intro c3
    try simp only [nb] at c3
    refine Se rfl (Oa rfl (Ab (Al (.tmp rfl .nil) ?_))); refine Jq e Cb ?_; rw [hks]
    have : (De t).all (fun i => (t.pt i).ex.isSome) = false := by
     rw [List.all_eq_false]; exact ⟨_, List.getElem_mem (show i < (De t).length by omega), by rw [← hki]; simpa using c3⟩
    rw [this]; rfl
   intro c3
   try simp only [nb] at c3
   refine Aj (Aq (Am rfl ?_)); refine Or rfl rfl rfl ?_; refine Om rfl (Ab ?_); refine Dl (E' := [(1, .pointer (some ⟨b1, 0, none⟩)), (17, .slice ok (De t).length ck), (18, .int .i64 ((De t).length : Nat)), (19, .int .i64 ((i + 1 : Nat)))]) ⟨rfl, rfl, rfl, rfl, trivial⟩ (ih (i + 1) ⟨by omega, ?_⟩ Aa); rw [List.take_succ_eq_append_getElem Aa, List.all_append, hall]
   simp only [List.all_cons, List.all_nil, Bool.and_true, Bool.true_and]
   rw [← hki]; simpa using c3
  intro c2
  try simp only [nb] at c2
  obtain rfl : i = (De t).length := by omega
  rw [List.take_length] at hall; rw [hall] at hks; refine Cd rfl ?_; refine Ah (Se rfl ?_); refine Bj rfl .free rfl ?_; refine Ca rfl (Cf hf.rep _) ?_; rintro _ _ _ _ ⟨rfl, rfl, rfl⟩; refine Ab (Ar (Se rfl (Od rfl rfl rfl (Oa rfl (Ab ?_))))); refine Az rfl ?_ ?_
  ·intro c4
   try simp only [nb] at c4
   have hl4 : t.parts.length = 4 := by rw [hkl, c4]; decide
   have ha1 := (hf.rp 1 Aa).atom_le
   refine Se rfl (Oh rfl ?_); refine A9 rfl .free rfl ?_
   first | refine Bh rfl rfl 1 rfl .free rfl ?_ | refine Bi rfl rfl 1 rfl .free rfl ?_
   refine Be rfl .free rfl ?_; refine Gf rfl .free rfl ?_; refine Ca rfl (Jt (t.pt 1).atom ha1 _ _) ?_; rintro _ _ _ _ ⟨rfl, rfl, rfl⟩; refine Oa rfl (Ab (Al (.tmp rfl .nil) ?_)); refine Jq e Cb ?_; rw [hks, Lb, if_pos (show t.head = D6 from c4)]; rfl
  intro c4
  try simp only [nb] at c4
  refine Se rfl (Od rfl rfl rfl (Oa rfl (Ab ?_))); refine Az rfl ?_ ?_
  ·intro c5
   try simp only [nb] at c5
   have hl6 : t.parts.length = 6 := by rw [hkl, c5]; decide
   have ha1 := (hf.rp 1 Aa).atom_le
   have ha2 := (hf.rp 2 Aa).atom_le
   have hz3 := t.pt_len 3 Aa
   have hz4 := t.pt_len 4 Aa
   refine Ah ?_; refine Fj 12 rfl rfl ?_; refine Da 0 rfl (Ap rfl) ?_; refine Dt 1 [12] rfl (Bx rfl) ?_
   first | refine Da 2 rfl (Bp rfl rfl 1 rfl) ?_ | refine Da 2 rfl (Bq rfl rfl 1 rfl) ?_
   refine Da 3 rfl (Bn rfl) ?_; refine Dt 4 [12] rfl (L6 rfl) ?_; refine Da 5 rfl (Ap rfl) ?_; refine Dt 6 [12] rfl (Bx rfl) ?_
   first | refine Da 7 rfl (Bp rfl rfl 2 rfl) ?_ | refine Da 7 rfl (Bq rfl rfl 2 rfl) ?_
   refine Da 8 rfl (Bn rfl) ?_; refine Dt 9 [12] rfl (L6 rfl) ?_; refine Da 10 rfl (A2 rfl) ?_; refine Da 11 rfl (A2 rfl) ?_; refine Bg Af ?_; refine Se rfl (Om rfl ?_); refine Ca rfl (Jt (t.pt 1).atom ha1 _ _) ?_; rintro _ _ _ _ ⟨rfl, rfl, rfl⟩; refine Om rfl ?_
   apply C0 55 58 rfl
   ·intro g17_3 hk
    try simp only [nb] at g17_3
    refine Ow rfl ?_; refine C1 rfl (.met rfl rfl) rfl (Jt (t.pt 2).atom ha2 _ _) ?_; rintro _ _ _ _ ⟨rfl, rfl, rfl⟩; refine Ot rfl rfl ?_
    exact Aw 2 rfl rfl hk
   ·intro _ hk; refine A0 2 rfl ?_; refine Of rfl rfl ?_
    exact Aw 2 rfl rfl hk
   refine Om rfl ?_
   apply C0 59 63 rfl
   ·intro g17_7 hk
    try simp only [nb] at g17_7
    refine Ow rfl (Ow rfl ?_); refine Ci rfl rfl rfl (.met rfl rfl) rfl ?_; refine Ot rfl rfl ?_
    exact Aw 3 rfl rfl hk
   ·intro _ hk; refine A0 3 rfl ?_; refine Of rfl rfl ?_
    exact Aw 3 rfl rfl hk
   refine Om rfl ?_
   apply C0 64 70 rfl
   ·intro g17_12 hk
    try simp only [nb] at g17_12
    refine Ay rfl (.met rfl rfl) rfl ?_; refine A9 rfl (.met rfl rfl) rfl ?_
    first | refine Bh rfl rfl 3 rfl (.met rfl rfl) rfl ?_ | refine Bi rfl rfl 3 rfl (.met rfl rfl) rfl ?_
    refine Ia rfl (.met rfl rfl) rfl ?_; refine C1 rfl (.met rfl rfl) rfl (Nq (hf.rp 3 Aa) (Tree.size_maxN Aa) _) ?_; rintro _ _ _ _ ⟨rfl, rfl, rfl⟩; refine Ot rfl rfl ?_
    exact Aw 5 rfl rfl hk
   ·intro _ hk; refine A0 5 rfl ?_; refine Of rfl rfl ?_
    exact Aw 5 rfl rfl hk
   refine Om rfl ?_
   apply C0 71 77 rfl
   ·intro g17_19 hk
    try simp only [nb] at g17_19
    refine Ay rfl (.met rfl rfl) rfl ?_; refine A9 rfl (.met rfl rfl) rfl ?_
    first | refine Bh rfl rfl 4 rfl (.met rfl rfl) rfl ?_ | refine Bi rfl rfl 4 rfl (.met rfl rfl) rfl ?_
    refine Ia rfl (.met rfl rfl) rfl ?_; refine C1 rfl (.met rfl rfl) rfl (Nq (hf.rp 4 Aa) (Tree.size_maxN Aa) _) ?_; rintro _ _ _ _ ⟨rfl, rfl, rfl⟩; refine Ot rfl rfl ?_
    exact Aw 5 rfl rfl hk
   ·intro _ hk; refine A0 5 rfl ?_; refine Of rfl rfl ?_
    exact Aw 5 rfl rfl hk
   refine Oa rfl (Ab (Al (.tmp rfl .nil) ?_)); refine Jq e Cb ?_; rw [hks, Lb, if_neg (show ¬ t.head = D6 from c4), if_pos (show t.head = D0 from c5)]
   simp [C6]
  intro c5
  try simp only [nb] at c5
  refine Aj (Aq (Se rfl (Oa rfl (Ab (Al (.tmp rfl .nil) ?_))))); refine Jq e Cb ?_; rw [hks, Lb, if_neg (show ¬ t.head = D6 from c4), if_neg (show ¬ t.head = D0 from c5)]; rfl
theorem Lc {t : Tree} (hg : t.good = true) (h : t.atom = []) : t.parts ≠ [] ∧ 0 < t.parts.length := by
 have : t.parts ≠ [] := by rcases t.good_cases hg with hh | hh <;> simp_all
 exact ⟨this, List.length_pos_iff.2 this⟩
theorem K2 {t : Tree} (hg : t.good = true) (h : t.atom ≠ []) : t.parts = [] := by rcases t.good_cases hg with hh | hh <;> simp_all
theorem Mh {t : Tree} (h : 0 < t.parts.length) : t.head = (t.pt 0).atom := by
 cases t with
 | node a ps => cases ps with
  | nil => simp [Tree.parts] at h
  | cons p ps => rfl
theorem Aci {t : Tree} (h : t.parts = []) : t.ex.isSome = (Bu t.atom || Bz t.atom) := by
 cases t with
 | node a ps =>
  simp only [Tree.parts] at h
  subst h
  simp only [Tree.atom, Tree.ex]
  cases Bu a <;> cases Bz a <;> rfl
theorem We (h : As) : (Ax h).1 ≤ (Ax h).2 ∧ (Ax h).2 ≤ 6 ∧ ((Ax h).1 = 0 → (Ax h).2 = 0) ∧ ((Ax h).1 ≠ 0 → (Ax h).1 < (Ax h).2) ∧ (1 < (Ax h).1 ↔ h = D6 ∨ h = D0) ∧ ((Ax h).1 = 5 ↔ h = D0) ∧ ((Ax h).1 = 5 → (Ax h).2 = 6) := by
 rcases Gs h with ⟨o, e, hr⟩ | ⟨e, hr⟩ | ⟨e, hr⟩ | ⟨e, hr⟩ | ⟨o, e, hr⟩ | ⟨hr, _, _, _, h4, h5⟩
 ·rw [hr, e]; have := o.txt_ne; simp [this]
 ·rw [hr, e]; simp; decide
 ·rw [hr, e]; simp; decide
 ·rw [hr, e]; simp
 ·rw [hr, e]; have := o.txt_ne; simp [this]
 ·rw [hr]; simp [h4, h5]
theorem Xj {t : Tree} (h : t.parts.length = (Ax t.head).2) : De t = List.range' (Ax t.head).1 ((Ax t.head).2 - (Ax t.head).1) := if_pos h

theorem Zd : ∀ (n : Nat) {I : Heap} {t : Tree} {cs : List Value} (_ : SizeOf.sizeOf t < n) (_ : Rep I t cs) (_ : t.good = true) (_ : t.len ≤ 12000000) (L : Bl),
  Fun Tryz.prog 95 [.agg cs.toArray] I L (Ed (.bool t.ex.isSome) I L) := by
 intro n
 induction n with
 | zero => intro I t cs h; omega
 | succ n ihn =>
  intro I t cs hlt h hg hz L; obtain ⟨oa, c, oaf, cf, rfl, hf⟩ := h.at'
  have hp := hf.len
  have ha := hf.alen
  unfold Bd at hp
  refine Ao Ad ?_; refine Se rfl ?_; refine Cg rfl rfl .free rfl ?_; intro b1; refine Oa rfl (Ab (Ah (Se rfl (Oh rfl ?_)))); refine A9 rfl .free rfl ?_; refine Od rfl rfl rfl (Ab ?_); refine Az rfl ?_ ?_
  ·intro c0
   try simp only [nb] at c0
   refine Se rfl (Oh rfl ?_); refine A9 rfl .free rfl ?_; refine Ca rfl (M2 t.atom ha _ _) ?_; rintro _ _ _ _ ⟨rfl, rfl, rfl⟩; refine Om rfl (Oe rfl rfl (Oe rfl rfl (Oa rfl (Oa rfl (Ab (Se rfl (Om rfl (Om rfl ?_))))))))
   apply Gk 18 22 rfl
   ·intro g3_2 hk
    try simp only [nb] at g3_2
    refine Ay rfl (.met rfl rfl) rfl ?_; refine A9 rfl (.met rfl rfl) rfl ?_; refine C1 rfl (.met rfl rfl) rfl (Nu t.atom ha _ _) ?_; rintro _ _ _ _ ⟨rfl, rfl, rfl⟩; refine Of rfl rfl ?_
    exact Aw 3 rfl rfl hk
   ·intro _ hk; refine A0 3 rfl ?_; refine Ot rfl rfl ?_
    exact Aw 3 rfl rfl hk
   refine Oa rfl (Ab (Al (.tmp rfl .nil) ?_)); refine only rfl ?_; rw [Aci (K2 hg Ev)]
   exact congrArg Value.bool (Bool.or_comm ..)
  intro c0
  try simp only [nb] at c0
  obtain ⟨hne, h0⟩ := Lc hg Ev
  have hhd := Mh h0
  obtain ⟨k1, k2, k3, k4, k5, k6, k7⟩ := We t.head; refine Aj (Se rfl (Oh rfl ?_)); refine A9 rfl .free rfl ?_
  first | refine Bh rfl rfl 0 rfl .free rfl ?_ | refine Bi rfl rfl 0 rfl .free rfl ?_
  refine Be rfl .free rfl ?_; refine Gf rfl .free rfl ?_; refine Ca rfl (Vt (t.pt 0).atom _ _) ?_; rw [← hhd]; rintro _ _ _ _ ⟨rfl, rfl, rfl⟩; refine Om rfl (Oe rfl rfl (Oe rfl rfl (Oa rfl (Oa rfl (Ab (Ah (Se rfl (Om rfl (Oc rfl rfl rfl (Om rfl ?_))))))))))
  apply Gk 34 40 rfl
  ·intro g5_3 hk
   try simp only [nb] at g5_3
   refine Ay rfl (.met rfl rfl) rfl ?_; refine A9 rfl (.met rfl rfl) rfl ?_; refine Kf rfl (.met rfl rfl) rfl ?_; refine Ow rfl ?_; refine Dj rfl rfl rfl (.met rfl rfl) rfl ?_; refine Of rfl rfl ?_
   exact Aw 5 rfl rfl hk
  ·intro _ hk; refine A0 5 rfl ?_; refine Ot rfl rfl ?_
   exact Aw 5 rfl rfl hk
  refine Ab ?_; refine Az rfl ?_ ?_
  ·intro c1
   try simp only [nb] at c1
   refine Se rfl (Oa rfl (Ab (Al (.tmp rfl .nil) ?_))); refine only rfl ?_
   have hk : De t = [] := by
    unfold De
    split
    ·have : (Ax t.head).1 = 0 := by omega
     rw [this, k3 this]; rfl
    ·rfl
   rw [Sj hne hk]; rfl
  intro c1
  try simp only [nb] at c1
  have hl : t.parts.length = (Ax t.head).2 := by omega
  have hkr := Xj hl
  have hk0 : De t ≠ [] := by
   intro e; rw [e] at hkr; have := congrArg List.length hkr; simp at this; omega
  have hks := Sk hk0
  refine Aj (Ah (Se rfl (Om rfl (Oc rfl rfl rfl (Om rfl ?_)))))
  apply C0 43 51 rfl
  ·intro g7_3 hk
   try simp only [nb] at g7_3
   have hl1 : 1 < t.parts.length := by omega
   have ha1 := (hf.rp 1 hl1).atom_le
   refine Ay rfl (.met rfl rfl) rfl ?_; refine A9 rfl (.met rfl rfl) rfl ?_
   first | refine Bh rfl rfl 1 rfl (.met rfl rfl) rfl ?_ | refine Bi rfl rfl 1 rfl (.met rfl rfl) rfl ?_
   refine Be rfl (.met rfl rfl) rfl ?_; refine Gf rfl (.met rfl rfl) rfl ?_; refine C1 rfl (.met rfl rfl) rfl (Nu (t.pt 1).atom ha1 _ _) ?_; rintro _ _ _ _ ⟨rfl, rfl, rfl⟩; refine Dv rfl (.met rfl rfl) rfl ?_; refine Ot rfl rfl ?_
   exact Aw 7 rfl rfl hk
  ·intro _ hk; refine A0 7 rfl ?_; refine Of rfl rfl ?_
   exact Aw 7 rfl rfl hk
  refine Ab ?_; refine Az rfl ?_ ?_
  ·intro c2
   try simp only [nb] at c2
   refine Se rfl (Oa rfl (Ab (Al (.tmp rfl .nil) ?_))); refine only rfl ?_
   have hl1 : 1 < t.parts.length := by omega
   have h1 : 1 < (Ax t.head).1 := by omega
   rw [hks, Lb]
   rcases k5.1 h1 with e | e
   ·rw [if_pos e, c2.2]; simp [C6]
   ·rw [if_neg (by rw [e]; decide), if_pos e, c2.2]; simp [C6]
  intro c2
  try simp only [nb] at c2
  refine Aj (Ah (Ah ?_)); refine Fj 40 rfl rfl ?_; refine Da 0 rfl (Ai rfl) ?_; refine Da 1 rfl (Oo rfl rfl rfl) ?_; refine Da 2 rfl (Ai rfl) ?_
  apply R2 54 91 rfl
  ·intro g9_3 hk
   try simp only [nb] at g9_3
   have h56 : (Ax t.head).1 = 5 := by omega
   have h6 := k7 h56
   have ha1 := (hf.rp 1 Aa).atom_le
   have ha2 := (hf.rp 2 Aa).atom_le
   have hz3 := t.pt_len 3 Aa
   have hz4 := t.pt_len 4 Aa
   have hg3 := Tree.pt_good hg 3 Aa
   have hg4 := Tree.pt_good hg 4 Aa
   refine Dm 3 rfl (Ap rfl) ?_; refine Hb 4 [40] rfl Af rfl Bb (Bx rfl) (.met rfl rfl) rfl ?_
   first | refine Dm 5 rfl (Bp rfl rfl 2 rfl) ?_ | refine Dm 5 rfl (Bq rfl rfl 2 rfl) ?_
   refine Dm 6 rfl (Bn rfl) ?_; refine Hb 7 [40] rfl Af rfl Bb (L6 rfl) (.met rfl rfl) rfl ?_; refine K9 8 rfl Af rfl rfl (.met rfl rfl) rfl (Nu (t.pt 2).atom ha2 _ _) ?_; rintro _ _ _ _ ⟨rfl, rfl, rfl⟩; refine Hx ?_; refine Dm 9 rfl (Yn rfl) ?_; refine Dm 10 rfl (Ai rfl) ?_
   apply Adp 62 74 rfl
   ·intro g9_11 hk
    try simp only [nb] at g9_11
    refine Dm 11 rfl (Ap rfl) ?_; refine Hb 12 [40] rfl Af rfl Bb (Bx rfl) (.met rfl rfl) rfl ?_
    first | refine Dm 13 rfl (Bp rfl rfl 1 rfl) ?_ | refine Dm 13 rfl (Bq rfl rfl 1 rfl) ?_
    refine Dm 14 rfl (Bn rfl) ?_; refine Hb 15 [40] rfl Af rfl Bb (L6 rfl) (.met rfl rfl) rfl ?_; refine Dm 16 rfl (Ap rfl) ?_; refine Hb 17 [40] rfl Af rfl Bb (Bx rfl) (.met rfl rfl) rfl ?_
    first | refine Dm 18 rfl (Bp rfl rfl 2 rfl) ?_ | refine Dm 18 rfl (Bq rfl rfl 2 rfl) ?_
    refine Dm 19 rfl (Bn rfl) ?_; refine Hb 20 [40] rfl Af rfl Bb (L6 rfl) (.met rfl rfl) rfl ?_; refine Dm 21 rfl (Uq rfl rfl rfl) ?_; refine Dm 22 rfl (Ez rfl rfl) ?_
    exact H7 11 rfl rfl hk
   ·intro _ hk; refine Ds 11 rfl rfl rfl ?_; refine Ds 12 rfl rfl rfl ?_; refine Ds 13 rfl rfl rfl ?_; refine Ds 14 rfl rfl rfl ?_; refine Ds 15 rfl rfl rfl ?_; refine Ds 16 rfl rfl rfl ?_; refine Ds 17 rfl rfl rfl ?_; refine Ds 18 rfl rfl rfl ?_; refine Ds 19 rfl rfl rfl ?_; refine Ds 20 rfl rfl rfl ?_; refine Ds 21 rfl rfl rfl ?_; refine Dm 22 rfl (Fh rfl rfl) ?_
    exact H7 11 rfl rfl hk
   refine Dm 23 rfl (Ai rfl) ?_
   apply Adp 75 82 rfl
   ·intro g9_24 hk
    try simp only [nb] at g9_24
    refine Dm 24 rfl (Ap rfl) ?_; refine Hb 25 [40] rfl Af rfl Bb (Bx rfl) (.met rfl rfl) rfl ?_
    first | refine Dm 26 rfl (Bp rfl rfl 3 rfl) ?_ | refine Dm 26 rfl (Bq rfl rfl 3 rfl) ?_
    refine Hb 27 [40] rfl Af rfl Bb (Dz rfl) (.met rfl rfl) rfl ?_; refine K9 28 rfl Af rfl rfl (.met rfl rfl) rfl (Me (hf.rp 3 Aa) hg3 (Tree.size_maxN Aa) _) ?_; rintro _ _ _ _ ⟨rfl, rfl, rfl⟩; refine Hx ?_; refine Dm 29 rfl (Yn rfl) ?_; refine Dm 30 rfl (Ez rfl rfl) ?_
    exact H7 6 rfl rfl hk
   ·intro _ hk; refine Ds 24 rfl rfl rfl ?_; refine Ds 25 rfl rfl rfl ?_; refine Ds 26 rfl rfl rfl ?_; refine Ds 27 rfl rfl rfl ?_; refine Ds 28 rfl rfl rfl ?_; refine Ds 29 rfl rfl rfl ?_; refine Dm 30 rfl (Fh rfl rfl) ?_
    exact H7 6 rfl rfl hk
   refine Dm 31 rfl (Ai rfl) ?_
   apply Adp 83 90 rfl
   ·intro g9_32 hk
    try simp only [nb] at g9_32
    refine Dm 32 rfl (Ap rfl) ?_; refine Hb 33 [40] rfl Af rfl Bb (Bx rfl) (.met rfl rfl) rfl ?_
    first | refine Dm 34 rfl (Bp rfl rfl 4 rfl) ?_ | refine Dm 34 rfl (Bq rfl rfl 4 rfl) ?_
    refine Hb 35 [40] rfl Af rfl Bb (Dz rfl) (.met rfl rfl) rfl ?_; refine K9 36 rfl Af rfl rfl (.met rfl rfl) rfl (Me (hf.rp 4 Aa) hg4 (Tree.size_maxN Aa) _) ?_; rintro _ _ _ _ ⟨rfl, rfl, rfl⟩; refine Hx ?_; refine Dm 37 rfl (Yn rfl) ?_; refine Dm 38 rfl (Ez rfl rfl) ?_
    exact H7 6 rfl rfl hk
   ·intro _ hk; refine Ds 32 rfl rfl rfl ?_; refine Ds 33 rfl rfl rfl ?_; refine Ds 34 rfl rfl rfl ?_; refine Ds 35 rfl rfl rfl ?_; refine Ds 36 rfl rfl rfl ?_; refine Ds 37 rfl rfl rfl ?_; refine Dm 38 rfl (Fh rfl rfl) ?_
    exact H7 6 rfl rfl hk
   refine Da 39 rfl (Fh rfl rfl) ?_
   exact H7 13 rfl rfl hk
  ·intro _ hk; refine Ds 3 rfl rfl rfl ?_; refine Ds 4 rfl rfl rfl ?_; refine Ds 5 rfl rfl rfl ?_; refine Ds 6 rfl rfl rfl ?_; refine Ds 7 rfl rfl rfl ?_; refine Ds 8 rfl rfl rfl ?_; refine Ds 9 rfl rfl rfl ?_; refine Ds 10 rfl rfl rfl ?_; refine Co 11 rfl Af rfl (.inr Bb) rfl rfl rfl ?_; refine Co 12 rfl Af rfl (.inr Bb) rfl rfl rfl ?_; refine Co 13 rfl Af rfl (.inr Bb) rfl rfl rfl ?_; refine Co 14 rfl Af rfl (.inr Bb) rfl rfl rfl ?_; refine Co 15 rfl Af rfl (.inr Bb) rfl rfl rfl ?_; refine Co 16 rfl Af rfl (.inr Bb) rfl rfl rfl ?_; refine Co 17 rfl Af rfl (.inr Bb) rfl rfl rfl ?_
   refine Co 18 rfl Af rfl (.inr Bb) rfl rfl rfl ?_; refine Co 19 rfl Af rfl (.inr Bb) rfl rfl rfl ?_; refine Co 20 rfl Af rfl (.inr Bb) rfl rfl rfl ?_; refine Co 21 rfl Af rfl (.inr Bb) rfl rfl rfl ?_; refine Ds 22 rfl rfl rfl ?_; refine Ds 23 rfl rfl rfl ?_; refine Co 24 rfl Af rfl (.inr Bb) rfl rfl rfl ?_; refine Co 25 rfl Af rfl (.inr Bb) rfl rfl rfl ?_; refine Co 26 rfl Af rfl (.inr Bb) rfl rfl rfl ?_; refine Co 27 rfl Af rfl (.inr Bb) rfl rfl rfl ?_; refine Co 28 rfl Af rfl (.inr Bb) rfl rfl rfl ?_; refine Co 29 rfl Af rfl (.inr Bb) rfl rfl rfl ?_; refine Ds 30 rfl rfl rfl ?_
   refine Ds 31 rfl rfl rfl ?_; refine Co 32 rfl Af rfl (.inr Bb) rfl rfl rfl ?_; refine Co 33 rfl Af rfl (.inr Bb) rfl rfl rfl ?_; refine Co 34 rfl Af rfl (.inr Bb) rfl rfl rfl ?_; refine Co 35 rfl Af rfl (.inr Bb) rfl rfl rfl ?_; refine Co 36 rfl Af rfl (.inr Bb) rfl rfl rfl ?_; refine Co 37 rfl Af rfl (.inr Bb) rfl rfl rfl ?_; refine Ds 38 rfl rfl rfl ?_; refine Da 39 rfl (Ez rfl rfl) ?_
   exact H7 36 rfl rfl hk
  refine Bg Af ?_; refine Az rfl ?_ ?_
  ·intro c3
   try simp only [nb] at c3
   have h56 : (Ax t.head).1 = 5 := by omega
   have h6 := k7 h56
   refine Se rfl (Oa rfl (Ab (Al (.tmp rfl .nil) ?_))); refine only rfl ?_
   have hh := k6.1 h56
   rw [hks, Lb, if_neg (by rw [hh]; decide), if_pos hh]
   have : (Bu (t.pt 1).atom && Bu (t.pt 2).atom && decide ((t.pt 1).atom ≠ (t.pt 2).atom) && (t.pt 3).typed && (t.pt 4).typed) = false := by
    have := c3.2
    grind
   rw [this]; simp [C6]
  intro c3
  try simp only [nb] at c3
  have htail : Lb t = true := by
   unfold Lb
   by_cases e : t.head = D6
   ·rw [if_pos e]
    have := k5.2 (.inl e)
    rcases c2 with h | h
    ·omega
    ·simpa using h
   ·rw [if_neg e]
    by_cases e' : t.head = D0
    ·have h5 := k6.2 e'
     have h6 := k7 h5
     rw [if_pos e']
     grind
    ·rw [if_neg e']
  refine Aj (Ah (Se rfl (Om rfl (Oa rfl (Ab (Ar ?_)))))); refine Dy (X := Nat) (fun j => (De t).length - j) (fun j => [(1, .pointer (some ⟨b1, 0, none⟩)), (6, .int .i64 ((Ax t.head).2 : Nat)), (7, .int .i64 (((Ax t.head).1 + j : Nat)))]) (fun _ => I) (fun _ => (b1, .cells [.string (str t.atom), .slice oa t.parts.length c].toArray _ (0, 0)) :: L) (fun j => j ≤ (De t).length ∧ ((De t).take j).all (fun i => (t.pt i).ex.isSome) = true) 0 ⟨by omega, rfl⟩ ⟨rfl, rfl, rfl, trivial⟩ Cb ?_; rintro j ⟨hj, hall⟩ ih
  have hkl : (De t).length = (Ax t.head).2 - (Ax t.head).1 := by rw [hkr, List.length_range']
  refine Ah (Se rfl (Om rfl (Om rfl (Oc rfl rfl rfl (Ab ?_))))); refine Az rfl ?_ ?_
  ·intro c4
   try simp only [nb] at c4
   have hjl : j < (De t).length := by omega
   have hkj : (De t)[j] = (Ax t.head).1 + j := by simp only [hkr, List.getElem_range']; omega
   have hkt : (Ax t.head).1 + j < t.parts.length := by omega
   refine Aj (Ah (Ar (Se rfl (Oh rfl ?_)))); refine A9 rfl .free rfl ?_; refine Om rfl ?_
   first | refine Bh rfl rfl _ rfl .free rfl ?_ | refine Bi rfl rfl _ rfl .free rfl ?_
   refine Ia rfl .free rfl ?_; refine Ca rfl (ihn (t := t.pt ((Ax t.head).1 + j)) (by have := t.pt_lt _ hkt; omega) (hf.rp _ hkt) (Tree.pt_good hg _ hkt) (by have := t.pt_len _ hkt; omega) _) ?_; rintro _ _ _ _ ⟨rfl, rfl, rfl⟩; refine Dv rfl .free rfl ?_; refine Ab ?_; refine Az rfl ?_ ?_
   ·intro c5
    try simp only [nb] at c5
    refine Se rfl (Oa rfl (Ab (Al (.tmp rfl .nil) ?_))); refine only rfl ?_; rw [hks]
    have : (De t).all (fun i => (t.pt i).ex.isSome) = false := by
     rw [List.all_eq_false]; exact ⟨_, List.getElem_mem hjl, by rw [hkj]; simpa using c5⟩
    rw [this]; rfl
   intro c5
   try simp only [nb] at c5
   refine Aj (Aq (Am rfl (Om rfl ?_))); refine Or rfl rfl rfl ?_; refine Oa rfl (Ab ?_); refine Dl (E' := [(1, .pointer (some ⟨b1, 0, none⟩)), (6, .int .i64 ((Ax t.head).2 : Nat)), (7, .int .i64 (((Ax t.head).1 + (j + 1) : Nat)))]) ⟨rfl, rfl, rfl, trivial⟩ (ih (j + 1) ⟨by omega, ?_⟩ Aa); rw [List.take_succ_eq_append_getElem hjl, List.all_append, hall]
   simp only [List.all_cons, List.all_nil, Bool.and_true, Bool.true_and]
   rw [hkj]; simpa using c5
  intro c4
  try simp only [nb] at c4
  refine Cd rfl ?_; refine Se rfl (Oa rfl (Ab (Al (.tmp rfl .nil) ?_))); refine only rfl ?_; obtain rfl : j = (De t).length := by omega
  rw [List.take_length] at hall; rw [hks, hall, htail]; rfl

def Q7 (ps : List Tree) (i : Nat) : As := if i = 0 then [40] else G8 (ps.take i)
theorem Zv (ps : List Tree) (i : Nat) (hi : i < ps.length) : Q7 ps (i + 1) = (if i = 0 then Q7 ps i else Q7 ps i ++ [32]) ++ ps[i].text := by
 unfold Q7
 rw [if_neg Aa, Q6 ps i hi]
 by_cases h : i = 0
 ·simp [h, G8]
 ·simp [h]
theorem Abx (ps : List Tree) (i : Nat) (hi : i ≤ ps.length) : (Q7 ps i).length ≤ 1 + (G8 ps).length := by
 unfold Q7
 split
 ·simp
 ·have := Sp ps i; omega
theorem Ly : ∀ (n : Nat) {I : Heap} {t : Tree} {cs : List Value} (_ : SizeOf.sizeOf t < n) (_ : Rep I t cs) (_ : t.good = true) (_ : t.len ≤ 12000000) (L : Bl),
  Fun Tryz.prog 73 [.agg cs.toArray] I L (Ed (.string (str t.text)) I L) := by
 intro n
 induction n with
 | zero => intro I t cs h; omega
 | succ n ihn =>
  intro I t cs hlt h hg hz L; obtain ⟨oa, c, oaf, cf, rfl, hf⟩ := h.at'
  have hp := hf.len
  unfold Bd at hp
  refine Ao Ad ?_; refine Se rfl ?_; refine Cg rfl rfl .free rfl ?_; intro b1; refine Oa rfl (Ab (Ah (Se rfl (Oh rfl ?_)))); refine A9 rfl .free rfl ?_; refine Od rfl rfl rfl (Ab ?_); refine Az rfl ?_ ?_
  ·intro c0
   try simp only [nb] at c0
   refine Se rfl (Oh rfl ?_); refine A9 rfl .free rfl ?_; refine Oa rfl (Ab (Al (.tmp rfl .nil) ?_)); refine only rfl ?_; rw [t.text_atom (K2 hg Ev)]; rfl
  intro c0
  try simp only [nb] at c0
  obtain ⟨hne, h0⟩ := Lc hg Ev
  have htx := t.text_eq hne
  have htl := t.text_len
  rw [htx, List.length_append] at htl
  simp only [List.length_cons, List.length_nil] at htl
  refine Aj (Se rfl (Oa rfl (Ab (Ah (Se rfl (Oa rfl (Ab (Ar ?_)))))))); refine Dy (X := Nat) (fun i => t.parts.length - i) (fun i => [(1, .pointer (some ⟨b1, 0, none⟩)), (3, .string (str (Q7 t.parts i))), (4, .int .i64 (i : Nat))]) (fun _ => I) (fun _ => (b1, .cells [.string (str t.atom), .slice oa t.parts.length c].toArray _ (0, 0)) :: L) (fun i => i ≤ t.parts.length) 0 Aa ⟨rfl, rfl, rfl, trivial⟩ Cb ?_; rintro i hi ih
  have hol := Abx t.parts i hi
  refine Ah (Se rfl (Om rfl (Oh rfl ?_))); refine A9 rfl .free rfl ?_; refine On rfl (Oc rfl rfl rfl (Ab ?_)); refine Az rfl ?_ ?_
  ·intro c1
   try simp only [nb] at c1
   have hpl := t.pt_len i Aa
   have hos := Zv t.parts i Aa
   rw [← Tree.pt_at Aa] at hos
   have hpt := (t.pt i).text_len
   refine Aj (Ah (Ar (Ah (Se rfl (Om rfl (Oc rfl rfl rfl (Ab ?_))))))); refine Az rfl ?_ ?_
   ·intro c2
    try simp only [nb] at c2
    refine Am rfl (Om rfl ?_); refine Ok rfl rfl ?_; refine Oa rfl (Ab (Am rfl (Om rfl (Oh rfl ?_)))); refine A9 rfl .free rfl ?_; refine Om rfl ?_
    first | refine Bh rfl rfl _ rfl .free rfl ?_ | refine Bi rfl rfl _ rfl .free rfl ?_
    refine Ia rfl .free rfl ?_; refine Ca rfl (ihn (t := t.pt i) (by have := t.pt_lt i Aa; omega) (hf.rp i Aa) (Tree.pt_good hg i Aa) Aa _) ?_; rintro _ _ _ _ ⟨rfl, rfl, rfl⟩; refine Ok rfl rfl ?_; refine Oa rfl (Ab (Aq (Am rfl (Om rfl ?_)))); refine Or rfl rfl rfl ?_; refine Oa rfl (Ab ?_); refine Dl (E' := [(1, .pointer (some ⟨b1, 0, none⟩)), (3, .string (str (Q7 t.parts (i + 1)))), (4, .int .i64 ((i + 1 : Nat)))]) ⟨rfl, ?_, rfl, trivial⟩ (ih (i + 1) Aa Aa)
    first
     | (rw [hos, if_neg Aa]; rfl)
     | (rw [hos, if_pos Aa]; rfl)
   intro c2
   try simp only [nb] at c2
   refine Aj (Am rfl (Om rfl (Oh rfl ?_))); refine A9 rfl .free rfl ?_; refine Om rfl ?_
   first | refine Bh rfl rfl _ rfl .free rfl ?_ | refine Bi rfl rfl _ rfl .free rfl ?_
   refine Ia rfl .free rfl ?_; refine Ca rfl (ihn (t := t.pt i) (by have := t.pt_lt i Aa; omega) (hf.rp i Aa) (Tree.pt_good hg i Aa) Aa _) ?_; rintro _ _ _ _ ⟨rfl, rfl, rfl⟩; refine Ok rfl rfl ?_; refine Oa rfl (Ab (Aq (Am rfl (Om rfl ?_)))); refine Or rfl rfl rfl ?_; refine Oa rfl (Ab ?_); refine Dl (E' := [(1, .pointer (some ⟨b1, 0, none⟩)), (3, .string (str (Q7 t.parts (i + 1)))), (4, .int .i64 ((i + 1 : Nat)))]) ⟨rfl, ?_, rfl, trivial⟩ (ih (i + 1) Aa Aa)
   first
    | (rw [hos, if_neg Aa]; rfl)
    | (rw [hos, if_pos Aa]; rfl)
  intro c1
  try simp only [nb] at c1
  obtain rfl : i = t.parts.length := by omega
  have hpos : Q7 t.parts t.parts.length = G8 t.parts := by unfold Q7; rw [if_neg Aa, List.take_length]
  rw [hpos]; refine Cd rfl ?_; refine Se rfl (Om rfl ?_); refine Ok rfl rfl ?_; refine Oa rfl (Ab (Al (.tmp rfl .nil) ?_)); refine only rfl ?_; rw [htx]; rfl

theorem I8 {I : Heap} {t : Tree} {cs : List Value} (h : Rep I t cs) (hg : t.good = true) (hz : t.len ≤ 12000000) (L : Bl) :
  Fun Tryz.prog 91 [.agg cs.toArray] I L (Ed (.bool (decide (t.size ≤ 120) && t.fits && t.ex.isSome)) I L) := by
 obtain ⟨oa, c, oaf, cf, rfl, hf⟩ := h.at'; refine Ao Ad ?_; refine Se rfl ?_; refine Cg rfl rfl .free rfl ?_; intro b1; refine Oa rfl (Ab (Se rfl ?_)); refine Bj rfl .free rfl ?_; refine Ca rfl (Po _ (Nat.lt_succ_self _) h (Tree.size_maxN hz) _) ?_; rintro _ _ _ _ ⟨rfl, rfl, rfl⟩; refine Oc rfl rfl rfl (Om rfl ?_)
 apply C0 6 9 rfl
 ·intro g1_4 hk
  try simp only [nb] at g1_4
  refine Bj rfl (.met rfl rfl) rfl ?_; refine C1 rfl (.met rfl rfl) rfl (Ve h Cv _) ?_; rintro _ _ _ _ ⟨rfl, rfl, rfl⟩; refine Ot rfl rfl ?_
  exact Aw 2 rfl rfl hk
 ·intro _ hk; refine A0 2 rfl ?_; refine Of rfl rfl ?_
  exact Aw 2 rfl rfl hk
 refine Om rfl ?_
 apply C0 10 13 rfl
 ·intro g1_8 hk
  try simp only [nb] at g1_8
  refine Bj rfl (.met rfl rfl) rfl ?_; refine C1 rfl (.met rfl rfl) rfl (Rr _ (Nat.lt_succ_self _) h hg hz _) ?_; rintro _ _ _ _ ⟨rfl, rfl, rfl⟩; refine Ot rfl rfl ?_
  exact Aw 2 rfl rfl hk
 ·intro _ hk; refine A0 2 rfl ?_; refine Of rfl rfl ?_
  exact Aw 2 rfl rfl hk
 refine Oa rfl (Ab (Al (.tmp rfl .nil) ?_)); refine only rfl ?_
 have e : decide ((t.size : Int) ≤ 120) = decide (t.size ≤ 120) := by rw [Bool.eq_iff_iff]; simp; omega
 simp only [C6, e]

def RX (p : Option Ex) (L : Bl ) : Cx   := fun v I' L' => ∃ t cs ok, v = .tuple #[.agg cs.toArray, .bool ok] ∧ Rep I' t cs ∧ L = L' ∧
  (match p with
   | some e => ok = true ∧ t = e.tree
   | none => ok = false)
theorem H0 {s : As} {t : Tree} {ok : Bool} (hpf : match Df s with | some t0 => ok = true ∧ t = t0 | none => ok = false) (h : ok = true) : Df s = some t := by
 cases hp : Df s with
 | none => rw [hp] at hpf; simp [h] at hpf
 | some t0 => rw [hp] at hpf; rw [hpf.2]
theorem Fl {s : As} {t : Tree} (h : Df s = some t) : t.good = true ∧ t.len ≤ 12000000 ∧ t.fits = true := by
 obtain ⟨h1, h2, h3⟩ := Hn h
 simp only [Tree.fits, Bool.and_eq_true, decide_eq_true_eq] at h1
 exact ⟨h2, by omega, by simp [Tree.fits, h1]⟩
theorem Yb {s : As} {t : Tree} {ok : Bool} (hpf : match Df s with | some t0 => ok = true ∧ t = t0 | none => ok = false) (b : Bool) (hb : b = (ok && (decide (t.size ≤ 120) && t.ex.isSome))) :
  match E2 s with | some e => b = true ∧ t = e.tree | none => b = false := by
 cases ok with
 | false =>
  have hp : Df s = none := by
   cases hp : Df s with
   | none => rfl
   | some t0 => rw [hp] at hpf; exact absurd hpf.1 Ad
  unfold E2
  rw [hp]; simpa using hb
 | true =>
  have hp := H0 hpf rfl
  have hx : E2 s = match t.ex with | some e => (if e.size ≤ 120 then some e else none) | none => none := by unfold E2; rw [hp] <;> rfl
  cases he : t.ex with
  | none =>
   have h2 : E2 s = none := by rw [hx, he]
   rw [h2]; simpa [he] using hb
  | some e =>
   obtain ⟨rfl, _⟩ := Tree.ex_tree (Fl hp).1 he; rw [Ex.tree_size] at hb
   by_cases hz : e.size ≤ 120
   ·have h2 : E2 s = some e := by rw [hx, he]; exact if_pos hz
    rw [h2]; exact ⟨by rw [hb]; simp [hz, he], rfl⟩
   ·have h2 : E2 s = none := by rw [hx, he]; exact if_neg hz
    rw [h2]; simp [hb, hz]
theorem Qo (s : As) (hs : s.length ≤ Bd) (I : Heap) (L : Bl) : Fun Tryz.prog 47 [.string (str s)] I L (RX (E2 s) L) := by
 refine Ao Ad ?_; refine Se rfl ?_; refine A5 .free rfl ?_; intro b2; refine Oa rfl (Ab (Se rfl (Om rfl ?_))); refine Ca rfl (Adt s hs _ _) ?_; rintro _ J _ hleJ ⟨t, cs, ok, rfl, hrep, rfl, hpf⟩; obtain ⟨oa, cc, vs, rfl, -⟩ := hrep.open; refine Om rfl (Oe rfl rfl (Oe rfl rfl ?_)); refine A5 .free rfl ?_; intro b4; refine By rfl rfl rfl rfl .free ?_; refine Oa rfl (Ab (Ah ?_)); refine Fj 8 rfl rfl ?_; refine Dt 0 [6] rfl (D2 rfl) ?_; refine Da 1 rfl (Ai rfl) ?_; refine Da 2 rfl (Ai rfl) ?_
 apply R2 13 16 rfl
 ·intro g2_3 hk
  try simp only [nb] at g2_3
  obtain ⟨hg, hz, hfit⟩ := Fl (H0 hpf g2_3); refine Hb 3 [4, 6] rfl Af rfl Bb (D2 rfl) (.met rfl rfl) rfl ?_; refine K9 4 rfl Af rfl rfl (.met rfl rfl) rfl (I8 hrep hg hz _) ?_; rintro _ _ _ _ ⟨rfl, rfl, rfl⟩; refine Hx ?_; refine Da 5 rfl (Fh rfl rfl) ?_
  exact H7 2 rfl rfl hk
 ·intro _ hk; refine Ds 3 rfl rfl rfl ?_; refine Ds 4 rfl rfl rfl ?_; refine Da 5 rfl (Ez rfl rfl) ?_
  exact H7 2 rfl rfl hk
 refine Dx 6 rfl rfl rfl rfl ?_; refine Db 7 rfl (A2 rfl) ?_; refine Bg Af ?_; refine Al (.c rfl (.tmp rfl .nil)) ?_; refine ⟨J, L, hleJ, fun _ h => h.drop.drop, t, _, _, rfl, hrep, rfl, Yb hpf _ ?_⟩
 cases ok with
 | false => rfl
 | true =>
  obtain ⟨hg, hz, hfit⟩ := Fl (H0 hpf rfl)
  simp [hfit]
theorem M3 (s : As) (hs : s.length ≤ Kr) (I : Heap) (L : Bl) : Fun Tryz.prog 51 [.string (str s)] I L (RX (E2 s) L) := by
 refine Ao Ad ?_; refine Se rfl ?_; refine A5 .free rfl ?_; intro b2; refine Oa rfl (Ab (Se rfl (Om rfl ?_))); refine Ca rfl (Hl s hs _ _) ?_; rintro _ J _ hleJ ⟨t, cs, ok, rfl, hrep, rfl, hpf⟩; obtain ⟨oa, cc, vs, rfl, -⟩ := hrep.open; refine Om rfl (Oe rfl rfl (Oe rfl rfl ?_)); refine A5 .free rfl ?_; intro b4; refine By rfl rfl rfl rfl .free ?_; refine Oa rfl (Ab (Ah ?_)); refine Fj 13 rfl rfl ?_; refine Dt 0 [11] rfl (D2 rfl) ?_; refine Da 1 rfl (Ai rfl) ?_; refine Da 2 rfl (Ai rfl) ?_
 apply R2 13 16 rfl
 ·intro g2_3 hk
  try simp only [nb] at g2_3
  obtain ⟨hg, hz, hfit⟩ := Fl (H0 hpf g2_3); refine Hb 3 [4, 6, 8, 11] rfl Af rfl Bb (D2 rfl) (.met rfl rfl) rfl ?_; refine K9 4 rfl Af rfl rfl (.met rfl rfl) rfl (Zd _ (Nat.lt_succ_self _) hrep hg hz _) ?_; rintro _ _ _ _ ⟨rfl, rfl, rfl⟩; refine Hx ?_; refine Da 5 rfl (Fh rfl rfl) ?_
  exact H7 2 rfl rfl hk
 ·intro _ hk; refine Ds 3 rfl rfl rfl ?_; refine Ds 4 rfl rfl rfl ?_; refine Da 5 rfl (Ez rfl rfl) ?_
  exact H7 2 rfl rfl hk
 refine Da 6 rfl (Ai rfl) ?_
 apply R2 17 21 rfl
 ·intro g2_7 hk
  try simp only [nb] at g2_7
  obtain ⟨hg, hz, hfit⟩ := Fl (H0 hpf g2_7.1); refine Hb 7 [8, 11] rfl Af rfl Bb (D2 rfl) (.met rfl rfl) rfl ?_; refine K9 8 rfl Af rfl rfl (.met rfl rfl) rfl (Vs _ (Nat.lt_succ_self _) hrep hg (Tree.size_maxN hz) _) ?_; rintro _ _ _ _ ⟨rfl, rfl, rfl⟩; refine Hx ?_; refine Dm 9 rfl (Oo rfl rfl rfl) ?_; refine Da 10 rfl (Fh rfl rfl) ?_
  exact H7 3 rfl rfl hk
 ·intro _ hk; refine Ds 7 rfl rfl rfl ?_; refine Ds 8 rfl rfl rfl ?_; refine Ds 9 rfl rfl rfl ?_; refine Da 10 rfl (Ez rfl rfl) ?_
  exact H7 3 rfl rfl hk
 refine Dx 11 rfl rfl rfl rfl ?_; refine Db 12 rfl (A2 rfl) ?_; refine Bg Af ?_; refine Al (.c rfl (.tmp rfl .nil)) ?_; refine ⟨J, L, hleJ, fun _ h => h.drop.drop, t, _, _, rfl, hrep, rfl, Yb hpf _ ?_⟩
 have e : decide ((t.size : Int) ≤ 120) = decide (t.size ≤ 120) := by rw [Bool.eq_iff_iff]; simp; omega
 rw [e]
 cases ok <;> cases t.ex.isSome <;> simp
theorem Tu (s : As) (hs : s.length ≤ Kr) (I : Heap) (L : Bl) : Fun Tryz.prog 72 [.string (str s)] I L (Ed (.bool (E2 s).isSome) I L) := by
 refine Ao Ad ?_; refine Se rfl (Oa rfl (Ab (Se rfl (Om rfl ?_)))); refine Ca rfl (M3 s hs _ _) ?_; rintro _ J _ hleJ ⟨t, cs, ok, rfl, hrep, rfl, hpf⟩; obtain ⟨oa, cc, vs, rfl, -⟩ := hrep.open; refine Om rfl (Oe rfl rfl (Oe rfl rfl ?_)); refine A5 .free rfl ?_; intro b3; refine By rfl rfl rfl rfl .free ?_; refine Oa rfl (Ab (Se rfl (Om rfl (Oa rfl (Ab (Al (.tmp rfl .nil) ?_)))))); refine Jq hleJ Cb ?_; refine congrArg Value.bool ?_
 cases hp : E2 s with
 | none => rw [hp] at hpf; exact hpf
 | some e => rw [hp] at hpf; exact hpf.1
theorem Lv (s : As) (hs : s.length ≤ Bd) (I : Heap) (L : Bl) : Fun Tryz.prog 72 [.string (str s)] I L (Ed (.bool (E2 s).isSome) I L) := Tu s (O4 hs) I L
section rules
variable {P : Program} {f : FuncId} {n : Nat} {I₀ : Heap} {Q : Cx} {k : List Item} {E : Hi} {I : Heap} {L : Bl}
variable {ops : Array Oper} {d : Nat} {ty : TypeId} {pos : String} {af : Array Edge} {g : Option (Nat × Bool)} {l : List Oper}
theorem Ab8 {T e : TypeId} {parts : Array (Nat × Operand)} {is : List Nat} {vs us : List Value} {m : Nat} {sz bb esz ebb : Nat} {z ez : List Value} {dd : TypeDesc} [ht : Av P T (.slice e) sz bb z] [hte : Av P e dd esz ebb ez]
  (hp : parts.toList.map (·.1) = is) (ho : H6 E (parts.toList.map (·.2)) = some vs) (hr : is = List.range' 0 vs.length) (hm : vs.length = m) (hfl : Ns esz vs = some us) (hm0 : m * esz ≠ 0) (hm1 : m * esz ≤ 2 ^ 24) (hez : ez.length = esz)
  (a : Act) (w : World) (he : EnvOk E a) (hmm : Mem I L w) :
  ∃ w', (execOp a.eval ⟨some d, .buildSlice T m parts, ty, pos, af, g⟩).run P w = .ok (.value (.slice (some ⟨w.heap.size, 0, none⟩) m m)) w' ∧ Mem I ((w.heap.size, .cells us.toArray e (0, 0)) :: L) w' := by
 have hfill : Instr.fill (fun i => some (i * esz, esz)) ((Array.range (m * esz)).map (ez.toArray[· % ez.toArray.size]!)) (is.zip vs) = some us.toArray := by
  rw [hr]
  have := Sb (esz := esz) 0 [] (((Array.range (m * esz)).map (ez.toArray[· % ez.toArray.size]!)).toList) hfl Ad (by simp [hm])
  rw [List.nil_append, List.nil_append, Array.toArray_toList] at this
  exact this
 refine ⟨{ w with heap := w.heap.push (.cells us.toArray e (0, 0)) }, ?_, hmm.alloc _⟩
 have h1 : parts.map (fun (i, x) => (i, a.eval x)) = (is.zip vs).toArray := by
  apply Array.ext'
  have := he.evals ho
  rw [← hp, ← this]
  simp [List.zip_map', Function.comp_def]
 simp only [execOp]
 rw [h1]; refine Ag (a := .slice (some ⟨w.heap.size, 0, none⟩) m m) (w' := { w with heap := w.heap.push (.cells us.toArray e (0, 0)) }) ?_ |>.trans rfl
 unfold Instr.buildSlice
 rw [Ag (A6 ht.und w)]
 simp only []
 rw [Ag (E8 hte w)]; rw [if_neg Aa, if_neg hm0]; obtain ⟨zv, hz1, hz2⟩ := Iy hte w
 have hz3 : zv.cells = ez.toArray := by rw [← hz2]
 simp only [bind_assoc, pure_bind]
 rw [Ag hz1, hz3]; rw [hfill]
 rfl
theorem Fz {S : World → Prop} {fuel : Nat} {listed listed' : Array Bool} (i : Nat) {T e : TypeId} {parts : Array (Nat × Operand)} {is : List Nat} {vs us : List Value} {m : Nat} {sz bb esz ebb : Nat} {z ez : List Value} {dd : TypeDesc} [ht : Av P T (.slice e) sz bb z] [hte : Av P e dd esz ebb ez]
  (hi : ops[i]? = some ⟨some d, .buildSlice T m parts, ty, pos, af, g⟩) (hc : decide (Region.ready .any ops listed = [i]) = true) (hl : listed' = listed.setIfInBounds i true)
  (hp : parts.toList.map (·.1) = is) (ho : H6 E (parts.toList.map (·.2)) = some vs) (hr : is = List.range' 0 vs.length) (hm : vs.length = m) (hfl : Ns esz vs = some us) (hm0 : m * esz ≠ 0) (hm1 : m * esz ≤ 2 ^ 24) (hez : ez.length = esz)
  (hg : Wants ops E g) (hdn : Nat.blt d n = true) (hS : E4 ops listed' = true ∨ ∀ w, Mem I L w → S w)
  (h : ∀ b, Cz P f n I₀ Q ops S fuel listed' k ((d, .slice (some ⟨b, 0, none⟩) m m) :: E) I ((b, .cells us.toArray e (0, 0)) :: L)) : Cz P f n I₀ Q ops S (fuel + 1) listed k E I L := by
 refine Nn i hi hc hl rfl hdn (fun a he => hg.wanted a he) fun a w he hmm => ?_
 obtain ⟨w', h1, h2⟩ := Ab8 (P := P) (T := T) (e := e) (d := d) (ty := ty) (pos := pos) (af := af) (g := g) hp ho hr hm hfl hm0 hm1 hez a w he hmm
 exact ⟨_, w', I, _, h1, h2, hS.imp id fun hS w hw => hS w hw.drop, h _⟩
theorem Ee {S : World → Prop} {fuel : Nat} {listed : Array Bool} {b : Nat} {o : Obj} (h : HLe I (I.set b o) → Cz P f n I₀ Q ops S fuel listed k E (I.set b o) L) : Cz P f n I₀ Q ops S fuel listed k E I ((b, o) :: L) :=
 fun a w ha hd he hm => h hm.freeze.2 a w ha hd he hm.freeze.1
theorem C4 {S : World → Prop} {fuel : Nat} {listed : Array Bool} {I' : Heap} {L' : Bl} (hm : ∀ w, Mem I L w → Mem I' L' w) (h : Cz P f n I₀ Q ops S fuel listed k E I' L') : Cz P f n I₀ Q ops S fuel listed k E I L :=
 fun a w ha hd he hw => h a w ha hd he (hm w hw)
end rules

structure Forms (I : Heap) (oa : Option Addr) (ts : List Tree) (c : Nat) : Prop where
 rep : ∃ vs, RepL I ts vs ∧ ∀ x, oa = some x → Still I x vs
 nil : oa = none → ts = []
 cap : ts.length ≤ c
 len : ts.length ≤ Bd
theorem Forms.mono {I I' : Heap} (hle : HLe I I') {oa : Option Addr} {ts : List Tree} {c : Nat} (h : Forms I oa ts c) : Forms I' oa ts c := by
 obtain ⟨⟨vs, h1, h2⟩, h3, h4, h5⟩ := h
 exact ⟨⟨vs, h1.mono hle, fun x hx => (h2 x hx).mono hle⟩, h3, h4, h5⟩
theorem Forms.form {I : Heap} {oa : Option Addr} {ts : List Tree} {c : Nat} (h : Forms I oa ts c) (a : As) (ha : a.length ≤ Bd) : Rep I (.node a ts) [.string (str a), .slice oa ts.length c] := by
 obtain ⟨⟨vs, h1, h2⟩, h3, h4, h5⟩ := h
 exact .mk h1 h2 h3 h4 ha h5
theorem FormAt.forms {I : Heap} {t : Tree} {oa : Option Addr} {c : Nat} {oaf : Nat → Option Addr} {cf : Nat → Nat} (h : FormAt I t oa c oaf cf) : Forms I oa t.parts c := by
 obtain ⟨oa', c', vs, he, hl, hs, hn, hc, ha, hp⟩ := h.rep.open
 simp only [List.cons.injEq, Value.slice.injEq, and_true, true_and] at he
 obtain ⟨rfl, rfl⟩ := he
 exact ⟨⟨vs, hl, hs⟩, hn, hc, hp⟩
theorem Y9 {I : Heap} {b : Nat} {ts : List Tree} {vs sp : List Value} {e : TypeId} {fr : Nat × Nat} {c : Nat} (hl : RepL I ts vs) (hle : HLe I (I.set b (.cells (vs ++ sp).toArray e fr))) (hc : ts.length ≤ c) (hn : ts.length ≤ Bd) :
  Forms (I.set b (.cells (vs ++ sp).toArray e fr)) (some ⟨b, 0, none⟩) ts c :=
 ⟨⟨vs, hl.mono hle, fun y hy => by cases hy; exact Ba⟩, by simp, hc, hn⟩
theorem RepL.one {I : Heap} {t : Tree} {cs : List Value} (h : Rep I t cs) : RepL I [t] cs := by
 obtain ⟨oa, c, vs, rfl, _⟩ := h.open
 exact .cons h .nil
theorem Rep.vals {I : Heap} {t : Tree} {cs : List Value} (h : Rep I t cs) : cs.all Cn = true := by
 obtain ⟨oa, c, vs, rfl, _⟩ := h.open; rfl
theorem RepL.two {I : Heap} {t u : Tree} {cs ds : List Value} (h : Rep I t cs) (h' : Rep I u ds) : RepL I [t, u] (cs ++ ds) := (RepL.one h).append (.one h')
def RP (t : Tree) (L : Bl) : Cx := fun v I' L' => ∃ cs, v = .agg (List.toArray cs) ∧ Rep I' t cs ∧ L = L'
theorem M1 (s : As) (hs : s.length ≤ Bd) (I : Heap) (L : Bl) : Fun Tryz.prog 104 [.string (str s)] I L (Ed (.agg [.string (str s), .slice none 0 0].toArray) I L) := by
 refine Ao Ad ?_; refine Se rfl ?_; refine A5 .free rfl ?_; intro b2; refine Ab (Se rfl (Om rfl ?_)); refine Cp rfl rfl rfl .free rfl ?_; refine By rfl rfl rfl rfl .free ?_; refine Ab ?_; refine Al (.c rfl .nil) ?_; refine only rfl ?_
 rfl
section rules
variable {P : Program} {f : FuncId} {n : Nat} {I₀ : Heap} {Q : Cx} {k : List Item} {E : Hi} {I : Heap} {L : Bl}
variable {ops : Array Oper} {d : Nat} {ty : TypeId} {pos : String} {af : Array Edge} {g : Option (Nat × Bool)} {l : List Oper}
theorem Wt {S : World → Prop} {x : Operand} {ad : Option Addr} {m c : Nat} {e T : TypeId} {sz bb : Nat} {z : List Value} [ht : Av P T (.slice e) sz bb z] (hx : B8 E x = some (.slice ad m c)) : Hj P E S ⟨some d, .call ⟨.builtin .cap, #[x], #[T]⟩, ty, pos, af, g⟩ (.int .i64 (c : Nat)) := fun a w he _ => by
  simp only [execOp, resolve, List.map_toArray, List.map, he.eval hx]
  simp only [pure_bind, invoke, builtin, Builtin.cap_]
  refine Ag (a := _) (w' := w) ?_ |>.trans rfl
  simp only [List.getElem?_toArray, List.getElem?_cons_zero]
  rw [Ag (A6 ht.und w)]
  rfl
theorem Pr {x : Operand} {ad : Option Addr} {m c : Nat} {e T : TypeId} {sz bb : Nat} {z : List Value} [ht : Av P T (.slice e) sz bb z] (hx : B8 E x = some (.slice ad m c)) (hg : Wants ops E g) (hdn : Nat.blt d n = true)
  (h : A3 P f n I₀ Q ops l k ((d, .int .i64 (c : Nat)) :: E) I L) : A3 P f n I₀ Q ops (⟨some d, .call ⟨.builtin .cap, #[x], #[T]⟩, ty, pos, af, g⟩ :: l) k E I L := D8 (Wt hx) hg hdn h
theorem X5 {S : World → Prop} {kf : FuncId} {fst cap : Array Operand} {vs us : List Value} (hf : H6 E fst.toList = some vs) (hc : H6 E cap.toList = some us) : Hj P E S ⟨some d, .makeFunc (.func kf) fst cap, ty, pos, af, g⟩ (.func (.func kf) vs.toArray us.toArray) := fun a w he _ => by
  have h1 : fst.map a.eval = vs.toArray := Array.ext' (by simpa using he.evals hf)
  have h2 : cap.map a.eval = us.toArray := Array.ext' (by simpa using he.evals hc)
  simp only [execOp, h1, h2]
  rfl
theorem Xq {kf : FuncId} {fst cap : Array Operand} {vs us : List Value} (hf : H6 E fst.toList = some vs) (hc : H6 E cap.toList = some us) (hg : Wants ops E g) (hdn : Nat.blt d n = true)
  (h : A3 P f n I₀ Q ops l k ((d, .func (.func kf) vs.toArray us.toArray) :: E) I L) : A3 P f n I₀ Q ops (⟨some d, .makeFunc (.func kf) fst cap, ty, pos, af, g⟩ :: l) k E I L := D8 (X5 hf hc) hg hdn h
theorem S4 {T T2 e : TypeId} {sz bb esz ebb sz2 bb2 : Nat} {z ez z2 : List Value} {dd dd2 : TypeDesc} [ht : Av P T (.slice e) sz bb z] [hte : Av P e dd esz ebb ez] [ht2 : Av P T2 dd2 sz2 bb2 z2]
  {x y : Operand} {B : K8} {xs ys : List Value} {m c : Nat} {ad2 : Option Addr} {m2 c2 : Nat} {L₀ : Bl} (hni : ∀ kk, dd2 ≠ .int kk) (hez : ez.length = esz)
  (hx : B8 E x = some (B6 m c B)) (hy : B8 E y = some (.slice ad2 m2 c2)) (hB : E0 esz m c xs B) (hL : ∀ w, Mem I L w → Mem I (Ch e xs B ++ L₀) w)
  (hyl : ys.length = m2 * esz) (hyr : ∀ a, ad2 = some a → Gc I L₀ a ys) (hyn : ad2 = none → ys = []) (hyp : ys.all Cn = true) (hesz : 0 < esz)
  (hsize : (m + m2) ≤ 4294967296) (hbytes : ebb ≤ 1024) (a : Act) (w : World) (he : EnvOk E a) (hm : Mem I L w) :
  ∃ w' B' c', (execOp a.eval ⟨some d, .call ⟨.builtin .append, #[x, y], #[T, T2]⟩, T, pos, af, g⟩).run P w = .ok (.value (B6 (m + m2) c' B')) w' ∧ E0 esz (m + m2) c' (xs ++ ys) B' ∧ Mem I (Ch e (xs ++ ys) B' ++ L₀) w' := by
 by_cases hm2 : 0 < m2
 ·obtain ⟨w', B', c', hr, hne, hB', hm'⟩ := M9 (x := .slice ad2 m2 c2) ht hte hez ht2.und hni hB (hL w hm) hyl (fun _ => rfl) (fun w hw => Gv hw hyl hyr hyn) hyp hm2 hesz hsize hbytes; refine ⟨w', B', c', ?_, hB', hm'⟩
  simp only [execOp, resolve, List.map_toArray, List.map, he.eval hx, he.eval hy, pure_bind, invoke, builtin]
  exact Ag hr |>.trans rfl
 ·obtain rfl : m2 = 0 := by omega
  obtain rfl : ys = [] := List.eq_nil_of_length_eq_zero (by simpa using hyl)
  have hv : ∃ base cc, B6 m c B = .slice base m cc ∧ m ≤ cc ∧ cc = c := by
   cases B with
   | none => obtain ⟨h1, h2, h3⟩ := hB; exact ⟨none, 0, by simp [B6, h2], by omega, h3.symm⟩
   | some p => exact ⟨_, c, rfl, hB.2.1, rfl⟩
  obtain ⟨base, cc, hbv, hmc, rfl⟩ := hv
  have := L1 (P := P) (T2 := T2) (base := base) (x := .slice ad2 0 c2) (w := w) ht hte ht2.und hni hmc rfl (Gv (hL w hm) hyl (fun a _ v _ i hi => absurd hi Ad) hyn)
  refine ⟨w, B, cc, ?_, by simpa using hB, by simpa using hL w hm⟩
  simp only [execOp, resolve, List.map_toArray, List.map, he.eval hx, he.eval hy, pure_bind, invoke, builtin, hbv, Nat.add_zero]
  exact Ag this |>.trans rfl
theorem C9 {S : World → Prop} {fuel : Nat} {listed listed' : Array Bool} (i : Nat) {T T2 e : TypeId} {sz bb esz ebb sz2 bb2 : Nat} {z ez z2 : List Value} {dd dd2 : TypeDesc} [ht : Av P T (.slice e) sz bb z] [hte : Av P e dd esz ebb ez] [ht2 : Av P T2 dd2 sz2 bb2 z2]
  {x y : Operand} {B : K8} {xs ys : List Value} {m c : Nat} {ad2 : Option Addr} {m2 c2 : Nat} {L₀ : Bl}
  (hi : ops[i]? = some ⟨some d, .call ⟨.builtin .append, #[x, y], #[T, T2]⟩, T, pos, af, g⟩) (hc : decide (Region.ready .any ops listed = [i]) = true) (hl : listed' = listed.setIfInBounds i true) (hni : ∀ kk, dd2 ≠ .int kk) (hez : ez.length = esz)
  (hx : B8 E x = some (B6 m c B)) (hy : B8 E y = some (.slice ad2 m2 c2)) (hB : E0 esz m c xs B) (hL : ∀ w, Mem I L w → Mem I (Ch e xs B ++ L₀) w)
  (hyl : ys.length = m2 * esz) (hyr : ∀ a, ad2 = some a → Gc I L₀ a ys) (hyn : ad2 = none → ys = []) (hyp : ys.all Cn = true) (hesz : 0 < esz)
  (hsize : (m + m2) ≤ 4294967296) (hbytes : ebb ≤ 1024) (hg : Wants ops E g) (hdn : Nat.blt d n = true) (hS : ∀ B', E4 ops listed' = true ∨ ∀ w, Mem I (Ch e (xs ++ ys) B' ++ L₀) w → S w)
  (h : ∀ B' c', E0 esz (m + m2) c' (xs ++ ys) B' → Cz P f n I₀ Q ops S fuel listed' k ((d, B6 (m + m2) c' B') :: E) I (Ch e (xs ++ ys) B' ++ L₀)) : Cz P f n I₀ Q ops S (fuel + 1) listed k E I L := by
 refine Nn i hi hc hl rfl hdn (fun a he => hg.wanted a he) fun a w he hm => ?_
 obtain ⟨w', B', c', h1, h2, h3⟩ := S4 (P := P) (T := T) (T2 := T2) (e := e) (d := d) (pos := pos) (af := af) (g := g) hni hez hx hy hB hL hyl hyr hyn hyp hesz hsize hbytes a w he hm
 exact ⟨_, w', I, _, h1, h3, hS B', h B' c' h2⟩
theorem Io {S : World → Prop} {fuel : Nat} {listed listed' : Array Bool} (i : Nat) {T e : TypeId} {sz bb esz ebb : Nat} {z ez : List Value} {dd : TypeDesc} [ht : Av P T (.slice e) sz bb z] [hte : Av P e dd esz ebb ez]
  (hi : ops[i]? = some ⟨some d, .buildSlice T 0 #[], ty, pos, af, g⟩) (hc : decide (Region.ready .any ops listed = [i]) = true) (hl : listed' = listed.setIfInBounds i true) (hg : Wants ops E g) (hdn : Nat.blt d n = true) (hS : E4 ops listed' = true ∨ ∀ w, Mem I L w → S w)
  (h : ∀ b, Cz P f n I₀ Q ops S fuel listed' k ((d, .slice (some ⟨b, 0, none⟩) 0 0) :: E) I ((b, .cells [].toArray e (0, 0)) :: L)) : Cz P f n I₀ Q ops S (fuel + 1) listed k E I L := by
 refine Nn i hi hc hl rfl hdn (fun a he => hg.wanted a he) fun a w he hm => ?_
 refine ⟨.slice (some ⟨w.heap.size, 0, none⟩) 0 0, { w with heap := w.heap.push (.cells [].toArray e (0, 0)) }, I, (w.heap.size, .cells [].toArray e (0, 0)) :: L, ?_, hm.alloc _, hS.imp id fun hS w hw => hS w hw.drop, h _⟩
 simp only [execOp]
 refine Ag (a := .slice (some ⟨w.heap.size, 0, none⟩) 0 0) (w' := { w with heap := w.heap.push (.cells [].toArray e (0, 0)) }) ?_ |>.trans rfl
 unfold Instr.buildSlice
 rw [Ag (A6 ht.und w)]
 simp only []
 rw [Ag (E8 hte w)]; rw [if_neg Aa, if_pos Aa]
 have e0 : ∀ h : Nat → Value, (Array.range 0).map h = #[] := fun h => by simp
 have e1 : (Array.map (fun x : Nat × Operand => (x.fst, a.eval x.snd)) #[]).toList = [] := by simp
 simp only [pure_bind, Nat.zero_mul, e0, e1]
 rfl
theorem Zr {T T2 e : TypeId} {sz bb esz ebb sz2 bb2 : Nat} {z ez z2 : List Value} {dd : TypeDesc} [ht : Av P T (.slice e) sz bb z] [hte : Av P e dd esz ebb ez] [ht2 : Av P T2 (.int .i64) sz2 bb2 z2]
  {x y : Operand} {m : Nat} {ad : Option Addr} (hez : ez.length = esz) (hx : B8 E x = some (.slice ad 0 0)) (had : ad = none) (hy : B8 E y = some (.int .i64 (m : Nat))) (hm0 : 0 < m) (hesz : 0 < esz) (hsize : m ≤ 4294967296) (hbytes : ebb ≤ 1024) (hg : Wants ops E g) (hdn : Nat.blt d n = true)
  (h : ∀ b Z c', Z.length = c' * esz → m ≤ c' → A3 P f n I₀ Q ops l k ((d, .slice (some ⟨b, 0, none⟩) m c') :: E) I ((b, .cells (List.toArray Z) e (0, 0)) :: L)) :
  A3 P f n I₀ Q ops (⟨some d, .call ⟨.builtin .append, #[x, y], #[T, T2]⟩, T, pos, af, g⟩ :: l) k E I L := by
 subst had; refine Jd rfl hdn (fun a he => hg.wanted a he) fun a w he hm => ?_
 obtain ⟨einf, hein, hebb⟩ := Ki hte w
 let NC := (Question.appendCap m 0 e).cut (w.tape w.drawn (.appendCap m 0 e))
 let w1 : World := { w with drawn := w.drawn + 1 }
 have hNC : m ≤ NC := by simp [NC, Question.cut]
 obtain ⟨zv1, hz1, hz2⟩ := Iy hte w1
 have hzs : zv1.cells.size = esz := by rw [← hez, ← hz2]; simp
 refine ⟨.slice (some ⟨w.heap.size, 0, none⟩) m NC, { w1 with heap := w1.heap.push (.cells (Builtin.zeroCells zv1.cells m ++ Builtin.zeroCells zv1.cells (NC - m)) e (0, 0)) }, I, _, ?_, hm.alloc _, h _ (Builtin.zeroCells zv1.cells m ++ Builtin.zeroCells zv1.cells (NC - m)).toList NC ?_ hNC⟩
 ·simp only [execOp, resolve, List.map_toArray, List.map, he.eval hx, he.eval hy, pure_bind, invoke, builtin]
  refine Ag (a := .slice (some ⟨w.heap.size, 0, none⟩) m NC) (w' := { w1 with heap := w1.heap.push (.cells (Builtin.zeroCells zv1.cells m ++ Builtin.zeroCells zv1.cells (NC - m)) e (0, 0)) }) ?_ |>.trans rfl
  unfold Builtin.append_
  simp only [List.getElem?_toArray, List.getElem?_cons_zero, List.getElem?_cons_succ]
  rw [Ag (A6 ht.und w)]
  simp only []
  rw [Ag (E8 hte w)]; rw [Ag (A6 ht2.und w)]
  have hwr : IntKind.i64.wrap (m : Int) = (m : Int) := by simp [IntKind.wrap, IntKind.bits, IntKind.signed]; omega
  simp only [pure_bind, if_true, Bool.not_true, Bool.false_eq_true, if_false, asInt, asIntOf, hwr]
  have hneg : ¬ ((m : Int) < 0) := by omega
  simp only [hwr, if_neg hneg, pure_bind, bind_assoc]
  rw [Ag hein]
  have hbig : ¬ ((m : Int) * (einf.bytes : Int) > 2 ^ 48) := by
   rw [hebb]
   have : m * ebb ≤ 4294967296 * 1024 := Nat.mul_le_mul hsize hbytes
   rw [← Int.natCast_mul]; omega
  simp only [if_neg hbig, pure_bind, Int.toNat_natCast, Nat.zero_add]
  rw [if_neg Aa]
  have hmax : ¬ (((m : Nat) : Int) > IntKind.i64.max) := by simp [IntKind.max, IntKind.bits, IntKind.signed]; omega
  rw [Ag hein]
  simp only [hmax, false_and, if_false, pure_bind]
  rw [Ag hein]
  have hcap : ¬ (Builtin.nextslicecap m 0 * einf.bytes > 2 ^ 48) := by
   have h1 := Q4 m 0 Aa
   have h2 : Builtin.nextslicecap m 0 * einf.bytes ≤ (2 * m + 1000) * 1024 := Nat.mul_le_mul h1 Aa
   omega
  simp only [if_neg hcap, pure_bind]
  have hch : (choose (.appendCap m 0 e)).run P w = .ok NC w1 := by simp [choose, Sem.run, Question.forced, NC, w1]
  rw [Ag hch]; obtain ⟨einf1, hein1, _⟩ := Ki hte w1; rw [Ag hein1]
  have hroom : (askRoom (NC * einf1.bytes)).run P w1 = .ok () w1 := by unfold askRoom; split <;> rfl
  rw [Ag hroom]
  have hne : ¬ (m * esz = 0) := by
   have := Nat.mul_pos hm0 hesz; omega
  simp only [Builtin.firstCells, pure_bind, if_neg hne, bind_assoc]
  rw [Ag hz1]; rw [Ag hz1]
  simp only [Array.empty_append]
  rfl
 ·simp only [Array.toList_append, List.length_append, Array.length_toList, L8, hzs]
  rw [← Nat.add_mul]; congr 1; omega
end rules

structure RStrs (I : Heap) (L : Bl) (oa : Option Addr) (l : List As) : Prop where
 reads : ∀ a, oa = some a → Gc I L a (l.map sv)
 nil : oa = none → l.length = 0
 len : l.length ≤ Bd
theorem Strs.rd {I : Heap} {oa : Option Addr} {l : List As} {c : Nat} (h : Strs I oa l c) (L : Bl) : RStrs I L oa l := ⟨h.reads, h.nil', h.len⟩
theorem RStrs.st {I : Heap} {L : Bl} {oa : Option Addr} {l : List As} (h : RStrs I L oa l) (i : Nat) (hi : i < l.length) : Gc I L ((Us oa).add (i * 1)) [.string (str (l.getD i []))] := by
 obtain ⟨x, rfl⟩ : ∃ x, oa = some x := by
  cases oa with
  | none => have := h.nil rfl; omega
  | some x => exact ⟨x, rfl⟩
 intro w hw j hj; obtain rfl : j = 0 := by simpa using hj
 have h1 := h.reads x rfl w hw i (by simpa using hi)
 have e : ((Us (some x)).add (i * 1)).add 0 = x.add i := by simp [Us, Addr.add]
 rw [e, h1]
 simp [sv, hi]
theorem RStrs.sub {I : Heap} {L L' : Bl} {oa : Option Addr} {l : List As} (h : RStrs I L oa l) (hs : ∀ w, Mem I L' w → Mem I L w) : RStrs I L' oa l :=
 ⟨fun a ha w hw => h.reads a ha w (hs w hw), h.nil, h.len⟩
theorem Aai {I : Heap} {L : Bl} {e : TypeId} {l : List As} {B : K8} {m c : Nat} (hB : E0 1 m c (l.map sv) B) (hm : m = l.length) (hl : l.length ≤ Bd) :
  ∃ oa c', B6 m c B = .slice oa l.length c' ∧ RStrs I (Ch e (l.map sv) B ++ L) oa l := by
 subst hm
 cases B with
 | none =>
  obtain ⟨h1, h2, h3⟩ := hB
  exact ⟨none, 0, by rw [B6, h2], ⟨by simp, fun _ => h2, hl⟩⟩
 | some p =>
  obtain ⟨b, sp⟩ := p; refine ⟨some ⟨b, 0, none⟩, c, rfl, ⟨?_, by simp, hl⟩⟩; intro a ha
  cases ha
  intro w hw i hi; rw [Ni (hw.2.1 _ (List.mem_append_left _ (List.mem_singleton.2 rfl))).1]
  simp only [Nat.zero_add, List.getElem?_toArray]
  rw [List.getElem?_append_left hi, List.getElem?_eq_getElem hi]
theorem Qr {I : Heap} {L : Bl} {oa : Option Addr} {l : List As} (h : RStrs I L oa l) (c : Nat) (s : As) : Fun Tryz.prog 173 [.slice oa l.length c, .string (str s)] I L (fun v I' L' => ∃ i : Int, v = .int .i64 i ∧ (0 ≤ i ↔ s ∈ l) ∧ I = I' ∧ L = L') := by
 have hlen := h.len
 have hnil := h.nil
 unfold Bd at hlen
 refine Ao Ad ?_; refine Se rfl (Oa rfl (Ab (Ah (Se rfl (Om rfl (On rfl (Om rfl (Ab (Ar ?_))))))))); refine Dy (X := Nat) (fun i => l.length - i) (fun i => [(0, .slice oa l.length c), (1, .string (str s)), (7, .int .i64 (l.length : Nat)), (8, .int .i64 (i : Nat))]) (fun _ => I) (fun _ => L) (fun i => i ≤ l.length ∧ s ∉ l.take i) 0 ⟨by simp, by simp⟩ ⟨rfl, rfl, rfl, rfl, trivial⟩ (fun _ h => h) ?_; rintro i ⟨hi, hs⟩ ih; refine Se rfl (Oc rfl rfl rfl (Ab (Ah ?_))); refine Az rfl ?_ ?_
 ·intro c0
  try simp only [nb] at c0
  have hgx : l.getD i [] = l[i] := by simp [show i < l.length by omega]
  have hst := h.st i Aa
  refine Aj (Ah (Ar (Se rfl (Om rfl (Oa rfl (Ab (Se rfl ?_)))))))
  iterate 3 refine Om rfl ?_
  first | refine Bh rfl rfl _ rfl .free rfl ?_ | refine Bi rfl rfl _ rfl .free rfl ?_
  refine Et rfl .free rfl ?_; refine Od rfl rfl rfl (Ab ?_); refine Az rfl ?_ ?_
  ·intro c1
   try simp only [nb] at c1
   refine Se rfl (Om rfl (Oa rfl (Ab (Al (.tmp rfl .nil) ?_))))
   exact ⟨I, L, .refl _, fun _ h => h, _, rfl, ⟨fun _ => by rw [c1, hgx]; exact List.getElem_mem _, fun _ => by omega⟩, rfl, rfl⟩
  intro c1
  try simp only [nb] at c1
  refine Aj (Aq (Am rfl ?_)); refine Or rfl rfl rfl ?_; refine Om rfl (Ab ?_); refine Dl (E' := [(0, .slice oa l.length c), (1, .string (str s)), (7, .int .i64 (l.length : Nat)), (8, .int .i64 ((i + 1 : Nat)))]) ⟨rfl, rfl, rfl, rfl, trivial⟩ (ih (i + 1) ⟨by omega, ?_⟩ Aa); rw [List.take_succ_eq_append_getElem Aa, List.mem_append]; rintro (h1 | h1)
  ·exact hs h1
  ·exact c1 (by rw [hgx]; exact List.mem_singleton.1 h1)
 intro c0
 try simp only [nb] at c0
 refine Cd rfl ?_; refine Se rfl (Oa rfl (Ab (Al (.tmp rfl .nil) ?_))); refine ⟨I, L, .refl _, fun _ h => h, _, rfl, ⟨fun h => by simp at h, fun h => ?_⟩, rfl, rfl⟩; rw [List.take_of_length_le Aa] at hs
 exact absurd h hs
theorem H1 {I : Heap} {L : Bl} {oa : Option Addr} {l : List As} (h : RStrs I L oa l) (c : Nat) (s : As) : Fun Tryz.prog 128 [.slice oa l.length c, .string (str s)] I L (Ed (.bool (decide (s ∈ l))) I L) := by
 refine Ao Ad ?_; refine Se rfl (Oa rfl (Ab (Se rfl (Om rfl (Om rfl ?_))))); refine Ca rfl (Qr h c s) ?_; rintro _ _ _ _ ⟨i, rfl, hi, rfl, rfl⟩; refine Oc rfl rfl rfl (Oa rfl (Ab (Al (.tmp rfl .nil) ?_))); refine only rfl ?_
 simp [C6, hi]
theorem Yc {I : Heap} {L : Bl} {oa : Option Addr} {l : List As} (h : RStrs I L oa l) (c : Nat) (s : As) : Fun Tryz.prog 170 [.slice oa l.length c, .string (str s)] I L (Ed (.bool (decide (s ∈ l))) I L) := by
 have hlen := h.len
 have hnil := h.nil
 unfold Bd at hlen
 refine Ao Ad ?_; refine Se rfl (Oa rfl (Ab (Ah (Se rfl (Oa rfl (Ab (Ar ?_))))))); refine Dy (X := Nat) (fun i => l.length - i) (fun i => [(0, .slice oa l.length c), (1, .string (str s)), (5, .int .i64 (i : Nat))]) (fun _ => I) (fun _ => L) (fun i => i ≤ l.length ∧ s ∉ l.take i) 0 ⟨by simp, by simp⟩ ⟨rfl, rfl, rfl, trivial⟩ (fun _ h => h) ?_; rintro i ⟨hi, hs⟩ ih; refine Ah (Se rfl (Om rfl (Om rfl (On rfl (Oc rfl rfl rfl (Ab ?_)))))); refine Az rfl ?_ ?_
 ·intro c0
  try simp only [nb] at c0
  have hgx : l.getD i [] = l[i] := by simp [show i < l.length by omega]
  have hst := h.st i Aa
  refine Aj (Ah (Ar (Se rfl (Om rfl (Om rfl ?_)))))
  first | refine Bh rfl rfl _ rfl .free rfl ?_ | refine Bi rfl rfl _ rfl .free rfl ?_
  refine Et rfl .free rfl ?_; refine Om rfl (Od rfl rfl rfl (Ab ?_)); refine Az rfl ?_ ?_
  ·intro c1
   try simp only [nb] at c1
   refine Se rfl (Oa rfl (Ab (Al (.tmp rfl .nil) ?_))); refine only rfl ?_
   have : s ∈ l := by rw [← c1, hgx]; exact List.getElem_mem _
   simp [C6, this]
  intro c1
  try simp only [nb] at c1
  refine Aj (Aq (Am rfl (Om rfl ?_))); refine Or rfl rfl rfl ?_; refine Oa rfl (Ab ?_); refine Dl (E' := [(0, .slice oa l.length c), (1, .string (str s)), (5, .int .i64 ((i + 1 : Nat)))]) ⟨rfl, rfl, rfl, trivial⟩ (ih (i + 1) ⟨by omega, ?_⟩ Aa); rw [List.take_succ_eq_append_getElem Aa, List.mem_append]; rintro (h1 | h1)
  ·exact hs h1
  ·exact c1 (by rw [hgx]; exact (List.mem_singleton.1 h1).symm)
 intro c0
 try simp only [nb] at c0
 refine Cd rfl ?_; refine Se rfl (Oa rfl (Ab (Al (.tmp rfl .nil) ?_))); refine only rfl ?_
 have : s ∉ l := by rwa [List.take_of_length_le Aa] at hs
 simp [C6, this]
theorem Rv (m : Nat) (hm : m ≤ 4294967296) (I : Heap) (L : Bl) : Fun Tryz.prog 176 [.slice none 0 0, .int .i64 (m : Nat)] I L
  (fun v I' L' => ∃ B c, v = B6 0 c B ∧ E0 1 0 c [] B ∧ I = I' ∧ L' = Ch 9 [] B ++ L) := by
 refine Ao Ad ?_; refine Se rfl (Oa rfl (Ab (Ah (Se rfl (Om rfl (Oc rfl rfl rfl (Ab ?_)))))))
 first | refine Sf rfl Aa ?_ | refine At Ak ?_
 refine Aj (Ah (Se rfl (Om rfl (Om rfl ?_)))); refine Pr rfl .free rfl ?_; refine Om rfl (On rfl ?_); refine Or rfl rfl rfl ?_; refine Or rfl rfl rfl ?_; refine Oa rfl (Ab (Ah ?_)); refine K6 (t := 1) (v' := .int .i64 (m : Nat)) rfl (by congr 1) ?_; refine Am rfl (Om rfl (Oc rfl rfl rfl (Ab ?_))); refine Az rfl ?_ ?_
 ·intro c1
  try simp only [nb] at c1
  have hm0 : 0 < m := by omega
  refine Am rfl (Om rfl (Om rfl ?_)); refine Pr rfl .free rfl ?_; refine Ks rfl rfl rfl 0 _ rfl rfl Bt .free rfl ?_; refine Om rfl ?_; refine Zr (m := m) Ae rfl rfl rfl Aa Ac hm Ac .free rfl ?_; intro b Z c' hZ hmc; refine Om rfl (On rfl ?_); refine Ks rfl rfl rfl 0 _ rfl rfl Bt .free rfl ?_; refine Oa rfl (Ab (Se rfl (Om rfl (Oa rfl (Ab (Al (.tmp rfl .nil) ?_))))))
  first
   | exact ⟨I, _, .refl _, fun _ h => h, some (b, Z), c', by simp [C6, B6, Addr.add], ⟨rfl, Nat.zero_le _, by simpa using hZ⟩, rfl, rfl⟩
   | exact ⟨I, _, .refl _, fun _ h => h, none, 0, rfl, ⟨rfl, rfl, rfl⟩, rfl, rfl⟩
 intro c1
 try simp only [nb] at c1
 refine Aj (Se rfl (Om rfl (Oa rfl (Ab (Al (.tmp rfl .nil) ?_)))))
 first
  | exact ⟨I, _, .refl _, fun _ h => h, some (b, Z), c', by simp [C6, B6, Addr.add], ⟨rfl, Nat.zero_le _, by simpa using hZ⟩, rfl, rfl⟩
  | exact ⟨I, _, .refl _, fun _ h => h, none, 0, rfl, ⟨rfl, rfl, rfl⟩, rfl, rfl⟩

def SS (l : List As) (L : Bl) : Cx := fun v I' L' => ∃ oa c, v = .slice oa (List.length l) c ∧ Strs I' oa l c ∧ L = L'
theorem Strs.append {I : Heap} {oa ob : Option Addr} {l m : List As} {c c' : Nat} (h : Strs I oa l c) (h' : Strs I ob m c') : ∀ s ∈ l ++ m, s.length ≤ Bd := by
 intro s hs
 rcases List.mem_append.1 hs with hs | hs
 ·exact h.each s hs
 ·exact h'.each s hs
theorem B0 {I : Heap} {oa ob : Option Addr} {l m : List As} {c c' : Nat} {x : Addr} (hx : Still I x [.slice oa l.length c, .slice ob m.length c']) (h : Strs I oa l c) (h' : Strs I ob m c') (hz : l.length + m.length ≤ Bd) (L : Bl) :
  Fun Tryz.prog 132 [.slice (some x) 2 2] I L (SS (l ++ m) L) := by
 unfold Bd at hz
 have h0 : Still I ((Us (some x)).add (0 * 1)) [.slice oa l.length c] := hx.part (0 * 1) (by intro i hi; obtain rfl : i = 0 := (by simpa using hi); rfl)
 have h1 : Still I ((Us (some x)).add (1 * 1)) [.slice ob m.length c'] := hx.part (1 * 1) (by intro i hi; obtain rfl : i = 0 := (by simpa using hi); rfl)
 have hn : some x = none → 2 = 0 := by intro e; cases e
 refine Ao Ad ?_; refine Se rfl (Oa rfl (Ab (Se rfl (Oa rfl (Ab (Ah (Se rfl (Om rfl (On rfl (Om rfl (Ab (Ar ?_)))))))))))); refine Ek ?_; refine Se rfl (Oc rfl rfl rfl (Ab (Ah ?_))); refine B9 rfl A8 ?_; refine Aj (Ah (Ar (Se rfl ?_)))
 first | refine Bh rfl rfl _ rfl .free rfl ?_ | refine Bi rfl rfl _ rfl .free rfl ?_
 refine Et rfl .free rfl ?_; refine Oa rfl (Ab (Se rfl (Om rfl (Om rfl (On rfl ?_))))); refine Or rfl rfl rfl ?_; refine Oa rfl (Ab (Se rfl (Om rfl (Oc rfl rfl rfl (Ab ?_)))))
 first | refine Sf rfl Aa ?_ | refine At Ak ?_
 refine Aj (Aq (Am rfl ?_)); refine Or rfl rfl rfl ?_; refine Om rfl (Ab ?_); refine B7 ?_; refine Se rfl (Oc rfl rfl rfl (Ab (Ah ?_))); refine B9 rfl A8 ?_; refine Aj (Ah (Ar (Se rfl ?_)))
 first | refine Bh rfl rfl _ rfl .free rfl ?_ | refine Bi rfl rfl _ rfl .free rfl ?_
 refine Et rfl .free rfl ?_; refine Oa rfl (Ab (Se rfl (Om rfl (Om rfl (On rfl ?_))))); refine Or rfl rfl rfl ?_; refine Oa rfl (Ab (Se rfl (Om rfl (Oc rfl rfl rfl (Ab ?_)))))
 first | refine Sf rfl Aa ?_ | refine At Ak ?_
 refine Aj (Aq (Am rfl ?_)); refine Or rfl rfl rfl ?_; refine Om rfl (Ab ?_); refine B7 ?_; refine Se rfl (Oc rfl rfl rfl (Ab (Ah ?_))); refine Dw rfl A8 ?_; refine Cd rfl ?_; refine Ah ?_; refine K6 (t := 3) (v' := .int .i64 ((l.length + m.length : Nat))) rfl Eb ?_; refine Am rfl (Om rfl ?_); refine Ca rfl (Rv (l.length + m.length) hz _ _) ?_; rintro _ _ _ _ ⟨B, c0, rfl, hB0, rfl, rfl⟩; refine Oa rfl (Ab (Ah (Se rfl (Om rfl (On rfl (Om rfl (Ab (Ar ?_)))))))); refine Ek ?_; refine Se rfl (Oc rfl rfl rfl (Ab (Ah ?_))); refine B9 rfl A8 ?_; refine Aj (Ah (Ar (Se rfl ?_)))
 first | refine Bh rfl rfl _ rfl .free rfl ?_ | refine Bi rfl rfl _ rfl .free rfl ?_
 refine Et rfl .free rfl ?_; refine Oa rfl (Ab (Am rfl (Om rfl (Om rfl ?_)))); refine Mk (B := B) (xs := []) (ys := l.map sv) (m := 0) (c := c0) (L₀ := L) Bk Ae rfl rfl hB0 (fun _ h => h) Ad h.reads h.none (D9 l) Ac Aa Ac .free rfl ?_; intro B1 c1 hB1; refine Oa rfl (Ab (Aq (Am rfl ?_))); refine Or rfl rfl rfl ?_; refine Om rfl (Ab ?_); refine B7 ?_; refine Se rfl (Oc rfl rfl rfl (Ab (Ah ?_))); refine B9 rfl A8 ?_; refine Aj (Ah (Ar (Se rfl ?_)))
 first | refine Bh rfl rfl _ rfl .free rfl ?_ | refine Bi rfl rfl _ rfl .free rfl ?_
 refine Et rfl .free rfl ?_; refine Oa rfl (Ab (Am rfl (Om rfl (Om rfl ?_)))); refine Mk (B := B1) (xs := l.map sv) (ys := m.map sv) (m := 0 + l.length) (c := c1) (L₀ := L) Bk Ae rfl rfl hB1 (fun _ h => h) Ad h'.reads h'.none (D9 m) Ac Aa Ac .free rfl ?_; intro B2 c2 hB2; refine Oa rfl (Ab (Aq (Am rfl ?_))); refine Or rfl rfl rfl ?_; refine Om rfl (Ab ?_); refine B7 ?_; refine Se rfl (Oc rfl rfl rfl (Ab (Ah ?_))); refine Dw rfl A8 ?_; refine Cd rfl ?_; refine Ah ?_
 have hB3 : E0 1 (0 + l.length + m.length) c2 ((l ++ m).map sv) B2 := by simpa using hB2
 rw [← List.map_append]; refine G6 hB3 Ad (by simp [Bd]; omega) (h.append h') ?_; intro I' oc c3 hle hbv hst; refine K6 (t := 6) (v' := .slice oc (l ++ m).length c3) rfl hbv ?_; refine Am rfl (Om rfl (Oa rfl (Ab (Al (.tmp rfl .nil) ?_))))
 exact ⟨I', L, hle, fun _ h => h, oc, c3, rfl, hst, rfl⟩
section rules
variable {P : Program} {f : FuncId} {n : Nat} {I₀ : Heap} {Q : Cx} {k : List Item} {E : Hi} {I : Heap} {L : Bl}
variable {ops : Array Oper} {d : Nat} {ty : TypeId} {pos : String} {af : Array Edge} {g : Option (Nat × Bool)} {l : List Oper}
def Nh (P : Program) (f : FuncId) (n : Nat) (I₀ : Heap) (Q : Cx) (ops : Array Oper) (S : World → Prop) (fuel : Nat) (listed : Array Bool) (i : Nat) (k : List Item) (E : Hi) (I : Heap) (L : Bl) : Prop :=
 ∀ a w, a.tmps.size = n → a.defers = [] → EnvOk E a → Mem I L w → wpOp P ops (QK P f n I₀ Q k) i (fun a' w' => Ro ops S (listed.setIfInBounds i true) w' ∧ Rp P ops (QK P f n I₀ Q k) S fuel (listed.setIfInBounds i true) a' w') a w
theorem W1 {S : World → Prop} {fuel : Nat} {listed : Array Bool} (is : List Nat) (hc : decide (Region.ready .any ops listed = is) = true) (hne : is.isEmpty = false)
  (h : ∀ i ∈ is, Nh P f n I₀ Q ops S fuel listed i k E I L) : Cz P f n I₀ Q ops S (fuel + 1) listed k E I L := by
 have hr := of_decide_eq_true hc
 intro a w ha hd he hm; refine ⟨fun h0 => (by rw [hr] at h0; rw [h0] at hne; cases hne), fun i hi => h i (hr ▸ hi) a w ha hd he hm⟩
theorem Jo {S : World → Prop} {fuel : Nat} {listed : Array Bool} (i j : Nat) (hc : decide (Region.ready .any ops listed = [i, j]) = true)
  (h1 : Nh P f n I₀ Q ops S fuel listed i k E I L) (h2 : Nh P f n I₀ Q ops S fuel listed j k E I L) : Cz P f n I₀ Q ops S (fuel + 1) listed k E I L :=
 W1 [i, j] hc rfl fun x hx => by
  simp only [List.mem_cons, List.not_mem_nil, or_false] at hx
  rcases hx with rfl | rfl
  ·exact h1
  ·exact h2
theorem Abf {S : World → Prop} {fuel : Nat} {listed : Array Bool} (i : Nat) {o : Oper} (hi : ops[i]? = some o)
  {a : Act} {w : World} (hw : Region.wanted o (yielded ops a.tmps) = true)
  (h : o.wp P a w (fun a' w' => Ro ops S (listed.setIfInBounds i true) w' ∧ Rp P ops (QK P f n I₀ Q k) S fuel (listed.setIfInBounds i true) a' w') (QK P f n I₀ Q k)) :
  wpOp P ops (QK P f n I₀ Q k) i (fun a' w' => Ro ops S (listed.setIfInBounds i true) w' ∧ Rp P ops (QK P f n I₀ Q k) S fuel (listed.setIfInBounds i true) a' w') a w := by
 unfold wpOp
 simp only [hi, hw, if_true]
 exact .inl h
theorem Mj {S : World → Prop} {fuel : Nat} {listed listed' : Array Bool} (i : Nat) {o : Oper} (hi : ops[i]? = some o) (hl : listed' = listed.setIfInBounds i true)
  (hd : o.dst = some d) (hdn : Nat.blt d n = true) (hw : ∀ a, EnvOk E a → Region.wanted o (yielded ops a.tmps) = true)
  (hx : ∀ a w, EnvOk E a → Mem I L w → ∃ v w' I' L', (execOp a.eval o).run P w = .ok (.value v) w' ∧ Mem I' L' w' ∧ (E4 ops listed' = true ∨ ∀ w, Mem I' L' w → S w) ∧ Cz P f n I₀ Q ops S fuel listed' k ((d, v) :: E) I' L') :
  Nh P f n I₀ Q ops S fuel listed i k E I L := by
 intro a w ha hds he hm; obtain ⟨v, w', I', L', hrun, hm', hS, h⟩ := hx a w he hm; refine Abf i hi (hw a he) ?_
 simp only [Oper.wp, hrun, Oper.upon, hd]
 rw [← hl]
 exact ⟨hS.imp id fun h => h _ hm', h _ _ Fx Hr (he.put Fw) hm'⟩
theorem Yf {S : World → Prop} {fuel : Nat} {listed listed' : Array Bool} (i : Nat) {op : Op} {v : Value} (hi : ops[i]? = some ⟨some d, op, ty, pos, af, g⟩) (hl : listed' = listed.setIfInBounds i true)
  (hx : Hj P E (Mem I L) ⟨some d, op, ty, pos, af, g⟩ v) (hg : Wants ops E g) (hdn : Nat.blt d n = true) (hS : E4 ops listed' = true ∨ ∀ w, Mem I L w → S w)
  (h : Cz P f n I₀ Q ops S fuel listed' k ((d, v) :: E) I L) : Nh P f n I₀ Q ops S fuel listed i k E I L :=
 Mj i hi hl rfl hdn (fun a he => hg.wanted a he) fun a w he hm => ⟨v, w, I, L, hx a w he hm, hm, hS, h⟩
theorem Aaq {S : World → Prop} {fuel : Nat} {listed listed' : Array Bool} (i : Nat) {op : Op} {v : Value} (hi : ops[i]? = some ⟨some d, op, ty, pos, af, g⟩) (hc : decide (Region.ready .any ops listed = [i]) = true) (hl : listed' = listed.setIfInBounds i true)
  (hx : Hj P E (Mem I L) ⟨some d, op, ty, pos, af, g⟩ v) (hg : Wants ops E g) (hdn : Nat.blt d n = true) (hS : E4 ops listed' = true ∨ ∀ w, Mem I L w → S w)
  (h : Cz P f n I₀ Q ops S fuel listed' k ((d, v) :: E) I L) : Cz P f n I₀ Q ops S (fuel + 1) listed k E I L :=
 Nn i hi hc hl rfl hdn (fun a he => hg.wanted a he) fun a w he hm => ⟨v, w, I, L, hx a w he hm, hm, hS, h⟩
theorem Vw {S : World → Prop} {fuel : Nat} {listed listed' : Array Bool} (i : Nat) {o : Oper} {I' : Heap} {L' : Bl} (hi : ops[i]? = some o) (hl : listed' = listed.setIfInBounds i true)
  (hd : o.dst = none) (hw : ∀ a, EnvOk E a → Region.wanted o (yielded ops a.tmps) = true)
  (hx : ∀ a w, EnvOk E a → Mem I L w → ∃ w', ((execOp a.eval o).run P w = .ok .skip w' ∨ ∃ v, (execOp a.eval o).run P w = .ok (.value v) w') ∧ Mem I' L' w') (hS : E4 ops listed' = true ∨ ∀ w, Mem I' L' w → S w)
  (h : Cz P f n I₀ Q ops S fuel listed' k E I' L') : Nh P f n I₀ Q ops S fuel listed i k E I L := by
 intro a w ha hds he hm; obtain ⟨w', hrun, hm'⟩ := hx a w he hm; refine Abf i hi (hw a he) ?_
 rcases hrun with hrun | ⟨v, hrun⟩ <;>
 ·simp only [Oper.wp, hrun, Oper.upon, hd, Act.put]
  rw [← hl]
  exact ⟨hS.imp id fun h => h _ hm', h a w' ha hds he hm'⟩
theorem Abe {S : World → Prop} {fuel : Nat} {listed listed' : Array Bool} (i : Nat) {o : Oper} {kf : FuncId} {vs : List Value} {Q' : Cx} (hi : ops[i]? = some o) (hl : listed' = listed.setIfInBounds i true)
  (hd : o.dst = some d) (hdn : Nat.blt d n = true) (hw : ∀ a, EnvOk E a → Region.wanted o (yielded ops a.tmps) = true)
  (hx : ∀ a w, EnvOk E a → (execOp a.eval o).run P w = .ok (.enter kf vs.toArray) w) (hF : Fun P kf vs I L Q')
  (h : ∀ v I' L', HLe I I' → Q' v I' L' → (E4 ops listed' = true ∨ ∀ w, Mem I' L' w → S w) ∧ Cz P f n I₀ Q ops S fuel listed' k ((d, v) :: E) I' L') : Nh P f n I₀ Q ops S fuel listed i k E I L := by
 intro a w ha hds he hm; refine Abf i hi (hw a he) ?_
 simp only [Oper.wp, hx a w he, Oper.upon, hd]
 refine (hF.run w hm).mono fun e w' hE => ?_
 obtain ⟨v, I', L', rfl, hle, hm', hq⟩ := hE; obtain ⟨hS, h⟩ := h v I' L' hle hq; rw [← hl]
 exact ⟨hS.imp id fun h => h _ hm', h _ _ Fx Hr (he.put Fw) hm'⟩
theorem Jv {S : World → Prop} {fuel : Nat} {listed listed' : Array Bool} (i : Nat) {kf : FuncId} {args : Array Operand} {tys : Array TypeId} {vs : List Value} {Q' : Cx} {c : Code} {m : Nat} {rs : List ResultVar} [hf : Bm P kf c m rs]
  (hi : ops[i]? = some ⟨some d, .call ⟨.value (.func kf), args, tys⟩, ty, pos, af, g⟩) (hl : listed' = listed.setIfInBounds i true)
  (ha : H6 E args.toList = some vs) (hg : Wants ops E g) (hdn : Nat.blt d n = true) (hF : Fun P kf vs I L Q')
  (h : ∀ v I' L', HLe I I' → Q' v I' L' → (E4 ops listed' = true ∨ ∀ w, Mem I' L' w → S w) ∧ Cz P f n I₀ Q ops S fuel listed' k ((d, v) :: E) I' L') : Nh P f n I₀ Q ops S fuel listed i k E I L :=
 Abe i hi hl rfl hdn (fun a he => hg.wanted a he) (X4 ha) hF h
theorem M4 {S : World → Prop} {fuel : Nat} {listed listed' : Array Bool} (i : Nat) {T e : TypeId} {parts : Array (Nat × Operand)} {is : List Nat} {vs us : List Value} {m : Nat} {sz bb esz ebb : Nat} {z ez : List Value} {dd : TypeDesc} [ht : Av P T (.slice e) sz bb z] [hte : Av P e dd esz ebb ez]
  (hi : ops[i]? = some ⟨some d, .buildSlice T m parts, ty, pos, af, g⟩) (hl : listed' = listed.setIfInBounds i true)
  (hp : parts.toList.map (·.1) = is) (ho : H6 E (parts.toList.map (·.2)) = some vs) (hr : is = List.range' 0 vs.length) (hm : vs.length = m) (hfl : Ns esz vs = some us) (hm0 : m * esz ≠ 0) (hm1 : m * esz ≤ 2 ^ 24) (hez : ez.length = esz)
  (hg : Wants ops E g) (hdn : Nat.blt d n = true) (hS : E4 ops listed' = true ∨ ∀ w, Mem I L w → S w)
  (h : ∀ b, Cz P f n I₀ Q ops S fuel listed' k ((d, .slice (some ⟨b, 0, none⟩) m m) :: E) I ((b, .cells us.toArray e (0, 0)) :: L)) : Nh P f n I₀ Q ops S fuel listed i k E I L := by
 refine Mj i hi hl rfl hdn (fun a he => hg.wanted a he) fun a w he hmm => ?_
 obtain ⟨w', h1, h2⟩ := Ab8 (P := P) (T := T) (e := e) (d := d) (ty := ty) (pos := pos) (af := af) (g := g) hp ho hr hm hfl hm0 hm1 hez a w he hmm
 exact ⟨_, w', I, _, h1, h2, hS.imp id fun hS w hw => hS w hw.drop, h _⟩
theorem Ada {T e : TypeId} {sz bb esz ebb : Nat} {z ez : List Value} {dd : TypeDesc} [ht : Av P T (.slice e) sz bb z] [hte : Av P e dd esz ebb ez] (a : Act) (w : World) :
  (execOp a.eval ⟨some d, .buildSlice T 0 #[], ty, pos, af, g⟩).run P w = .ok (.value (.slice (some ⟨w.heap.size, 0, none⟩) 0 0)) { w with heap := w.heap.push (.cells [].toArray e (0, 0)) } := by
 simp only [execOp]
 refine Ag (a := .slice (some ⟨w.heap.size, 0, none⟩) 0 0) (w' := { w with heap := w.heap.push (.cells [].toArray e (0, 0)) }) ?_ |>.trans rfl
 unfold Instr.buildSlice
 rw [Ag (A6 ht.und w)]
 simp only []
 rw [Ag (E8 hte w)]; rw [if_neg Aa, if_pos Aa]
 have e0 : ∀ h : Nat → Value, (Array.range 0).map h = #[] := fun h => by simp
 have e1 : (Array.map (fun x : Nat × Operand => (x.fst, a.eval x.snd)) #[]).toList = [] := by simp
 simp only [pure_bind, Nat.zero_mul, e0, e1]
 rfl
theorem Acu {S : World → Prop} {fuel : Nat} {listed listed' : Array Bool} (i : Nat) {T e : TypeId} {sz bb esz ebb : Nat} {z ez : List Value} {dd : TypeDesc} [ht : Av P T (.slice e) sz bb z] [hte : Av P e dd esz ebb ez]
  (hi : ops[i]? = some ⟨some d, .buildSlice T 0 #[], ty, pos, af, g⟩) (hl : listed' = listed.setIfInBounds i true) (hg : Wants ops E g) (hdn : Nat.blt d n = true) (hS : E4 ops listed' = true ∨ ∀ w, Mem I L w → S w)
  (h : ∀ b, Cz P f n I₀ Q ops S fuel listed' k ((d, .slice (some ⟨b, 0, none⟩) 0 0) :: E) I ((b, .cells [].toArray e (0, 0)) :: L)) : Nh P f n I₀ Q ops S fuel listed i k E I L := by
 refine Mj i hi hl rfl hdn (fun a he => hg.wanted a he) fun a w he hm => ?_
 exact ⟨_, _, I, _, Ada a w, hm.alloc _, hS.imp id fun hS w hw => hS w hw.drop, h _⟩
theorem Ac8 {T : TypeId} {dd : TypeDesc} {sz bb : Nat} {z : List Value} [ht : Av P T dd sz bb z] (a : Act) (w : World) :
  (execOp a.eval ⟨some d, .alloc T, ty, pos, af, g⟩).run P w = .ok (.value (.pointer (some ⟨w.heap.size, 0, none⟩))) { w with heap := w.heap.push (.cells z.toArray T (0, 0)) } := by
 obtain ⟨v, hv, hz⟩ := Iy ht w
 simp only [execOp, Instr.alloc]
 refine Ag (a := .pointer (some ⟨w.heap.size, 0, none⟩)) (w' := { w with heap := w.heap.push (.cells z.toArray T (0, 0)) }) ?_ |>.trans rfl
 rw [Ag hv]
 have : v.cells = z.toArray := by rw [← hz]
 simp only [newVar, newRow, newObj, this]
 rfl
theorem Mi {S : World → Prop} {fuel : Nat} {listed listed' : Array Bool} (i : Nat) {T : TypeId} {dd : TypeDesc} {sz bb : Nat} {z : List Value} [ht : Av P T dd sz bb z]
  (hi : ops[i]? = some ⟨some d, .alloc T, ty, pos, af, g⟩) (hl : listed' = listed.setIfInBounds i true) (hg : Wants ops E g) (hdn : Nat.blt d n = true) (hS : E4 ops listed' = true ∨ ∀ w, Mem I L w → S w)
  (h : ∀ b, Cz P f n I₀ Q ops S fuel listed' k ((d, .pointer (some ⟨b, 0, none⟩)) :: E) I ((b, .cells z.toArray T (0, 0)) :: L)) : Nh P f n I₀ Q ops S fuel listed i k E I L := by
 refine Mj i hi hl rfl hdn (fun a he => hg.wanted a he) fun a w he hm => ?_
 exact ⟨_, _, I, _, Ac8 (T := T) a w, hm.alloc _, hS.imp id fun hS w hw => hS w hw.drop, h _⟩
theorem Nm {S : World → Prop} {fuel : Nat} {listed listed' : Array Bool} (i : Nat) {T : TypeId} {dd : TypeDesc} {sz bb : Nat} {z : List Value} [ht : Av P T dd sz bb z]
  (hi : ops[i]? = some ⟨some d, .alloc T, ty, pos, af, g⟩) (hc : decide (Region.ready .any ops listed = [i]) = true) (hl : listed' = listed.setIfInBounds i true) (hg : Wants ops E g) (hdn : Nat.blt d n = true) (hS : E4 ops listed' = true ∨ ∀ w, Mem I L w → S w)
  (h : ∀ b, Cz P f n I₀ Q ops S fuel listed' k ((d, .pointer (some ⟨b, 0, none⟩)) :: E) I ((b, .cells z.toArray T (0, 0)) :: L)) : Cz P f n I₀ Q ops S (fuel + 1) listed k E I L :=
 W1 [i] hc rfl fun x hx => by
  obtain rfl := List.mem_singleton.1 hx
  exact Mi x hi hl hg hdn hS h
theorem Zn {S : World → Prop} {fuel : Nat} {listed listed' : Array Bool} (i : Nat) {T T2 e : TypeId} {sz bb esz ebb sz2 bb2 : Nat} {z ez z2 : List Value} {dd dd2 : TypeDesc} [ht : Av P T (.slice e) sz bb z] [hte : Av P e dd esz ebb ez] [ht2 : Av P T2 dd2 sz2 bb2 z2]
  {x y : Operand} {B : K8} {xs ys : List Value} {m c : Nat} {ad2 : Option Addr} {m2 c2 : Nat} {L₀ : Bl}
  (hi : ops[i]? = some ⟨some d, .call ⟨.builtin .append, #[x, y], #[T, T2]⟩, T, pos, af, g⟩) (hl : listed' = listed.setIfInBounds i true) (hni : ∀ kk, dd2 ≠ .int kk) (hez : ez.length = esz)
  (hx : B8 E x = some (B6 m c B)) (hy : B8 E y = some (.slice ad2 m2 c2)) (hB : E0 esz m c xs B) (hL : ∀ w, Mem I L w → Mem I (Ch e xs B ++ L₀) w)
  (hyl : ys.length = m2 * esz) (hyr : ∀ a, ad2 = some a → Gc I L₀ a ys) (hyn : ad2 = none → ys = []) (hyp : ys.all Cn = true) (hesz : 0 < esz)
  (hsize : (m + m2) ≤ 4294967296) (hbytes : ebb ≤ 1024) (hg : Wants ops E g) (hdn : Nat.blt d n = true) (hS : ∀ B', E4 ops listed' = true ∨ ∀ w, Mem I (Ch e (xs ++ ys) B' ++ L₀) w → S w)
  (h : ∀ B' c', E0 esz (m + m2) c' (xs ++ ys) B' → Cz P f n I₀ Q ops S fuel listed' k ((d, B6 (m + m2) c' B') :: E) I (Ch e (xs ++ ys) B' ++ L₀)) : Nh P f n I₀ Q ops S fuel listed i k E I L := by
 refine Mj i hi hl rfl hdn (fun a he => hg.wanted a he) fun a w he hm => ?_
 obtain ⟨w', B', c', h1, h2, h3⟩ := S4 (P := P) (T := T) (T2 := T2) (e := e) (d := d) (pos := pos) (af := af) (g := g) hni hez hx hy hB hL hyl hyr hyn hyp hesz hsize hbytes a w he hm
 exact ⟨_, w', I, _, h1, h3, hS B', h B' c' h2⟩
theorem Acv {S : World → Prop} {fuel : Nat} {listed listed' : Array Bool} (i : Nat) {T U : TypeId} {x y : Operand} {b off : Nat} {v : Value} {vs cs us : List Value} {L' : Bl} {dd : TypeDesc} {sz bb : Nat} {z : List Value} [ht : Av P T dd sz bb z]
  (hi : ops[i]? = some ⟨none, .store T x y, ty, pos, af, g⟩) (hl' : listed' = listed.setIfInBounds i true)
  (hx : B8 E x = some (.pointer (some ⟨b, off, none⟩))) (hy : B8 E y = some v) (hv : Fo v = some vs) (hl : vs.length = sz) (hp : vs.all Cn = true)
  (hu : Upd b (.cells us.toArray U (0, 0)) (.cells cs.toArray U (0, 0)) L L') (hus : M8 off vs cs = some us) (hg : Wants ops E g) (hS : E4 ops listed' = true ∨ ∀ w, Mem I L' w → S w)
  (h : Cz P f n I₀ Q ops S fuel listed' k E I L') : Nh P f n I₀ Q ops S fuel listed i k E I L :=
 Vw i hi hl' rfl (fun a he => hg.wanted a he) (Up hx hy hv hl hp hu hus) hS h
theorem Afa {S : World → Prop} {fuel : Nat} {listed listed' : Array Bool} (i : Nat) {T U : TypeId} {x y : Operand} {b off : Nat} {v : Value} {vs cs us : List Value} {L' : Bl} {dd : TypeDesc} {sz bb : Nat} {z : List Value} [ht : Av P T dd sz bb z]
  (hi : ops[i]? = some ⟨none, .store T x y, ty, pos, af, g⟩) (hl' : listed' = listed.setIfInBounds i true)
  (hx : B8 E x = some (.pointer (some ⟨b, off, none⟩))) (hy : B8 E y = some v) (hv : Fo v = some vs) (hl : vs.length = sz) (hg : Wants ops E g) (hS : E4 ops listed' = true ∨ ∀ w, Mem I L' w → S w) (h : Cz P f n I₀ Q ops S fuel listed' k E I L')
  (hp : vs.all Cn = true := by first | rfl | (simp only [List.toList_toArray, List.all_cons, List.all_nil, He, Bool.and_true, Bool.true_and] <;> rfl)) (hu : Upd b (.cells us.toArray U (0, 0)) (.cells cs.toArray U (0, 0)) L L' := by first | exact u0 | exact u1 | exact u2 | exact u3 | exact u4 | exact u5 | exact u6) (hus : M8 off vs cs = some us := by rfl) : Nh P f n I₀ Q ops S fuel listed i k E I L := Acv i hi hl' hx hy hv hl hp hu hus hg hS h
end rules
theorem F3 {P : Program} {f : FuncId} {n : Nat} {I₀ : Heap} {Q : Cx} {k : List Item} {E : Hi} {I : Heap} {L : Bl} (h : HLe I I → RunS P f n I₀ Q k E I L) : RunS P f n I₀ Q k E I L := h (.refl _)
theorem H5 {P : Program} {f : FuncId} {n : Nat} {I₀ : Heap} {Q : Cx} {k : List Item} {E : Hi} {I : Heap} {id : Nat} {ops : Array Oper} {p : Nat × Obj} {L₀ : Bl} (N : Nat) (hN : ops.size = N) (hm : P.follows .mixedOrders = true)
  (h : Cz P f n I₀ Q ops (Mem I L₀) N (Array.replicate N false) k E I (p :: L₀)) : RunS P f n I₀ Q (.code (.region id ops true) :: k) E I (p :: L₀) := Tg I L₀ N hN hm h
def Ex.bare : Ex → Bool
 | .num _ => true
 | .name _ => true
 | _ => false
def Ex.norm : Ex → Bool → Bool
 | .num _, _ => true
 | .name _, _ => true
 | .bin _ a b, _ => a.bare && b.bare
 | .ite a b c, _ => a.bare && b.norm true && c.norm true
 | .lt _ a b, n => n && a.norm false && b.norm true
 | .fn _ _ _ _ b, _ => b.norm true
 | .un _ a, _ => a.bare
theorem Ex.of_let {e : Ex} (h : e.tree.head = D6) : ∃ x a b, e = .lt x a b := by
 cases e with
 | num s => cases h
 | name s => cases h
 | bin o a b => exact absurd h o.txt_ne.2.1
 | un o a => exact absurd h o.txt_ne.2.1
 | ite a b c => exact absurd (show G9 = D6 from h) Ac
 | lt x a b => exact ⟨x, a, b, rfl⟩
 | fn f x s t b => exact absurd (show D0 = D6 from h) Ac
theorem Ex.of_fun {e : Ex} (h : e.tree.head = D0) : ∃ f x s t b, e = .fn f x s t b := by
 cases e with
 | num s => cases h
 | name s => cases h
 | bin o a b => exact absurd h o.txt_ne.2.2.1
 | un o a => exact absurd h o.txt_ne.2.2.1
 | ite a b c => exact absurd (show G9 = D0 from h) Ac
 | lt x a b => exact absurd (show D6 = D0 from h) Ac
 | fn f x s t b => exact ⟨f, x, s, t, b, rfl⟩
theorem B5.txt_inj {o o' : B5} (h : o.txt = o'.txt) : o = o' := by have := congrArg B5.of h; rw [B5.of_txt, B5.of_txt] at this; exact Option.some.inj this
theorem U2.txt_inj {o o' : U2} (h : o.txt = o'.txt) : o = o' := by have := congrArg U2.of h; rw [U2.of_txt, U2.of_txt] at this; exact Option.some.inj this
theorem Nc (o : B5) (u : U2) : o.txt ≠ u.txt := by cases o <;> cases u <;> decide
theorem Nw (o : B5) (a b : Ex) : De (Ex.bin o a b).tree = [1, 2] := by cases o <;> rfl
theorem P3 (o : U2) (a : Ex) : De (Ex.un o a).tree = [1] := by cases o <;> rfl
theorem Ny (a b c : Ex) : De (Ex.ite a b c).tree = [1, 2, 3] := rfl
theorem Nz (x : As) (a b : Ex) : De (Ex.lt x a b).tree = [2, 3] := rfl
theorem Nx (f x : As) (s t : Ty) (b : Ex) : De (Ex.fn f x s t b).tree = [5] := rfl
theorem Ex.bare_atom {e : Ex} (h : e.ok = true) : decide (e.tree.atom = []) = !e.bare := by
 cases e with
 | num s => have h := Vy h; simp [Ex.tree, Tree.atom, h, Ex.bare]
 | name s => have h := Hv h; simp [Ex.tree, Tree.atom, h, Ex.bare]
 | _ => rfl
theorem Ex.bare_parts {e : Ex} : e.bare = e.tree.parts.isEmpty := by cases e <;> rfl
theorem FormAt.as {I : Heap} {t : Tree} {oa : Option Addr} {c : Nat} {oaf : Nat → Option Addr} {cf : Nat → Nat} (h : FormAt I t oa c oaf cf) (i : Nat) (u : Tree) (hi : i < t.parts.length) (hu : t.pt i = u) : Rep I u [.string (str u.atom), .slice (oaf i) u.parts.length (cf i)] := by
 subst hu; exact h.rp i hi
def Aev (n : Nat) : Prop := ∀ {I : Heap} {e : Ex} {cs : List Value} (_ : SizeOf.sizeOf e < n) (_ : Rep I e.tree cs) (_ : e.ok = true) (L : Bl), Fun Tryz.prog 129 [.agg cs.toArray] I L (Ed (.bool (e.norm false)) I L)
def Aeu (n : Nat) : Prop := ∀ {I : Heap} {e : Ex} {cs : List Value} (_ : SizeOf.sizeOf e < n) (_ : Rep I e.tree cs) (_ : e.ok = true) (L : Bl), Fun Tryz.prog 75 [.agg cs.toArray] I L (Ed (.bool (e.norm true)) I L)
structure XS where
 e : Ex
 oa : Option Addr
 c : Nat
theorem Ex.atom_iff {e : Ex} (h : e.ok = true) : e.tree.atom = [] ↔ e.bare = false := by
 have := Ex.bare_atom h
 cases hb : e.bare <;> simp_all
section rules
variable {P : Program} {f : FuncId} {n : Nat} {I₀ : Heap} {Q : Cx} {k : List Item} {E : Hi} {I : Heap} {L : Bl}
variable {ops : Array Oper} {d : Nat} {ty : TypeId} {pos : String} {af : Array Edge} {g : Option (Nat × Bool)} {l : List Oper}
theorem Kj {op : BinOp} {T : TypeId} {x y : Operand} {a b : Option Addr} {m c m' c' : Nat} (w : World) : (eqGuard op T x y (.slice a m c) (.slice b m' c')).run P w = .ok () w := by
 unfold eqGuard; split <;> rfl
theorem Z1 {S : World → Prop} {T T' e sz bb : Nat} {z : List Value} [ht : Av P T (.slice e) sz bb z] {x y : Operand} {oa : Option Addr} {m c : Nat} (hx : B8 E x = some (.slice oa m c)) (hy : B8 E y = some (.slice none 0 0)) :
  Hj P E S ⟨some d, .binOp .eql T x y T', ty, pos, af, g⟩ (.bool oa.isNone) := fun ac w he _ => by
 simp only [execOp, he.eval hx, he.eval hy]
 refine Ag (a := _) (w' := w) ?_ |>.trans rfl
 rw [Ag (Kj w)]
 have h : ∀ d : Nat, (Op.equalIn (d + 1) T (.slice oa m c) (.slice none 0 0)).run P w = .ok oa.isNone w := fun d => by
  unfold Op.equalIn
  rw [Ag (A6 ht.und w)]
  cases oa <;> rfl
 simp only [binOp, Op.equal]
 exact Ag (h 9999) |>.trans rfl
theorem Ii {T T' e sz bb : Nat} {z : List Value} [ht : Av P T (.slice e) sz bb z] {x y : Operand} {oa : Option Addr} {m c : Nat} (hx : B8 E x = some (.slice oa m c)) (hy : B8 E y = some (.slice none 0 0)) (hg : Wants ops E g) (hdn : Nat.blt d n = true)
  (h : A3 P f n I₀ Q ops l k ((d, .bool oa.isNone) :: E) I L) : A3 P f n I₀ Q ops (⟨some d, .binOp .eql T x y T', ty, pos, af, g⟩ :: l) k E I L := D8 (Z1 hx hy) hg hdn h
end rules

def Gn (oaf : Nat → Option Addr) (cf : Nat → Nat) : Nat → List Tree → List Value
 | _, [] => []
 | k, t :: ts => .string (str t.atom) :: .slice (oaf k) t.parts.length (cf k) :: Gn oaf cf (k + 1) ts
theorem Nj {f f' : Nat → Option Addr} {g g' : Nat → Nat} : ∀ (ts : List Tree) (k : Nat), (∀ i, k ≤ i → f i = f' i ∧ g i = g' i) → Gn f g k ts = Gn f' g' k ts
 | [], _, _ => rfl
 | t :: ts, k, h => by
  simp only [Gn]
  rw [(h k (Nat.le_refl _)).1, (h k (Nat.le_refl _)).2, Nj ts (k + 1) (fun i hi => h i (by omega))]
theorem RepL.cells {I : Heap} : ∀ {ts : List Tree} {vs : List Value} (k : Nat), RepL I ts vs → ∃ oaf cf, vs = Gn oaf cf k ts
 | _, _, k, .nil => ⟨fun _ => none, fun _ => 0, rfl⟩
 | _, _, k, .cons (ts := ts) h hs => by
  obtain ⟨f, g, rfl⟩ := RepL.cells (k + 1) hs; obtain ⟨oa, c, vs, he, _⟩ := h.open
  simp only [List.cons.injEq, and_true] at he
  obtain ⟨rfl, rfl⟩ := he; refine ⟨fun i => if i = k then oa else f i, fun i => if i = k then c else g i, ?_⟩
  simp only [Gn, if_true]
  congr 2
  exact Nj ts (k + 1) (fun i hi => by rw [if_neg (by omega), if_neg (by omega)]; exact ⟨rfl, rfl⟩)
theorem Qd {f : Nat → Option Addr} {g : Nat → Nat} : ∀ (ts : List Tree) (k i : Nat) (hi : i < ts.length), (Gn f g k ts)[i * 2]? = some (.string (str ts[i].atom)) ∧ (Gn f g k ts)[i * 2 + 1]? = some (.slice (f (k + i)) ts[i].parts.length (g (k + i)))
 | [], _, _, hi => by simp at hi
 | t :: ts, k, 0, _ => ⟨rfl, rfl⟩
 | t :: ts, k, i + 1, hi => by
  obtain ⟨h1, h2⟩ := Qd (f := f) (g := g) ts (k + 1) i (by simpa using hi); refine ⟨?_, ?_⟩
  ·rw [show (i + 1) * 2 = i * 2 + 1 + 1 by omega]; simpa [Gn] using h1
  ·rw [show (i + 1) * 2 + 1 = i * 2 + 1 + 1 + 1 by omega, show k + (i + 1) = k + 1 + i by omega]; simpa [Gn] using h2
theorem Rep.cells {I : Heap} {t : Tree} {cs : List Value} (h : Rep I t cs) : ∃ oa c oaf cf, cs = [.string (str t.atom), .slice oa t.parts.length c] ∧ FormAt I t oa c oaf cf ∧ RepL I t.parts (Gn oaf cf 0 t.parts) ∧ (∀ x, oa = some x → Still I x (Gn oaf cf 0 t.parts)) := by
 obtain ⟨oa, c, vs, rfl, hl, hs, hn, hc, ha, hp⟩ := h.open; obtain ⟨oaf, cf, rfl⟩ := hl.cells 0; refine ⟨oa, c, oaf, cf, rfl, ⟨h, fun i hi => ?_, fun e => by rw [hn e]; rfl, hp, ha, hc⟩, hl, hs⟩; obtain ⟨c1, c2, h1, h2, h3⟩ := hl.get i hi; obtain ⟨h4, h5⟩ := Qd (f := oaf) (g := cf) t.parts 0 i hi; rw [h4] at h2; rw [h5, Nat.zero_add] at h3
 cases h2; cases h3
 rw [Tree.pt_at hi]; obtain ⟨x, rfl⟩ : ∃ x, oa = some x := by
  cases oa with
  | none => have := hn rfl; rw [this] at hi; simp at hi
  | some x => exact ⟨x, rfl⟩
 refine ⟨h1, (hs x rfl).part (i * 2) ?_⟩; intro j hj
 match j, hj with
 | 0, _ => simpa using h4
 | 1, _ => simpa using h5

def CL (e : TypeId) (vs : List Value) (n : Nat) (I : Heap) (L : Bl) : Cx := fun v I' L' => ∃ b sp c, v = .slice (some ⟨b, 0, none⟩) n c ∧ n ≤ c ∧ I = I' ∧ L' = (b, .cells (vs ++ sp).toArray e (0, 0)) :: L
theorem Qq {I : Heap} {x : Addr} {n c : Nat} {vs : List Value} (hs : Still I x vs) (hv : vs.length = n * 2) (hp : vs.all Cn = true) (hn0 : 0 < n) (hn : n ≤ 4294967296) (L : Bl) :
  Fun Tryz.prog 114 [.slice (some x) n c] I L (CL 49 vs n I L) := by
 refine Ao Ad ?_; refine Se rfl (Oa rfl (Ab (Ah (Se rfl (Om rfl ?_))))); refine Ii rfl rfl .free rfl ?_; refine Ab ?_
 first | refine Sf rfl Ad ?_ | refine At Ak ?_
 refine Aj (Se rfl ?_); refine Eh .free rfl ?_; intro b5; refine Om rfl ?_; refine D7 (B := some (b5, [])) (xs := []) (ys := vs) (m := 0) (c := 0) (L₀ := L) Bk Ae rfl rfl ⟨rfl, Nat.le_refl _, rfl⟩ (fun _ h => h) Aa (fun a ha => by cases ha; exact hs.reads) Ad hp hn0 Ac Aa Ac .free rfl ?_; intro b sp c' hB'; refine Oa rfl (Ab (Al (.tmp rfl .nil) ?_))
 exact ⟨I, _, .refl _, fun _ h => h, b, sp, c', by rw [Nat.zero_add]; rfl, by have := hB'.2.1; omega, rfl, rfl⟩
mutual
def Tree.dec : (t u : Tree) → Decidable (t = u)
 | .node a ps, .node b qs => if h : a = b then (match Aej ps qs with
   | isTrue h' => isTrue (by rw [h, h'])
   | isFalse h' => isFalse (fun e => h' (Tree.node.inj e).2)) else isFalse (fun e => h (Tree.node.inj e).1)
def Aej : (ps qs : List Tree) → Decidable (ps = qs)
 | [], [] => isTrue rfl
 | [], _ :: _ => isFalse (by simp)
 | _ :: _, [] => isFalse (by simp)
 | t :: ts, u :: us => match Tree.dec t u, Aej ts us with
  | isTrue h, isTrue h' => isTrue (by rw [h, h'])
  | isFalse h, _ => isFalse (fun e => h (List.cons.inj e).1)
  | _, isFalse h => isFalse (fun e => h (List.cons.inj e).2)
end
instance : DecidableEq Tree := Tree.dec

theorem Forms.fa {I : Heap} {oa : Option Addr} {ts : List Tree} {c : Nat} (h : Forms I oa ts c) : Rep I (.node [] ts) [.string (str []), .slice oa ts.length c] := h.form [] (by simp [Bd])
def Afm (n : Nat) : Prop := ∀ {I : Heap} {t u : Tree} {cs ds : List Value} (_ : SizeOf.sizeOf t < n) (_ : Rep I t cs) (_ : Rep I u ds) (L : Bl), Fun Tryz.prog 131 [.agg cs.toArray, .agg ds.toArray] I L (Ed (.bool (decide (t = u))) I L)
abbrev Yp := List (As × Ex)
def Ad6 : Yp → Ex → Ex
 | [], f => f
 | (x, e) :: bs, f => .lt x e (Ad6 bs f)
def Xn (b : Bool) (s : As) : Option Ex := match E2 s with
 | some e => if e.norm b = true then some e else none
 | none => none
def Adq (b : Bool) (s : As) : Bool := (Xn b s).isSome
def Aea (x s : As) : As × Ex := (x, (Xn false s).getD (.num []))
def Yj (l m : List As) : Yp := l.zipWith Aea m
def Afb (l m : List As) (s : As) : Option As := match Xn true s with
 | none => none
 | some f => if l.length = m.length ∧ l.all Bu = true ∧ m.all (Adq false) = true ∧ (Ad6 (Yj l m) f).fine = true then some (Ad6 (Yj l m) f).tree.text else none

def Afj (bs : Yp) : Prop := ∀ p ∈ bs, Bu p.1 = true ∧ p.2.ok = true ∧ p.2.norm false = true ∧ p.2.tree.len ≤ 12000
theorem P1 {s : As} {t : Tree} {ok : Bool} (hpf : match E2 s with | some e => ok = true ∧ t = e.tree | none => ok = false) (h : ok = true) : ∃ e, E2 s = some e ∧ t = e.tree ∧ e.ok = true ∧ e.tree.len ≤ 12000 ∧ e.fine = true ∧ s = e.tree.text := by
 cases hx : E2 s with
 | none => rw [hx] at hpf; simp [h] at hpf
 | some e =>
  rw [hx] at hpf; obtain ⟨h1, h2, h3⟩ := Mc hx
  have hfine := h2
  simp only [Ex.fine, Bool.and_eq_true, Tree.fits, decide_eq_true_eq] at h2
  exact ⟨e, rfl, hpf.2, h2.1.1, h2.2.2, hfine, h3⟩
theorem S7 {s : As} {t : Tree} {ok : Bool} (hpf : match E2 s with | some e => ok = true ∧ t = e.tree | none => ok = false) (h : ok = false) : E2 s = none := by
 cases hx : E2 s with
 | none => rfl
 | some e => rw [hx] at hpf; simp [h] at hpf
def RN (p : Option Ex) (L : Bl) : Cx := RX p L
/- Bindings in memory. -/
inductive BindL : Heap → Yp → List Value → Prop
 | nil {I : Heap} : BindL I [] []
 | cons {I : Heap} {x : As} {e : Ex} {bs : Yp} {c1 c2 : Value} {vs : List Value} (hx : x.length ≤ Bd) (h : Rep I e.tree [c1, c2]) (hs : BindL I bs vs) : BindL I ((x, e) :: bs) (.string (str x) :: c1 :: c2 :: vs)
theorem BindL.mono {I I' : Heap} (hle : HLe I I') {bs : Yp} {vs : List Value} (h : BindL I bs vs) : BindL I' bs vs := by
 induction h with
 | nil => exact .nil
 | cons hx h _ ih => exact .cons hx (h.mono hle) ih
theorem BindL.length {I : Heap} {bs : Yp} {vs : List Value} (h : BindL I bs vs) : vs.length = bs.length * 3 := by
 induction h with
 | nil => rfl
 | cons hx h _ ih => simp [ih]; omega
theorem BindL.plain {I : Heap} {bs : Yp} {vs : List Value} (h : BindL I bs vs) : vs.all Cn = true := by
 induction h with
 | nil => rfl
 | cons hx h _ ih =>
  have h2 := h.vals
  simp only [List.all_cons, List.all_nil, Bool.and_true, Bool.and_eq_true] at h2 ⊢
  exact ⟨rfl, h2.1, h2.2, ih⟩
theorem BindL.append {I : Heap} {bs cs : Yp} {vs ws : List Value} (h : BindL I bs vs) (h' : BindL I cs ws) : BindL I (bs ++ cs) (vs ++ ws) := by
 induction h with
 | nil => exact h'
 | cons hx h _ ih => exact .cons hx h ih
theorem BindL.get {I : Heap} {bs : Yp} {vs : List Value} (h : BindL I bs vs) : ∀ i (hi : i < bs.length), ∃ c1 c2, Rep I bs[i].2.tree [c1, c2] ∧ bs[i].1.length ≤ Bd ∧ vs[i * 3]? = some (.string (str bs[i].1)) ∧ vs[i * 3 + 1]? = some c1 ∧ vs[i * 3 + 2]? = some c2 := by
 induction h with
 | nil => intro i hi; simp at hi
 | @cons x e bs c1 c2 vs hx h hs ih =>
  intro i hi
  cases i with
  | zero => exact ⟨c1, c2, h, hx, rfl, rfl, rfl⟩
  | succ i =>
   obtain ⟨d1, d2, h1, h2, h3, h4, h5⟩ := ih i (by simpa using hi); refine ⟨d1, d2, by simpa using h1, by simpa using h2, ?_, ?_, ?_⟩
   ·rw [show (i + 1) * 3 = i * 3 + 1 + 1 + 1 by omega]; simpa using h3
   ·rw [show (i + 1) * 3 + 1 = i * 3 + 1 + 1 + 1 + 1 by omega]; simpa using h4
   ·rw [show (i + 1) * 3 + 2 = i * 3 + 2 + 1 + 1 + 1 by omega]; simpa using h5
structure Binds (I : Heap) (oa : Option Addr) (bs : Yp) (c : Nat) : Prop where
 rep : ∃ vs, BindL I bs vs ∧ ∀ x, oa = some x → Still I x vs
 nil : oa = none → bs.length = 0
 cap : bs.length ≤ c
 len : bs.length ≤ Bd
theorem Binds.mono {I I' : Heap} (hle : HLe I I') {oa : Option Addr} {bs : Yp} {c : Nat} (h : Binds I oa bs c) : Binds I' oa bs c := by
 obtain ⟨⟨vs, h1, h2⟩, h3, h4, h5⟩ := h
 exact ⟨⟨vs, h1.mono hle, fun x hx => (h2 x hx).mono hle⟩, h3, h4, h5⟩
theorem Binds.at {I : Heap} {oa : Option Addr} {bs : Yp} {c : Nat} (h : Binds I oa bs c) (i : Nat) (hi : i < bs.length) :
  ∃ ob d, Rep I bs[i].2.tree [.string (str bs[i].2.tree.atom), .slice ob bs[i].2.tree.parts.length d] ∧ bs[i].1.length ≤ Bd ∧
   Still I ((Us oa).add (i * 3)) [.string (str bs[i].1), .string (str bs[i].2.tree.atom), .slice ob bs[i].2.tree.parts.length d] := by
 obtain ⟨⟨vs, h1, h2⟩, h3, h4, h5⟩ := h; obtain ⟨c1, c2, r, hx, e1, e2, e3⟩ := h1.get i hi; obtain ⟨ob, d, ws, he, _⟩ := r.open
 simp only [List.cons.injEq, and_true] at he
 obtain ⟨rfl, rfl⟩ := he; obtain ⟨y, rfl⟩ : ∃ y, oa = some y := by
  cases oa with
  | none => have := h3 rfl; omega
  | some y => exact ⟨y, rfl⟩
 refine ⟨ob, d, r, hx, (h2 y rfl).part (i * 3) ?_⟩; intro j hj
 match j, hj with
 | 0, _ => simpa using e1
 | 1, _ => simpa using e2
 | 2, _ => simpa using e3
structure YS where
 I : Heap
 k : Nat
 oa : Option Addr
 c : Nat
end Go.Proofs.YtmfagaajiakgoaaGreatDoor
