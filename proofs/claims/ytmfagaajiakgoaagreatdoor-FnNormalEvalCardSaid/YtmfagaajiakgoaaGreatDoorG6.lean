/- Which forms are expressions, by the program. No conditions. -/
import Derived.Test.YtmfagaajiakgoaaGreatDoorG5

namespace Go.Proofs.YtmfagaajiakgoaaGreatDoor
set_option maxRecDepth 100000
set_option linter.unusedVariables false
set_option linter.unusedSimpArgs false

theorem Adr {t : Tree} (h : D2 t ≠ []) : t.parts.length = (Ax t.head).2 := by
 unfold D2 at h
 split at h
 ·assumption
 ·exact absurd rfl h
theorem Tree.size_maxN {t : Tree} (h : t.len ≤ 12000 * 1000) : t.size ≤ Bg := by have := t.size_len; unfold Bg; omega
theorem T7 : ∀ (n : Nat) {I : Heap} {t : Tree} {cs : List Value} (_ : SizeOf.sizeOf t < n) (_ : Rep I t cs) (_ : t.good = true) (_ : t.len ≤ 12000000) (L : Bj),
  Fun Tryz.prog 141 [.agg cs.toArray] I L (E2 (.bool t.ex.isSome) I L) := by
 intro n
 induction n with
 | zero => intro I t cs h; omega
 | succ n ihn =>
  intro I t cs hlt h hg hz L; obtain ⟨oa, c, oaf, cf, rfl, hf⟩ := h.at'
  have hp := hf.len
  unfold Bg at hp
  refine Ao Ae ?_; refine Se rfl ?_; refine Cm rfl rfl .free rfl ?_; intro b1; refine Oa rfl (Ab (Ah (Se rfl ?_))); refine Az rfl .free rfl ?_; refine Ca rfl (B8 h _) ?_; rintro _ _ _ _ ⟨rfl, rfl, rfl⟩; refine Ab ?_; refine A6 rfl ?_ ?_
  ·intro c0
   try simp only [nb] at c0
   refine Se rfl ?_; refine Az rfl .free rfl ?_; refine Ca rfl (T6 h _) ?_; rintro _ _ _ _ ⟨rfl, rfl, rfl⟩; refine Oa rfl (Ab (Am (.tmp rfl .nil) ?_)); refine only rfl ?_
   have e : t.parts = [] := by simpa using c0
   refine congrArg Value.bool ?_
   cases t with
   | node a ps =>
    simp only [Tree.parts] at e
    subst e
    simp only [Tree.parts, Tree.atom, Tree.ex, List.isEmpty_nil, Bool.true_and]
    cases B0 a <;> cases Ci a <;> rfl
  intro c0
  try simp only [nb] at c0
  have hne : t.parts ≠ [] := by simpa using c0
  refine Ak (Se rfl ?_); refine Az rfl .free rfl ?_; refine Ca rfl (Du h _) ?_; rintro _ J _ e ⟨ok, ck, rfl, hk, rfl⟩
  have hf := hf.mono e
  refine Oa rfl (Ab (Ah (Se rfl (Om rfl (On rfl (Oc rfl rfl rfl (Ab ?_))))))); refine A6 rfl ?_ ?_
  ·intro c1
   try simp only [nb] at c1
   have hk0 : D2 t = [] := List.length_eq_zero_iff.1 Aa
   refine Se rfl (Oa rfl (Ab (Am (.tmp rfl .nil) ?_))); refine Km e Cl ?_; rw [U0 hne hk0]; rfl
  intro c1
  try simp only [nb] at c1
  have hk0 : D2 t ≠ [] := fun h0 => c1 (by rw [h0]; rfl)
  have hkl := Adr hk0
  have hks := U1 hk0
  have hkm := hk.cap
  have hk5 := Afg t
  refine Ak (Ah (Se rfl (Om rfl (On rfl (Om rfl (Ab (Aq ?_))))))); refine Dn (X := Nat) (fun i => (D2 t).length - i) (fun i => [(1, .pointer (some ⟨b1, 0, none⟩)), (17, .slice ok (D2 t).length ck), (18, .int .i64 ((D2 t).length : Nat)), (19, .int .i64 (i : Nat))]) (fun _ => J) (fun _ => (b1, .cells [.string (str t.atom), .slice oa t.parts.length c].toArray _ (0, 0)) :: L) (fun i => i ≤ (D2 t).length ∧ ((D2 t).take i).all (fun i => (t.pt i).ex.isSome) = true) 0 ⟨by omega, rfl⟩ ⟨rfl, rfl, rfl, rfl, trivial⟩ Cl ?_; rintro i ⟨hi, hall⟩ ih; refine Se rfl (Oc rfl rfl rfl (Ab (Ah ?_)))
  refine A6 rfl ?_ ?_
  ·intro c2
   try simp only [nb] at c2
   have hki : (D2 t).getD i 0 = (D2 t)[i] := by simp [show i < (D2 t).length by omega]
   have hkt : (D2 t).getD i 0 < t.parts.length := by rw [hki]; exact (Afh (List.getElem_mem (show i < (D2 t).length by omega))).1
   refine Ak (Ah (Aq (Se rfl ?_)))
   first | refine Bs rfl rfl _ rfl .free rfl ?_ | refine Bt rfl rfl _ rfl .free rfl ?_
   refine Er rfl .free rfl ?_; refine Oa rfl (Ab (Se rfl (Oh rfl ?_))); refine Bv rfl .free rfl ?_; refine Om rfl ?_
   first | refine Bs rfl rfl _ rfl .free rfl ?_ | refine Bt rfl rfl _ rfl .free rfl ?_
   refine Gv rfl .free rfl ?_; refine Ca rfl (ihn (t := t.pt ((D2 t).getD i 0)) (by have := t.pt_lt _ hkt; omega) (hf.rp _ hkt) (Tree.pt_good hg _ hkt) (by have := t.pt_len _ hkt; omega) _) ?_; rintro _ _ _ _ ⟨rfl, rfl, rfl⟩; refine Ei rfl .free rfl ?_; refine Ab ?_; refine A6 rfl ?_ ?_
   ·intro c3
    try simp only [nb] at c3
    refine Se rfl (Oa rfl (Ab (Am (.tmp rfl .nil) ?_))); refine Km e Cl ?_; rw [hks]
    have : (D2 t).all (fun i => (t.pt i).ex.isSome) = false := by
     rw [List.all_eq_false]; exact ⟨_, List.getElem_mem (show i < (D2 t).length by omega), by rw [← hki]; simpa using c3⟩
    rw [this]; rfl
   intro c3
   try simp only [nb] at c3
   refine Ak (Ap (Al rfl ?_)); refine Or rfl rfl rfl ?_; refine Om rfl (Ab ?_); refine Ed (E' := [(1, .pointer (some ⟨b1, 0, none⟩)), (17, .slice ok (D2 t).length ck), (18, .int .i64 ((D2 t).length : Nat)), (19, .int .i64 ((i + 1 : Nat)))]) ⟨rfl, rfl, rfl, rfl, trivial⟩ (ih (i + 1) ⟨by omega, ?_⟩ Aa); rw [List.take_succ_eq_append_getElem Aa, List.all_append, hall]
   simp only [List.all_cons, List.all_nil, Bool.and_true, Bool.true_and]
   rw [← hki]; simpa using c3
  intro c2
  try simp only [nb] at c2
  obtain rfl : i = (D2 t).length := by omega
  rw [List.take_length] at hall; rw [hall] at hks; refine Cc rfl ?_; refine Ah (Se rfl ?_); refine Az rfl .free rfl ?_; refine Ca rfl (Bl hf.rep _) ?_; rintro _ _ _ _ ⟨rfl, rfl, rfl⟩; refine Ab (Aq (Se rfl (Od rfl rfl rfl (Oa rfl (Ab ?_))))); refine A6 rfl ?_ ?_
  ·intro c4
   try simp only [nb] at c4
   have hl4 : t.parts.length = 4 := by rw [hkl, c4]; decide
   have ha1 := (hf.rp 1 Aa).atom_le
   refine Se rfl (Oh rfl ?_); refine Bv rfl .free rfl ?_
   first | refine Bs rfl rfl 1 rfl .free rfl ?_ | refine Bt rfl rfl 1 rfl .free rfl ?_
   refine Bh rfl .free rfl ?_; refine Gj rfl .free rfl ?_; refine Ca rfl (Ko (t.pt 1).atom ha1 _ _) ?_; rintro _ _ _ _ ⟨rfl, rfl, rfl⟩; refine Oa rfl (Ab (Am (.tmp rfl .nil) ?_)); refine Km e Cl ?_; rw [hks, Me, if_pos (show t.head = Dz from c4)]; rfl
  intro c4
  try simp only [nb] at c4
  refine Se rfl (Od rfl rfl rfl (Oa rfl (Ab ?_))); refine A6 rfl ?_ ?_
  ·intro c5
   try simp only [nb] at c5
   have hl6 : t.parts.length = 6 := by rw [hkl, c5]; decide
   have ha1 := (hf.rp 1 Aa).atom_le
   have ha2 := (hf.rp 2 Aa).atom_le
   have hz3 := t.pt_len 3 Aa
   have hz4 := t.pt_len 4 Aa
   refine Ah ?_; refine Fh 12 rfl rfl ?_; refine Da 0 rfl (Aj rfl) ?_; refine Dt 1 [12] rfl (Bo rfl) ?_
   first | refine Da 2 rfl (Bc rfl rfl 1 rfl) ?_ | refine Da 2 rfl (Bd rfl rfl 1 rfl) ?_
   refine Da 3 rfl (A4 rfl) ?_; refine Dt 4 [12] rfl (Kb rfl) ?_; refine Da 5 rfl (Aj rfl) ?_; refine Dt 6 [12] rfl (Bo rfl) ?_
   first | refine Da 7 rfl (Bc rfl rfl 2 rfl) ?_ | refine Da 7 rfl (Bd rfl rfl 2 rfl) ?_
   refine Da 8 rfl (A4 rfl) ?_; refine Dt 9 [12] rfl (Kb rfl) ?_; refine Da 10 rfl (Bk rfl) ?_; refine Da 11 rfl (Bk rfl) ?_; refine A5 Af ?_; refine Se rfl (Om rfl ?_); refine Ca rfl (Ko (t.pt 1).atom ha1 _ _) ?_; rintro _ _ _ _ ⟨rfl, rfl, rfl⟩; refine Om rfl ?_
   apply Fr 55 58 rfl
   ·intro g17_3 hk
    try simp only [nb] at g17_3
    refine Ow rfl ?_; refine Cx rfl (.met rfl rfl) rfl (Ko (t.pt 2).atom ha2 _ _) ?_; rintro _ _ _ _ ⟨rfl, rfl, rfl⟩; refine Ot rfl rfl ?_
    exact Bb 2 rfl rfl hk
   ·intro _ hk; refine Br 2 rfl ?_; refine Of rfl rfl ?_
    exact Bb 2 rfl rfl hk
   refine Om rfl ?_
   apply Fr 59 63 rfl
   ·intro g17_7 hk
    try simp only [nb] at g17_7
    refine Ow rfl (Ow rfl ?_); refine F9 rfl rfl rfl (.met rfl rfl) rfl ?_; refine Ot rfl rfl ?_
    exact Bb 3 rfl rfl hk
   ·intro _ hk; refine Br 3 rfl ?_; refine Of rfl rfl ?_
    exact Bb 3 rfl rfl hk
   refine Om rfl ?_
   apply Fr 64 70 rfl
   ·intro g17_12 hk
    try simp only [nb] at g17_12
    refine Cj rfl (.met rfl rfl) rfl ?_; refine Bv rfl (.met rfl rfl) rfl ?_
    first | refine Bs rfl rfl 3 rfl (.met rfl rfl) rfl ?_ | refine Bt rfl rfl 3 rfl (.met rfl rfl) rfl ?_
    refine Gv rfl (.met rfl rfl) rfl ?_; refine Cx rfl (.met rfl rfl) rfl (Pm (hf.rp 3 Aa) (Tree.size_maxN Aa) _) ?_; rintro _ _ _ _ ⟨rfl, rfl, rfl⟩; refine Ot rfl rfl ?_
    exact Bb 5 rfl rfl hk
   ·intro _ hk; refine Br 5 rfl ?_; refine Of rfl rfl ?_
    exact Bb 5 rfl rfl hk
   refine Om rfl ?_
   apply Fr 71 77 rfl
   ·intro g17_19 hk
    try simp only [nb] at g17_19
    refine Cj rfl (.met rfl rfl) rfl ?_; refine Bv rfl (.met rfl rfl) rfl ?_
    first | refine Bs rfl rfl 4 rfl (.met rfl rfl) rfl ?_ | refine Bt rfl rfl 4 rfl (.met rfl rfl) rfl ?_
    refine Gv rfl (.met rfl rfl) rfl ?_; refine Cx rfl (.met rfl rfl) rfl (Pm (hf.rp 4 Aa) (Tree.size_maxN Aa) _) ?_; rintro _ _ _ _ ⟨rfl, rfl, rfl⟩; refine Ot rfl rfl ?_
    exact Bb 5 rfl rfl hk
   ·intro _ hk; refine Br 5 rfl ?_; refine Of rfl rfl ?_
    exact Bb 5 rfl rfl hk
   refine Oa rfl (Ab (Am (.tmp rfl .nil) ?_)); refine Km e Cl ?_; rw [hks, Me, if_neg (show ¬ t.head = Dz from c4), if_pos (show t.head = Dk from c5)]
   simp [C2]
  intro c5
  try simp only [nb] at c5
  refine Ak (Ap (Se rfl (Oa rfl (Ab (Am (.tmp rfl .nil) ?_))))); refine Km e Cl ?_; rw [hks, Me, if_neg (show ¬ t.head = Dz from c4), if_neg (show ¬ t.head = Dk from c5)]; rfl
theorem Mg {t : Tree} (hg : t.good = true) (h : t.atom = []) : t.parts ≠ [] ∧ 0 < t.parts.length := by
 have : t.parts ≠ [] := by rcases t.good_cases hg with hh | hh <;> simp_all
 exact ⟨this, List.length_pos_iff.2 this⟩
theorem L4 {t : Tree} (hg : t.good = true) (h : t.atom ≠ []) : t.parts = [] := by rcases t.good_cases hg with hh | hh <;> simp_all
theorem I7 {t : Tree} (h : 0 < t.parts.length) : t.head = (t.pt 0).atom := by
 cases t with
 | node a ps => cases ps with
  | nil => simp [Tree.parts] at h
  | cons p ps => rfl
theorem Afa {t : Tree} (h : t.parts = []) : t.ex.isSome = (B0 t.atom || Ci t.atom) := by
 cases t with
 | node a ps =>
  simp only [Tree.parts] at h
  subst h
  simp only [Tree.atom, Tree.ex]
  cases B0 a <;> cases Ci a <;> rfl
theorem Ys (h : As) : (Ax h).1 ≤ (Ax h).2 ∧ (Ax h).2 ≤ 6 ∧ ((Ax h).1 = 0 → (Ax h).2 = 0) ∧ ((Ax h).1 ≠ 0 → (Ax h).1 < (Ax h).2) ∧ (1 < (Ax h).1 ↔ h = Dz ∨ h = Dk) ∧ ((Ax h).1 = 5 ↔ h = Dk) ∧ ((Ax h).1 = 5 → (Ax h).2 = 6) := by
 rcases Hp h with ⟨o, e, hr⟩ | ⟨e, hr⟩ | ⟨e, hr⟩ | ⟨e, hr⟩ | ⟨o, e, hr⟩ | ⟨hr, _, _, _, h4, h5⟩
 ·rw [hr, e]; have := o.txt_ne; simp [this]
 ·rw [hr, e]; simp; decide
 ·rw [hr, e]; simp; decide
 ·rw [hr, e]; simp
 ·rw [hr, e]; have := o.txt_ne; simp [this]
 ·rw [hr]; simp [h4, h5]
theorem Zo {t : Tree} (h : t.parts.length = (Ax t.head).2) : D2 t = List.range' (Ax t.head).1 ((Ax t.head).2 - (Ax t.head).1) := if_pos h

theorem Abi : ∀ (n : Nat) {I : Heap} {t : Tree} {cs : List Value} (_ : SizeOf.sizeOf t < n) (_ : Rep I t cs) (_ : t.good = true) (_ : t.len ≤ 12000000) (L : Bj),
  Fun Tryz.prog 95 [.agg cs.toArray] I L (E2 (.bool t.ex.isSome) I L) := by
 intro n
 induction n with
 | zero => intro I t cs h; omega
 | succ n ihn =>
  intro I t cs hlt h hg hz L; obtain ⟨oa, c, oaf, cf, rfl, hf⟩ := h.at'
  have hp := hf.len
  have ha := hf.alen
  unfold Bg at hp
  refine Ao Ae ?_; refine Se rfl ?_; refine Cm rfl rfl .free rfl ?_; intro b1; refine Oa rfl (Ab (Ah (Se rfl (Oh rfl ?_)))); refine Bv rfl .free rfl ?_; refine Od rfl rfl rfl (Ab ?_); refine A6 rfl ?_ ?_
  ·intro c0
   try simp only [nb] at c0
   refine Se rfl (Oh rfl ?_); refine Bv rfl .free rfl ?_; refine Ca rfl (Zm t.atom ha _ _) ?_; rintro _ _ _ _ ⟨rfl, rfl, rfl⟩; refine Om rfl (Oe rfl rfl (Oe rfl rfl (Oa rfl (Oa rfl (Ab (Se rfl (Om rfl (Om rfl ?_))))))))
   apply G4 18 22 rfl
   ·intro g3_2 hk
    try simp only [nb] at g3_2
    refine Cj rfl (.met rfl rfl) rfl ?_; refine Bv rfl (.met rfl rfl) rfl ?_; refine Cx rfl (.met rfl rfl) rfl (Nf t.atom ha _ _) ?_; rintro _ _ _ _ ⟨rfl, rfl, rfl⟩; refine Of rfl rfl ?_
    exact Bb 3 rfl rfl hk
   ·intro _ hk; refine Br 3 rfl ?_; refine Ot rfl rfl ?_
    exact Bb 3 rfl rfl hk
   refine Oa rfl (Ab (Am (.tmp rfl .nil) ?_)); refine only rfl ?_; rw [Afa (L4 hg Fv)]
   exact congrArg Value.bool (Bool.or_comm ..)
  intro c0
  try simp only [nb] at c0
  obtain ⟨hne, h0⟩ := Mg hg Fv
  have hhd := I7 h0
  obtain ⟨k1, k2, k3, k4, k5, k6, k7⟩ := Ys t.head; refine Ak (Se rfl (Oh rfl ?_)); refine Bv rfl .free rfl ?_
  first | refine Bs rfl rfl 0 rfl .free rfl ?_ | refine Bt rfl rfl 0 rfl .free rfl ?_
  refine Bh rfl .free rfl ?_; refine Gj rfl .free rfl ?_; refine Ca rfl (Kr (t.pt 0).atom _ _) ?_; rw [← hhd]; rintro _ _ _ _ ⟨rfl, rfl, rfl⟩; refine Om rfl (Oe rfl rfl (Oe rfl rfl (Oa rfl (Oa rfl (Ab (Ah (Se rfl (Om rfl (Oc rfl rfl rfl (Om rfl ?_))))))))))
  apply G4 34 40 rfl
  ·intro g5_3 hk
   try simp only [nb] at g5_3
   refine Cj rfl (.met rfl rfl) rfl ?_; refine Bv rfl (.met rfl rfl) rfl ?_; refine Nj rfl (.met rfl rfl) rfl ?_; refine Ow rfl ?_; refine D8 rfl rfl rfl (.met rfl rfl) rfl ?_; refine Of rfl rfl ?_
   exact Bb 5 rfl rfl hk
  ·intro _ hk; refine Br 5 rfl ?_; refine Ot rfl rfl ?_
   exact Bb 5 rfl rfl hk
  refine Ab ?_; refine A6 rfl ?_ ?_
  ·intro c1
   try simp only [nb] at c1
   refine Se rfl (Oa rfl (Ab (Am (.tmp rfl .nil) ?_))); refine only rfl ?_
   have hk : D2 t = [] := by
    unfold D2
    split
    ·have : (Ax t.head).1 = 0 := by omega
     rw [this, k3 this]; rfl
    ·rfl
   rw [U0 hne hk]; rfl
  intro c1
  try simp only [nb] at c1
  have hl : t.parts.length = (Ax t.head).2 := by omega
  have hkr := Zo hl
  have hk0 : D2 t ≠ [] := by
   intro e; rw [e] at hkr; have := congrArg List.length hkr; simp at this; omega
  have hks := U1 hk0
  refine Ak (Ah (Se rfl (Om rfl (Oc rfl rfl rfl (Om rfl ?_)))))
  apply Fr 43 51 rfl
  ·intro g7_3 hk
   try simp only [nb] at g7_3
   have hl1 : 1 < t.parts.length := by omega
   have ha1 := (hf.rp 1 hl1).atom_le
   refine Cj rfl (.met rfl rfl) rfl ?_; refine Bv rfl (.met rfl rfl) rfl ?_
   first | refine Bs rfl rfl 1 rfl (.met rfl rfl) rfl ?_ | refine Bt rfl rfl 1 rfl (.met rfl rfl) rfl ?_
   refine Bh rfl (.met rfl rfl) rfl ?_; refine Gj rfl (.met rfl rfl) rfl ?_; refine Cx rfl (.met rfl rfl) rfl (Nf (t.pt 1).atom ha1 _ _) ?_; rintro _ _ _ _ ⟨rfl, rfl, rfl⟩; refine Ei rfl (.met rfl rfl) rfl ?_; refine Ot rfl rfl ?_
   exact Bb 7 rfl rfl hk
  ·intro _ hk; refine Br 7 rfl ?_; refine Of rfl rfl ?_
   exact Bb 7 rfl rfl hk
  refine Ab ?_; refine A6 rfl ?_ ?_
  ·intro c2
   try simp only [nb] at c2
   refine Se rfl (Oa rfl (Ab (Am (.tmp rfl .nil) ?_))); refine only rfl ?_
   have hl1 : 1 < t.parts.length := by omega
   have h1 : 1 < (Ax t.head).1 := by omega
   rw [hks, Me]
   rcases k5.1 h1 with e | e
   ·rw [if_pos e, c2.2]; simp [C2]
   ·rw [if_neg (by rw [e]; decide), if_pos e, c2.2]; simp [C2]
  intro c2
  try simp only [nb] at c2
  refine Ak (Ah (Ah ?_)); refine Fh 40 rfl rfl ?_; refine Da 0 rfl (Ai rfl) ?_; refine Da 1 rfl (Le rfl rfl rfl) ?_; refine Da 2 rfl (Ai rfl) ?_
  apply Sk 54 91 rfl
  ·intro g9_3 hk
   try simp only [nb] at g9_3
   have h56 : (Ax t.head).1 = 5 := by omega
   have h6 := k7 h56
   have ha1 := (hf.rp 1 Aa).atom_le
   have ha2 := (hf.rp 2 Aa).atom_le
   have hz3 := t.pt_len 3 Aa
   have hz4 := t.pt_len 4 Aa
   have hg3 := Tree.pt_good hg 3 Aa
   have hg4 := Tree.pt_good hg 4 Aa
   refine Dm 3 rfl (Aj rfl) ?_; refine Hk 4 [40] rfl Af rfl Au (Bo rfl) (.met rfl rfl) rfl ?_
   first | refine Dm 5 rfl (Bc rfl rfl 2 rfl) ?_ | refine Dm 5 rfl (Bd rfl rfl 2 rfl) ?_
   refine Dm 6 rfl (A4 rfl) ?_; refine Hk 7 [40] rfl Af rfl Au (Kb rfl) (.met rfl rfl) rfl ?_; refine Lf 8 rfl Af rfl rfl (.met rfl rfl) rfl (Nf (t.pt 2).atom ha2 _ _) ?_; rintro _ _ _ _ ⟨rfl, rfl, rfl⟩; refine Hx ?_; refine Dm 9 rfl (Aaw rfl) ?_; refine Dm 10 rfl (Ai rfl) ?_
   apply Agg 62 74 rfl
   ·intro g9_11 hk
    try simp only [nb] at g9_11
    refine Dm 11 rfl (Aj rfl) ?_; refine Hk 12 [40] rfl Af rfl Au (Bo rfl) (.met rfl rfl) rfl ?_
    first | refine Dm 13 rfl (Bc rfl rfl 1 rfl) ?_ | refine Dm 13 rfl (Bd rfl rfl 1 rfl) ?_
    refine Dm 14 rfl (A4 rfl) ?_; refine Hk 15 [40] rfl Af rfl Au (Kb rfl) (.met rfl rfl) rfl ?_; refine Dm 16 rfl (Aj rfl) ?_; refine Hk 17 [40] rfl Af rfl Au (Bo rfl) (.met rfl rfl) rfl ?_
    first | refine Dm 18 rfl (Bc rfl rfl 2 rfl) ?_ | refine Dm 18 rfl (Bd rfl rfl 2 rfl) ?_
    refine Dm 19 rfl (A4 rfl) ?_; refine Hk 20 [40] rfl Af rfl Au (Kb rfl) (.met rfl rfl) rfl ?_; refine Dm 21 rfl (Z8 rfl rfl rfl) ?_; refine Dm 22 rfl (Fa rfl rfl) ?_
    exact Iq 11 rfl rfl hk
   ·intro _ hk; refine Ds 11 rfl rfl rfl ?_; refine Ds 12 rfl rfl rfl ?_; refine Ds 13 rfl rfl rfl ?_; refine Ds 14 rfl rfl rfl ?_; refine Ds 15 rfl rfl rfl ?_; refine Ds 16 rfl rfl rfl ?_; refine Ds 17 rfl rfl rfl ?_; refine Ds 18 rfl rfl rfl ?_; refine Ds 19 rfl rfl rfl ?_; refine Ds 20 rfl rfl rfl ?_; refine Ds 21 rfl rfl rfl ?_; refine Dm 22 rfl (Ft rfl rfl) ?_
    exact Iq 11 rfl rfl hk
   refine Dm 23 rfl (Ai rfl) ?_
   apply Agg 75 82 rfl
   ·intro g9_24 hk
    try simp only [nb] at g9_24
    refine Dm 24 rfl (Aj rfl) ?_; refine Hk 25 [40] rfl Af rfl Au (Bo rfl) (.met rfl rfl) rfl ?_
    first | refine Dm 26 rfl (Bc rfl rfl 3 rfl) ?_ | refine Dm 26 rfl (Bd rfl rfl 3 rfl) ?_
    refine Hk 27 [40] rfl Af rfl Au (C5 rfl) (.met rfl rfl) rfl ?_; refine Lf 28 rfl Af rfl rfl (.met rfl rfl) rfl (Nx (hf.rp 3 Aa) hg3 (Tree.size_maxN Aa) _) ?_; rintro _ _ _ _ ⟨rfl, rfl, rfl⟩; refine Hx ?_; refine Dm 29 rfl (Aaw rfl) ?_; refine Dm 30 rfl (Fa rfl rfl) ?_
    exact Iq 6 rfl rfl hk
   ·intro _ hk; refine Ds 24 rfl rfl rfl ?_; refine Ds 25 rfl rfl rfl ?_; refine Ds 26 rfl rfl rfl ?_; refine Ds 27 rfl rfl rfl ?_; refine Ds 28 rfl rfl rfl ?_; refine Ds 29 rfl rfl rfl ?_; refine Dm 30 rfl (Ft rfl rfl) ?_
    exact Iq 6 rfl rfl hk
   refine Dm 31 rfl (Ai rfl) ?_
   apply Agg 83 90 rfl
   ·intro g9_32 hk
    try simp only [nb] at g9_32
    refine Dm 32 rfl (Aj rfl) ?_; refine Hk 33 [40] rfl Af rfl Au (Bo rfl) (.met rfl rfl) rfl ?_
    first | refine Dm 34 rfl (Bc rfl rfl 4 rfl) ?_ | refine Dm 34 rfl (Bd rfl rfl 4 rfl) ?_
    refine Hk 35 [40] rfl Af rfl Au (C5 rfl) (.met rfl rfl) rfl ?_; refine Lf 36 rfl Af rfl rfl (.met rfl rfl) rfl (Nx (hf.rp 4 Aa) hg4 (Tree.size_maxN Aa) _) ?_; rintro _ _ _ _ ⟨rfl, rfl, rfl⟩; refine Hx ?_; refine Dm 37 rfl (Aaw rfl) ?_; refine Dm 38 rfl (Fa rfl rfl) ?_
    exact Iq 6 rfl rfl hk
   ·intro _ hk; refine Ds 32 rfl rfl rfl ?_; refine Ds 33 rfl rfl rfl ?_; refine Ds 34 rfl rfl rfl ?_; refine Ds 35 rfl rfl rfl ?_; refine Ds 36 rfl rfl rfl ?_; refine Ds 37 rfl rfl rfl ?_; refine Dm 38 rfl (Ft rfl rfl) ?_
    exact Iq 6 rfl rfl hk
   refine Da 39 rfl (Ft rfl rfl) ?_
   exact Iq 13 rfl rfl hk
  ·intro _ hk; refine Ds 3 rfl rfl rfl ?_; refine Ds 4 rfl rfl rfl ?_; refine Ds 5 rfl rfl rfl ?_; refine Ds 6 rfl rfl rfl ?_; refine Ds 7 rfl rfl rfl ?_; refine Ds 8 rfl rfl rfl ?_; refine Ds 9 rfl rfl rfl ?_; refine Ds 10 rfl rfl rfl ?_; refine Cw 11 rfl Af rfl (.inr Au) rfl rfl rfl ?_; refine Cw 12 rfl Af rfl (.inr Au) rfl rfl rfl ?_; refine Cw 13 rfl Af rfl (.inr Au) rfl rfl rfl ?_; refine Cw 14 rfl Af rfl (.inr Au) rfl rfl rfl ?_; refine Cw 15 rfl Af rfl (.inr Au) rfl rfl rfl ?_; refine Cw 16 rfl Af rfl (.inr Au) rfl rfl rfl ?_; refine Cw 17 rfl Af rfl (.inr Au) rfl rfl rfl ?_
   refine Cw 18 rfl Af rfl (.inr Au) rfl rfl rfl ?_; refine Cw 19 rfl Af rfl (.inr Au) rfl rfl rfl ?_; refine Cw 20 rfl Af rfl (.inr Au) rfl rfl rfl ?_; refine Cw 21 rfl Af rfl (.inr Au) rfl rfl rfl ?_; refine Ds 22 rfl rfl rfl ?_; refine Ds 23 rfl rfl rfl ?_; refine Cw 24 rfl Af rfl (.inr Au) rfl rfl rfl ?_; refine Cw 25 rfl Af rfl (.inr Au) rfl rfl rfl ?_; refine Cw 26 rfl Af rfl (.inr Au) rfl rfl rfl ?_; refine Cw 27 rfl Af rfl (.inr Au) rfl rfl rfl ?_; refine Cw 28 rfl Af rfl (.inr Au) rfl rfl rfl ?_; refine Cw 29 rfl Af rfl (.inr Au) rfl rfl rfl ?_; refine Ds 30 rfl rfl rfl ?_
   refine Ds 31 rfl rfl rfl ?_; refine Cw 32 rfl Af rfl (.inr Au) rfl rfl rfl ?_; refine Cw 33 rfl Af rfl (.inr Au) rfl rfl rfl ?_; refine Cw 34 rfl Af rfl (.inr Au) rfl rfl rfl ?_; refine Cw 35 rfl Af rfl (.inr Au) rfl rfl rfl ?_; refine Cw 36 rfl Af rfl (.inr Au) rfl rfl rfl ?_; refine Cw 37 rfl Af rfl (.inr Au) rfl rfl rfl ?_; refine Ds 38 rfl rfl rfl ?_; refine Da 39 rfl (Fa rfl rfl) ?_
   exact Iq 36 rfl rfl hk
  refine A5 Af ?_; refine A6 rfl ?_ ?_
  ·intro c3
   try simp only [nb] at c3
   have h56 : (Ax t.head).1 = 5 := by omega
   have h6 := k7 h56
   refine Se rfl (Oa rfl (Ab (Am (.tmp rfl .nil) ?_))); refine only rfl ?_
   have hh := k6.1 h56
   rw [hks, Me, if_neg (by rw [hh]; decide), if_pos hh]
   have : (B0 (t.pt 1).atom && B0 (t.pt 2).atom && decide ((t.pt 1).atom ≠ (t.pt 2).atom) && (t.pt 3).typed && (t.pt 4).typed) = false := by
    have := c3.2
    grind
   rw [this]; simp [C2]
  intro c3
  try simp only [nb] at c3
  have htail : Me t = true := by
   unfold Me
   by_cases e : t.head = Dz
   ·rw [if_pos e]
    have := k5.2 (.inl e)
    rcases c2 with h | h
    ·omega
    ·simpa using h
   ·rw [if_neg e]
    by_cases e' : t.head = Dk
    ·have h5 := k6.2 e'
     have h6 := k7 h5
     rw [if_pos e']
     grind
    ·rw [if_neg e']
  refine Ak (Ah (Se rfl (Om rfl (Oa rfl (Ab (Aq ?_)))))); refine Dn (X := Nat) (fun j => (D2 t).length - j) (fun j => [(1, .pointer (some ⟨b1, 0, none⟩)), (6, .int .i64 ((Ax t.head).2 : Nat)), (7, .int .i64 (((Ax t.head).1 + j : Nat)))]) (fun _ => I) (fun _ => (b1, .cells [.string (str t.atom), .slice oa t.parts.length c].toArray _ (0, 0)) :: L) (fun j => j ≤ (D2 t).length ∧ ((D2 t).take j).all (fun i => (t.pt i).ex.isSome) = true) 0 ⟨by omega, rfl⟩ ⟨rfl, rfl, rfl, trivial⟩ Cl ?_; rintro j ⟨hj, hall⟩ ih
  have hkl : (D2 t).length = (Ax t.head).2 - (Ax t.head).1 := by rw [hkr, List.length_range']
  refine Ah (Se rfl (Om rfl (Om rfl (Oc rfl rfl rfl (Ab ?_))))); refine A6 rfl ?_ ?_
  ·intro c4
   try simp only [nb] at c4
   have hjl : j < (D2 t).length := by omega
   have hkj : (D2 t)[j] = (Ax t.head).1 + j := by simp only [hkr, List.getElem_range']; omega
   have hkt : (Ax t.head).1 + j < t.parts.length := by omega
   refine Ak (Ah (Aq (Se rfl (Oh rfl ?_)))); refine Bv rfl .free rfl ?_; refine Om rfl ?_
   first | refine Bs rfl rfl _ rfl .free rfl ?_ | refine Bt rfl rfl _ rfl .free rfl ?_
   refine Gv rfl .free rfl ?_; refine Ca rfl (ihn (t := t.pt ((Ax t.head).1 + j)) (by have := t.pt_lt _ hkt; omega) (hf.rp _ hkt) (Tree.pt_good hg _ hkt) (by have := t.pt_len _ hkt; omega) _) ?_; rintro _ _ _ _ ⟨rfl, rfl, rfl⟩; refine Ei rfl .free rfl ?_; refine Ab ?_; refine A6 rfl ?_ ?_
   ·intro c5
    try simp only [nb] at c5
    refine Se rfl (Oa rfl (Ab (Am (.tmp rfl .nil) ?_))); refine only rfl ?_; rw [hks]
    have : (D2 t).all (fun i => (t.pt i).ex.isSome) = false := by
     rw [List.all_eq_false]; exact ⟨_, List.getElem_mem hjl, by rw [hkj]; simpa using c5⟩
    rw [this]; rfl
   intro c5
   try simp only [nb] at c5
   refine Ak (Ap (Al rfl (Om rfl ?_))); refine Or rfl rfl rfl ?_; refine Oa rfl (Ab ?_); refine Ed (E' := [(1, .pointer (some ⟨b1, 0, none⟩)), (6, .int .i64 ((Ax t.head).2 : Nat)), (7, .int .i64 (((Ax t.head).1 + (j + 1) : Nat)))]) ⟨rfl, rfl, rfl, trivial⟩ (ih (j + 1) ⟨by omega, ?_⟩ Aa); rw [List.take_succ_eq_append_getElem hjl, List.all_append, hall]
   simp only [List.all_cons, List.all_nil, Bool.and_true, Bool.true_and]
   rw [hkj]; simpa using c5
  intro c4
  try simp only [nb] at c4
  refine Cc rfl ?_; refine Se rfl (Oa rfl (Ab (Am (.tmp rfl .nil) ?_))); refine only rfl ?_; obtain rfl : j = (D2 t).length := by omega
  rw [List.take_length] at hall; rw [hks, hall, htail]; rfl

def Th (ps : List Tree) (i : Nat) : As := if i = 0 then [40] else H3 (ps.take i)
theorem Ab1 (ps : List Tree) (i : Nat) (hi : i < ps.length) : Th ps (i + 1) = (if i = 0 then Th ps i else Th ps i ++ [32]) ++ ps[i].text := by
 unfold Th
 rw [if_neg Aa, Tg ps i hi]
 by_cases h : i = 0
 ·simp [h, H3]
 ·simp [h]
theorem Aeg (ps : List Tree) (i : Nat) (hi : i ≤ ps.length) : (Th ps i).length ≤ 1 + (H3 ps).length := by
 unfold Th
 split
 ·simp
 ·have := U8 ps i; omega
theorem Kq : ∀ (n : Nat) {I : Heap} {t : Tree} {cs : List Value} (_ : SizeOf.sizeOf t < n) (_ : Rep I t cs) (_ : t.good = true) (_ : t.len ≤ 12000000) (L : Bj),
  Fun Tryz.prog 73 [.agg cs.toArray] I L (E2 (.string (str t.text)) I L) := by
 intro n
 induction n with
 | zero => intro I t cs h; omega
 | succ n ihn =>
  intro I t cs hlt h hg hz L; obtain ⟨oa, c, oaf, cf, rfl, hf⟩ := h.at'
  have hp := hf.len
  unfold Bg at hp
  refine Ao Ae ?_; refine Se rfl ?_; refine Cm rfl rfl .free rfl ?_; intro b1; refine Oa rfl (Ab (Ah (Se rfl (Oh rfl ?_)))); refine Bv rfl .free rfl ?_; refine Od rfl rfl rfl (Ab ?_); refine A6 rfl ?_ ?_
  ·intro c0
   try simp only [nb] at c0
   refine Se rfl (Oh rfl ?_); refine Bv rfl .free rfl ?_; refine Oa rfl (Ab (Am (.tmp rfl .nil) ?_)); refine only rfl ?_; rw [t.text_atom (L4 hg Fv)]; rfl
  intro c0
  try simp only [nb] at c0
  obtain ⟨hne, h0⟩ := Mg hg Fv
  have htx := t.text_eq hne
  have htl := t.text_len
  rw [htx, List.length_append] at htl
  simp only [List.length_cons, List.length_nil] at htl
  refine Ak (Se rfl (Oa rfl (Ab (Ah (Se rfl (Oa rfl (Ab (Aq ?_)))))))); refine Dn (X := Nat) (fun i => t.parts.length - i) (fun i => [(1, .pointer (some ⟨b1, 0, none⟩)), (3, .string (str (Th t.parts i))), (4, .int .i64 (i : Nat))]) (fun _ => I) (fun _ => (b1, .cells [.string (str t.atom), .slice oa t.parts.length c].toArray _ (0, 0)) :: L) (fun i => i ≤ t.parts.length) 0 Aa ⟨rfl, rfl, rfl, trivial⟩ Cl ?_; rintro i hi ih
  have hol := Aeg t.parts i hi
  refine Ah (Se rfl (Om rfl (Oh rfl ?_))); refine Bv rfl .free rfl ?_; refine On rfl (Oc rfl rfl rfl (Ab ?_)); refine A6 rfl ?_ ?_
  ·intro c1
   try simp only [nb] at c1
   have hpl := t.pt_len i Aa
   have hos := Ab1 t.parts i Aa
   rw [← Tree.pt_at Aa] at hos
   have hpt := (t.pt i).text_len
   refine Ak (Ah (Aq (Ah (Se rfl (Om rfl (Oc rfl rfl rfl (Ab ?_))))))); refine A6 rfl ?_ ?_
   ·intro c2
    try simp only [nb] at c2
    refine Al rfl (Om rfl ?_); refine Ok rfl rfl ?_; refine Oa rfl (Ab (Al rfl (Om rfl (Oh rfl ?_)))); refine Bv rfl .free rfl ?_; refine Om rfl ?_
    first | refine Bs rfl rfl _ rfl .free rfl ?_ | refine Bt rfl rfl _ rfl .free rfl ?_
    refine Gv rfl .free rfl ?_; refine Ca rfl (ihn (t := t.pt i) (by have := t.pt_lt i Aa; omega) (hf.rp i Aa) (Tree.pt_good hg i Aa) Aa _) ?_; rintro _ _ _ _ ⟨rfl, rfl, rfl⟩; refine Ok rfl rfl ?_; refine Oa rfl (Ab (Ap (Al rfl (Om rfl ?_)))); refine Or rfl rfl rfl ?_; refine Oa rfl (Ab ?_); refine Ed (E' := [(1, .pointer (some ⟨b1, 0, none⟩)), (3, .string (str (Th t.parts (i + 1)))), (4, .int .i64 ((i + 1 : Nat)))]) ⟨rfl, ?_, rfl, trivial⟩ (ih (i + 1) Aa Aa)
    first
     | (rw [hos, if_neg Aa]; rfl)
     | (rw [hos, if_pos Aa]; rfl)
   intro c2
   try simp only [nb] at c2
   refine Ak (Al rfl (Om rfl (Oh rfl ?_))); refine Bv rfl .free rfl ?_; refine Om rfl ?_
   first | refine Bs rfl rfl _ rfl .free rfl ?_ | refine Bt rfl rfl _ rfl .free rfl ?_
   refine Gv rfl .free rfl ?_; refine Ca rfl (ihn (t := t.pt i) (by have := t.pt_lt i Aa; omega) (hf.rp i Aa) (Tree.pt_good hg i Aa) Aa _) ?_; rintro _ _ _ _ ⟨rfl, rfl, rfl⟩; refine Ok rfl rfl ?_; refine Oa rfl (Ab (Ap (Al rfl (Om rfl ?_)))); refine Or rfl rfl rfl ?_; refine Oa rfl (Ab ?_); refine Ed (E' := [(1, .pointer (some ⟨b1, 0, none⟩)), (3, .string (str (Th t.parts (i + 1)))), (4, .int .i64 ((i + 1 : Nat)))]) ⟨rfl, ?_, rfl, trivial⟩ (ih (i + 1) Aa Aa)
   first
    | (rw [hos, if_neg Aa]; rfl)
    | (rw [hos, if_pos Aa]; rfl)
  intro c1
  try simp only [nb] at c1
  obtain rfl : i = t.parts.length := by omega
  have hpos : Th t.parts t.parts.length = H3 t.parts := by unfold Th; rw [if_neg Aa, List.take_length]
  rw [hpos]; refine Cc rfl ?_; refine Se rfl (Om rfl ?_); refine Ok rfl rfl ?_; refine Oa rfl (Ab (Am (.tmp rfl .nil) ?_)); refine only rfl ?_; rw [htx]; rfl

theorem J9 {I : Heap} {t : Tree} {cs : List Value} (h : Rep I t cs) (hg : t.good = true) (hz : t.len ≤ 12000000) (L : Bj) :
  Fun Tryz.prog 91 [.agg cs.toArray] I L (E2 (.bool (decide (t.size ≤ 120) && t.fits && t.ex.isSome)) I L) := by
 obtain ⟨oa, c, oaf, cf, rfl, hf⟩ := h.at'; refine Ao Ae ?_; refine Se rfl ?_; refine Cm rfl rfl .free rfl ?_; intro b1; refine Oa rfl (Ab (Se rfl ?_)); refine Az rfl .free rfl ?_; refine Ca rfl (Rh _ (Nat.lt_succ_self _) h (Tree.size_maxN hz) _) ?_; rintro _ _ _ _ ⟨rfl, rfl, rfl⟩; refine Oc rfl rfl rfl (Om rfl ?_)
 apply Fr 6 9 rfl
 ·intro g1_4 hk
  try simp only [nb] at g1_4
  refine Az rfl (.met rfl rfl) rfl ?_; refine Cx rfl (.met rfl rfl) rfl (Xp h C3 _) ?_; rintro _ _ _ _ ⟨rfl, rfl, rfl⟩; refine Ot rfl rfl ?_
  exact Bb 2 rfl rfl hk
 ·intro _ hk; refine Br 2 rfl ?_; refine Of rfl rfl ?_
  exact Bb 2 rfl rfl hk
 refine Om rfl ?_
 apply Fr 10 13 rfl
 ·intro g1_8 hk
  try simp only [nb] at g1_8
  refine Az rfl (.met rfl rfl) rfl ?_; refine Cx rfl (.met rfl rfl) rfl (T7 _ (Nat.lt_succ_self _) h hg hz _) ?_; rintro _ _ _ _ ⟨rfl, rfl, rfl⟩; refine Ot rfl rfl ?_
  exact Bb 2 rfl rfl hk
 ·intro _ hk; refine Br 2 rfl ?_; refine Of rfl rfl ?_
  exact Bb 2 rfl rfl hk
 refine Oa rfl (Ab (Am (.tmp rfl .nil) ?_)); refine only rfl ?_
 have e : decide ((t.size : Int) ≤ 120) = decide (t.size ≤ 120) := by rw [Bool.eq_iff_iff]; simp; omega
 simp only [C2, e]

def RX (p : Option Ex) (L : Bj ) : Cv   := fun v I' L' => ∃ t cs ok, v = .tuple #[.agg cs.toArray, .bool ok] ∧ Rep I' t cs ∧ L = L' ∧
  (match p with
   | some e => ok = true ∧ t = e.tree
   | none => ok = false)
theorem Iy {s : As} {t : Tree} {ok : Bool} (hpf : match D4 s with | some t0 => ok = true ∧ t = t0 | none => ok = false) (h : ok = true) : D4 s = some t := by
 cases hp : D4 s with
 | none => rw [hp] at hpf; simp [h] at hpf
 | some t0 => rw [hp] at hpf; rw [hpf.2]
theorem Ga {s : As} {t : Tree} (h : D4 s = some t) : t.good = true ∧ t.len ≤ 12000000 ∧ t.fits = true := by
 obtain ⟨h1, h2, h3⟩ := Ii h
 simp only [Tree.fits, Bool.and_eq_true, decide_eq_true_eq] at h1
 exact ⟨h2, by omega, by simp [Tree.fits, h1]⟩
theorem Aah {s : As} {t : Tree} {ok : Bool} (hpf : match D4 s with | some t0 => ok = true ∧ t = t0 | none => ok = false) (b : Bool) (hb : b = (ok && (decide (t.size ≤ 120) && t.ex.isSome))) :
  match Fo s with | some e => b = true ∧ t = e.tree | none => b = false := by
 cases ok with
 | false =>
  have hp : D4 s = none := by
   cases hp : D4 s with
   | none => rfl
   | some t0 => rw [hp] at hpf; exact absurd hpf.1 Ae
  unfold Fo
  rw [hp]; simpa using hb
 | true =>
  have hp := Iy hpf rfl
  have hx : Fo s = match t.ex with | some e => (if e.size ≤ 120 then some e else none) | none => none := by unfold Fo; rw [hp] <;> rfl
  cases he : t.ex with
  | none =>
   have h2 : Fo s = none := by rw [hx, he]
   rw [h2]; simpa [he] using hb
  | some e =>
   obtain ⟨rfl, _⟩ := Tree.ex_tree (Ga hp).1 he; rw [Ex.tree_size] at hb
   by_cases hz : e.size ≤ 120
   ·have h2 : Fo s = some e := by rw [hx, he]; exact if_pos hz
    rw [h2]; exact ⟨by rw [hb]; simp [hz, he], rfl⟩
   ·have h2 : Fo s = none := by rw [hx, he]; exact if_neg hz
    rw [h2]; simp [hb, hz]
theorem Sr (s : As) (hs : s.length ≤ Bg) (I : Heap) (L : Bj) : Fun Tryz.prog 47 [.string (str s)] I L (RX (Fo s) L) := by
 refine Ao Ae ?_; refine Se rfl ?_; refine A1 .free rfl ?_; intro b2; refine Oa rfl (Ab (Se rfl (Om rfl ?_))); refine Ca rfl (Agj s hs _ _) ?_; rintro _ J _ hleJ ⟨t, cs, ok, rfl, hrep, rfl, hpf⟩; obtain ⟨oa, cc, vs, rfl, -⟩ := hrep.open; refine Om rfl (Oe rfl rfl (Oe rfl rfl ?_)); refine A1 .free rfl ?_; intro b4; refine By rfl rfl rfl rfl .free ?_; refine Oa rfl (Ab (Ah ?_)); refine Fh 8 rfl rfl ?_; refine Dt 0 [6] rfl (Ea rfl) ?_; refine Da 1 rfl (Ai rfl) ?_; refine Da 2 rfl (Ai rfl) ?_
 apply Sk 13 16 rfl
 ·intro g2_3 hk
  try simp only [nb] at g2_3
  obtain ⟨hg, hz, hfit⟩ := Ga (Iy hpf g2_3); refine Hk 3 [4, 6] rfl Af rfl Au (Ea rfl) (.met rfl rfl) rfl ?_; refine Lf 4 rfl Af rfl rfl (.met rfl rfl) rfl (J9 hrep hg hz _) ?_; rintro _ _ _ _ ⟨rfl, rfl, rfl⟩; refine Hx ?_; refine Da 5 rfl (Ft rfl rfl) ?_
  exact Iq 2 rfl rfl hk
 ·intro _ hk; refine Ds 3 rfl rfl rfl ?_; refine Ds 4 rfl rfl rfl ?_; refine Da 5 rfl (Fa rfl rfl) ?_
  exact Iq 2 rfl rfl hk
 refine Dx 6 rfl rfl rfl rfl ?_; refine Db 7 rfl (Bk rfl) ?_; refine A5 Af ?_; refine Am (.c rfl (.tmp rfl .nil)) ?_; refine ⟨J, L, hleJ, fun _ h => h.drop.drop, t, _, _, rfl, hrep, rfl, Aah hpf _ ?_⟩
 cases ok with
 | false => rfl
 | true =>
  obtain ⟨hg, hz, hfit⟩ := Ga (Iy hpf rfl)
  simp [hfit]
theorem S3 (s : As) (hs : s.length ≤ Mk) (I : Heap) (L : Bj) : Fun Tryz.prog 51 [.string (str s)] I L (RX (Fo s) L) := by
 refine Ao Ae ?_; refine Se rfl ?_; refine A1 .free rfl ?_; intro b2; refine Oa rfl (Ab (Se rfl (Om rfl ?_))); refine Ca rfl (Ig s hs _ _) ?_; rintro _ J _ hleJ ⟨t, cs, ok, rfl, hrep, rfl, hpf⟩; obtain ⟨oa, cc, vs, rfl, -⟩ := hrep.open; refine Om rfl (Oe rfl rfl (Oe rfl rfl ?_)); refine A1 .free rfl ?_; intro b4; refine By rfl rfl rfl rfl .free ?_; refine Oa rfl (Ab (Ah ?_)); refine Fh 13 rfl rfl ?_; refine Dt 0 [11] rfl (Ea rfl) ?_; refine Da 1 rfl (Ai rfl) ?_; refine Da 2 rfl (Ai rfl) ?_
 apply Sk 13 16 rfl
 ·intro g2_3 hk
  try simp only [nb] at g2_3
  obtain ⟨hg, hz, hfit⟩ := Ga (Iy hpf g2_3); refine Hk 3 [4, 6, 8, 11] rfl Af rfl Au (Ea rfl) (.met rfl rfl) rfl ?_; refine Lf 4 rfl Af rfl rfl (.met rfl rfl) rfl (Abi _ (Nat.lt_succ_self _) hrep hg hz _) ?_; rintro _ _ _ _ ⟨rfl, rfl, rfl⟩; refine Hx ?_; refine Da 5 rfl (Ft rfl rfl) ?_
  exact Iq 2 rfl rfl hk
 ·intro _ hk; refine Ds 3 rfl rfl rfl ?_; refine Ds 4 rfl rfl rfl ?_; refine Da 5 rfl (Fa rfl rfl) ?_
  exact Iq 2 rfl rfl hk
 refine Da 6 rfl (Ai rfl) ?_
 apply Sk 17 21 rfl
 ·intro g2_7 hk
  try simp only [nb] at g2_7
  obtain ⟨hg, hz, hfit⟩ := Ga (Iy hpf g2_7.1); refine Hk 7 [8, 11] rfl Af rfl Au (Ea rfl) (.met rfl rfl) rfl ?_; refine Lf 8 rfl Af rfl rfl (.met rfl rfl) rfl (X4 _ (Nat.lt_succ_self _) hrep hg (Tree.size_maxN hz) _) ?_; rintro _ _ _ _ ⟨rfl, rfl, rfl⟩; refine Hx ?_; refine Dm 9 rfl (Le rfl rfl rfl) ?_; refine Da 10 rfl (Ft rfl rfl) ?_
  exact Iq 3 rfl rfl hk
 ·intro _ hk; refine Ds 7 rfl rfl rfl ?_; refine Ds 8 rfl rfl rfl ?_; refine Ds 9 rfl rfl rfl ?_; refine Da 10 rfl (Fa rfl rfl) ?_
  exact Iq 3 rfl rfl hk
 refine Dx 11 rfl rfl rfl rfl ?_; refine Db 12 rfl (Bk rfl) ?_; refine A5 Af ?_; refine Am (.c rfl (.tmp rfl .nil)) ?_; refine ⟨J, L, hleJ, fun _ h => h.drop.drop, t, _, _, rfl, hrep, rfl, Aah hpf _ ?_⟩
 have e : decide ((t.size : Int) ≤ 120) = decide (t.size ≤ 120) := by rw [Bool.eq_iff_iff]; simp; omega
 rw [e]
 cases ok <;> cases t.ex.isSome <;> simp
theorem Pq (s : As) (hs : s.length ≤ Mk) (I : Heap) (L : Bj) : Fun Tryz.prog 72 [.string (str s)] I L (E2 (.bool (Fo s).isSome) I L) := by
 refine Ao Ae ?_; refine Se rfl (Oa rfl (Ab (Se rfl (Om rfl ?_)))); refine Ca rfl (S3 s hs _ _) ?_; rintro _ J _ hleJ ⟨t, cs, ok, rfl, hrep, rfl, hpf⟩; obtain ⟨oa, cc, vs, rfl, -⟩ := hrep.open; refine Om rfl (Oe rfl rfl (Oe rfl rfl ?_)); refine A1 .free rfl ?_; intro b3; refine By rfl rfl rfl rfl .free ?_; refine Oa rfl (Ab (Se rfl (Om rfl (Oa rfl (Ab (Am (.tmp rfl .nil) ?_)))))); refine Km hleJ Cl ?_; refine congrArg Value.bool ?_
 cases hp : Fo s with
 | none => rw [hp] at hpf; exact hpf
 | some e => rw [hp] at hpf; exact hpf.1
theorem Nc (s : As) (hs : s.length ≤ Bg) (I : Heap) (L : Bj) : Fun Tryz.prog 72 [.string (str s)] I L (E2 (.bool (Fo s).isSome) I L) := Pq s (Qq hs) I L
section rules
variable {P : Program} {f : FuncId} {n : Nat} {I₀ : Heap} {Q : Cv} {k : List Item} {E : Hg} {I : Heap} {L : Bj}
variable {ops : Array Oper} {d : Nat} {ty : TypeId} {pos : String} {af : Array Edge} {g : Option (Nat × Bool)} {l : List Oper}
theorem Aew {T e : TypeId} {parts : Array (Nat × Operand)} {is : List Nat} {vs us : List Value} {m : Nat} {sz bb esz ebb : Nat} {z ez : List Value} {dd : TypeDesc} [ht : At P T (.slice e) sz bb z] [hte : At P e dd esz ebb ez]
  (hp : parts.toList.map (·.1) = is) (ho : I9 E (parts.toList.map (·.2)) = some vs) (hr : is = List.range' 0 vs.length) (hm : vs.length = m) (hfl : Pp esz vs = some us) (hm0 : m * esz ≠ 0) (hm1 : m * esz ≤ 2 ^ 24) (hez : ez.length = esz)
  (a : Act) (w : World) (he : EnvOk E a) (hmm : Mem I L w) :
  ∃ w', (execOp a.eval ⟨some d, .buildSlice T m parts, ty, pos, af, g⟩).run P w = .ok (.value (.slice (some ⟨w.heap.size, 0, none⟩) m m)) w' ∧ Mem I ((w.heap.size, .cells us.toArray e (0, 0)) :: L) w' := by
 have hfill : Instr.fill (fun i => some (i * esz, esz)) ((Array.range (m * esz)).map (ez.toArray[· % ez.toArray.size]!)) (is.zip vs) = some us.toArray := by
  rw [hr]
  have := Ut (esz := esz) 0 [] (((Array.range (m * esz)).map (ez.toArray[· % ez.toArray.size]!)).toList) hfl Ae (by simp [hm])
  rw [List.nil_append, List.nil_append, Array.toArray_toList] at this
  exact this
 refine ⟨{ w with heap := w.heap.push (.cells us.toArray e (0, 0)) }, ?_, hmm.alloc _⟩
 have h1 : parts.map (fun (i, x) => (i, a.eval x)) = (is.zip vs).toArray := by
  apply Array.ext'
  have := he.evals ho
  rw [← hp, ← this]
  simp [List.zip_map', Function.comp_def]
 simp only [execOp]
 rw [h1]; refine Ag (a := .slice (some ⟨w.heap.size, 0, none⟩) m m) (w' := { w with heap := w.heap.push (.cells us.toArray e (0, 0)) }) ?_ |>.trans rfl
 unfold Instr.buildSlice
 rw [Ag (A3 ht.und w)]
 simp only []
 rw [Ag (F1 hte w)]; rw [if_neg Aa, if_neg hm0]; obtain ⟨zv, hz1, hz2⟩ := Ky hte w
 have hz3 : zv.cells = ez.toArray := by rw [← hz2]
 simp only [bind_assoc, pure_bind]
 rw [Ag hz1, hz3]; rw [hfill]
 rfl
theorem Fg {S : World → Prop} {fuel : Nat} {listed listed' : Array Bool} (i : Nat) {T e : TypeId} {parts : Array (Nat × Operand)} {is : List Nat} {vs us : List Value} {m : Nat} {sz bb esz ebb : Nat} {z ez : List Value} {dd : TypeDesc} [ht : At P T (.slice e) sz bb z] [hte : At P e dd esz ebb ez]
  (hi : ops[i]? = some ⟨some d, .buildSlice T m parts, ty, pos, af, g⟩) (hc : decide (Region.ready .any ops listed = [i]) = true) (hl : listed' = listed.setIfInBounds i true)
  (hp : parts.toList.map (·.1) = is) (ho : I9 E (parts.toList.map (·.2)) = some vs) (hr : is = List.range' 0 vs.length) (hm : vs.length = m) (hfl : Pp esz vs = some us) (hm0 : m * esz ≠ 0) (hm1 : m * esz ≤ 2 ^ 24) (hez : ez.length = esz)
  (hg : Wants ops E g) (hdn : Nat.blt d n = true) (hS : F6 ops listed' = true ∨ ∀ w, Mem I L w → S w)
  (h : ∀ b, C0 P f n I₀ Q ops S fuel listed' k ((d, .slice (some ⟨b, 0, none⟩) m m) :: E) I ((b, .cells us.toArray e (0, 0)) :: L)) : C0 P f n I₀ Q ops S (fuel + 1) listed k E I L := by
 refine Pi i hi hc hl rfl hdn (fun a he => hg.wanted a he) fun a w he hmm => ?_
 obtain ⟨w', h1, h2⟩ := Aew (P := P) (T := T) (e := e) (d := d) (ty := ty) (pos := pos) (af := af) (g := g) hp ho hr hm hfl hm0 hm1 hez a w he hmm
 exact ⟨_, w', I, _, h1, h2, hS.imp id fun hS w hw => hS w hw.drop, h _⟩
theorem E0 {S : World → Prop} {fuel : Nat} {listed : Array Bool} {b : Nat} {o : Obj} (h : HLe I (I.set b o) → C0 P f n I₀ Q ops S fuel listed k E (I.set b o) L) : C0 P f n I₀ Q ops S fuel listed k E I ((b, o) :: L) :=
 fun a w ha hd he hm => h hm.freeze.2 a w ha hd he hm.freeze.1
theorem Bn {S : World → Prop} {fuel : Nat} {listed : Array Bool} {I' : Heap} {L' : Bj} (hm : ∀ w, Mem I L w → Mem I' L' w) (h : C0 P f n I₀ Q ops S fuel listed k E I' L') : C0 P f n I₀ Q ops S fuel listed k E I L :=
 fun a w ha hd he hw => h a w ha hd he (hm w hw)
end rules

structure Forms (I : Heap) (oa : Option Addr) (ts : List Tree) (c : Nat) : Prop where
 rep : ∃ vs, RepL I ts vs ∧ ∀ x, oa = some x → Still I x vs
 nil : oa = none → ts = []
 cap : ts.length ≤ c
 len : ts.length ≤ Bg
theorem Forms.mono {I I' : Heap} (hle : HLe I I') {oa : Option Addr} {ts : List Tree} {c : Nat} (h : Forms I oa ts c) : Forms I' oa ts c := by
 obtain ⟨⟨vs, h1, h2⟩, h3, h4, h5⟩ := h
 exact ⟨⟨vs, h1.mono hle, fun x hx => (h2 x hx).mono hle⟩, h3, h4, h5⟩
theorem Forms.form {I : Heap} {oa : Option Addr} {ts : List Tree} {c : Nat} (h : Forms I oa ts c) (a : As) (ha : a.length ≤ Bg) : Rep I (.node a ts) [.string (str a), .slice oa ts.length c] := by
 obtain ⟨⟨vs, h1, h2⟩, h3, h4, h5⟩ := h
 exact .mk h1 h2 h3 h4 ha h5
theorem FormAt.forms {I : Heap} {t : Tree} {oa : Option Addr} {c : Nat} {oaf : Nat → Option Addr} {cf : Nat → Nat} (h : FormAt I t oa c oaf cf) : Forms I oa t.parts c := by
 obtain ⟨oa', c', vs, he, hl, hs, hn, hc, ha, hp⟩ := h.rep.open
 simp only [List.cons.injEq, Value.slice.injEq, and_true, true_and] at he
 obtain ⟨rfl, rfl⟩ := he
 exact ⟨⟨vs, hl, hs⟩, hn, hc, hp⟩
theorem Qf {I : Heap} {b : Nat} {ts : List Tree} {vs sp : List Value} {e : TypeId} {fr : Nat × Nat} {c : Nat} (hl : RepL I ts vs) (hle : HLe I (I.set b (.cells (vs ++ sp).toArray e fr))) (hc : ts.length ≤ c) (hn : ts.length ≤ Bg) :
  Forms (I.set b (.cells (vs ++ sp).toArray e fr)) (some ⟨b, 0, none⟩) ts c :=
 ⟨⟨vs, hl.mono hle, fun y hy => by cases hy; exact A9⟩, by simp, hc, hn⟩
theorem Sz {I : Heap} {b : Nat} {ts : List Tree} {vs : List Value} {e : TypeId} {fr : Nat × Nat} {c : Nat} (hl : RepL I ts vs) (hle : HLe I (I.set b (.cells vs.toArray e fr))) (hc : ts.length ≤ c) (hn : ts.length ≤ Bg) :
  Forms (I.set b (.cells vs.toArray e fr)) (some ⟨b, 0, none⟩) ts c := by
 have := Qf (sp := []) (e := e) (fr := fr) (b := b) hl (by simpa using hle) hc hn
 simpa using this
theorem RepL.one {I : Heap} {t : Tree} {cs : List Value} (h : Rep I t cs) : RepL I [t] cs := by
 obtain ⟨oa, c, vs, rfl, _⟩ := h.open
 exact .cons h .nil
theorem Rep.vals {I : Heap} {t : Tree} {cs : List Value} (h : Rep I t cs) : cs.all C6 = true := by
 obtain ⟨oa, c, vs, rfl, _⟩ := h.open; rfl
theorem RepL.two {I : Heap} {t u : Tree} {cs ds : List Value} (h : Rep I t cs) (h' : Rep I u ds) : RepL I [t, u] (cs ++ ds) := (RepL.one h).append (.one h')
theorem RepL.three {I : Heap} {t u v : Tree} {cs ds es : List Value} (h : Rep I t cs) (h' : Rep I u ds) (h'' : Rep I v es) : RepL I [t, u, v] (cs ++ (ds ++ es)) := (RepL.one h).append ((RepL.one h').append (.one h''))

def RP (t : Tree) (L : Bj) : Cv := fun v I' L' => ∃ cs, v = .agg (List.toArray cs) ∧ Rep I' t cs ∧ L = L'
theorem Li (s : As) (hs : s.length ≤ Bg) (I : Heap) (L : Bj) : Fun Tryz.prog 104 [.string (str s)] I L (E2 (.agg [.string (str s), .slice none 0 0].toArray) I L) := by
 refine Ao Ae ?_; refine Se rfl ?_; refine A1 .free rfl ?_; intro b2; refine Ab (Se rfl (Om rfl ?_)); refine Cd rfl rfl rfl .free rfl ?_; refine By rfl rfl rfl rfl .free ?_; refine Ab ?_; refine Am (.c rfl .nil) ?_; refine only rfl ?_
 rfl
theorem Ac6 (s : As) (hs : s.length ≤ Bg) {I : Heap} {oa : Option Addr} {ps : List Tree} {c : Nat} (h : Forms I oa ps c) (hp : ps.length < Bg) (L : Bj) :
  Fun Tryz.prog 103 [.string (str s), .slice oa ps.length c] I L (RP (.node [] (.node s [] :: ps)) L) := by
 obtain ⟨⟨vs, hl, hst⟩, hn, hc, hlen⟩ := h
 unfold Bg at hp
 have hvl := hl.length
 refine Ao Ae ?_; refine Se rfl ?_; refine A1 .free rfl ?_; intro b4; refine Ab (Se rfl (Om rfl ?_)); refine Ca rfl (Li s hs _ _) ?_; rintro _ _ _ _ ⟨rfl, rfl, rfl⟩; refine Ol rfl rfl ?_; intro b7; refine Om rfl ?_; refine Gt (B := some (b7, [])) (xs := [.string (str s), .slice none 0 0]) (ys := vs) (m := 1) (c := 1) (L₀ := (b4, _) :: L) Av Ac rfl rfl ⟨rfl, Nat.le_refl _, rfl⟩ (fun _ h => h) Aa (fun a ha => (hst a ha).reads) (fun ha => by rw [hn ha] at hvl; exact List.length_eq_zero_iff.1 (by simpa using hvl)) hl.plain Ad Aa Ad .free rfl ?_; intro B' c' hB'
 obtain ⟨⟨bb, sp⟩, rfl⟩ : ∃ p, B' = some p := by
  cases B' with
  | none => exact absurd hB'.1 Ae
  | some p => exact ⟨p, rfl⟩
 simp only [A2, List.cons_append, List.nil_append]
 refine Cd rfl rfl rfl .free rfl ?_; refine By rfl rfl rfl rfl .free ?_; refine Ab ?_; refine Bu ?_; intro hz; refine Am (.c rfl .nil) ?_; refine ⟨_, L, hz, Cl, _, rfl, .mk' Dr ((RepL.cons (.ofAtom hs) hl).mono hz) (fun y hy => by cases hy; exact A9) Ae hB'.2.1 Bf C3, rfl⟩
section rules
variable {P : Program} {f : FuncId} {n : Nat} {I₀ : Heap} {Q : Cv} {k : List Item} {E : Hg} {I : Heap} {L : Bj}
variable {ops : Array Oper} {d : Nat} {ty : TypeId} {pos : String} {af : Array Edge} {g : Option (Nat × Bool)} {l : List Oper}
theorem Y6 {S : World → Prop} {x : Operand} {ad : Option Addr} {m c : Nat} {e T : TypeId} {sz bb : Nat} {z : List Value} [ht : At P T (.slice e) sz bb z] (hx : Ch E x = some (.slice ad m c)) : Ia P E S ⟨some d, .call ⟨.builtin .cap, #[x], #[T]⟩, ty, pos, af, g⟩ (.int .i64 (c : Nat)) := fun a w he _ => by
  simp only [execOp, resolve, List.map_toArray, List.map, he.eval hx]
  simp only [pure_bind, invoke, builtin, Builtin.cap_]
  refine Ag (a := _) (w' := w) ?_ |>.trans rfl
  simp only [List.getElem?_toArray, List.getElem?_cons_zero]
  rw [Ag (A3 ht.und w)]
  rfl
theorem Rm {x : Operand} {ad : Option Addr} {m c : Nat} {e T : TypeId} {sz bb : Nat} {z : List Value} [ht : At P T (.slice e) sz bb z] (hx : Ch E x = some (.slice ad m c)) (hg : Wants ops E g) (hdn : Nat.blt d n = true)
  (h : A8 P f n I₀ Q ops l k ((d, .int .i64 (c : Nat)) :: E) I L) : A8 P f n I₀ Q ops (⟨some d, .call ⟨.builtin .cap, #[x], #[T]⟩, ty, pos, af, g⟩ :: l) k E I L := Es (Y6 hx) hg hdn h
theorem Z9 {S : World → Prop} {kf : FuncId} {fst cap : Array Operand} {vs us : List Value} (hf : I9 E fst.toList = some vs) (hc : I9 E cap.toList = some us) : Ia P E S ⟨some d, .makeFunc (.func kf) fst cap, ty, pos, af, g⟩ (.func (.func kf) vs.toArray us.toArray) := fun a w he _ => by
  have h1 : fst.map a.eval = vs.toArray := Array.ext' (by simpa using he.evals hf)
  have h2 : cap.map a.eval = us.toArray := Array.ext' (by simpa using he.evals hc)
  simp only [execOp, h1, h2]
  rfl
theorem Te {kf : FuncId} {fst cap : Array Operand} {vs us : List Value} (hf : I9 E fst.toList = some vs) (hc : I9 E cap.toList = some us) (hg : Wants ops E g) (hdn : Nat.blt d n = true)
  (h : A8 P f n I₀ Q ops l k ((d, .func (.func kf) vs.toArray us.toArray) :: E) I L) : A8 P f n I₀ Q ops (⟨some d, .makeFunc (.func kf) fst cap, ty, pos, af, g⟩ :: l) k E I L := Es (Z9 hf hc) hg hdn h
theorem Vm {T T2 e : TypeId} {sz bb esz ebb sz2 bb2 : Nat} {z ez z2 : List Value} {dd dd2 : TypeDesc} [ht : At P T (.slice e) sz bb z] [hte : At P e dd esz ebb ez] [ht2 : At P T2 dd2 sz2 bb2 z2]
  {x y : Operand} {B : Kg} {xs ys : List Value} {m c : Nat} {ad2 : Option Addr} {m2 c2 : Nat} {L₀ : Bj} (hni : ∀ kk, dd2 ≠ .int kk) (hez : ez.length = esz)
  (hx : Ch E x = some (Bm m c B)) (hy : Ch E y = some (.slice ad2 m2 c2)) (hB : Dd esz m c xs B) (hL : ∀ w, Mem I L w → Mem I (A2 e xs B ++ L₀) w)
  (hyl : ys.length = m2 * esz) (hyr : ∀ a, ad2 = some a → He I L₀ a ys) (hyn : ad2 = none → ys = []) (hyp : ys.all C6 = true) (hesz : 0 < esz)
  (hsize : (m + m2) ≤ 4294967296) (hbytes : ebb ≤ 1024) (a : Act) (w : World) (he : EnvOk E a) (hm : Mem I L w) :
  ∃ w' B' c', (execOp a.eval ⟨some d, .call ⟨.builtin .append, #[x, y], #[T, T2]⟩, T, pos, af, g⟩).run P w = .ok (.value (Bm (m + m2) c' B')) w' ∧ Dd esz (m + m2) c' (xs ++ ys) B' ∧ Mem I (A2 e (xs ++ ys) B' ++ L₀) w' := by
 by_cases hm2 : 0 < m2
 ·obtain ⟨w', B', c', hr, hne, hB', hm'⟩ := O8 (x := .slice ad2 m2 c2) ht hte hez ht2.und hni hB (hL w hm) hyl (fun _ => rfl) (fun w hw => Hr hw hyl hyr hyn) hyp hm2 hesz hsize hbytes; refine ⟨w', B', c', ?_, hB', hm'⟩
  simp only [execOp, resolve, List.map_toArray, List.map, he.eval hx, he.eval hy, pure_bind, invoke, builtin]
  exact Ag hr |>.trans rfl
 ·obtain rfl : m2 = 0 := by omega
  obtain rfl : ys = [] := List.eq_nil_of_length_eq_zero (by simpa using hyl)
  have hv : ∃ base cc, Bm m c B = .slice base m cc ∧ m ≤ cc ∧ cc = c := by
   cases B with
   | none => obtain ⟨h1, h2, h3⟩ := hB; exact ⟨none, 0, by simp [Bm, h2], by omega, h3.symm⟩
   | some p => exact ⟨_, c, rfl, hB.2.1, rfl⟩
  obtain ⟨base, cc, hbv, hmc, rfl⟩ := hv
  have := Nm (P := P) (T2 := T2) (base := base) (x := .slice ad2 0 c2) (w := w) ht hte ht2.und hni hmc rfl (Hr (hL w hm) hyl (fun a _ v _ i hi => absurd hi Ae) hyn)
  refine ⟨w, B, cc, ?_, by simpa using hB, by simpa using hL w hm⟩
  simp only [execOp, resolve, List.map_toArray, List.map, he.eval hx, he.eval hy, pure_bind, invoke, builtin, hbv, Nat.add_zero]
  exact Ag this |>.trans rfl
theorem Cg {S : World → Prop} {fuel : Nat} {listed listed' : Array Bool} (i : Nat) {T T2 e : TypeId} {sz bb esz ebb sz2 bb2 : Nat} {z ez z2 : List Value} {dd dd2 : TypeDesc} [ht : At P T (.slice e) sz bb z] [hte : At P e dd esz ebb ez] [ht2 : At P T2 dd2 sz2 bb2 z2]
  {x y : Operand} {B : Kg} {xs ys : List Value} {m c : Nat} {ad2 : Option Addr} {m2 c2 : Nat} {L₀ : Bj}
  (hi : ops[i]? = some ⟨some d, .call ⟨.builtin .append, #[x, y], #[T, T2]⟩, T, pos, af, g⟩) (hc : decide (Region.ready .any ops listed = [i]) = true) (hl : listed' = listed.setIfInBounds i true) (hni : ∀ kk, dd2 ≠ .int kk) (hez : ez.length = esz)
  (hx : Ch E x = some (Bm m c B)) (hy : Ch E y = some (.slice ad2 m2 c2)) (hB : Dd esz m c xs B) (hL : ∀ w, Mem I L w → Mem I (A2 e xs B ++ L₀) w)
  (hyl : ys.length = m2 * esz) (hyr : ∀ a, ad2 = some a → He I L₀ a ys) (hyn : ad2 = none → ys = []) (hyp : ys.all C6 = true) (hesz : 0 < esz)
  (hsize : (m + m2) ≤ 4294967296) (hbytes : ebb ≤ 1024) (hg : Wants ops E g) (hdn : Nat.blt d n = true) (hS : ∀ B', F6 ops listed' = true ∨ ∀ w, Mem I (A2 e (xs ++ ys) B' ++ L₀) w → S w)
  (h : ∀ B' c', Dd esz (m + m2) c' (xs ++ ys) B' → C0 P f n I₀ Q ops S fuel listed' k ((d, Bm (m + m2) c' B') :: E) I (A2 e (xs ++ ys) B' ++ L₀)) : C0 P f n I₀ Q ops S (fuel + 1) listed k E I L := by
 refine Pi i hi hc hl rfl hdn (fun a he => hg.wanted a he) fun a w he hm => ?_
 obtain ⟨w', B', c', h1, h2, h3⟩ := Vm (P := P) (T := T) (T2 := T2) (e := e) (d := d) (pos := pos) (af := af) (g := g) hni hez hx hy hB hL hyl hyr hyn hyp hesz hsize hbytes a w he hm
 exact ⟨_, w', I, _, h1, h3, hS B', h B' c' h2⟩
theorem Ib {S : World → Prop} {fuel : Nat} {listed listed' : Array Bool} (i : Nat) {T e : TypeId} {sz bb esz ebb : Nat} {z ez : List Value} {dd : TypeDesc} [ht : At P T (.slice e) sz bb z] [hte : At P e dd esz ebb ez]
  (hi : ops[i]? = some ⟨some d, .buildSlice T 0 #[], ty, pos, af, g⟩) (hc : decide (Region.ready .any ops listed = [i]) = true) (hl : listed' = listed.setIfInBounds i true) (hg : Wants ops E g) (hdn : Nat.blt d n = true) (hS : F6 ops listed' = true ∨ ∀ w, Mem I L w → S w)
  (h : ∀ b, C0 P f n I₀ Q ops S fuel listed' k ((d, .slice (some ⟨b, 0, none⟩) 0 0) :: E) I ((b, .cells [].toArray e (0, 0)) :: L)) : C0 P f n I₀ Q ops S (fuel + 1) listed k E I L := by
 refine Pi i hi hc hl rfl hdn (fun a he => hg.wanted a he) fun a w he hm => ?_
 refine ⟨.slice (some ⟨w.heap.size, 0, none⟩) 0 0, { w with heap := w.heap.push (.cells [].toArray e (0, 0)) }, I, (w.heap.size, .cells [].toArray e (0, 0)) :: L, ?_, hm.alloc _, hS.imp id fun hS w hw => hS w hw.drop, h _⟩
 simp only [execOp]
 refine Ag (a := .slice (some ⟨w.heap.size, 0, none⟩) 0 0) (w' := { w with heap := w.heap.push (.cells [].toArray e (0, 0)) }) ?_ |>.trans rfl
 unfold Instr.buildSlice
 rw [Ag (A3 ht.und w)]
 simp only []
 rw [Ag (F1 hte w)]; rw [if_neg Aa, if_pos Aa]
 have e0 : ∀ h : Nat → Value, (Array.range 0).map h = #[] := fun h => by simp
 have e1 : (Array.map (fun x : Nat × Operand => (x.fst, a.eval x.snd)) #[]).toList = [] := by simp
 simp only [pure_bind, Nat.zero_mul, e0, e1]
 rfl
theorem Abw {T T2 e : TypeId} {sz bb esz ebb sz2 bb2 : Nat} {z ez z2 : List Value} {dd : TypeDesc} [ht : At P T (.slice e) sz bb z] [hte : At P e dd esz ebb ez] [ht2 : At P T2 (.int .i64) sz2 bb2 z2]
  {x y : Operand} {m : Nat} {ad : Option Addr} (hez : ez.length = esz) (hx : Ch E x = some (.slice ad 0 0)) (had : ad = none) (hy : Ch E y = some (.int .i64 (m : Nat))) (hm0 : 0 < m) (hesz : 0 < esz) (hsize : m ≤ 4294967296) (hbytes : ebb ≤ 1024) (hg : Wants ops E g) (hdn : Nat.blt d n = true)
  (h : ∀ b Z c', Z.length = c' * esz → m ≤ c' → A8 P f n I₀ Q ops l k ((d, .slice (some ⟨b, 0, none⟩) m c') :: E) I ((b, .cells (List.toArray Z) e (0, 0)) :: L)) :
  A8 P f n I₀ Q ops (⟨some d, .call ⟨.builtin .append, #[x, y], #[T, T2]⟩, T, pos, af, g⟩ :: l) k E I L := by
 subst had; refine Jo rfl hdn (fun a he => hg.wanted a he) fun a w he hm => ?_
 obtain ⟨einf, hein, hebb⟩ := K9 hte w
 let NC := (Question.appendCap m 0 e).cut (w.tape w.drawn (.appendCap m 0 e))
 let w1 : World := { w with drawn := w.drawn + 1 }
 have hNC : m ≤ NC := by simp [NC, Question.cut]
 obtain ⟨zv1, hz1, hz2⟩ := Ky hte w1
 have hzs : zv1.cells.size = esz := by rw [← hez, ← hz2]; simp
 refine ⟨.slice (some ⟨w.heap.size, 0, none⟩) m NC, { w1 with heap := w1.heap.push (.cells (Builtin.zeroCells zv1.cells m ++ Builtin.zeroCells zv1.cells (NC - m)) e (0, 0)) }, I, _, ?_, hm.alloc _, h _ (Builtin.zeroCells zv1.cells m ++ Builtin.zeroCells zv1.cells (NC - m)).toList NC ?_ hNC⟩
 ·simp only [execOp, resolve, List.map_toArray, List.map, he.eval hx, he.eval hy, pure_bind, invoke, builtin]
  refine Ag (a := .slice (some ⟨w.heap.size, 0, none⟩) m NC) (w' := { w1 with heap := w1.heap.push (.cells (Builtin.zeroCells zv1.cells m ++ Builtin.zeroCells zv1.cells (NC - m)) e (0, 0)) }) ?_ |>.trans rfl
  unfold Builtin.append_
  simp only [List.getElem?_toArray, List.getElem?_cons_zero, List.getElem?_cons_succ]
  rw [Ag (A3 ht.und w)]
  simp only []
  rw [Ag (F1 hte w)]; rw [Ag (A3 ht2.und w)]
  have hwr : IntKind.i64.wrap (m : Int) = (m : Int) := by simp [IntKind.wrap, IntKind.bits, IntKind.signed]; omega
  simp only [pure_bind, if_true, Bool.not_true, Bool.false_eq_true, if_false, asInt, asIntOf, hwr]
  have hneg : ¬ ((m : Int) < 0) := by omega
  simp only [hwr, if_neg hneg, pure_bind, bind_assoc]
  rw [Ag hein]
  have hbig : ¬ ((m : Int) * (einf.bytes : Int) > 2 ^ 48) := by
   rw [hebb]
   have : m * ebb ≤ 4294967296 * 1024 := Nat.mul_le_mul hsize hbytes
   rw [← Int.natCast_mul]; omega
  simp only [if_neg hbig, pure_bind, Int.toNat_natCast, Nat.zero_add]
  rw [if_neg Aa]
  have hmax : ¬ (((m : Nat) : Int) > IntKind.i64.max) := by simp [IntKind.max, IntKind.bits, IntKind.signed]; omega
  rw [Ag hein]
  simp only [hmax, false_and, if_false, pure_bind]
  rw [Ag hein]
  have hcap : ¬ (Builtin.nextslicecap m 0 * einf.bytes > 2 ^ 48) := by
   have h1 := Ta m 0 Aa
   have h2 : Builtin.nextslicecap m 0 * einf.bytes ≤ (2 * m + 1000) * 1024 := Nat.mul_le_mul h1 Aa
   omega
  simp only [if_neg hcap, pure_bind]
  have hch : (choose (.appendCap m 0 e)).run P w = .ok NC w1 := by simp [choose, Sem.run, Question.forced, NC, w1]
  rw [Ag hch]; obtain ⟨einf1, hein1, _⟩ := K9 hte w1; rw [Ag hein1]
  have hroom : (askRoom (NC * einf1.bytes)).run P w1 = .ok () w1 := by unfold askRoom; split <;> rfl
  rw [Ag hroom]
  have hne : ¬ (m * esz = 0) := by
   have := Nat.mul_pos hm0 hesz; omega
  simp only [Builtin.firstCells, pure_bind, if_neg hne, bind_assoc]
  rw [Ag hz1]; rw [Ag hz1]
  simp only [Array.empty_append]
  rfl
 ·simp only [Array.toList_append, List.length_append, Array.length_toList, Nq, hzs]
  rw [← Nat.add_mul]; congr 1; omega
end rules

structure RStrs (I : Heap) (L : Bj) (oa : Option Addr) (l : List As) : Prop where
 reads : ∀ a, oa = some a → He I L a (l.map sv)
 nil : oa = none → l.length = 0
 len : l.length ≤ Bg
theorem Strs.rd {I : Heap} {oa : Option Addr} {l : List As} {c : Nat} (h : Strs I oa l c) (L : Bj) : RStrs I L oa l := ⟨h.reads, h.nil', h.len⟩
theorem RStrs.st {I : Heap} {L : Bj} {oa : Option Addr} {l : List As} (h : RStrs I L oa l) (i : Nat) (hi : i < l.length) : He I L ((W6 oa).add (i * 1)) [.string (str (l.getD i []))] := by
 obtain ⟨x, rfl⟩ : ∃ x, oa = some x := by
  cases oa with
  | none => have := h.nil rfl; omega
  | some x => exact ⟨x, rfl⟩
 intro w hw j hj; obtain rfl : j = 0 := by simpa using hj
 have h1 := h.reads x rfl w hw i (by simpa using hi)
 have e : ((W6 (some x)).add (i * 1)).add 0 = x.add i := by simp [W6, Addr.add]
 rw [e, h1]
 simp [sv, hi]
theorem RStrs.sub {I : Heap} {L L' : Bj} {oa : Option Addr} {l : List As} (h : RStrs I L oa l) (hs : ∀ w, Mem I L' w → Mem I L w) : RStrs I L' oa l :=
 ⟨fun a ha w hw => h.reads a ha w (hs w hw), h.nil, h.len⟩
theorem Acq {I : Heap} {L : Bj} {e : TypeId} {l : List As} {B : Kg} {m c : Nat} (hB : Dd 1 m c (l.map sv) B) (hm : m = l.length) (hl : l.length ≤ Bg) :
  ∃ oa c', Bm m c B = .slice oa l.length c' ∧ RStrs I (A2 e (l.map sv) B ++ L) oa l := by
 subst hm
 cases B with
 | none =>
  obtain ⟨h1, h2, h3⟩ := hB
  exact ⟨none, 0, by rw [Bm, h2], ⟨by simp, fun _ => h2, hl⟩⟩
 | some p =>
  obtain ⟨b, sp⟩ := p; refine ⟨some ⟨b, 0, none⟩, c, rfl, ⟨?_, by simp, hl⟩⟩; intro a ha
  cases ha
  intro w hw i hi; rw [Pg (hw.2.1 _ (List.mem_append_left _ (List.mem_singleton.2 rfl))).1]
  simp only [Nat.zero_add, List.getElem?_toArray]
  rw [List.getElem?_append_left hi, List.getElem?_eq_getElem hi]
theorem Su {I : Heap} {L : Bj} {oa : Option Addr} {l : List As} (h : RStrs I L oa l) (c : Nat) (s : As) : Fun Tryz.prog 173 [.slice oa l.length c, .string (str s)] I L (fun v I' L' => ∃ i : Int, v = .int .i64 i ∧ (0 ≤ i ↔ s ∈ l) ∧ I = I' ∧ L = L') := by
 have hlen := h.len
 have hnil := h.nil
 unfold Bg at hlen
 refine Ao Ae ?_; refine Se rfl (Oa rfl (Ab (Ah (Se rfl (Om rfl (On rfl (Om rfl (Ab (Aq ?_))))))))); refine Dn (X := Nat) (fun i => l.length - i) (fun i => [(0, .slice oa l.length c), (1, .string (str s)), (7, .int .i64 (l.length : Nat)), (8, .int .i64 (i : Nat))]) (fun _ => I) (fun _ => L) (fun i => i ≤ l.length ∧ s ∉ l.take i) 0 ⟨by simp, by simp⟩ ⟨rfl, rfl, rfl, rfl, trivial⟩ (fun _ h => h) ?_; rintro i ⟨hi, hs⟩ ih; refine Se rfl (Oc rfl rfl rfl (Ab (Ah ?_))); refine A6 rfl ?_ ?_
 ·intro c0
  try simp only [nb] at c0
  have hgx : l.getD i [] = l[i] := by simp [show i < l.length by omega]
  have hst := h.st i Aa
  refine Ak (Ah (Aq (Se rfl (Om rfl (Oa rfl (Ab (Se rfl ?_)))))))
  iterate 3 refine Om rfl ?_
  first | refine Bs rfl rfl _ rfl .free rfl ?_ | refine Bt rfl rfl _ rfl .free rfl ?_
  refine Er rfl .free rfl ?_; refine Od rfl rfl rfl (Ab ?_); refine A6 rfl ?_ ?_
  ·intro c1
   try simp only [nb] at c1
   refine Se rfl (Om rfl (Oa rfl (Ab (Am (.tmp rfl .nil) ?_))))
   exact ⟨I, L, .refl _, fun _ h => h, _, rfl, ⟨fun _ => by rw [c1, hgx]; exact List.getElem_mem _, fun _ => by omega⟩, rfl, rfl⟩
  intro c1
  try simp only [nb] at c1
  refine Ak (Ap (Al rfl ?_)); refine Or rfl rfl rfl ?_; refine Om rfl (Ab ?_); refine Ed (E' := [(0, .slice oa l.length c), (1, .string (str s)), (7, .int .i64 (l.length : Nat)), (8, .int .i64 ((i + 1 : Nat)))]) ⟨rfl, rfl, rfl, rfl, trivial⟩ (ih (i + 1) ⟨by omega, ?_⟩ Aa); rw [List.take_succ_eq_append_getElem Aa, List.mem_append]; rintro (h1 | h1)
  ·exact hs h1
  ·exact c1 (by rw [hgx]; exact List.mem_singleton.1 h1)
 intro c0
 try simp only [nb] at c0
 refine Cc rfl ?_; refine Se rfl (Oa rfl (Ab (Am (.tmp rfl .nil) ?_))); refine ⟨I, L, .refl _, fun _ h => h, _, rfl, ⟨fun h => by simp at h, fun h => ?_⟩, rfl, rfl⟩; rw [List.take_of_length_le Aa] at hs
 exact absurd h hs
theorem I6 {I : Heap} {L : Bj} {oa : Option Addr} {l : List As} (h : RStrs I L oa l) (c : Nat) (s : As) : Fun Tryz.prog 128 [.slice oa l.length c, .string (str s)] I L (E2 (.bool (decide (s ∈ l))) I L) := by
 refine Ao Ae ?_; refine Se rfl (Oa rfl (Ab (Se rfl (Om rfl (Om rfl ?_))))); refine Ca rfl (Su h c s) ?_; rintro _ _ _ _ ⟨i, rfl, hi, rfl, rfl⟩; refine Oc rfl rfl rfl (Oa rfl (Ab (Am (.tmp rfl .nil) ?_))); refine only rfl ?_
 simp [C2, hi]
theorem R4 {I : Heap} {L : Bj} {oa : Option Addr} {l : List As} (h : RStrs I L oa l) (c : Nat) (s : As) : Fun Tryz.prog 170 [.slice oa l.length c, .string (str s)] I L (E2 (.bool (decide (s ∈ l))) I L) := by
 have hlen := h.len
 have hnil := h.nil
 unfold Bg at hlen
 refine Ao Ae ?_; refine Se rfl (Oa rfl (Ab (Ah (Se rfl (Oa rfl (Ab (Aq ?_))))))); refine Dn (X := Nat) (fun i => l.length - i) (fun i => [(0, .slice oa l.length c), (1, .string (str s)), (5, .int .i64 (i : Nat))]) (fun _ => I) (fun _ => L) (fun i => i ≤ l.length ∧ s ∉ l.take i) 0 ⟨by simp, by simp⟩ ⟨rfl, rfl, rfl, trivial⟩ (fun _ h => h) ?_; rintro i ⟨hi, hs⟩ ih; refine Ah (Se rfl (Om rfl (Om rfl (On rfl (Oc rfl rfl rfl (Ab ?_)))))); refine A6 rfl ?_ ?_
 ·intro c0
  try simp only [nb] at c0
  have hgx : l.getD i [] = l[i] := by simp [show i < l.length by omega]
  have hst := h.st i Aa
  refine Ak (Ah (Aq (Se rfl (Om rfl (Om rfl ?_)))))
  first | refine Bs rfl rfl _ rfl .free rfl ?_ | refine Bt rfl rfl _ rfl .free rfl ?_
  refine Er rfl .free rfl ?_; refine Om rfl (Od rfl rfl rfl (Ab ?_)); refine A6 rfl ?_ ?_
  ·intro c1
   try simp only [nb] at c1
   refine Se rfl (Oa rfl (Ab (Am (.tmp rfl .nil) ?_))); refine only rfl ?_
   have : s ∈ l := by rw [← c1, hgx]; exact List.getElem_mem _
   simp [C2, this]
  intro c1
  try simp only [nb] at c1
  refine Ak (Ap (Al rfl (Om rfl ?_))); refine Or rfl rfl rfl ?_; refine Oa rfl (Ab ?_); refine Ed (E' := [(0, .slice oa l.length c), (1, .string (str s)), (5, .int .i64 ((i + 1 : Nat)))]) ⟨rfl, rfl, rfl, trivial⟩ (ih (i + 1) ⟨by omega, ?_⟩ Aa); rw [List.take_succ_eq_append_getElem Aa, List.mem_append]; rintro (h1 | h1)
  ·exact hs h1
  ·exact c1 (by rw [hgx]; exact (List.mem_singleton.1 h1).symm)
 intro c0
 try simp only [nb] at c0
 refine Cc rfl ?_; refine Se rfl (Oa rfl (Ab (Am (.tmp rfl .nil) ?_))); refine only rfl ?_
 have : s ∉ l := by rwa [List.take_of_length_le Aa] at hs
 simp [C2, this]
theorem Uc (m : Nat) (hm : m ≤ 4294967296) (I : Heap) (L : Bj) : Fun Tryz.prog 176 [.slice none 0 0, .int .i64 (m : Nat)] I L
  (fun v I' L' => ∃ B c, v = Bm 0 c B ∧ Dd 1 0 c [] B ∧ I = I' ∧ L' = A2 9 [] B ++ L) := by
 refine Ao Ae ?_; refine Se rfl (Oa rfl (Ab (Ah (Se rfl (Om rfl (Oc rfl rfl rfl (Ab ?_)))))))
 first | refine Sf rfl Aa ?_ | refine A0 Ar ?_
 refine Ak (Ah (Se rfl (Om rfl (Om rfl ?_)))); refine Rm rfl .free rfl ?_; refine Om rfl (On rfl ?_); refine Or rfl rfl rfl ?_; refine Or rfl rfl rfl ?_; refine Oa rfl (Ab (Ah ?_)); refine Jv (t := 1) (v' := .int .i64 (m : Nat)) rfl (by congr 1) ?_; refine Al rfl (Om rfl (Oc rfl rfl rfl (Ab ?_))); refine A6 rfl ?_ ?_
 ·intro c1
  try simp only [nb] at c1
  have hm0 : 0 < m := by omega
  refine Al rfl (Om rfl (Om rfl ?_)); refine Rm rfl .free rfl ?_; refine Lm rfl rfl rfl 0 _ rfl rfl Bx .free rfl ?_; refine Om rfl ?_; refine Abw (m := m) Ac rfl rfl rfl Aa Ad hm Ad .free rfl ?_; intro b Z c' hZ hmc; refine Om rfl (On rfl ?_); refine Lm rfl rfl rfl 0 _ rfl rfl Bx .free rfl ?_; refine Oa rfl (Ab (Se rfl (Om rfl (Oa rfl (Ab (Am (.tmp rfl .nil) ?_))))))
  first
   | exact ⟨I, _, .refl _, fun _ h => h, some (b, Z), c', by simp [C2, Bm, Addr.add], ⟨rfl, Nat.zero_le _, by simpa using hZ⟩, rfl, rfl⟩
   | exact ⟨I, _, .refl _, fun _ h => h, none, 0, rfl, ⟨rfl, rfl, rfl⟩, rfl, rfl⟩
 intro c1
 try simp only [nb] at c1
 refine Ak (Se rfl (Om rfl (Oa rfl (Ab (Am (.tmp rfl .nil) ?_)))))
 first
  | exact ⟨I, _, .refl _, fun _ h => h, some (b, Z), c', by simp [C2, Bm, Addr.add], ⟨rfl, Nat.zero_le _, by simpa using hZ⟩, rfl, rfl⟩
  | exact ⟨I, _, .refl _, fun _ h => h, none, 0, rfl, ⟨rfl, rfl, rfl⟩, rfl, rfl⟩

def SS (l : List As) (L : Bj) : Cv := fun v I' L' => ∃ oa c, v = .slice oa (List.length l) c ∧ Strs I' oa l c ∧ L = L'
theorem Strs.append {I : Heap} {oa ob : Option Addr} {l m : List As} {c c' : Nat} (h : Strs I oa l c) (h' : Strs I ob m c') : ∀ s ∈ l ++ m, s.length ≤ Bg := by
 intro s hs
 rcases List.mem_append.1 hs with hs | hs
 ·exact h.each s hs
 ·exact h'.each s hs
theorem Cf {I : Heap} {oa ob : Option Addr} {l m : List As} {c c' : Nat} {x : Addr} (hx : Still I x [.slice oa l.length c, .slice ob m.length c']) (h : Strs I oa l c) (h' : Strs I ob m c') (hz : l.length + m.length ≤ Bg) (L : Bj) :
  Fun Tryz.prog 132 [.slice (some x) 2 2] I L (SS (l ++ m) L) := by
 unfold Bg at hz
 have h0 : Still I ((W6 (some x)).add (0 * 1)) [.slice oa l.length c] := hx.part (0 * 1) (by intro i hi; obtain rfl : i = 0 := (by simpa using hi); rfl)
 have h1 : Still I ((W6 (some x)).add (1 * 1)) [.slice ob m.length c'] := hx.part (1 * 1) (by intro i hi; obtain rfl : i = 0 := (by simpa using hi); rfl)
 have hn : some x = none → 2 = 0 := by intro e; cases e
 refine Ao Ae ?_; refine Se rfl (Oa rfl (Ab (Se rfl (Oa rfl (Ab (Ah (Se rfl (Om rfl (On rfl (Om rfl (Ab (Aq ?_)))))))))))); refine Ee ?_; refine Se rfl (Oc rfl rfl rfl (Ab (Ah ?_))); refine B6 rfl Ay ?_; refine Ak (Ah (Aq (Se rfl ?_)))
 first | refine Bs rfl rfl _ rfl .free rfl ?_ | refine Bt rfl rfl _ rfl .free rfl ?_
 refine Er rfl .free rfl ?_; refine Oa rfl (Ab (Se rfl (Om rfl (Om rfl (On rfl ?_))))); refine Or rfl rfl rfl ?_; refine Oa rfl (Ab (Se rfl (Om rfl (Oc rfl rfl rfl (Ab ?_)))))
 first | refine Sf rfl Aa ?_ | refine A0 Ar ?_
 refine Ak (Ap (Al rfl ?_)); refine Or rfl rfl rfl ?_; refine Om rfl (Ab ?_); refine Bz ?_; refine Se rfl (Oc rfl rfl rfl (Ab (Ah ?_))); refine B6 rfl Ay ?_; refine Ak (Ah (Aq (Se rfl ?_)))
 first | refine Bs rfl rfl _ rfl .free rfl ?_ | refine Bt rfl rfl _ rfl .free rfl ?_
 refine Er rfl .free rfl ?_; refine Oa rfl (Ab (Se rfl (Om rfl (Om rfl (On rfl ?_))))); refine Or rfl rfl rfl ?_; refine Oa rfl (Ab (Se rfl (Om rfl (Oc rfl rfl rfl (Ab ?_)))))
 first | refine Sf rfl Aa ?_ | refine A0 Ar ?_
 refine Ak (Ap (Al rfl ?_)); refine Or rfl rfl rfl ?_; refine Om rfl (Ab ?_); refine Bz ?_; refine Se rfl (Oc rfl rfl rfl (Ab (Ah ?_))); refine De rfl Ay ?_; refine Cc rfl ?_; refine Ah ?_; refine Jv (t := 3) (v' := .int .i64 ((l.length + m.length : Nat))) rfl F7 ?_; refine Al rfl (Om rfl ?_); refine Ca rfl (Uc (l.length + m.length) hz _ _) ?_; rintro _ _ _ _ ⟨B, c0, rfl, hB0, rfl, rfl⟩; refine Oa rfl (Ab (Ah (Se rfl (Om rfl (On rfl (Om rfl (Ab (Aq ?_)))))))); refine Ee ?_; refine Se rfl (Oc rfl rfl rfl (Ab (Ah ?_))); refine B6 rfl Ay ?_; refine Ak (Ah (Aq (Se rfl ?_)))
 first | refine Bs rfl rfl _ rfl .free rfl ?_ | refine Bt rfl rfl _ rfl .free rfl ?_
 refine Er rfl .free rfl ?_; refine Oa rfl (Ab (Al rfl (Om rfl (Om rfl ?_)))); refine Gt (B := B) (xs := []) (ys := l.map sv) (m := 0) (c := c0) (L₀ := L) Av Ac rfl rfl hB0 (fun _ h => h) Ae h.reads h.none (Cn l) Ad Aa Ad .free rfl ?_; intro B1 c1 hB1; refine Oa rfl (Ab (Ap (Al rfl ?_))); refine Or rfl rfl rfl ?_; refine Om rfl (Ab ?_); refine Bz ?_; refine Se rfl (Oc rfl rfl rfl (Ab (Ah ?_))); refine B6 rfl Ay ?_; refine Ak (Ah (Aq (Se rfl ?_)))
 first | refine Bs rfl rfl _ rfl .free rfl ?_ | refine Bt rfl rfl _ rfl .free rfl ?_
 refine Er rfl .free rfl ?_; refine Oa rfl (Ab (Al rfl (Om rfl (Om rfl ?_)))); refine Gt (B := B1) (xs := l.map sv) (ys := m.map sv) (m := 0 + l.length) (c := c1) (L₀ := L) Av Ac rfl rfl hB1 (fun _ h => h) Ae h'.reads h'.none (Cn m) Ad Aa Ad .free rfl ?_; intro B2 c2 hB2; refine Oa rfl (Ab (Ap (Al rfl ?_))); refine Or rfl rfl rfl ?_; refine Om rfl (Ab ?_); refine Bz ?_; refine Se rfl (Oc rfl rfl rfl (Ab (Ah ?_))); refine De rfl Ay ?_; refine Cc rfl ?_; refine Ah ?_
 have hB3 : Dd 1 (0 + l.length + m.length) c2 ((l ++ m).map sv) B2 := by simpa using hB2
 rw [← List.map_append]; refine Gk hB3 Ae Hb (h.append h') ?_; intro I' oc c3 hle hbv hst; refine Jv (t := 6) (v' := .slice oc (l ++ m).length c3) rfl hbv ?_; refine Al rfl (Om rfl (Oa rfl (Ab (Am (.tmp rfl .nil) ?_))))
 exact ⟨I', L, hle, fun _ h => h, oc, c3, rfl, hst, rfl⟩
section rules
variable {P : Program} {f : FuncId} {n : Nat} {I₀ : Heap} {Q : Cv} {k : List Item} {E : Hg} {I : Heap} {L : Bj}
variable {ops : Array Oper} {d : Nat} {ty : TypeId} {pos : String} {af : Array Edge} {g : Option (Nat × Bool)} {l : List Oper}
def Lr (P : Program) (f : FuncId) (n : Nat) (I₀ : Heap) (Q : Cv) (ops : Array Oper) (S : World → Prop) (fuel : Nat) (listed : Array Bool) (i : Nat) (k : List Item) (E : Hg) (I : Heap) (L : Bj) : Prop :=
 ∀ a w, a.tmps.size = n → a.defers = [] → EnvOk E a → Mem I L w → wpOp P ops (QK P f n I₀ Q k) i (fun a' w' => T1 ops S (listed.setIfInBounds i true) w' ∧ T3 P ops (QK P f n I₀ Q k) S fuel (listed.setIfInBounds i true) a' w') a w
theorem Vw {S : World → Prop} {fuel : Nat} {listed : Array Bool} (is : List Nat) (hc : decide (Region.ready .any ops listed = is) = true) (hne : is.isEmpty = false)
  (h : ∀ i ∈ is, Lr P f n I₀ Q ops S fuel listed i k E I L) : C0 P f n I₀ Q ops S (fuel + 1) listed k E I L := by
 have hr := of_decide_eq_true hc
 intro a w ha hd he hm; refine ⟨fun h0 => (by rw [hr] at h0; rw [h0] at hne; cases hne), fun i hi => h i (hr ▸ hi) a w ha hd he hm⟩
theorem Gd {S : World → Prop} {fuel : Nat} {listed : Array Bool} (i j : Nat) (hc : decide (Region.ready .any ops listed = [i, j]) = true)
  (h1 : Lr P f n I₀ Q ops S fuel listed i k E I L) (h2 : Lr P f n I₀ Q ops S fuel listed j k E I L) : C0 P f n I₀ Q ops S (fuel + 1) listed k E I L :=
 Vw [i, j] hc rfl fun x hx => by
  simp only [List.mem_cons, List.not_mem_nil, or_false] at hx
  rcases hx with rfl | rfl
  ·exact h1
  ·exact h2
theorem K4 {S : World → Prop} {fuel : Nat} {listed : Array Bool} (i j m : Nat) (hc : decide (Region.ready .any ops listed = [i, j, m]) = true)
  (h1 : Lr P f n I₀ Q ops S fuel listed i k E I L) (h2 : Lr P f n I₀ Q ops S fuel listed j k E I L) (h3 : Lr P f n I₀ Q ops S fuel listed m k E I L) : C0 P f n I₀ Q ops S (fuel + 1) listed k E I L :=
 Vw [i, j, m] hc rfl fun x hx => by
  simp only [List.mem_cons, List.not_mem_nil, or_false] at hx
  rcases hx with rfl | rfl | rfl
  ·exact h1
  ·exact h2
  ·exact h3
theorem Acy {S : World → Prop} {fuel : Nat} {listed : Array Bool} (i j m q : Nat) (hc : decide (Region.ready .any ops listed = [i, j, m, q]) = true)
  (h1 : Lr P f n I₀ Q ops S fuel listed i k E I L) (h2 : Lr P f n I₀ Q ops S fuel listed j k E I L) (h3 : Lr P f n I₀ Q ops S fuel listed m k E I L) (h4 : Lr P f n I₀ Q ops S fuel listed q k E I L) : C0 P f n I₀ Q ops S (fuel + 1) listed k E I L :=
 Vw [i, j, m, q] hc rfl fun x hx => by
  simp only [List.mem_cons, List.not_mem_nil, or_false] at hx
  rcases hx with rfl | rfl | rfl | rfl
  ·exact h1
  ·exact h2
  ·exact h3
  ·exact h4
theorem Adl {S : World → Prop} {fuel : Nat} {listed : Array Bool} (i : Nat) {o : Oper} (hi : ops[i]? = some o)
  {a : Act} {w : World} (hw : Region.wanted o (yielded ops a.tmps) = true)
  (h : o.wp P a w (fun a' w' => T1 ops S (listed.setIfInBounds i true) w' ∧ T3 P ops (QK P f n I₀ Q k) S fuel (listed.setIfInBounds i true) a' w') (QK P f n I₀ Q k)) :
  wpOp P ops (QK P f n I₀ Q k) i (fun a' w' => T1 ops S (listed.setIfInBounds i true) w' ∧ T3 P ops (QK P f n I₀ Q k) S fuel (listed.setIfInBounds i true) a' w') a w := by
 unfold wpOp
 simp only [hi, hw, if_true]
 exact .inl h
theorem Pr {S : World → Prop} {fuel : Nat} {listed listed' : Array Bool} (i : Nat) {o : Oper} (hi : ops[i]? = some o) (hl : listed' = listed.setIfInBounds i true)
  (hd : o.dst = some d) (hdn : Nat.blt d n = true) (hw : ∀ a, EnvOk E a → Region.wanted o (yielded ops a.tmps) = true)
  (hx : ∀ a w, EnvOk E a → Mem I L w → ∃ v w' I' L', (execOp a.eval o).run P w = .ok (.value v) w' ∧ Mem I' L' w' ∧ (F6 ops listed' = true ∨ ∀ w, Mem I' L' w → S w) ∧ C0 P f n I₀ Q ops S fuel listed' k ((d, v) :: E) I' L') :
  Lr P f n I₀ Q ops S fuel listed i k E I L := by
 intro a w ha hds he hm; obtain ⟨v, w', I', L', hrun, hm', hS, h⟩ := hx a w he hm; refine Adl i hi (hw a he) ?_
 simp only [Oper.wp, hrun, Oper.upon, hd]
 rw [← hl]
 exact ⟨hS.imp id fun h => h _ hm', h _ _ Gp In (he.put Gn) hm'⟩
theorem Ri {S : World → Prop} {fuel : Nat} {listed listed' : Array Bool} (i : Nat) {op : Op} {v : Value} (hi : ops[i]? = some ⟨some d, op, ty, pos, af, g⟩) (hl : listed' = listed.setIfInBounds i true)
  (hx : Ia P E (Mem I L) ⟨some d, op, ty, pos, af, g⟩ v) (hg : Wants ops E g) (hdn : Nat.blt d n = true) (hS : F6 ops listed' = true ∨ ∀ w, Mem I L w → S w)
  (h : C0 P f n I₀ Q ops S fuel listed' k ((d, v) :: E) I L) : Lr P f n I₀ Q ops S fuel listed i k E I L :=
 Pr i hi hl rfl hdn (fun a he => hg.wanted a he) fun a w he hm => ⟨v, w, I, L, hx a w he hm, hm, hS, h⟩
theorem Sm {S : World → Prop} {fuel : Nat} {listed listed' : Array Bool} (i : Nat) {op : Op} {v : Value} (hi : ops[i]? = some ⟨some d, op, ty, pos, af, g⟩) (hc : decide (Region.ready .any ops listed = [i]) = true) (hl : listed' = listed.setIfInBounds i true)
  (hx : Ia P E (Mem I L) ⟨some d, op, ty, pos, af, g⟩ v) (hg : Wants ops E g) (hdn : Nat.blt d n = true) (hS : F6 ops listed' = true ∨ ∀ w, Mem I L w → S w)
  (h : C0 P f n I₀ Q ops S fuel listed' k ((d, v) :: E) I L) : C0 P f n I₀ Q ops S (fuel + 1) listed k E I L :=
 Pi i hi hc hl rfl hdn (fun a he => hg.wanted a he) fun a w he hm => ⟨v, w, I, L, hx a w he hm, hm, hS, h⟩
theorem X7 {S : World → Prop} {fuel : Nat} {listed listed' : Array Bool} (i : Nat) {o : Oper} {I' : Heap} {L' : Bj} (hi : ops[i]? = some o) (hl : listed' = listed.setIfInBounds i true)
  (hd : o.dst = none) (hw : ∀ a, EnvOk E a → Region.wanted o (yielded ops a.tmps) = true)
  (hx : ∀ a w, EnvOk E a → Mem I L w → ∃ w', ((execOp a.eval o).run P w = .ok .skip w' ∨ ∃ v, (execOp a.eval o).run P w = .ok (.value v) w') ∧ Mem I' L' w') (hS : F6 ops listed' = true ∨ ∀ w, Mem I' L' w → S w)
  (h : C0 P f n I₀ Q ops S fuel listed' k E I' L') : Lr P f n I₀ Q ops S fuel listed i k E I L := by
 intro a w ha hds he hm; obtain ⟨w', hrun, hm'⟩ := hx a w he hm; refine Adl i hi (hw a he) ?_
 rcases hrun with hrun | ⟨v, hrun⟩ <;>
 ·simp only [Oper.wp, hrun, Oper.upon, hd, Act.put]
  rw [← hl]
  exact ⟨hS.imp id fun h => h _ hm', h a w' ha hds he hm'⟩
theorem Adk {S : World → Prop} {fuel : Nat} {listed listed' : Array Bool} (i : Nat) {o : Oper} {kf : FuncId} {vs : List Value} {Q' : Cv} (hi : ops[i]? = some o) (hl : listed' = listed.setIfInBounds i true)
  (hd : o.dst = some d) (hdn : Nat.blt d n = true) (hw : ∀ a, EnvOk E a → Region.wanted o (yielded ops a.tmps) = true)
  (hx : ∀ a w, EnvOk E a → (execOp a.eval o).run P w = .ok (.enter kf vs.toArray) w) (hF : Fun P kf vs I L Q')
  (h : ∀ v I' L', HLe I I' → Q' v I' L' → (F6 ops listed' = true ∨ ∀ w, Mem I' L' w → S w) ∧ C0 P f n I₀ Q ops S fuel listed' k ((d, v) :: E) I' L') : Lr P f n I₀ Q ops S fuel listed i k E I L := by
 intro a w ha hds he hm; refine Adl i hi (hw a he) ?_
 simp only [Oper.wp, hx a w he, Oper.upon, hd]
 refine (hF.run w hm).mono fun e w' hE => ?_
 obtain ⟨v, I', L', rfl, hle, hm', hq⟩ := hE; obtain ⟨hS, h⟩ := h v I' L' hle hq; rw [← hl]
 exact ⟨hS.imp id fun h => h _ hm', h _ _ Gp In (he.put Gn) hm'⟩
theorem Qk {S : World → Prop} {fuel : Nat} {listed listed' : Array Bool} (i : Nat) {kf : FuncId} {args : Array Operand} {tys : Array TypeId} {vs : List Value} {Q' : Cv} {c : Code} {m : Nat} {rs : List ResultVar} [hf : Bq P kf c m rs]
  (hi : ops[i]? = some ⟨some d, .call ⟨.value (.func kf), args, tys⟩, ty, pos, af, g⟩) (hl : listed' = listed.setIfInBounds i true)
  (ha : I9 E args.toList = some vs) (hg : Wants ops E g) (hdn : Nat.blt d n = true) (hF : Fun P kf vs I L Q')
  (h : ∀ v I' L', HLe I I' → Q' v I' L' → (F6 ops listed' = true ∨ ∀ w, Mem I' L' w → S w) ∧ C0 P f n I₀ Q ops S fuel listed' k ((d, v) :: E) I' L') : Lr P f n I₀ Q ops S fuel listed i k E I L :=
 Adk i hi hl rfl hdn (fun a he => hg.wanted a he) (Z7 ha) hF h
theorem Ep {S : World → Prop} {fuel : Nat} {listed listed' : Array Bool} (i : Nat) {T e : TypeId} {parts : Array (Nat × Operand)} {is : List Nat} {vs us : List Value} {m : Nat} {sz bb esz ebb : Nat} {z ez : List Value} {dd : TypeDesc} [ht : At P T (.slice e) sz bb z] [hte : At P e dd esz ebb ez]
  (hi : ops[i]? = some ⟨some d, .buildSlice T m parts, ty, pos, af, g⟩) (hl : listed' = listed.setIfInBounds i true)
  (hp : parts.toList.map (·.1) = is) (ho : I9 E (parts.toList.map (·.2)) = some vs) (hr : is = List.range' 0 vs.length) (hm : vs.length = m) (hfl : Pp esz vs = some us) (hm0 : m * esz ≠ 0) (hm1 : m * esz ≤ 2 ^ 24) (hez : ez.length = esz)
  (hg : Wants ops E g) (hdn : Nat.blt d n = true) (hS : F6 ops listed' = true ∨ ∀ w, Mem I L w → S w)
  (h : ∀ b, C0 P f n I₀ Q ops S fuel listed' k ((d, .slice (some ⟨b, 0, none⟩) m m) :: E) I ((b, .cells us.toArray e (0, 0)) :: L)) : Lr P f n I₀ Q ops S fuel listed i k E I L := by
 refine Pr i hi hl rfl hdn (fun a he => hg.wanted a he) fun a w he hmm => ?_
 obtain ⟨w', h1, h2⟩ := Aew (P := P) (T := T) (e := e) (d := d) (ty := ty) (pos := pos) (af := af) (g := g) hp ho hr hm hfl hm0 hm1 hez a w he hmm
 exact ⟨_, w', I, _, h1, h2, hS.imp id fun hS w hw => hS w hw.drop, h _⟩
theorem Afz {T e : TypeId} {sz bb esz ebb : Nat} {z ez : List Value} {dd : TypeDesc} [ht : At P T (.slice e) sz bb z] [hte : At P e dd esz ebb ez] (a : Act) (w : World) :
  (execOp a.eval ⟨some d, .buildSlice T 0 #[], ty, pos, af, g⟩).run P w = .ok (.value (.slice (some ⟨w.heap.size, 0, none⟩) 0 0)) { w with heap := w.heap.push (.cells [].toArray e (0, 0)) } := by
 simp only [execOp]
 refine Ag (a := .slice (some ⟨w.heap.size, 0, none⟩) 0 0) (w' := { w with heap := w.heap.push (.cells [].toArray e (0, 0)) }) ?_ |>.trans rfl
 unfold Instr.buildSlice
 rw [Ag (A3 ht.und w)]
 simp only []
 rw [Ag (F1 hte w)]; rw [if_neg Aa, if_pos Aa]
 have e0 : ∀ h : Nat → Value, (Array.range 0).map h = #[] := fun h => by simp
 have e1 : (Array.map (fun x : Nat × Operand => (x.fst, a.eval x.snd)) #[]).toList = [] := by simp
 simp only [pure_bind, Nat.zero_mul, e0, e1]
 rfl
theorem Fk {S : World → Prop} {fuel : Nat} {listed listed' : Array Bool} (i : Nat) {T e : TypeId} {sz bb esz ebb : Nat} {z ez : List Value} {dd : TypeDesc} [ht : At P T (.slice e) sz bb z] [hte : At P e dd esz ebb ez]
  (hi : ops[i]? = some ⟨some d, .buildSlice T 0 #[], ty, pos, af, g⟩) (hl : listed' = listed.setIfInBounds i true) (hg : Wants ops E g) (hdn : Nat.blt d n = true) (hS : F6 ops listed' = true ∨ ∀ w, Mem I L w → S w)
  (h : ∀ b, C0 P f n I₀ Q ops S fuel listed' k ((d, .slice (some ⟨b, 0, none⟩) 0 0) :: E) I ((b, .cells [].toArray e (0, 0)) :: L)) : Lr P f n I₀ Q ops S fuel listed i k E I L := by
 refine Pr i hi hl rfl hdn (fun a he => hg.wanted a he) fun a w he hm => ?_
 exact ⟨_, _, I, _, Afz a w, hm.alloc _, hS.imp id fun hS w hw => hS w hw.drop, h _⟩
theorem Gg {S : World → Prop} {fuel : Nat} {listed listed' : Array Bool} (i : Nat) {T T2 e : TypeId} {sz bb esz ebb sz2 bb2 : Nat} {z ez z2 : List Value} {dd dd2 : TypeDesc} [ht : At P T (.slice e) sz bb z] [hte : At P e dd esz ebb ez] [ht2 : At P T2 dd2 sz2 bb2 z2]
  {x y : Operand} {B : Kg} {xs ys : List Value} {m c : Nat} {ad2 : Option Addr} {m2 c2 : Nat} {L₀ : Bj}
  (hi : ops[i]? = some ⟨some d, .call ⟨.builtin .append, #[x, y], #[T, T2]⟩, T, pos, af, g⟩) (hl : listed' = listed.setIfInBounds i true) (hni : ∀ kk, dd2 ≠ .int kk) (hez : ez.length = esz)
  (hx : Ch E x = some (Bm m c B)) (hy : Ch E y = some (.slice ad2 m2 c2)) (hB : Dd esz m c xs B) (hL : ∀ w, Mem I L w → Mem I (A2 e xs B ++ L₀) w)
  (hyl : ys.length = m2 * esz) (hyr : ∀ a, ad2 = some a → He I L₀ a ys) (hyn : ad2 = none → ys = []) (hyp : ys.all C6 = true) (hesz : 0 < esz)
  (hsize : (m + m2) ≤ 4294967296) (hbytes : ebb ≤ 1024) (hg : Wants ops E g) (hdn : Nat.blt d n = true) (hS : ∀ B', F6 ops listed' = true ∨ ∀ w, Mem I (A2 e (xs ++ ys) B' ++ L₀) w → S w)
  (h : ∀ B' c', Dd esz (m + m2) c' (xs ++ ys) B' → C0 P f n I₀ Q ops S fuel listed' k ((d, Bm (m + m2) c' B') :: E) I (A2 e (xs ++ ys) B' ++ L₀)) : Lr P f n I₀ Q ops S fuel listed i k E I L := by
 refine Pr i hi hl rfl hdn (fun a he => hg.wanted a he) fun a w he hm => ?_
 obtain ⟨w', B', c', h1, h2, h3⟩ := Vm (P := P) (T := T) (T2 := T2) (e := e) (d := d) (pos := pos) (af := af) (g := g) hni hez hx hy hB hL hyl hyr hyn hyp hesz hsize hbytes a w he hm
 exact ⟨_, w', I, _, h1, h3, hS B', h B' c' h2⟩
theorem Afe {S : World → Prop} {fuel : Nat} {listed listed' : Array Bool} (i : Nat) {T U : TypeId} {x y : Operand} {b off : Nat} {v : Value} {vs cs us : List Value} {L' : Bj} {dd : TypeDesc} {sz bb : Nat} {z : List Value} [ht : At P T dd sz bb z]
  (hi : ops[i]? = some ⟨none, .store T x y, ty, pos, af, g⟩) (hl' : listed' = listed.setIfInBounds i true)
  (hx : Ch E x = some (.pointer (some ⟨b, off, none⟩))) (hy : Ch E y = some v) (hv : Gc v = some vs) (hl : vs.length = sz) (hp : vs.all C6 = true)
  (hu : Upd b (.cells us.toArray U (0, 0)) (.cells cs.toArray U (0, 0)) L L') (hus : M1 off vs cs = some us) (hg : Wants ops E g) (hS : F6 ops listed' = true ∨ ∀ w, Mem I L' w → S w)
  (h : C0 P f n I₀ Q ops S fuel listed' k E I L') : Lr P f n I₀ Q ops S fuel listed i k E I L :=
 X7 i hi hl' rfl (fun a he => hg.wanted a he) (W2 hx hy hv hl hp hu hus) hS h
theorem S4 {S : World → Prop} {fuel : Nat} {listed listed' : Array Bool} (i : Nat) {T U : TypeId} {x y : Operand} {b off : Nat} {v : Value} {vs cs us : List Value} {L' : Bj} {dd : TypeDesc} {sz bb : Nat} {z : List Value} [ht : At P T dd sz bb z]
  (hi : ops[i]? = some ⟨none, .store T x y, ty, pos, af, g⟩) (hl' : listed' = listed.setIfInBounds i true)
  (hx : Ch E x = some (.pointer (some ⟨b, off, none⟩))) (hy : Ch E y = some v) (hv : Gc v = some vs) (hl : vs.length = sz) (hg : Wants ops E g) (hS : F6 ops listed' = true ∨ ∀ w, Mem I L' w → S w) (h : C0 P f n I₀ Q ops S fuel listed' k E I L')
  (hp : vs.all C6 = true := by first | rfl | (simp only [List.toList_toArray, List.all_cons, List.all_nil, H8, Bool.and_true, Bool.true_and] <;> rfl)) (hu : Upd b (.cells us.toArray U (0, 0)) (.cells cs.toArray U (0, 0)) L L' := by first | exact u0 | exact u1 | exact u2 | exact u3 | exact u4 | exact u5 | exact u6) (hus : M1 off vs cs = some us := by rfl) : Lr P f n I₀ Q ops S fuel listed i k E I L := Afe i hi hl' hx hy hv hl hp hu hus hg hS h
end rules
theorem C9 {P : Program} {f : FuncId} {n : Nat} {I₀ : Heap} {Q : Cv} {k : List Item} {E : Hg} {I : Heap} {L : Bj} (h : HLe I I → RunS P f n I₀ Q k E I L) : RunS P f n I₀ Q k E I L := h (.refl _)
theorem Hl {P : Program} {f : FuncId} {n : Nat} {I₀ : Heap} {Q : Cv} {k : List Item} {E : Hg} {I : Heap} {id : Nat} {ops : Array Oper} {p : Nat × Obj} {L₀ : Bj} (N : Nat) (hN : ops.size = N) (hm : P.follows .mixedOrders = true)
  (h : C0 P f n I₀ Q ops (Mem I L₀) N (Array.replicate N false) k E I (p :: L₀)) : RunS P f n I₀ Q (.code (.region id ops true) :: k) E I (p :: L₀) := Kk I L₀ N hN hm h
def Ex.bare : Ex → Bool
 | .num _ => true
 | .name _ => true
 | _ => false
def Ex.norm : Ex → Bool → Bool
 | .num _, _ => true
 | .name _, _ => true
 | .bin _ a b, _ => a.bare && b.bare
 | .ite a b c, _ => a.bare && b.norm true && c.norm true
 | .lt _ a b, n => n && a.norm false && b.norm true
 | .fn _ _ _ _ b, _ => b.norm true
 | .un _ a, _ => a.bare
theorem Ex.of_let {e : Ex} (h : e.tree.head = Dz) : ∃ x a b, e = .lt x a b := by
 cases e with
 | num s => cases h
 | name s => cases h
 | bin o a b => exact absurd h o.txt_ne.2.1
 | un o a => exact absurd h o.txt_ne.2.1
 | ite a b c => exact absurd (show Gy = Dz from h) Ad
 | lt x a b => exact ⟨x, a, b, rfl⟩
 | fn f x s t b => exact absurd (show Dk = Dz from h) Ad
theorem Ex.of_fun {e : Ex} (h : e.tree.head = Dk) : ∃ f x s t b, e = .fn f x s t b := by
 cases e with
 | num s => cases h
 | name s => cases h
 | bin o a b => exact absurd h o.txt_ne.2.2.1
 | un o a => exact absurd h o.txt_ne.2.2.1
 | ite a b c => exact absurd (show Gy = Dk from h) Ad
 | lt x a b => exact absurd (show Dz = Dk from h) Ad
 | fn f x s t b => exact ⟨f, x, s, t, b, rfl⟩
theorem B5.txt_inj {o o' : B5} (h : o.txt = o'.txt) : o = o' := by have := congrArg B5.of h; rw [B5.of_txt, B5.of_txt] at this; exact Option.some.inj this
theorem U2.txt_inj {o o' : U2} (h : o.txt = o'.txt) : o = o' := by have := congrArg U2.of h; rw [U2.of_txt, U2.of_txt] at this; exact Option.some.inj this
theorem W7 (o : B5) (u : U2) : o.txt ≠ u.txt := by cases o <;> cases u <;> decide
theorem L5 (o : B5) (a b : Ex) : D2 (Ex.bin o a b).tree = [1, 2] := by cases o <;> rfl
theorem Nz (o : U2) (a : Ex) : D2 (Ex.un o a).tree = [1] := by cases o <;> rfl
theorem L6 (a b c : Ex) : D2 (Ex.ite a b c).tree = [1, 2, 3] := rfl
theorem L7 (x : As) (a b : Ex) : D2 (Ex.lt x a b).tree = [2, 3] := rfl
theorem Mh (f x : As) (s t : Ty) (b : Ex) : D2 (Ex.fn f x s t b).tree = [5] := rfl
theorem Ex.bare_atom {e : Ex} (h : e.ok = true) : decide (e.tree.atom = []) = !e.bare := by
 cases e with
 | num s => have h := X9 h; simp [Ex.tree, Tree.atom, h, Ex.bare]
 | name s => have h := Iu h; simp [Ex.tree, Tree.atom, h, Ex.bare]
 | _ => rfl
theorem Ex.bare_parts {e : Ex} : e.bare = e.tree.parts.isEmpty := by cases e <;> rfl
theorem FormAt.as {I : Heap} {t : Tree} {oa : Option Addr} {c : Nat} {oaf : Nat → Option Addr} {cf : Nat → Nat} (h : FormAt I t oa c oaf cf) (i : Nat) (u : Tree) (hi : i < t.parts.length) (hu : t.pt i = u) : Rep I u [.string (str u.atom), .slice (oaf i) u.parts.length (cf i)] := by
 subst hu; exact h.rp i hi
def Ahr (n : Nat) : Prop := ∀ {I : Heap} {e : Ex} {cs : List Value} (_ : SizeOf.sizeOf e < n) (_ : Rep I e.tree cs) (_ : e.ok = true) (L : Bj), Fun Tryz.prog 129 [.agg cs.toArray] I L (E2 (.bool (e.norm false)) I L)
def Ahq (n : Nat) : Prop := ∀ {I : Heap} {e : Ex} {cs : List Value} (_ : SizeOf.sizeOf e < n) (_ : Rep I e.tree cs) (_ : e.ok = true) (L : Bj), Fun Tryz.prog 75 [.agg cs.toArray] I L (E2 (.bool (e.norm true)) I L)
structure XS where
 e : Ex
 oa : Option Addr
 c : Nat
theorem Ex.atom_iff {e : Ex} (h : e.ok = true) : e.tree.atom = [] ↔ e.bare = false := by
 have := Ex.bare_atom h
 cases hb : e.bare <;> simp_all
section rules
variable {P : Program} {f : FuncId} {n : Nat} {I₀ : Heap} {Q : Cv} {k : List Item} {E : Hg} {I : Heap} {L : Bj}
variable {ops : Array Oper} {d : Nat} {ty : TypeId} {pos : String} {af : Array Edge} {g : Option (Nat × Bool)} {l : List Oper}
theorem La {op : BinOp} {T : TypeId} {x y : Operand} {a b : Option Addr} {m c m' c' : Nat} (w : World) : (eqGuard op T x y (.slice a m c) (.slice b m' c')).run P w = .ok () w := by
 unfold eqGuard; split <;> rfl
theorem Acc {S : World → Prop} {T T' e sz bb : Nat} {z : List Value} [ht : At P T (.slice e) sz bb z] {x y : Operand} {oa : Option Addr} {m c : Nat} (hx : Ch E x = some (.slice oa m c)) (hy : Ch E y = some (.slice none 0 0)) :
  Ia P E S ⟨some d, .binOp .eql T x y T', ty, pos, af, g⟩ (.bool oa.isNone) := fun ac w he _ => by
 simp only [execOp, he.eval hx, he.eval hy]
 refine Ag (a := _) (w' := w) ?_ |>.trans rfl
 rw [Ag (La w)]
 have h : ∀ d : Nat, (Op.equalIn (d + 1) T (.slice oa m c) (.slice none 0 0)).run P w = .ok oa.isNone w := fun d => by
  unfold Op.equalIn
  rw [Ag (A3 ht.und w)]
  cases oa <;> rfl
 simp only [binOp, Op.equal]
 exact Ag (h 9999) |>.trans rfl
theorem Jh {T T' e sz bb : Nat} {z : List Value} [ht : At P T (.slice e) sz bb z] {x y : Operand} {oa : Option Addr} {m c : Nat} (hx : Ch E x = some (.slice oa m c)) (hy : Ch E y = some (.slice none 0 0)) (hg : Wants ops E g) (hdn : Nat.blt d n = true)
  (h : A8 P f n I₀ Q ops l k ((d, .bool oa.isNone) :: E) I L) : A8 P f n I₀ Q ops (⟨some d, .binOp .eql T x y T', ty, pos, af, g⟩ :: l) k E I L := Es (Acc hx hy) hg hdn h
end rules

def D7 (oaf : Nat → Option Addr) (cf : Nat → Nat) : Nat → List Tree → List Value
 | _, [] => []
 | k, t :: ts => .string (str t.atom) :: .slice (oaf k) t.parts.length (cf k) :: D7 oaf cf (k + 1) ts
theorem Ph {f f' : Nat → Option Addr} {g g' : Nat → Nat} : ∀ (ts : List Tree) (k : Nat), (∀ i, k ≤ i → f i = f' i ∧ g i = g' i) → D7 f g k ts = D7 f' g' k ts
 | [], _, _ => rfl
 | t :: ts, k, h => by
  simp only [D7]
  rw [(h k (Nat.le_refl _)).1, (h k (Nat.le_refl _)).2, Ph ts (k + 1) (fun i hi => h i (by omega))]
theorem RepL.cells {I : Heap} : ∀ {ts : List Tree} {vs : List Value} (k : Nat), RepL I ts vs → ∃ oaf cf, vs = D7 oaf cf k ts
 | _, _, k, .nil => ⟨fun _ => none, fun _ => 0, rfl⟩
 | _, _, k, .cons (ts := ts) h hs => by
  obtain ⟨f, g, rfl⟩ := RepL.cells (k + 1) hs; obtain ⟨oa, c, vs, he, _⟩ := h.open
  simp only [List.cons.injEq, and_true] at he
  obtain ⟨rfl, rfl⟩ := he; refine ⟨fun i => if i = k then oa else f i, fun i => if i = k then c else g i, ?_⟩
  simp only [D7, if_true]
  congr 2
  exact Ph ts (k + 1) (fun i hi => by rw [if_neg (by omega), if_neg (by omega)]; exact ⟨rfl, rfl⟩)
theorem Sh {f : Nat → Option Addr} {g : Nat → Nat} : ∀ (ts : List Tree) (k i : Nat) (hi : i < ts.length), (D7 f g k ts)[i * 2]? = some (.string (str ts[i].atom)) ∧ (D7 f g k ts)[i * 2 + 1]? = some (.slice (f (k + i)) ts[i].parts.length (g (k + i)))
 | [], _, _, hi => by simp at hi
 | t :: ts, k, 0, _ => ⟨rfl, rfl⟩
 | t :: ts, k, i + 1, hi => by
  obtain ⟨h1, h2⟩ := Sh (f := f) (g := g) ts (k + 1) i (by simpa using hi); refine ⟨?_, ?_⟩
  ·rw [show (i + 1) * 2 = i * 2 + 1 + 1 by omega]; simpa [D7] using h1
  ·rw [show (i + 1) * 2 + 1 = i * 2 + 1 + 1 + 1 by omega, show k + (i + 1) = k + 1 + i by omega]; simpa [D7] using h2
theorem Rep.cells {I : Heap} {t : Tree} {cs : List Value} (h : Rep I t cs) : ∃ oa c oaf cf, cs = [.string (str t.atom), .slice oa t.parts.length c] ∧ FormAt I t oa c oaf cf ∧ RepL I t.parts (D7 oaf cf 0 t.parts) ∧ (∀ x, oa = some x → Still I x (D7 oaf cf 0 t.parts)) := by
 obtain ⟨oa, c, vs, rfl, hl, hs, hn, hc, ha, hp⟩ := h.open; obtain ⟨oaf, cf, rfl⟩ := hl.cells 0; refine ⟨oa, c, oaf, cf, rfl, ⟨h, fun i hi => ?_, fun e => by rw [hn e]; rfl, hp, ha, hc⟩, hl, hs⟩; obtain ⟨c1, c2, h1, h2, h3⟩ := hl.get i hi; obtain ⟨h4, h5⟩ := Sh (f := oaf) (g := cf) t.parts 0 i hi; rw [h4] at h2; rw [h5, Nat.zero_add] at h3
 cases h2; cases h3
 rw [Tree.pt_at hi]; obtain ⟨x, rfl⟩ : ∃ x, oa = some x := by
  cases oa with
  | none => have := hn rfl; rw [this] at hi; simp at hi
  | some x => exact ⟨x, rfl⟩
 refine ⟨h1, (hs x rfl).part (i * 2) ?_⟩; intro j hj
 match j, hj with
 | 0, _ => simpa using h4
 | 1, _ => simpa using h5

def CL (e : TypeId) (vs : List Value) (n : Nat) (I : Heap) (L : Bj) : Cv := fun v I' L' => ∃ b sp c, v = .slice (some ⟨b, 0, none⟩) n c ∧ n ≤ c ∧ I = I' ∧ L' = (b, .cells (vs ++ sp).toArray e (0, 0)) :: L
theorem Hn {I : Heap} {x : Addr} {n c : Nat} {vs : List Value} (hs : Still I x vs) (hv : vs.length = n * 2) (hp : vs.all C6 = true) (hn0 : 0 < n) (hn : n ≤ 4294967296) (L : Bj) :
  Fun Tryz.prog 114 [.slice (some x) n c] I L (CL 49 vs n I L) := by
 refine Ao Ae ?_; refine Se rfl (Oa rfl (Ab (Ah (Se rfl (Om rfl ?_))))); refine Jh rfl rfl .free rfl ?_; refine Ab ?_
 first | refine Sf rfl Ae ?_ | refine A0 Ar ?_
 refine Ak (Se rfl ?_); refine Dl .free rfl ?_; intro b5; refine Om rfl ?_; refine D1 (B := some (b5, [])) (xs := []) (ys := vs) (m := 0) (c := 0) (L₀ := L) Av Ac rfl rfl ⟨rfl, Nat.le_refl _, rfl⟩ (fun _ h => h) Aa (fun a ha => by cases ha; exact hs.reads) Ae hp hn0 Ad Aa Ad .free rfl ?_; intro b sp c' hB'; refine Oa rfl (Ab (Am (.tmp rfl .nil) ?_))
 exact ⟨I, _, .refl _, fun _ h => h, b, sp, c', by rw [Nat.zero_add]; rfl, by have := hB'.2.1; omega, rfl, rfl⟩
mutual
def Tree.dec : (t u : Tree) → Decidable (t = u)
 | .node a ps, .node b qs => if h : a = b then (match Aha ps qs with
   | isTrue h' => isTrue (by rw [h, h'])
   | isFalse h' => isFalse (fun e => h' (Tree.node.inj e).2)) else isFalse (fun e => h (Tree.node.inj e).1)
def Aha : (ps qs : List Tree) → Decidable (ps = qs)
 | [], [] => isTrue rfl
 | [], _ :: _ => isFalse (by simp)
 | _ :: _, [] => isFalse (by simp)
 | t :: ts, u :: us => match Tree.dec t u, Aha ts us with
  | isTrue h, isTrue h' => isTrue (by rw [h, h'])
  | isFalse h, _ => isFalse (fun e => h (List.cons.inj e).1)
  | _, isFalse h => isFalse (fun e => h (List.cons.inj e).2)
end
instance : DecidableEq Tree := Tree.dec

theorem Forms.fa {I : Heap} {oa : Option Addr} {ts : List Tree} {c : Nat} (h : Forms I oa ts c) : Rep I (.node [] ts) [.string (str []), .slice oa ts.length c] := h.form [] (by simp [Bg])
def Aih (n : Nat) : Prop := ∀ {I : Heap} {t u : Tree} {cs ds : List Value} (_ : SizeOf.sizeOf t < n) (_ : Rep I t cs) (_ : Rep I u ds) (L : Bj), Fun Tryz.prog 131 [.agg cs.toArray, .agg ds.toArray] I L (E2 (.bool (decide (t = u))) I L)
abbrev W4 := List (As × Ex)
def Fu : W4 → Ex → Ex
 | [], f => f
 | (x, e) :: bs, f => .lt x e (Fu bs f)
def Td (b : Bool) (s : As) : Option Ex := match Fo s with
 | some e => if e.norm b = true then some e else none
 | none => none
def Agi (b : Bool) (s : As) : Bool := (Td b s).isSome
def Agv (x s : As) : As × Ex := (x, (Td false s).getD (.num []))
def Aar (l m : List As) : W4 := l.zipWith Agv m
def Ah5 (l m : List As) (s : As) : Option As := match Td true s with
 | none => none
 | some f => if l.length = m.length ∧ l.all B0 = true ∧ m.all (Agi false) = true ∧ (Fu (Aar l m) f).fine = true then some (Fu (Aar l m) f).tree.text else none

def Aie (bs : W4) : Prop := ∀ p ∈ bs, B0 p.1 = true ∧ p.2.ok = true ∧ p.2.norm false = true ∧ p.2.tree.len ≤ 12000
theorem U3 {bs : W4} {f : Ex} {i : Nat} (hi : i < bs.length) : Fu (bs.drop i) f = .lt bs[i].1 bs[i].2 (Fu (bs.drop (i + 1)) f) := by
 rw [List.drop_eq_getElem_cons hi]; rfl
theorem Ry {s : As} {t : Tree} {ok : Bool} (hpf : match Fo s with | some e => ok = true ∧ t = e.tree | none => ok = false) (h : ok = true) : ∃ e, Fo s = some e ∧ t = e.tree ∧ e.ok = true ∧ e.tree.len ≤ 12000 ∧ e.fine = true ∧ s = e.tree.text := by
 cases hx : Fo s with
 | none => rw [hx] at hpf; simp [h] at hpf
 | some e =>
  rw [hx] at hpf; obtain ⟨h1, h2, h3⟩ := Nw hx
  have hfine := h2
  simp only [Ex.fine, Bool.and_eq_true, Tree.fits, decide_eq_true_eq] at h2
  exact ⟨e, rfl, hpf.2, h2.1.1, h2.2.2, hfine, h3⟩
theorem Aab {s : As} {t : Tree} {ok : Bool} (hpf : match Fo s with | some e => ok = true ∧ t = e.tree | none => ok = false) (h : ok = false) : Fo s = none := by
 cases hx : Fo s with
 | none => rfl
 | some e => rw [hx] at hpf; simp [h] at hpf
def RN (p : Option Ex) (L : Bj) : Cv := RX p L
/- Bindings in memory. -/
inductive BindL : Heap → W4 → List Value → Prop
 | nil {I : Heap} : BindL I [] []
 | cons {I : Heap} {x : As} {e : Ex} {bs : W4} {c1 c2 : Value} {vs : List Value} (hx : x.length ≤ Bg) (h : Rep I e.tree [c1, c2]) (hs : BindL I bs vs) : BindL I ((x, e) :: bs) (.string (str x) :: c1 :: c2 :: vs)
theorem BindL.mono {I I' : Heap} (hle : HLe I I') {bs : W4} {vs : List Value} (h : BindL I bs vs) : BindL I' bs vs := by
 induction h with
 | nil => exact .nil
 | cons hx h _ ih => exact .cons hx (h.mono hle) ih
theorem BindL.length {I : Heap} {bs : W4} {vs : List Value} (h : BindL I bs vs) : vs.length = bs.length * 3 := by
 induction h with
 | nil => rfl
 | cons hx h _ ih => simp [ih]; omega
theorem BindL.plain {I : Heap} {bs : W4} {vs : List Value} (h : BindL I bs vs) : vs.all C6 = true := by
 induction h with
 | nil => rfl
 | cons hx h _ ih =>
  have h2 := h.vals
  simp only [List.all_cons, List.all_nil, Bool.and_true, Bool.and_eq_true] at h2 ⊢
  exact ⟨rfl, h2.1, h2.2, ih⟩
theorem BindL.append {I : Heap} {bs cs : W4} {vs ws : List Value} (h : BindL I bs vs) (h' : BindL I cs ws) : BindL I (bs ++ cs) (vs ++ ws) := by
 induction h with
 | nil => exact h'
 | cons hx h _ ih => exact .cons hx h ih
theorem BindL.get {I : Heap} {bs : W4} {vs : List Value} (h : BindL I bs vs) : ∀ i (hi : i < bs.length), ∃ c1 c2, Rep I bs[i].2.tree [c1, c2] ∧ bs[i].1.length ≤ Bg ∧ vs[i * 3]? = some (.string (str bs[i].1)) ∧ vs[i * 3 + 1]? = some c1 ∧ vs[i * 3 + 2]? = some c2 := by
 induction h with
 | nil => intro i hi; simp at hi
 | @cons x e bs c1 c2 vs hx h hs ih =>
  intro i hi
  cases i with
  | zero => exact ⟨c1, c2, h, hx, rfl, rfl, rfl⟩
  | succ i =>
   obtain ⟨d1, d2, h1, h2, h3, h4, h5⟩ := ih i (by simpa using hi); refine ⟨d1, d2, by simpa using h1, by simpa using h2, ?_, ?_, ?_⟩
   ·rw [show (i + 1) * 3 = i * 3 + 1 + 1 + 1 by omega]; simpa using h3
   ·rw [show (i + 1) * 3 + 1 = i * 3 + 1 + 1 + 1 + 1 by omega]; simpa using h4
   ·rw [show (i + 1) * 3 + 2 = i * 3 + 2 + 1 + 1 + 1 by omega]; simpa using h5
structure Binds (I : Heap) (oa : Option Addr) (bs : W4) (c : Nat) : Prop where
 rep : ∃ vs, BindL I bs vs ∧ ∀ x, oa = some x → Still I x vs
 nil : oa = none → bs.length = 0
 cap : bs.length ≤ c
 len : bs.length ≤ Bg
theorem Binds.mono {I I' : Heap} (hle : HLe I I') {oa : Option Addr} {bs : W4} {c : Nat} (h : Binds I oa bs c) : Binds I' oa bs c := by
 obtain ⟨⟨vs, h1, h2⟩, h3, h4, h5⟩ := h
 exact ⟨⟨vs, h1.mono hle, fun x hx => (h2 x hx).mono hle⟩, h3, h4, h5⟩
theorem Binds.at {I : Heap} {oa : Option Addr} {bs : W4} {c : Nat} (h : Binds I oa bs c) (i : Nat) (hi : i < bs.length) :
  ∃ ob d, Rep I bs[i].2.tree [.string (str bs[i].2.tree.atom), .slice ob bs[i].2.tree.parts.length d] ∧ bs[i].1.length ≤ Bg ∧
   Still I ((W6 oa).add (i * 3)) [.string (str bs[i].1), .string (str bs[i].2.tree.atom), .slice ob bs[i].2.tree.parts.length d] := by
 obtain ⟨⟨vs, h1, h2⟩, h3, h4, h5⟩ := h; obtain ⟨c1, c2, r, hx, e1, e2, e3⟩ := h1.get i hi; obtain ⟨ob, d, ws, he, _⟩ := r.open
 simp only [List.cons.injEq, and_true] at he
 obtain ⟨rfl, rfl⟩ := he; obtain ⟨y, rfl⟩ : ∃ y, oa = some y := by
  cases oa with
  | none => have := h3 rfl; omega
  | some y => exact ⟨y, rfl⟩
 refine ⟨ob, d, r, hx, (h2 y rfl).part (i * 3) ?_⟩; intro j hj
 match j, hj with
 | 0, _ => simpa using e1
 | 1, _ => simpa using e2
 | 2, _ => simpa using e3
theorem Uh {P : Program} {f : FuncId} {n : Nat} {I₀ : Heap} {Q : Cv} {todo : List Item} {E : Hg} {I : Heap} {L : Bj} {e : TypeId} {bs : W4} {xs : List Value} {B : Kg} {m c : Nat}
  (hb : BindL I bs xs) (hB : Dd 3 m c xs B) (hm : m = bs.length) (hp : m ≤ Bg)
  (h : ∀ I' oa c', HLe I I' → Bm m c B = .slice oa bs.length c' → Binds I' oa bs c' → RunS P f n I₀ Q todo E I' L) : RunS P f n I₀ Q todo E I (A2 e xs B ++ L) := by
 cases B with
 | none =>
  obtain ⟨rfl, rfl, rfl⟩ := hB; obtain rfl : bs = [] := List.length_eq_zero_iff.1 hm.symm
  exact h I none 0 (.refl _) rfl ⟨⟨[], .nil, by simp⟩, fun _ => rfl, by simp, by simp⟩
 | some p =>
  obtain ⟨b, sp⟩ := p; refine Bu fun hle => h _ (some ⟨b, 0, none⟩) c hle (by rw [← hm]; rfl) ⟨⟨xs, hb.mono hle, fun y hy => ?_⟩, by simp, by have := hB.2.1; omega, by omega⟩
  cases hy; exact A9
structure YS where
 I : Heap
 k : Nat
 oa : Option Addr
 c : Nat
theorem Abc {I : Heap} {oa : Option Addr} {bs : W4} {c : Nat} (h : Binds I oa bs c) {f : Ex} {cs : List Value} (hf : Rep I f.tree cs) (L : Bj) :
  Fun Tryz.prog 168 [.slice oa bs.length c, .agg cs.toArray] I L (RP (Fu bs f).tree L) := by
 obtain ⟨of, cf, _, rfl, -⟩ := hf.open
 have hlen := h.len
 unfold Bg at hlen
 refine Ao Ae ?_; refine Se rfl ?_; refine Cm rfl rfl .free rfl ?_; intro b3; refine A1 .free rfl ?_; intro b4; refine Ab (Ah (Se rfl (Om rfl (On rfl ?_)))); refine Or rfl rfl rfl ?_; refine Oa rfl (Ab (Aq ?_))
 refine Dn (X := YS) (fun x => x.k) (fun x => [(0, .slice oa bs.length c), (3, .pointer (some ⟨b3, 0, none⟩)), (4, .pointer (some ⟨b4, 0, none⟩)), (5, .int .i64 ((x.k : Int) - 1))]) (fun x => x.I) (fun x => (b4, .cells [.string (str []), .slice none 0 0].toArray 49 (0, 0)) :: (b3, .cells [.string (str (Fu (bs.drop x.k) f).tree.atom), .slice x.oa (Fu (bs.drop x.k) f).tree.parts.length x.c].toArray 49 (0, 0)) :: L) (fun x => HLe I x.I ∧ x.k ≤ bs.length ∧ Rep x.I (Fu (bs.drop x.k) f).tree [.string (str (Fu (bs.drop x.k) f).tree.atom), .slice x.oa (Fu (bs.drop x.k) f).tree.parts.length x.c]) ⟨I, bs.length, of, cf⟩ ⟨.refl _, Nat.le_refl _, by simpa [Fu] using hf⟩ ⟨rfl, rfl, rfl, rfl, trivial⟩ (fun w hw => by simpa [Fu] using hw) ?_
 rintro ⟨J, k, ob, d⟩ ⟨hle, hk, hr⟩ ih
 simp only at hle hk hr ih
 dsimp only
 refine Ah (Se rfl (Om rfl (Oc rfl rfl rfl (Ab ?_)))); refine A6 rfl ?_ ?_
 ·intro c0
  try simp only [nb] at c0
  obtain ⟨k, rfl⟩ : ∃ m, k = m + 1 := ⟨k - 1, by omega⟩; refine Jv (t := 5) (v' := .int .i64 (k : Nat)) rfl F7 ?_; obtain ⟨oe, de, hre, hxl, hst⟩ := (h.mono hle).at k Aa
  have hnil := h.nil
  refine Ak (Ah (Aq ?_)); refine Fh 15 rfl rfl ?_; refine Da 0 rfl (Ai rfl) ?_; refine Da 1 rfl (Ai rfl) ?_
  first | refine Da 2 rfl (Bc rfl rfl _ rfl) ?_ | refine Da 2 rfl (Bd rfl rfl _ rfl) ?_
  refine Da 3 rfl (A4 rfl) ?_; refine Dt 4 [14] rfl (Kb rfl) ?_; refine Da 6 rfl (Ai rfl) ?_; refine Da 7 rfl (Ai rfl) ?_
  first | refine Da 8 rfl (Bc rfl rfl _ rfl) ?_ | refine Da 8 rfl (Bd rfl rfl _ rfl) ?_
  refine Da 9 rfl (A4 rfl) ?_; refine Dt 10 [14] rfl (Ahn rfl) ?_; refine Dt 11 [14] rfl (Ea rfl) ?_; refine Dc 5 rfl rfl (Li _ hxl _ _) ?_; rintro _ _ _ _ ⟨rfl, rfl, rfl⟩; refine Hx ?_; refine Fg 12 rfl Af rfl rfl rfl Ac Ac Ac Ad Ad Ac .free rfl (.inr Au) ?_; intro b25; refine E0 ?_; intro hz
  have hfs := Sz (c := 3) (b := b25) (RepL.three (.ofAtom hxl) hre hr) hz Ae Bf
  refine Dc 13 rfl rfl (Ac6 Dz Ad hfs Bf _) ?_; rintro _ J2 _ e2 ⟨cs2, rfl, hr2, rfl⟩
  have e3 := hz.trans e2
  obtain ⟨oq, cq, _, rfl, -⟩ := hr2.open; refine Hx ?_; refine Dx 14 rfl rfl rfl rfl ?_; refine A5 Af ?_; refine Ap (Al rfl (Om rfl ?_)); refine Or rfl rfl rfl ?_; refine Oa rfl (Ab ?_); refine Ed (E' := [(0, .slice oa bs.length c), (3, .pointer (some ⟨b3, 0, none⟩)), (4, .pointer (some ⟨b4, 0, none⟩)), (5, .int .i64 ((k : Int) - 1))]) ⟨rfl, rfl, rfl, rfl, trivial⟩ ?_
  have hd := U3 (f := f) (show k < bs.length by omega)
  refine Cu (fun w hw => ?_) (ih ⟨J2, k, oq, cq⟩ ⟨hle.trans e3, by simp only; omega, by simp only; rw [hd]; exact hr2⟩ Dq)
  simp only; rw [hd]; exact hw
 intro c0
 try simp only [nb] at c0
 obtain rfl : k = 0 := by omega
 rw [List.drop_zero] at hr
 simp only [List.drop_zero]
 refine Cc rfl ?_; refine Se rfl ?_; refine Az rfl .free rfl ?_; refine By rfl rfl rfl rfl .free ?_; refine Ab ?_; refine Am (.c rfl .nil) ?_
 exact ⟨J, L, hle, Cl, _, rfl, hr, rfl⟩
end Go.Proofs.YtmfagaajiakgoaaGreatDoor
