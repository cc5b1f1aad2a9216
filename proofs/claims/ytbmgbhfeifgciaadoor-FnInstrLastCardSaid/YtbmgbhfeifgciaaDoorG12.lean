/- A form is an instruction, by both. No conditions. -/
import Derived.Test.YtbmgbhfeifgciaaDoorG11

namespace Go.Proofs.YtbmgbhfeifgciaaDoor
set_option maxRecDepth 100000
set_option linter.unusedVariables false
set_option linter.unusedSimpArgs false

theorem Pg {I : Heap} {t : Tree} {oa : Option Addr} {c : Nat} {oaf : Nat → Option Addr} {cf : Nat → Nat} (hf : FormAt I t oa c oaf cf) : t.head.length ≤ As := by
 by_cases h : t.parts = []
 ·unfold Tree.head; rw [h]; simp
 ·have hp : 0 < t.parts.length := List.length_pos_iff.2 h
  rw [Gj hp]; exact (hf.rp 0 hp).atom_le
theorem Pj {t : Tree} {i : Nat} (hi : i < (Er t.head t.parts.length).length) (h : Mb ((Er t.head t.parts.length).getD i 0).toNat (t.pt (i + 1)) = false) : t.instr = false :=
 decide_eq_false fun e => by rw [e.2.2 i hi] at h; cases h
theorem Dd {q : Nat} {x : Tree} (h1 : q ≠ 100) (h2 : q ≠ 115) (h3 : q ≠ 110) (h4 : q ≠ 109) (h5 : q ≠ 108) (h6 : q ≠ 69) (h7 : q ≠ 87) : Mb q x = false := by
 unfold Mb
 rw [if_neg (by omega), if_neg h3, if_neg h4, if_neg h5, if_neg h6, if_neg h7]
theorem Qy (h : Af) (n : Nat) : (Er h n).length ≤ n + 4 := by
 unfold Er
 repeat' split
 all_goals (simp only [List.length_cons, List.length_nil, List.length_replicate]; omega)
theorem Qz (h : Af) : (Fd h).length ≤ 4 := by
 unfold Fd
 repeat' split
 all_goals (simp only [List.length_cons, List.length_nil]; omega)
theorem F7             {I : Heap} {t : Tree} {cs : List Value} (h : Rep I t cs) (L : At ) : Fun Tryd.prog 16 [.agg cs.toArray] I L (Cr   (.bool t.instr) I L) := by
  obtain ⟨oa, c, oaf, cf, rfl, hf⟩ := h.at'
  have hn := hf.nil
  have hlen := hf.len
  have hcap := hf.cap
  have hhl := Pg       hf
  unfold As   at hlen
  refine Ag        (by simp) ?_
  refine Se rfl ?_
  refine D2    rfl rfl .free rfl ?_
  intro b1
  refine Oa rfl (Aa     (Ai    ?_))
  refine Fu    7 rfl rfl ?_
  refine Dt 0 [7] rfl (S1    rfl) ?_
  refine Da 2 rfl (Bb          rfl) ?_
  refine Dt 3 [7] rfl (Mq    rfl) ?_
  refine Da 4 rfl (Cq          rfl) ?_
  refine Dc 1 rfl rfl (Ea          h _) ?_
  rintro _ _ _ _ ⟨rfl, rfl, rfl⟩
  refine Hx ?_
  refine Dc 5 rfl rfl (Qj      t.head hhl t.parts.length hlen _ _) ?_
  rintro _ _ _ _ ⟨rfl, rfl, rfl⟩
  have hsl4 := Qy      t.head t.parts.length
  have hno := fun i => Pj       (t := t) (i := i)
  have hyes : t.instr = decide (Er  t.head t.parts.length ≠ [] ∧ t.parts.length = (Er  t.head t.parts.length).length + 1 ∧ ∀ i, i < (Er  t.head t.parts.length).length → Mb  ((Er  t.head t.parts.length).getD i 0).toNat (t.pt (i + 1)) = true) := rfl
  generalize Er  t.head t.parts.length = s at hsl4 hno hyes ⊢
  refine Hx ?_
  refine Da 6 rfl (Bd       rfl) ?_
  refine Dk     (by kernel_rfl) ?_
  refine Ai    (Se rfl (Om rfl (Od rfl rfl rfl (Om rfl ?_))))
  apply D6   15 23 rfl
  · intro g2_3 hk
    try simp only [nb] at g2_3
    refine Ba          rfl (.met rfl rfl) rfl ?_
    refine Bl    rfl (.met rfl rfl) rfl ?_
    refine Co          rfl (.met rfl rfl) rfl ?_
    refine Ow rfl ?_
    refine Aw        rfl (.met rfl rfl) rfl ?_
    refine Gk      rfl rfl rfl (by omega) (.met rfl rfl) rfl ?_
    refine A6    rfl rfl rfl (.met rfl rfl) rfl ?_
    refine Of rfl rfl ?_
    exact Al    7 rfl rfl hk
  · intro _ hk
    refine Aq      7 rfl ?_
    refine Ot rfl rfl ?_
    exact Al    7 rfl rfl hk
  refine Aa     ?_
  refine Am     rfl ?_ ?_
  · intro c0
    try simp only [nb] at c0
    refine Se rfl (Oa rfl (Aa     (Ac    (.tmp rfl .nil) ?_)))
    refine only rfl ?_
    refine congrArg Value.bool ?_
    rw [hyes]
    refine (decide_eq_false fun e => ?_).symm
    rcases c0 with h | h
    · exact e.1 h
    · have := e.2.1; omega
  intro c0
  try simp only [nb] at c0
  have hs0 : s ≠ [] := c0.1
  have hsl : t.parts.length = s.length + 1 := by have := c0.2; omega
  refine Aj     (Ai    (Se rfl (Oh rfl ?_)))
  refine Bl    rfl .free rfl ?_
  refine D9            rfl rfl rfl 1 _ rfl rfl (by first | omega | exact Ax    (by assumption) (by decide) | (simp; done) | (simp; omega) | decide | (simp at *; omega)) .free rfl ?_
  have htl := hf.tail
  generalize (if c = 1 then oa else oa.map (fun x => x.add (1 * 2))) = ot at htl ⊢
  have htn := htl.nil
  refine On rfl (Om rfl (Aa     (Av      ?_)))
  refine Cc      (X := Nat) (fun i => s.length - i) (fun i => [(1, .pointer (some ⟨b1, 0, none⟩)), (3, .string (str s)), (26, .slice ot (t.parts.length - 1) (c - 1)), (27, .int .i64 ((t.parts.length - 1 : Nat))), (28, .int .i64 (i : Nat))]) (fun _ => I) (fun _ => (b1, .cells [.string (str t.atom), .slice oa t.parts.length c].toArray 36 (0, 0)) :: L) (fun i => i ≤ s.length ∧ ∀ j, j < i → Mb  (s.getD j 0).toNat (t.pt (j + 1)) = true) 0 ⟨by omega, fun j hj => by omega⟩ ⟨rfl, rfl, rfl, rfl, rfl, trivial⟩ (fun _ h => h) ?_
  rintro i ⟨hi, hall⟩ ih
  refine Se rfl (Oc rfl rfl rfl (Aa     (Ai    ?_)))
  refine Am     rfl ?_ ?_
  · intro c1
    try simp only [nb] at c1
    have hi1 : i < s.length := by omega
    obtain ⟨o1, k1, hr, hst⟩ := htl.part i (by omega)
    have hal := hr.atom_le
    refine Aj     (Ai    (Av      (Se rfl (Om rfl ?_))))
    first | refine E1    rfl rfl _ rfl .free rfl ?_ | refine E2    rfl rfl _ rfl .free rfl ?_
    refine L9    rfl .free rfl ?_
    refine Bm      .free rfl ?_
    intro b5
    refine Oa rfl ?_
    refine Cl   rfl rfl rfl rfl .free ?_
    refine Aa     (Se rfl (Oa rfl (Aa     (Ai    (Se rfl (Om rfl (Om rfl ?_)))))))
    refine A2      rfl rfl rfl (by first | omega | exact Ax    (by assumption) (by decide) | (simp; done) | (simp; omega) | decide | (simp at *; omega)) .free rfl ?_
    have hki : Mb  (s.getD i 0).toNat (t.pt (i + 1)) = Mb  (s.getD i 0).toNat (t.pt (i + 1)) := rfl
    generalize hq : (s.getD i 0).toNat = q at hki ⊢
    refine Aa     (Av      (Ai    (Se rfl (Oc rfl rfl rfl (Oa rfl (Aa     ?_))))))
    refine Am     rfl ?_ ?_
    · intro c2
      try simp only [nb] at c2
      refine Aj     ?_
      first | refine St rfl (by first | assumption | omega) ?_ | refine Bk     (by simp [A8  , Au , *]) ?_
      refine Ap      rfl (Oh rfl ?_)
      refine Bl    rfl .free rfl ?_
      refine Ca rfl (Nl      _ hal _ _) ?_
      rintro _ _ _ _ ⟨rfl, rfl, rfl⟩
      refine Oa rfl (Aa     (Ar        (Se rfl (Om rfl ?_))))
      refine Ck    rfl .free rfl ?_
      refine Aa     ?_
      refine Am     rfl ?_ ?_
      · intro c9
        try simp only [nb] at c9
        refine Se rfl (Oa rfl (Aa     (Ac    (.tmp rfl .nil) ?_)))
        refine only rfl ?_
        refine congrArg Value.bool (hno i hi1 ?_).symm
        rw [hq]
        first
          | (have e : q = 100 := by omega
             subst e
             rw [B0   ])
          | (have e : q = 115 := by omega
             subst e
             rw [B3   ])
          | (have e : q = 110 := by omega
             subst e
             rw [Cj   ])
          | (have e : q = 109 := by omega
             subst e
             rw [Ci   ])
          | (have e : q = 108 := by omega
             subst e
             rw [Ch   ])
          | (have e : q = 69 := by omega
             subst e
             rw [Cf   ])
          | (have e : q = 87 := by omega
             subst e
             rw [Cg   ])
          | rw [Dd     (by omega) (by omega) (by omega) (by omega) (by omega) (by omega) (by omega)]
        all_goals first
          | exact c9
          | (simp only [Bool.and_eq_false_iff, decide_eq_false_iff_not]
             rcases c9 with h | h
             · exact .inl h
             · exact .inr (by first | exact h | omega))
      intro c9
      try simp only [nb] at c9
      refine Aj     (Ar        (Ap      rfl ?_))
      refine Or rfl rfl rfl ?_
      refine Om rfl (Aa     ?_)
      refine Ed    Cy    (B4    (E' := [(1, .pointer (some ⟨b1, 0, none⟩)), (3, .string (str s)), (26, .slice ot (t.parts.length - 1) (c - 1)), (27, .int .i64 ((t.parts.length - 1 : Nat))), (28, .int .i64 ((i + 1 : Nat)))]) ⟨rfl, rfl, rfl, rfl, rfl, trivial⟩ (ih (i + 1) ⟨by omega, fun j hj => ?_⟩ (by omega)))
      rcases Nat.lt_or_ge j i with h | h
      · exact hall j h
      · obtain rfl : j = i := by omega
        rw [hq]
        first
          | (have e : q = 100 := by omega
             subst e
             rw [B0   ])
          | (have e : q = 115 := by omega
             subst e
             rw [B3   ])
          | (have e : q = 110 := by omega
             subst e
             rw [Cj   ])
          | (have e : q = 109 := by omega
             subst e
             rw [Ci   ])
          | (have e : q = 108 := by omega
             subst e
             rw [Ch   ])
          | (have e : q = 69 := by omega
             subst e
             rw [Cf   ])
          | (have e : q = 87 := by omega
             subst e
             rw [Cg   ])
          | rw [Dd     (by omega) (by omega) (by omega) (by omega) (by omega) (by omega) (by omega)]
        first
          | exact c9
          | (rw [Bool.and_eq_true]; exact ⟨c9.1, by first | exact c9.2 | (rw [decide_eq_true_eq]; exact c9.2)⟩)
    intro c2
    try simp only [nb] at c2
    refine Ap      rfl (Oc rfl rfl rfl (Oa rfl (Aa     ?_)))
    refine Am     rfl ?_ ?_
    · intro c3
      try simp only [nb] at c3
      refine Ap      rfl (Oh rfl ?_)
      refine Bl    rfl .free rfl ?_
      refine Ca rfl (Nl      _ hal _ _) ?_
      rintro _ _ _ _ ⟨rfl, rfl, rfl⟩
      refine Oa rfl (Aa     (Ar        (Se rfl (Om rfl ?_))))
      refine Ck    rfl .free rfl ?_
      refine Aa     ?_
      refine Am     rfl ?_ ?_
      · intro c9
        try simp only [nb] at c9
        refine Se rfl (Oa rfl (Aa     (Ac    (.tmp rfl .nil) ?_)))
        refine only rfl ?_
        refine congrArg Value.bool (hno i hi1 ?_).symm
        rw [hq]
        first
          | (have e : q = 100 := by omega
             subst e
             rw [B0   ])
          | (have e : q = 115 := by omega
             subst e
             rw [B3   ])
          | (have e : q = 110 := by omega
             subst e
             rw [Cj   ])
          | (have e : q = 109 := by omega
             subst e
             rw [Ci   ])
          | (have e : q = 108 := by omega
             subst e
             rw [Ch   ])
          | (have e : q = 69 := by omega
             subst e
             rw [Cf   ])
          | (have e : q = 87 := by omega
             subst e
             rw [Cg   ])
          | rw [Dd     (by omega) (by omega) (by omega) (by omega) (by omega) (by omega) (by omega)]
        all_goals first
          | exact c9
          | (simp only [Bool.and_eq_false_iff, decide_eq_false_iff_not]
             rcases c9 with h | h
             · exact .inl h
             · exact .inr (by first | exact h | omega))
      intro c9
      try simp only [nb] at c9
      refine Aj     (Ar        (Ap      rfl ?_))
      refine Or rfl rfl rfl ?_
      refine Om rfl (Aa     ?_)
      refine Ed    Cy    (B4    (E' := [(1, .pointer (some ⟨b1, 0, none⟩)), (3, .string (str s)), (26, .slice ot (t.parts.length - 1) (c - 1)), (27, .int .i64 ((t.parts.length - 1 : Nat))), (28, .int .i64 ((i + 1 : Nat)))]) ⟨rfl, rfl, rfl, rfl, rfl, trivial⟩ (ih (i + 1) ⟨by omega, fun j hj => ?_⟩ (by omega)))
      rcases Nat.lt_or_ge j i with h | h
      · exact hall j h
      · obtain rfl : j = i := by omega
        rw [hq]
        first
          | (have e : q = 100 := by omega
             subst e
             rw [B0   ])
          | (have e : q = 115 := by omega
             subst e
             rw [B3   ])
          | (have e : q = 110 := by omega
             subst e
             rw [Cj   ])
          | (have e : q = 109 := by omega
             subst e
             rw [Ci   ])
          | (have e : q = 108 := by omega
             subst e
             rw [Ch   ])
          | (have e : q = 69 := by omega
             subst e
             rw [Cf   ])
          | (have e : q = 87 := by omega
             subst e
             rw [Cg   ])
          | rw [Dd     (by omega) (by omega) (by omega) (by omega) (by omega) (by omega) (by omega)]
        first
          | exact c9
          | (rw [Bool.and_eq_true]; exact ⟨c9.1, by first | exact c9.2 | (rw [decide_eq_true_eq]; exact c9.2)⟩)
    intro c3
    try simp only [nb] at c3
    refine Se rfl (Oc rfl rfl rfl (Oa rfl (Aa     ?_)))
    refine Am     rfl ?_ ?_
    · intro c4
      try simp only [nb] at c4
      refine Ap      rfl (Oh rfl ?_)
      refine Bl    rfl .free rfl ?_
      refine Ca rfl (Ez          _ hal _ _) ?_
      rintro _ _ _ _ ⟨rfl, rfl, rfl⟩
      refine Oa rfl (Aa     (Ar        (Se rfl (Om rfl ?_))))
      refine Ck    rfl .free rfl ?_
      refine Aa     ?_
      refine Am     rfl ?_ ?_
      · intro c9
        try simp only [nb] at c9
        refine Se rfl (Oa rfl (Aa     (Ac    (.tmp rfl .nil) ?_)))
        refine only rfl ?_
        refine congrArg Value.bool (hno i hi1 ?_).symm
        rw [hq]
        first
          | (have e : q = 100 := by omega
             subst e
             rw [B0   ])
          | (have e : q = 115 := by omega
             subst e
             rw [B3   ])
          | (have e : q = 110 := by omega
             subst e
             rw [Cj   ])
          | (have e : q = 109 := by omega
             subst e
             rw [Ci   ])
          | (have e : q = 108 := by omega
             subst e
             rw [Ch   ])
          | (have e : q = 69 := by omega
             subst e
             rw [Cf   ])
          | (have e : q = 87 := by omega
             subst e
             rw [Cg   ])
          | rw [Dd     (by omega) (by omega) (by omega) (by omega) (by omega) (by omega) (by omega)]
        all_goals first
          | exact c9
          | (simp only [Bool.and_eq_false_iff, decide_eq_false_iff_not]
             rcases c9 with h | h
             · exact .inl h
             · exact .inr (by first | exact h | omega))
      intro c9
      try simp only [nb] at c9
      refine Aj     (Ar        (Ap      rfl ?_))
      refine Or rfl rfl rfl ?_
      refine Om rfl (Aa     ?_)
      refine Ed    Cy    (B4    (E' := [(1, .pointer (some ⟨b1, 0, none⟩)), (3, .string (str s)), (26, .slice ot (t.parts.length - 1) (c - 1)), (27, .int .i64 ((t.parts.length - 1 : Nat))), (28, .int .i64 ((i + 1 : Nat)))]) ⟨rfl, rfl, rfl, rfl, rfl, trivial⟩ (ih (i + 1) ⟨by omega, fun j hj => ?_⟩ (by omega)))
      rcases Nat.lt_or_ge j i with h | h
      · exact hall j h
      · obtain rfl : j = i := by omega
        rw [hq]
        first
          | (have e : q = 100 := by omega
             subst e
             rw [B0   ])
          | (have e : q = 115 := by omega
             subst e
             rw [B3   ])
          | (have e : q = 110 := by omega
             subst e
             rw [Cj   ])
          | (have e : q = 109 := by omega
             subst e
             rw [Ci   ])
          | (have e : q = 108 := by omega
             subst e
             rw [Ch   ])
          | (have e : q = 69 := by omega
             subst e
             rw [Cf   ])
          | (have e : q = 87 := by omega
             subst e
             rw [Cg   ])
          | rw [Dd     (by omega) (by omega) (by omega) (by omega) (by omega) (by omega) (by omega)]
        first
          | exact c9
          | (rw [Bool.and_eq_true]; exact ⟨c9.1, by first | exact c9.2 | (rw [decide_eq_true_eq]; exact c9.2)⟩)
    intro c4
    try simp only [nb] at c4
    refine Se rfl (Oc rfl rfl rfl (Oa rfl (Aa     ?_)))
    refine Am     rfl ?_ ?_
    · intro c5
      try simp only [nb] at c5
      refine Ap      rfl (Oh rfl ?_)
      refine Bl    rfl .free rfl ?_
      refine Ca rfl (Ez          _ hal _ _) ?_
      rintro _ _ _ _ ⟨rfl, rfl, rfl⟩
      refine Om rfl ?_
      apply Br    52 57 rfl
      · intro g15_4 hk
        try simp only [nb] at g15_4
        refine Ba          rfl (.met rfl rfl) rfl ?_
        refine Bl    rfl (.met rfl rfl) rfl ?_
        refine Bs     rfl (.met rfl rfl) rfl (Iy       _ g15_4 _ _) ?_
        rintro _ _ _ _ ⟨rfl, rfl, rfl⟩
        refine A6    rfl rfl rfl (.met rfl rfl) rfl ?_
        refine Ot rfl rfl ?_
        exact Al    4 rfl rfl hk
      · intro _ hk
        refine Aq      4 rfl ?_
        refine Of rfl rfl ?_
        exact Al    4 rfl rfl hk
      refine Oa rfl (Aa     (Ar        (Se rfl (Om rfl ?_))))
      refine Ck    rfl .free rfl ?_
      refine Aa     ?_
      refine Am     rfl ?_ ?_
      · intro c9
        try simp only [nb] at c9
        refine Se rfl (Oa rfl (Aa     (Ac    (.tmp rfl .nil) ?_)))
        refine only rfl ?_
        refine congrArg Value.bool (hno i hi1 ?_).symm
        rw [hq]
        first
          | (have e : q = 100 := by omega
             subst e
             rw [B0   ])
          | (have e : q = 115 := by omega
             subst e
             rw [B3   ])
          | (have e : q = 110 := by omega
             subst e
             rw [Cj   ])
          | (have e : q = 109 := by omega
             subst e
             rw [Ci   ])
          | (have e : q = 108 := by omega
             subst e
             rw [Ch   ])
          | (have e : q = 69 := by omega
             subst e
             rw [Cf   ])
          | (have e : q = 87 := by omega
             subst e
             rw [Cg   ])
          | rw [Dd     (by omega) (by omega) (by omega) (by omega) (by omega) (by omega) (by omega)]
        all_goals first
          | exact c9
          | (simp only [Bool.and_eq_false_iff, decide_eq_false_iff_not]
             rcases c9 with h | h
             · exact .inl h
             · exact .inr (by first | exact h | omega))
      intro c9
      try simp only [nb] at c9
      refine Aj     (Ar        (Ap      rfl ?_))
      refine Or rfl rfl rfl ?_
      refine Om rfl (Aa     ?_)
      refine Ed    Cy    (B4    (E' := [(1, .pointer (some ⟨b1, 0, none⟩)), (3, .string (str s)), (26, .slice ot (t.parts.length - 1) (c - 1)), (27, .int .i64 ((t.parts.length - 1 : Nat))), (28, .int .i64 ((i + 1 : Nat)))]) ⟨rfl, rfl, rfl, rfl, rfl, trivial⟩ (ih (i + 1) ⟨by omega, fun j hj => ?_⟩ (by omega)))
      rcases Nat.lt_or_ge j i with h | h
      · exact hall j h
      · obtain rfl : j = i := by omega
        rw [hq]
        first
          | (have e : q = 100 := by omega
             subst e
             rw [B0   ])
          | (have e : q = 115 := by omega
             subst e
             rw [B3   ])
          | (have e : q = 110 := by omega
             subst e
             rw [Cj   ])
          | (have e : q = 109 := by omega
             subst e
             rw [Ci   ])
          | (have e : q = 108 := by omega
             subst e
             rw [Ch   ])
          | (have e : q = 69 := by omega
             subst e
             rw [Cf   ])
          | (have e : q = 87 := by omega
             subst e
             rw [Cg   ])
          | rw [Dd     (by omega) (by omega) (by omega) (by omega) (by omega) (by omega) (by omega)]
        first
          | exact c9
          | (rw [Bool.and_eq_true]; exact ⟨c9.1, by first | exact c9.2 | (rw [decide_eq_true_eq]; exact c9.2)⟩)
    intro c5
    try simp only [nb] at c5
    refine Se rfl (Oc rfl rfl rfl (Oa rfl (Aa     ?_)))
    refine Am     rfl ?_ ?_
    · intro c6
      try simp only [nb] at c6
      refine Ap      rfl (Oh rfl ?_)
      refine Bl    rfl .free rfl ?_
      refine Ca rfl (N0        _ hal _ _) ?_
      rintro _ _ _ _ ⟨rfl, rfl, rfl⟩
      refine Oa rfl (Aa     (Ar        (Se rfl (Om rfl ?_))))
      refine Ck    rfl .free rfl ?_
      refine Aa     ?_
      refine Am     rfl ?_ ?_
      · intro c9
        try simp only [nb] at c9
        refine Se rfl (Oa rfl (Aa     (Ac    (.tmp rfl .nil) ?_)))
        refine only rfl ?_
        refine congrArg Value.bool (hno i hi1 ?_).symm
        rw [hq]
        first
          | (have e : q = 100 := by omega
             subst e
             rw [B0   ])
          | (have e : q = 115 := by omega
             subst e
             rw [B3   ])
          | (have e : q = 110 := by omega
             subst e
             rw [Cj   ])
          | (have e : q = 109 := by omega
             subst e
             rw [Ci   ])
          | (have e : q = 108 := by omega
             subst e
             rw [Ch   ])
          | (have e : q = 69 := by omega
             subst e
             rw [Cf   ])
          | (have e : q = 87 := by omega
             subst e
             rw [Cg   ])
          | rw [Dd     (by omega) (by omega) (by omega) (by omega) (by omega) (by omega) (by omega)]
        all_goals first
          | exact c9
          | (simp only [Bool.and_eq_false_iff, decide_eq_false_iff_not]
             rcases c9 with h | h
             · exact .inl h
             · exact .inr (by first | exact h | omega))
      intro c9
      try simp only [nb] at c9
      refine Aj     (Ar        (Ap      rfl ?_))
      refine Or rfl rfl rfl ?_
      refine Om rfl (Aa     ?_)
      refine Ed    Cy    (B4    (E' := [(1, .pointer (some ⟨b1, 0, none⟩)), (3, .string (str s)), (26, .slice ot (t.parts.length - 1) (c - 1)), (27, .int .i64 ((t.parts.length - 1 : Nat))), (28, .int .i64 ((i + 1 : Nat)))]) ⟨rfl, rfl, rfl, rfl, rfl, trivial⟩ (ih (i + 1) ⟨by omega, fun j hj => ?_⟩ (by omega)))
      rcases Nat.lt_or_ge j i with h | h
      · exact hall j h
      · obtain rfl : j = i := by omega
        rw [hq]
        first
          | (have e : q = 100 := by omega
             subst e
             rw [B0   ])
          | (have e : q = 115 := by omega
             subst e
             rw [B3   ])
          | (have e : q = 110 := by omega
             subst e
             rw [Cj   ])
          | (have e : q = 109 := by omega
             subst e
             rw [Ci   ])
          | (have e : q = 108 := by omega
             subst e
             rw [Ch   ])
          | (have e : q = 69 := by omega
             subst e
             rw [Cf   ])
          | (have e : q = 87 := by omega
             subst e
             rw [Cg   ])
          | rw [Dd     (by omega) (by omega) (by omega) (by omega) (by omega) (by omega) (by omega)]
        first
          | exact c9
          | (rw [Bool.and_eq_true]; exact ⟨c9.1, by first | exact c9.2 | (rw [decide_eq_true_eq]; exact c9.2)⟩)
    intro c6
    try simp only [nb] at c6
    refine Se rfl (Oc rfl rfl rfl (Oa rfl (Aa     ?_)))
    refine Am     rfl ?_ ?_
    · intro c7
      try simp only [nb] at c7
      refine Ap      rfl ?_
      refine Dg    rfl .free rfl ?_
      refine Ca rfl (Nz        hr [101] 2 _) ?_
      rintro _ _ _ _ ⟨rfl, rfl, rfl⟩
      refine Om rfl ?_
      apply Br    67 70 rfl
      · intro g19_3 hk
        try simp only [nb] at g19_3
        refine Dg    rfl (.met rfl rfl) rfl ?_
        refine Bs     rfl (.met rfl rfl) rfl (Fv              hr false _) ?_
        rintro _ _ _ _ ⟨rfl, rfl, rfl⟩
        refine Ot rfl rfl ?_
        exact Al    2 rfl rfl hk
      · intro _ hk
        refine Aq      2 rfl ?_
        refine Of rfl rfl ?_
        exact Al    2 rfl rfl hk
      refine Oa rfl (Aa     (Ar        (Se rfl (Om rfl ?_))))
      refine Ck    rfl .free rfl ?_
      refine Aa     ?_
      refine Am     rfl ?_ ?_
      · intro c9
        try simp only [nb] at c9
        refine Se rfl (Oa rfl (Aa     (Ac    (.tmp rfl .nil) ?_)))
        refine only rfl ?_
        refine congrArg Value.bool (hno i hi1 ?_).symm
        rw [hq]
        first
          | (have e : q = 100 := by omega
             subst e
             rw [B0   ])
          | (have e : q = 115 := by omega
             subst e
             rw [B3   ])
          | (have e : q = 110 := by omega
             subst e
             rw [Cj   ])
          | (have e : q = 109 := by omega
             subst e
             rw [Ci   ])
          | (have e : q = 108 := by omega
             subst e
             rw [Ch   ])
          | (have e : q = 69 := by omega
             subst e
             rw [Cf   ])
          | (have e : q = 87 := by omega
             subst e
             rw [Cg   ])
          | rw [Dd     (by omega) (by omega) (by omega) (by omega) (by omega) (by omega) (by omega)]
        all_goals first
          | exact c9
          | (simp only [Bool.and_eq_false_iff, decide_eq_false_iff_not]
             rcases c9 with h | h
             · exact .inl h
             · exact .inr (by first | exact h | omega))
      intro c9
      try simp only [nb] at c9
      refine Aj     (Ar        (Ap      rfl ?_))
      refine Or rfl rfl rfl ?_
      refine Om rfl (Aa     ?_)
      refine Ed    Cy    (B4    (E' := [(1, .pointer (some ⟨b1, 0, none⟩)), (3, .string (str s)), (26, .slice ot (t.parts.length - 1) (c - 1)), (27, .int .i64 ((t.parts.length - 1 : Nat))), (28, .int .i64 ((i + 1 : Nat)))]) ⟨rfl, rfl, rfl, rfl, rfl, trivial⟩ (ih (i + 1) ⟨by omega, fun j hj => ?_⟩ (by omega)))
      rcases Nat.lt_or_ge j i with h | h
      · exact hall j h
      · obtain rfl : j = i := by omega
        rw [hq]
        first
          | (have e : q = 100 := by omega
             subst e
             rw [B0   ])
          | (have e : q = 115 := by omega
             subst e
             rw [B3   ])
          | (have e : q = 110 := by omega
             subst e
             rw [Cj   ])
          | (have e : q = 109 := by omega
             subst e
             rw [Ci   ])
          | (have e : q = 108 := by omega
             subst e
             rw [Ch   ])
          | (have e : q = 69 := by omega
             subst e
             rw [Cf   ])
          | (have e : q = 87 := by omega
             subst e
             rw [Cg   ])
          | rw [Dd     (by omega) (by omega) (by omega) (by omega) (by omega) (by omega) (by omega)]
        first
          | exact c9
          | (rw [Bool.and_eq_true]; exact ⟨c9.1, by first | exact c9.2 | (rw [decide_eq_true_eq]; exact c9.2)⟩)
    intro c7
    try simp only [nb] at c7
    refine Se rfl (Oc rfl rfl rfl (Oa rfl (Aa     ?_)))
    refine Am     rfl ?_ ?_
    · intro c8
      try simp only [nb] at c8
      refine Ap      rfl ?_
      refine Dg    rfl .free rfl ?_
      refine Ca rfl (Fv              hr false _) ?_
      rintro _ _ _ _ ⟨rfl, rfl, rfl⟩
      refine Oa rfl (Aa     (Ar        (Se rfl (Om rfl ?_))))
      refine Ck    rfl .free rfl ?_
      refine Aa     ?_
      refine Am     rfl ?_ ?_
      · intro c9
        try simp only [nb] at c9
        refine Se rfl (Oa rfl (Aa     (Ac    (.tmp rfl .nil) ?_)))
        refine only rfl ?_
        refine congrArg Value.bool (hno i hi1 ?_).symm
        rw [hq]
        first
          | (have e : q = 100 := by omega
             subst e
             rw [B0   ])
          | (have e : q = 115 := by omega
             subst e
             rw [B3   ])
          | (have e : q = 110 := by omega
             subst e
             rw [Cj   ])
          | (have e : q = 109 := by omega
             subst e
             rw [Ci   ])
          | (have e : q = 108 := by omega
             subst e
             rw [Ch   ])
          | (have e : q = 69 := by omega
             subst e
             rw [Cf   ])
          | (have e : q = 87 := by omega
             subst e
             rw [Cg   ])
          | rw [Dd     (by omega) (by omega) (by omega) (by omega) (by omega) (by omega) (by omega)]
        all_goals first
          | exact c9
          | (simp only [Bool.and_eq_false_iff, decide_eq_false_iff_not]
             rcases c9 with h | h
             · exact .inl h
             · exact .inr (by first | exact h | omega))
      intro c9
      try simp only [nb] at c9
      refine Aj     (Ar        (Ap      rfl ?_))
      refine Or rfl rfl rfl ?_
      refine Om rfl (Aa     ?_)
      refine Ed    Cy    (B4    (E' := [(1, .pointer (some ⟨b1, 0, none⟩)), (3, .string (str s)), (26, .slice ot (t.parts.length - 1) (c - 1)), (27, .int .i64 ((t.parts.length - 1 : Nat))), (28, .int .i64 ((i + 1 : Nat)))]) ⟨rfl, rfl, rfl, rfl, rfl, trivial⟩ (ih (i + 1) ⟨by omega, fun j hj => ?_⟩ (by omega)))
      rcases Nat.lt_or_ge j i with h | h
      · exact hall j h
      · obtain rfl : j = i := by omega
        rw [hq]
        first
          | (have e : q = 100 := by omega
             subst e
             rw [B0   ])
          | (have e : q = 115 := by omega
             subst e
             rw [B3   ])
          | (have e : q = 110 := by omega
             subst e
             rw [Cj   ])
          | (have e : q = 109 := by omega
             subst e
             rw [Ci   ])
          | (have e : q = 108 := by omega
             subst e
             rw [Ch   ])
          | (have e : q = 69 := by omega
             subst e
             rw [Cf   ])
          | (have e : q = 87 := by omega
             subst e
             rw [Cg   ])
          | rw [Dd     (by omega) (by omega) (by omega) (by omega) (by omega) (by omega) (by omega)]
        first
          | exact c9
          | (rw [Bool.and_eq_true]; exact ⟨c9.1, by first | exact c9.2 | (rw [decide_eq_true_eq]; exact c9.2)⟩)
    intro c8
    try simp only [nb] at c8
    refine Aj     (Ar        (Se rfl (Om rfl ?_)))
    refine Ck    rfl .free rfl ?_
    refine Aa     ?_
    refine Am     rfl ?_ ?_
    · intro c9
      try simp only [nb] at c9
      refine Se rfl (Oa rfl (Aa     (Ac    (.tmp rfl .nil) ?_)))
      refine only rfl ?_
      refine congrArg Value.bool (hno i hi1 ?_).symm
      rw [hq]
      first
        | (have e : q = 100 := by omega
           subst e
           rw [B0   ])
        | (have e : q = 115 := by omega
           subst e
           rw [B3   ])
        | (have e : q = 110 := by omega
           subst e
           rw [Cj   ])
        | (have e : q = 109 := by omega
           subst e
           rw [Ci   ])
        | (have e : q = 108 := by omega
           subst e
           rw [Ch   ])
        | (have e : q = 69 := by omega
           subst e
           rw [Cf   ])
        | (have e : q = 87 := by omega
           subst e
           rw [Cg   ])
        | rw [Dd     (by omega) (by omega) (by omega) (by omega) (by omega) (by omega) (by omega)]
      all_goals first
        | exact c9
        | (simp only [Bool.and_eq_false_iff, decide_eq_false_iff_not]
           rcases c9 with h | h
           · exact .inl h
           · exact .inr (by first | exact h | omega))
    intro c9
    try simp only [nb] at c9
    refine Aj     (Ar        (Ap      rfl ?_))
    refine Or rfl rfl rfl ?_
    refine Om rfl (Aa     ?_)
    refine Ed    Cy    (B4    (E' := [(1, .pointer (some ⟨b1, 0, none⟩)), (3, .string (str s)), (26, .slice ot (t.parts.length - 1) (c - 1)), (27, .int .i64 ((t.parts.length - 1 : Nat))), (28, .int .i64 ((i + 1 : Nat)))]) ⟨rfl, rfl, rfl, rfl, rfl, trivial⟩ (ih (i + 1) ⟨by omega, fun j hj => ?_⟩ (by omega)))
    rcases Nat.lt_or_ge j i with h | h
    · exact hall j h
    · obtain rfl : j = i := by omega
      rw [hq]
      first
        | (have e : q = 100 := by omega
           subst e
           rw [B0   ])
        | (have e : q = 115 := by omega
           subst e
           rw [B3   ])
        | (have e : q = 110 := by omega
           subst e
           rw [Cj   ])
        | (have e : q = 109 := by omega
           subst e
           rw [Ci   ])
        | (have e : q = 108 := by omega
           subst e
           rw [Ch   ])
        | (have e : q = 69 := by omega
           subst e
           rw [Cf   ])
        | (have e : q = 87 := by omega
           subst e
           rw [Cg   ])
        | rw [Dd     (by omega) (by omega) (by omega) (by omega) (by omega) (by omega) (by omega)]
      first
        | exact c9
        | (rw [Bool.and_eq_true]; exact ⟨c9.1, by first | exact c9.2 | (rw [decide_eq_true_eq]; exact c9.2)⟩)
  intro c1
  try simp only [nb] at c1
  refine C0     rfl ?_
  refine Se rfl (Oa rfl (Aa     (Ac    (.tmp rfl .nil) ?_)))
  refine only rfl ?_
  refine congrArg Value.bool ?_
  rw [hyes]
  exact (decide_eq_true ⟨hs0, hsl, fun j hj => hall j (by omega)⟩).symm
theorem Rt (a m : Nat) : (if (m : Int) < (a : Int) then (m : Int) else (a : Int)) = ((min a m : Nat) : Int) := by omega
theorem I1 {I : Heap} {t : Tree} {cs : List Value} (h : Rep I t cs) (hg : t.good = true) (L : At) : Fun Tryd.prog 18 [.agg cs.toArray] I L (Cr (.bool t.instrS) I L) := by
 obtain ⟨oa, c, oaf, cf, rfl, hf⟩ := h.at'
 have hn := hf.nil
 have hlen := hf.len
 have hcap := hf.cap
 unfold As at hlen
 refine Ag (by simp) ?_; refine Se rfl ?_; refine D2 rfl rfl .free rfl ?_; intro b1; refine Oa rfl (Aa (Se rfl ?_)); refine Dg rfl .free rfl ?_; refine Ca rfl (Lv h hg _) ?_; rintro _ _ _ _ ⟨rfl, rfl, rfl⟩; refine Ca rfl (Mz t.head _ _) ?_; rintro _ _ _ _ ⟨rfl, rfl, rfl⟩
 have hyes : t.instrS = decide (Fd t.head ≠ [] ∧ ¬ ((Fd t.head ≠ [114, 42] ∧ t.parts.length ≠ (Fd t.head).length + 1) ∨ t.parts.length < 2) ∧ (∀ i, i < t.parts.length → 1 ≤ i → Ms ((Fd t.head).getD (min i (Fd t.head).length - 1) 0).toNat (t.pt i) = true) ∧ (t.head = [103, 101, 116] → 0 ≤ B6 (t.pt 3).atom)) := rfl
 have hsl4 := Qz t.head
 generalize hsh : Fd t.head = s at hsl4 hyes ⊢
 refine Oa rfl (Aa (Ai (Se rfl (Om rfl (Od rfl rfl rfl (Aa ?_)))))); refine Am rfl ?_ ?_
 ·intro c0
  try simp only [nb] at c0
  refine Se rfl (Oa rfl (Aa (Ac (.tmp rfl .nil) ?_))); refine only rfl ?_; refine congrArg Value.bool ?_; rw [hyes]
  exact (decide_eq_false fun e => e.1 c0).symm
 intro c0
 try simp only [nb] at c0
 refine Aj (Ai (Se rfl (Om rfl (Od rfl rfl rfl (Om rfl ?_)))))
 apply Br 14 22 rfl
 ·intro g4_3 hk
  try simp only [nb] at g4_3
  refine Ba rfl (.met rfl rfl) rfl ?_; refine Bl rfl (.met rfl rfl) rfl ?_; refine Co rfl (.met rfl rfl) rfl ?_; refine Ow rfl ?_; refine Aw rfl (.met rfl rfl) rfl ?_; refine Gk rfl rfl rfl (by omega) (.met rfl rfl) rfl ?_; refine A6 rfl rfl rfl (.met rfl rfl) rfl ?_; refine Ot rfl rfl ?_
  exact Al 7 rfl rfl hk
 ·intro _ hk; refine Aq 7 rfl ?_; refine Of rfl rfl ?_
  exact Al 7 rfl rfl hk
 refine Om rfl ?_
 apply D6 23 28 rfl
 ·intro g4_12 hk
  try simp only [nb] at g4_12
  refine Ba rfl (.met rfl rfl) rfl ?_; refine Bl rfl (.met rfl rfl) rfl ?_; refine Co rfl (.met rfl rfl) rfl ?_; refine A6 rfl rfl rfl (.met rfl rfl) rfl ?_; refine Of rfl rfl ?_
  exact Al 4 rfl rfl hk
 ·intro _ hk; refine Aq 4 rfl ?_; refine Ot rfl rfl ?_
  exact Al 4 rfl rfl hk
 refine Aa ?_; refine Am rfl ?_ ?_
 ·intro c1
  try simp only [nb] at c1
  refine Se rfl (Oa rfl (Aa (Ac (.tmp rfl .nil) ?_))); refine only rfl ?_; refine congrArg Value.bool ?_; rw [hyes]; refine (decide_eq_false fun e => e.2.1 ?_).symm
  rcases c1 with h | h
  ·exact .inl ⟨h.1, by have := h.2; omega⟩
  ·exact .inr (by omega)
 intro c1
 try simp only [nb] at c1
 have hl2 : 2 ≤ t.parts.length := by have := c1.2; omega
 have hc1 : ¬ ((s ≠ [114, 42] ∧ t.parts.length ≠ s.length + 1) ∨ t.parts.length < 2) := by
  rintro (h | h)
  ·rcases c1.1 with h3 | h3
   ·exact h.1 h3
   ·omega
  ·omega
 have hsp : 0 < s.length := List.length_pos_iff.2 c0
 have hhd := Gj (t := t) (by omega)
 refine Aj (Ai (Se rfl (Oa rfl (Aa (Av ?_))))); refine Cc (X := Nat) (fun i => t.parts.length - i) (fun i => [(1, .pointer (some ⟨b1, 0, none⟩)), (3, .string (str s)), (4, .int .i64 (i : Nat))]) (fun _ => I) (fun _ => (b1, .cells [.string (str t.atom), .slice oa t.parts.length c].toArray 42 (0, 0)) :: L) (fun i => 1 ≤ i ∧ i ≤ t.parts.length ∧ ∀ j, j < i → 1 ≤ j → Ms (s.getD (min j s.length - 1) 0).toNat (t.pt j) = true) 1 ⟨by omega, by omega, fun j h1 h2 => by omega⟩ ⟨rfl, rfl, rfl, trivial⟩ (fun _ h => h) ?_; rintro i ⟨hi0, hi, hall⟩ ih; refine Ai (Se rfl (Om rfl (Oh rfl ?_)))
 refine Bl rfl .free rfl ?_; refine On rfl (Oc rfl rfl rfl (Aa ?_)); refine Am rfl ?_ ?_
 ·intro c2
  try simp only [nb] at c2
  have hi1 : i < t.parts.length := by omega
  have hmn : min i s.length - 1 < s.length := by omega
  refine Aj (Ai (Av (Ai ?_))); refine Fu 14 rfl rfl ?_; refine Da 0 rfl (Bb rfl) ?_; refine Dt 1 [14] rfl (Mq rfl) ?_; refine Da 2 rfl (Ay rfl) ?_
  first | refine Da 3 rfl (Rh rfl rfl _ rfl) ?_ | refine Da 3 rfl (Ri rfl rfl _ rfl) ?_
  refine Dt 4 [14] rfl (Rj rfl) ?_; refine Da 5 rfl (Ay rfl) ?_; refine Da 6 rfl (Ay rfl) ?_; refine Da 7 rfl (Ay rfl) ?_; refine Da 8 rfl (Km rfl) ?_; refine Da 9 rfl (R5 rfl rfl) ?_; rw [Rt]; refine Da 10 rfl (Dj rfl rfl rfl (by omega)) ?_; refine Da 11 rfl (Q8 (i := min i s.length - 1) rfl rfl (by omega) hmn) ?_; refine Dc 12 rfl rfl (N1 (hf.rp i (by omega)) (Tree.pt_good hg i (by omega)) _ (UInt8.toNat_lt _) _) ?_; rintro _ _ _ _ ⟨rfl, rfl, rfl⟩; refine Hx ?_; refine Da 13 rfl (Rk rfl) ?_; refine Dk (by kernel_rfl) ?_; refine Am rfl ?_ ?_
  ·intro c3
   try simp only [nb] at c3
   refine Se rfl (Oa rfl (Aa (Ac (.tmp rfl .nil) ?_))); refine only rfl ?_; refine congrArg Value.bool ?_; rw [hyes]; refine (decide_eq_false fun e => ?_).symm
   have := e.2.2.1 i hi1 hi0
   simp_all
  intro c3
  try simp only [nb] at c3
  refine Aj (Ar (Ap rfl (Om rfl ?_))); refine Or rfl rfl rfl ?_; refine Oa rfl (Aa ?_); refine B4 (E' := [(1, .pointer (some ⟨b1, 0, none⟩)), (3, .string (str s)), (4, .int .i64 ((i + 1 : Nat)))]) ⟨rfl, rfl, rfl, trivial⟩ (ih (i + 1) ⟨by omega, by omega, fun j h1 h2 => ?_⟩ (by omega))
  rcases Nat.lt_or_ge j i with h | h
  ·exact hall j h h2
  ·obtain rfl : j = i := by omega
   simpa using c3
 intro c2
 try simp only [nb] at c2
 refine C0 rfl ?_; refine Ai (Se rfl (Oh rfl ?_)); refine Bl rfl .free rfl ?_
 first | refine E1 rfl rfl 0 rfl .free rfl ?_ | refine E2 rfl rfl 0 rfl .free rfl ?_
 refine B9 rfl .free rfl ?_; refine Kc rfl .free rfl ?_; refine Od rfl rfl rfl (Aa ?_); refine Am rfl ?_ ?_
 ·intro c4
  try simp only [nb] at c4
  have hget : t.head = [103, 101, 116] := hhd.trans c4
  have hs3 : s = [114, 114, 110] := by rw [← hsh, hget]; rfl
  have hp4 : t.parts.length = 4 := by
   subst hs3
   have : ¬ (t.parts.length ≠ 4) := fun h => hc1 (.inl ⟨by decide, h⟩)
   omega
  have hn3 : Az (t.pt 3).atom = true := by
   have := hall 3 (by omega) (by omega)
   rw [hs3] at this; exact this
  refine Se rfl (Oh rfl ?_); refine Bl rfl .free rfl ?_
  first | refine E1 rfl rfl 3 rfl .free rfl ?_ | refine E2 rfl rfl 3 rfl .free rfl ?_
  refine B9 rfl .free rfl ?_; refine Kc rfl .free rfl ?_; refine Ca rfl (G0 (t.pt 3).atom (hf.rp 3 (by omega)).atom_le _ _) ?_; rintro _ _ _ _ ⟨rfl, rfl, rfl⟩; rw [hn3]; refine Om rfl (Oe rfl rfl (Oe rfl rfl (Oa rfl (Oa rfl (Aa (Se rfl (Om rfl (Oc rfl rfl rfl (Oa rfl (Aa (Ac (.tmp rfl .nil) ?_))))))))))); refine only rfl ?_; refine congrArg Value.bool ?_; rw [hyes, decide_eq_decide]
  exact ⟨fun h => ⟨c0, hc1, fun j h1 h2 => hall j (by omega) h2, fun _ => by simpa using h⟩, fun h => by simpa using h.2.2.2 hget⟩
 intro c4
 try simp only [nb] at c4
 refine Aj (Se rfl (Oa rfl (Aa (Ac (.tmp rfl .nil) ?_)))); refine only rfl ?_; refine congrArg Value.bool ?_; rw [hyes]
 exact (decide_eq_true ⟨c0, hc1, fun j h1 h2 => hall j (by omega) h2, fun h => absurd (hhd.symm.trans h) c4⟩).symm
structure GK where
 i : Nat
 B : Hl
 c : Nat
def Ex.ks (e : Ex) : List Af := e.sub.map fun a => a.tree.text
structure GM where
 i : Nat
 J : Heap
theorem Ek {s : Af} {t : Tree} {ok : Bool} (hpf : match Bv s with | some t0 => ok = true ∧ t = t0 | none => ok = false) : Ej s = (ok && t.instr) ∧ Gc s = (ok && (t.instr && t.last)) := by
 unfold Ej Gc
 cases hp : Bv s with
 | none => rw [hp] at hpf; simp only at hpf; subst hpf; exact ⟨rfl, rfl⟩
 | some t0 => rw [hp] at hpf; obtain ⟨rfl, rfl⟩ := hpf; exact ⟨rfl, rfl⟩
theorem G8 (s : Af) (hs : s.length ≤ As) (I : Heap) (L : At) : Fun Tryd.prog 6 [.string (str s)] I L (fun v I' L' => v = .bool (Ej s) ∧ L = L') := by
 refine Ag (by simp) ?_; refine Se rfl (Oa rfl (Aa (Se rfl (Om rfl ?_)))); refine Ca rfl (Mv s hs _ _) ?_; rintro _ J _ e1 ⟨t, cs, ok, rfl, hrep, rfl, hpf⟩; obtain ⟨oa, c, vs, rfl, -⟩ := hrep.open; refine Om rfl (Oe rfl rfl (Oe rfl rfl ?_)); refine Bm .free rfl ?_; intro b3; refine Cl rfl rfl rfl rfl .free ?_; refine Oa rfl (Aa (Se rfl (Om rfl (Om rfl ?_))))
 apply Br 11 14 rfl
 ·intro g2_2 hk
  try simp only [nb] at g2_2
  refine Dg rfl (.met rfl rfl) rfl ?_; refine Bs rfl (.met rfl rfl) rfl (F7 hrep _) ?_; rintro _ _ _ _ ⟨rfl, rfl, rfl⟩; refine Ot rfl rfl ?_
  exact Al 2 rfl rfl hk
 ·intro _ hk; refine Aq 2 rfl ?_; refine Of rfl rfl ?_
  exact Al 2 rfl rfl hk
 refine Oa rfl (Aa (Ac (.tmp rfl .nil) ?_)); refine ⟨J, L, e1, Cy, ?_, rfl⟩; rw [(Ek hpf).1]
 simp [Bj]
theorem Ky (s : Af) (hs : s.length ≤ As) (I : Heap) (L : At) : Fun Tryd.prog 7 [.string (str s)] I L (fun v I' L' => v = .bool (Ej s) ∧ L = L') := by
 refine Ag (by simp) ?_; refine Se rfl (Oa rfl (Aa (Se rfl (Om rfl ?_)))); refine Ca rfl (Jz s hs _ _) ?_; rintro _ J _ e1 ⟨t, cs, ok, rfl, hrep, rfl, hpf⟩; obtain ⟨oa, c, vs, rfl, -⟩ := hrep.open; refine Om rfl (Oe rfl rfl (Oe rfl rfl ?_)); refine Bm .free rfl ?_; intro b3; refine Cl rfl rfl rfl rfl .free ?_; refine Oa rfl (Aa (Se rfl (Om rfl (Om rfl ?_))))
 apply Br 11 14 rfl
 ·intro g2_2 hk
  try simp only [nb] at g2_2
  refine Dg rfl (.met rfl rfl) rfl ?_; refine Bs rfl (.met rfl rfl) rfl (I1 hrep (Dl (G3 hpf g2_2)).1 _) ?_; rintro _ _ _ _ ⟨rfl, rfl, rfl⟩; refine Ot rfl rfl ?_
  exact Al 2 rfl rfl hk
 ·intro _ hk; refine Aq 2 rfl ?_; refine Of rfl rfl ?_
  exact Al 2 rfl rfl hk
 refine Oa rfl (Aa (Ac (.tmp rfl .nil) ?_)); refine ⟨J, L, e1, Cy, ?_, rfl⟩; rw [(Ek hpf).1, ← Fm]
 simp [Bj]
theorem Jp {I : Heap} {t : Tree} {cs : List Value} (h : Rep I t cs) (L : At) : Fun Tryd.prog 23 [.agg cs.toArray] I L (Cr (.bool t.last) I L) := by
 obtain ⟨oa, c, vs, rfl, -⟩ := h.open; refine Ag (by simp) ?_; refine Se rfl ?_; refine D2 rfl rfl .free rfl ?_; intro b1; refine Oa rfl (Aa (Se rfl ?_)); refine Dg rfl .free rfl ?_; refine Ca rfl (Ea h _) ?_; rintro _ _ _ _ ⟨rfl, rfl, rfl⟩; refine Od rfl rfl rfl (Om rfl ?_)
 apply D6 6 10 rfl
 ·intro g1_4 hk
  try simp only [nb] at g1_4
  refine Dg rfl (.met rfl rfl) rfl ?_; refine Bs rfl (.met rfl rfl) rfl (Ea h _) ?_; rintro _ _ _ _ ⟨rfl, rfl, rfl⟩; refine Ef rfl rfl rfl (.met rfl rfl) rfl ?_; refine Of rfl rfl ?_
  exact Al 3 rfl rfl hk
 ·intro _ hk; refine Aq 3 rfl ?_; refine Ot rfl rfl ?_
  exact Al 3 rfl rfl hk
 refine Oa rfl (Aa (Ac (.tmp rfl .nil) ?_)); refine only rfl ?_; refine congrArg Value.bool ?_
 unfold Tree.last; simp
theorem H5 (s : Af) (hs : s.length ≤ As) (I : Heap) (L : At) : Fun Tryd.prog 10 [.string (str s)] I L (fun v I' L' => v = .bool (Gc s) ∧ L = L') := by
 refine Ag (by simp) ?_; refine Se rfl (Oa rfl (Aa (Se rfl (Om rfl ?_)))); refine Ca rfl (Mv s hs _ _) ?_; rintro _ J _ e1 ⟨t, cs, ok, rfl, hrep, rfl, hpf⟩; obtain ⟨oa, c, vs, rfl, -⟩ := hrep.open; refine Om rfl (Oe rfl rfl (Oe rfl rfl ?_)); refine Bm .free rfl ?_; intro b3; refine Cl rfl rfl rfl rfl .free ?_; refine Oa rfl (Aa (Se rfl (Om rfl (Om rfl ?_))))
 apply Br 11 14 rfl
 ·intro g2_2 hk
  try simp only [nb] at g2_2
  refine Dg rfl (.met rfl rfl) rfl ?_; refine Bs rfl (.met rfl rfl) rfl (F7 hrep _) ?_; rintro _ _ _ _ ⟨rfl, rfl, rfl⟩; refine Ot rfl rfl ?_
  exact Al 2 rfl rfl hk
 ·intro _ hk; refine Aq 2 rfl ?_; refine Of rfl rfl ?_
  exact Al 2 rfl rfl hk
 refine Om rfl ?_
 apply Br 15 18 rfl
 ·intro g2_6 hk
  try simp only [nb] at g2_6
  refine Dg rfl (.met rfl rfl) rfl ?_; refine Bs rfl (.met rfl rfl) rfl (Jp hrep _) ?_; rintro _ _ _ _ ⟨rfl, rfl, rfl⟩; refine Ot rfl rfl ?_
  exact Al 2 rfl rfl hk
 ·intro _ hk; refine Aq 2 rfl ?_; refine Of rfl rfl ?_
  exact Al 2 rfl rfl hk
 refine Oa rfl (Aa (Ac (.tmp rfl .nil) ?_)); refine ⟨J, L, e1, Cy, ?_, rfl⟩; rw [(Ek hpf).2]
 simp [Bj, Bool.and_assoc]
theorem Lu (s : Af) (hs : s.length ≤ As) (I : Heap) (L : At) : Fun Tryd.prog 12 [.string (str s)] I L (fun v I' L' => v = .bool (Gc s) ∧ L = L') := by
 refine Ag (by simp) ?_; refine Se rfl (Oa rfl (Aa (Se rfl (Om rfl ?_)))); refine Ca rfl (Jz s hs _ _) ?_; rintro _ J _ e1 ⟨t, cs, ok, rfl, hrep, rfl, hpf⟩; obtain ⟨oa, c, oaf, cf, rfl, hf⟩ := hrep.at'
 have hn := hf.nil
 refine Om rfl (Oe rfl rfl (Oe rfl rfl ?_)); refine Bm .free rfl ?_; intro b3; refine Cl rfl rfl rfl rfl .free ?_; refine Oa rfl (Aa (Se rfl (Om rfl (Om rfl ?_))))
 apply Br 11 14 rfl
 ·intro g2_2 hk
  try simp only [nb] at g2_2
  refine Dg rfl (.met rfl rfl) rfl ?_; refine Bs rfl (.met rfl rfl) rfl (I1 hf.rep (Dl (G3 hpf g2_2)).1 _) ?_; rintro _ _ _ _ ⟨rfl, rfl, rfl⟩; refine Ot rfl rfl ?_
  exact Al 2 rfl rfl hk
 ·intro _ hk; refine Aq 2 rfl ?_; refine Of rfl rfl ?_
  exact Al 2 rfl rfl hk
 refine Om rfl ?_
 apply Br 15 30 rfl
 ·intro g2_6 hk
  try simp only [nb] at g2_6
  have hgd := (Dl (G3 hpf (by simp_all))).1
  have hin := E0 (t := t) (by rw [← Fm]; simp_all) hgd
  have hpl := hin.1
  refine Ba rfl (.met rfl rfl) rfl ?_; refine Bl rfl (.met rfl rfl) rfl ?_
  first | refine E1 rfl rfl 0 rfl (.met rfl rfl) rfl ?_ | refine E2 rfl rfl 0 rfl (.met rfl rfl) rfl ?_
  refine B9 rfl (.met rfl rfl) rfl ?_; refine Kc rfl (.met rfl rfl) rfl ?_; refine Ef rfl rfl rfl (.met rfl rfl) rfl ?_; refine Ow rfl ?_
  apply D6 22 29 rfl
  ·intro g2_13 hk
   try simp only [nb] at g2_13
   refine Ba rfl (.met rfl rfl) rfl ?_; refine Bl rfl (.met rfl rfl) rfl ?_
   first | refine E1 rfl rfl 0 rfl (.met rfl rfl) rfl ?_ | refine E2 rfl rfl 0 rfl (.met rfl rfl) rfl ?_
   refine B9 rfl (.met rfl rfl) rfl ?_; refine Kc rfl (.met rfl rfl) rfl ?_; refine Ef rfl rfl rfl (.met rfl rfl) rfl ?_; refine A0 rfl rfl (.met rfl rfl) rfl ?_
   exact Al 6 rfl rfl hk
  ·intro _ hk; refine Aq 6 rfl ?_; refine A7 rfl rfl (.met rfl rfl) rfl ?_
   exact Al 6 rfl rfl hk
  refine Ot rfl rfl ?_
  exact Al 8 rfl rfl hk
 ·intro _ hk; refine Aq 14 rfl ?_; refine Of rfl rfl ?_
  exact Al 14 rfl rfl hk
 refine Oa rfl (Aa (Ac (.tmp rfl .nil) ?_)); refine ⟨J, L, e1, Cy, ?_, rfl⟩; rw [(Ek hpf).2, ← Fm]
 have hh : ok = true → t.instrS = true → t.head = (t.pt 0).atom := fun h1 h2 => Gj (by have := (E0 (t := t) (by rw [← Fm]; exact h2) (Dl (G3 hpf h1)).1).1; omega)
 unfold Tree.last
 cases ok <;> cases hz : t.instrS <;> simp_all [Bj]
structure T8 where
 i : Nat
 B : Hl
 c : Nat
theorem Io (t : Tree) : t.pts.length = t.parts.length := by simp [Tree.pts]
theorem Rz {t : Tree} {i : Nat} (hi : i < t.parts.length) : (t.pts.take i).map sv ++ [sv (t.pt i).text] = (t.pts.take (i + 1)).map sv := by
 rw [List.take_succ_eq_append_getElem (by rw [Io]; exact hi)]
 simp [Tree.pts, Tree.pt_at hi]
theorem Qk {I : Heap} {t : Tree} {oa : Option Addr} {c : Nat} {oaf : Nat → Option Addr} {cf : Nat → Nat} (hf : FormAt I t oa c oaf cf) (hz : ∀ i, i < t.parts.length → (t.pt i).text.length ≤ As) (L : At) :
  Fun Tryd.prog 20 [.slice oa t.parts.length c] I L (fun v I' L' => ∃ o k, v = .slice o t.pts.length k ∧ Strs I' o t.pts k ∧ L = L') := by
 have hn := hf.nil
 have hlen := hf.len
 have hpl := Io t
 have heach : ∀ s ∈ t.pts, s.length ≤ As := by
  intro s hs; obtain ⟨u, hu, rfl⟩ := List.mem_map.1 hs; obtain ⟨i, hi, rfl⟩ := List.mem_iff_getElem.1 hu; rw [← Tree.pt_at hi]; exact hz i hi
 unfold As at hlen
 refine Ag (by simp) ?_; refine Se rfl (Oa rfl (Aa (Se rfl (Oa rfl (Aa (Ai (Se rfl (Om rfl (On rfl (Om rfl (Aa (Av ?_)))))))))))); refine Cc (X := T8) (fun x => t.parts.length - x.i) (fun x => [(3, Bw x.i x.c x.B), (6, .slice oa t.parts.length c), (7, .int .i64 (t.parts.length : Nat)), (8, .int .i64 (x.i : Nat))]) (fun _ => I) (fun x => C3 9 ((t.pts.take x.i).map sv) x.B ++ L) (fun x => x.i ≤ t.parts.length ∧ Eh 1 x.i x.c ((t.pts.take x.i).map sv) x.B) ⟨0, none, 0⟩ ⟨Nat.zero_le _, rfl, rfl, rfl⟩ ⟨rfl, rfl, rfl, rfl, trivial⟩ (by intro _ h; exact h) ?_; rintro ⟨i, B, cb⟩ ⟨hi, hB⟩ ih
 simp only at hi hB ih ⊢
 refine Se rfl (Oc rfl rfl rfl (Aa (Ai ?_))); refine Am rfl ?_ ?_
 ·intro c0
  try simp only [nb] at c0
  have hi1 : i < t.parts.length := by omega
  have hel := hz i hi1
  refine Aj (Ai (Av (Se rfl ?_)))
  first | refine E1 rfl rfl _ rfl .free rfl ?_ | refine E2 rfl rfl _ rfl .free rfl ?_
  refine L9 rfl .free rfl ?_; refine Bm .free rfl ?_; intro b5; refine Cl rfl rfl rfl rfl .free ?_; refine Aa (Ap rfl (Om rfl ?_)); refine Dg rfl .free rfl ?_; refine Ca rfl (Ls (hf.rp i hi1) hel _) ?_; rintro _ _ _ _ ⟨rfl, rfl, rfl⟩; refine Ol rfl rfl ?_; intro b15; refine Ge (B := B) (xs := (t.pts.take i).map sv) (ys := [sv (t.pt i).text]) (m := i) (c := cb) (by intro kk; simp) (by rfl) rfl rfl hB (fun _ h => h.u2) (by rfl) (fun a ha => by cases ha; exact Cv (.head _) (by rfl)) (by simp) (by rfl) (by decide) (by decide) (by omega) (by decide) .free rfl ?_; intro bb sp c2 hB'
  rw [Rz hi1] at hB' ⊢; refine Oa rfl (Aa (Ar (Ap rfl ?_))); refine Or rfl rfl rfl ?_; refine Om rfl (Aa ?_); refine Ed (fun w hw => Mem.sub (L' := (bb, _) :: L) (by repeat (first | exact List.Sublist.refl _ | apply List.Sublist.cons_cons | apply List.Sublist.cons)) hw.f2) (B4 (E' := [(3, Bw (i + 1) c2 (some (bb, sp))), (6, .slice oa t.parts.length c), (7, .int .i64 (t.parts.length : Nat)), (8, .int .i64 ((i + 1 : Nat)))]) ⟨rfl, rfl, rfl, rfl, trivial⟩ (ih ⟨i + 1, some (bb, sp), c2⟩ ⟨by simp only; omega, hB'⟩ (by simp only; omega)))
 intro c0
 try simp only [nb] at c0
 obtain rfl : i = t.parts.length := by omega
 rw [List.take_of_length_le (by omega)] at hB; rw [List.take_of_length_le (by omega)]; refine C0 rfl ?_; refine Se rfl (Om rfl (Oa rfl (Aa ?_))); refine Lf hB hpl.symm (by unfold As; omega) heach ?_; intro J3 oz cz ez hbv hst; refine P1 (t := 2) rfl hbv ?_; refine Ac (.tmp rfl .nil) ?_
 exact ⟨J3, L, ez, Cy, oz, cz, by rw [hpl]; rfl, hst, rfl⟩
theorem H4 (s : Af) (hs : s.length ≤ As) (I : Heap) (L : At) : Fun Tryd.prog 8 [.string (str s)] I L (EF (En s) L) := by
 refine Ag (by simp) ?_; refine Se rfl (Oa rfl (Oa rfl (Aa (Se rfl (Om rfl ?_))))); refine Ca rfl (Mv s hs _ _) ?_; rintro _ J _ e1 ⟨t, cs, ok, rfl, hrep, rfl, hpf⟩; obtain ⟨oa, c, oaf, cf, rfl, hf⟩ := hrep.at'; refine Om rfl (Oe rfl rfl (Oe rfl rfl ?_)); refine Bm .free rfl ?_; intro b4; refine Cl rfl rfl rfl rfl .free ?_; refine Oa rfl (Aa (Ai (Se rfl (Om rfl ?_)))); refine Ck rfl .free rfl ?_; refine Om rfl ?_
 apply D6 13 16 rfl
 ·intro g2_3 hk
  try simp only [nb] at g2_3
  refine Dg rfl (.met rfl rfl) rfl ?_; refine Bs rfl (.met rfl rfl) rfl (D8 hf.rep _) ?_; rintro _ _ _ _ ⟨rfl, rfl, rfl⟩; refine Of rfl rfl ?_
  exact Al 2 rfl rfl hk
 ·intro _ hk; refine Aq 2 rfl ?_; refine Ot rfl rfl ?_
  exact Al 2 rfl rfl hk
 refine Aa ?_; refine Am rfl ?_ ?_
 ·intro c0
  try simp only [nb] at c0
  refine Se rfl (Oa rfl (Oa rfl (Aa ?_))); refine Ac (.tmp rfl (.tmp rfl .nil)) ?_
  have hz : En s = none := by
   unfold En
   cases hp : Bv s with
   | none => rfl
   | some t0 =>
    rw [hp] at hpf; obtain ⟨rfl, rfl⟩ := hpf
    simp at c0
    simp [c0]
  exact ⟨J, L, e1, Cy, none, 0, by rw [hz]; rfl, by rw [hz]; exact P4 _, rfl⟩
 intro c0
 try simp only [nb] at c0
 have hp : Bv s = some t := G3 hpf (by simp_all)
 have hne : t.parts ≠ [] := by simp_all
 have hgd := Dl hp
 have hq : En s = some t.pts := by unfold En; rw [hp]; simp [hne]
 refine Aj (Se rfl (Oh rfl ?_)); refine Bl rfl .free rfl ?_; refine Ca rfl (Qk hf (fun i hi => by have := t.pt_len i hi; rw [Tree.text_len]; unfold As; omega) _) ?_; rintro _ J2 _ e2 ⟨o, k, rfl, hst, rfl⟩; refine Oa rfl (Oa rfl (Aa ?_)); refine Ac (.tmp rfl (.tmp rfl .nil)) ?_
 exact ⟨J2, L, e1.trans e2, Cy, o, k, by rw [hq]; rfl, by rw [hq]; exact hst, rfl⟩
def Ex.one : Ex → Nat
 | .lt _ _ _ => 1
 | _ => 0
def Ex.nl : Ex → Nat
 | .num _ => 0
 | .name _ => 0
 | .bin _ a b => a.nl + b.nl
 | .ite a b c => a.nl + b.nl + c.nl
 | .lt _ a b => 1 + a.nl + b.nl
 | .fn _ _ _ _ b => b.nl
 | .un _ a => a.nl
mutual
def Tree.nl : Tree → Nat
 | .node _ ps => (if (match ps with | [] => [] | p :: _ => p.atom) = Ov then 1 else 0) + Sw ps
def Sw : List Tree → Nat
 | [] => 0
 | t :: ts => t.nl + Sw ts
end
mutual
theorem Tree.nl_len : ∀ t : Tree, t.nl ≤ t.len
 | .node a [] => by simp [Tree.nl, Sw, Ov]
 | .node a (p :: ps) => by
  have h1 := Np (p :: ps)
  simp only [Tree.nl, Tree.len, List.isEmpty_cons, cond_false]
  split <;> omega
theorem Np : ∀ ts : List Tree, Sw ts ≤ Df ts
 | [] => Nat.le_refl _
 | t :: ts => by have h1 := t.nl_len; have h2 := Np ts; simp only [Sw, Df]; omega
end
def Ex.path : Ex → List Af
 | .lt x _ b => x :: b.path
 | _ => []
def Ex.last : Ex → Ex
 | .lt _ _ b => b.last
 | e => e
def Tr (s : Af) : Int := match I5 true s with
 | some e => (e.nl : Nat)
 | none => -1
def Ts (s : Af) : Option (List Af × Af) := (I5 true s).map fun e => (e.path, e.last.tree.text)
structure MK where
 e : Ex
 ns : List (Af × Ex)
 n : Nat
 g : Nat
def MK.pt (tk : List Af) (p : MK) : MK := if p.e.bare = true then p else ⟨.name (nm 121 (fr 121 tk p.n)), p.ns ++ [(nm 121 (fr 121 tk p.n), p.e)], fr 121 tk p.n + 1, p.g + 1⟩
def MK.all (p : MK) : Ex := Qq p.ns p.e
def Ex.mk (tk : List Af) : Ex → Nat → MK
 | .num s, n => ⟨.num s, [], n, 0⟩
 | .name s, n => ⟨.name s, [], n, 0⟩
 | .lt x a b, n => let p := a.mk tk n; let q := b.mk tk p.n; ⟨q.e, p.ns ++ (x, p.e) :: q.ns, q.n, p.g + q.g⟩
 | .fn f x s t b, n => let p := b.mk tk n; ⟨.fn f x s t p.all, [], p.n, p.g⟩
 | .ite a b c, n => let p := (a.mk tk n).pt tk; let q := b.mk tk p.n; let r := c.mk tk q.n; ⟨.ite p.e q.all r.all, p.ns, r.n, p.g + q.g + r.g⟩
 | .bin o a b, n => let p := (a.mk tk n).pt tk; let q := (b.mk tk p.n).pt tk; ⟨.bin o p.e q.e, p.ns ++ q.ns, q.n, p.g + q.g⟩
 | .un o a, n => let p := (a.mk tk n).pt tk; ⟨.un o p.e, p.ns, p.n, p.g⟩
def Ud : List (Af × Ex) → Nat
 | [] => 0
 | p :: ps => 2 + p.2.size + Ud ps
theorem MK.pt_len (tk : List Af) (p : MK) {s : Nat} (h : p.ns.length + 1 ≤ s) : (p.pt tk).ns.length ≤ s := by
 unfold MK.pt
 split
 ·omega
 ·simp only [List.length_append, List.length_cons, List.length_nil]; omega
def okNs (l : List (Af × Ex)) : Prop := ∀ p ∈ l, Bq p.1 = true ∧ p.2.ok = true
theorem okNs.add {l m : List (Af × Ex)} (h : okNs l) (h' : okNs m) : okNs (l ++ m) := by
 intro p hp
 rcases List.mem_append.1 hp with hp | hp
 ·exact h p hp
 ·exact h' p hp
def Ex.lv : Ex → List Af
 | .num _ => []
 | .name s => [s]
 | .bin _ a b => a.lv ++ b.lv
 | .ite a b c => a.lv ++ b.lv ++ c.lv
 | .lt _ a b => a.lv ++ b.lv
 | .fn _ _ _ _ b => b.lv
 | .un _ a => a.lv
def Ex.bx : Ex → Bool
 | .num _ => true
 | .name _ => true
 | .bin _ a b => a.bx && b.bx
 | .ite a b c => a.bx && b.bx && c.bx
 | .lt x a b => decide (x.head? ≠ some 121) && a.bx && b.bx
 | .fn f x _ _ b => decide (f.head? ≠ some 121) && decide (x.head? ≠ some 121) && b.bx
 | .un _ a => a.bx
def Ex.tk (e : Ex) : List Af := Ko [] e.plain.tree.atomL
def Ex.made (e : Ex) : MK := e.plain.mk e.tk 0
def Ex.normal (e : Ex) : Ex := e.made.all
def Uc (s : Af) : Option Af := (G7 s).bind fun e => if e.normal.fine = true then some e.normal.tree.text else none
def T4 (s : Af) : Bool := Az s || Bq s
theorem Kv (s : Af) (hs : s.length ≤ As) (I : Heap) (L : At) : Fun Tryd.prog 9 [.string (str s)] I L (NR s I L) := by
 refine Ag (by simp) ?_; refine Se rfl (Oa rfl (Oa rfl (Aa (Ai (Se rfl (Om rfl ?_)))))); refine Ca rfl (Ez s hs _ _) ?_; rintro _ _ _ _ ⟨rfl, rfl, rfl⟩; refine Ck rfl .free rfl ?_; refine Aa ?_; refine Am rfl ?_ ?_
 ·intro c0
  try simp only [nb] at c0
  refine Se rfl (Oa rfl (Oa rfl (Aa ?_))); refine Ac (.tmp rfl (.tmp rfl .nil)) ?_; refine only rfl ?_; rw [show Az s = false by simpa using c0]; rfl
 intro c0
 try simp only [nb] at c0
 refine Aj (Se rfl (Om rfl ?_)); refine Ca rfl (Iy s (by simpa using c0) _ _) ?_; rintro _ _ _ _ ⟨rfl, rfl, rfl⟩; refine Oa rfl (Oa rfl (Aa ?_)); refine Ac (.tmp rfl (.tmp rfl .nil)) ?_; refine only rfl ?_; rw [show Az s = true by simpa using c0]; rfl
theorem L0 {I : Heap} {oa : Option Addr} {code : List UInt8} {c : Nat} (h : Bytes I oa code c) (L : At) : Fun Tryd.prog 3 [.slice oa code.length c] I L (Te L) := by
 have hlen := h.len
 refine Ag (by simp) ?_; refine Se rfl (Oa rfl (Aa (Ai (Se rfl (Om rfl (On rfl (Oc rfl rfl rfl (Aa ?_)))))))); refine Am rfl ?_ ?_
 ·intro c0
  try simp only [nb] at c0
  refine Se rfl (Oa rfl (Aa (Ac (.tmp rfl .nil) ?_)))
  exact ⟨I, L, .refl _, fun _ h => h, rfl, rfl⟩
 intro c0
 try simp only [nb] at c0
 refine Aj (Se rfl (Om rfl ?_)); refine Ca rfl (Ho h _) ?_; rintro _ J1 _ e1 ⟨s, rfl, hsl, rfl⟩
 have hs : s.length ≤ As := by unfold As; omega
 refine Oa rfl (Aa (Se rfl (Om rfl ?_))); refine Ca rfl (G8 s hs _ _) ?_; rintro _ J2 _ e2 ⟨rfl, rfl⟩; refine Oa rfl (Aa (Se rfl (Om rfl ?_))); refine Ca rfl (Ky s hs _ _) ?_; rintro _ J3 _ e3 ⟨rfl, rfl⟩
 have hle := (e1.trans e2).trans e3
 refine Oa rfl (Aa (Ai (Se rfl (Om rfl (Om rfl ?_))))); refine I6 rfl rfl rfl .free rfl ?_; refine Om rfl ?_
 apply D6 23 26 rfl
 ·intro g6_4 hk
  try simp only [nb] at g6_4
  refine Ow rfl ?_; refine Ck rfl (.met rfl rfl) rfl ?_; refine Of rfl rfl ?_
  exact Al 2 rfl rfl hk
 ·intro _ hk; refine Aq 2 rfl ?_; refine Ot rfl rfl ?_
  exact Al 2 rfl rfl hk
 refine Aa ?_; refine Am rfl ?_ ?_
 ·intro c1
  try simp only [nb] at c1
  refine Se rfl (Om rfl (Om rfl ?_)); refine I6 rfl rfl rfl .free rfl ?_; refine Oa rfl (Aa (Ac (.tmp rfl .nil) ?_)); refine ⟨J3, L, hle, Cy, ?_, rfl⟩
  simp [Bj]
 intro c1
 try simp only [nb] at c1
 have hin : Ej s = true := by simpa using c1
 obtain ⟨t, hp, hti, hg⟩ := K0 hin; obtain ⟨hl2, hrg, hp0, hp1, -⟩ := E0 hti hg
 have hpo : En s = some t.pts := by unfold En; rw [hp]; simp only; rw [if_neg (by intro e; rw [e] at hl2; simp at hl2)]
 have hlo : Gc s = t.last := by unfold Gc; rw [hp]; simp [hti]
 have hptl := Io t
 clear c1
 refine Aj (Se rfl (Om rfl ?_)); refine Ca rfl (H4 s hs _ _) ?_; rintro _ J4 _ e4 ⟨op, cp, rfl, hpS, rfl⟩; rw [hpo] at hpS; rw [hpo]
 simp only [Option.getD_some, Option.isSome_some] at hpS ⊢
 have hle := hle.trans e4
 have hs0 := hpS.st 0 (by omega)
 have hs1 := hpS.st 1 (by omega)
 refine Om rfl (Oe rfl rfl (Oe rfl rfl (Oa rfl (Oa rfl (Aa (Ai (Se rfl (Om rfl ?_)))))))); refine Ck rfl .free rfl ?_; refine Om rfl ?_
 apply D6 37 41 rfl
 ·intro g9_3 hk
  try simp only [nb] at g9_3
  refine Ow rfl ?_; refine Co rfl (.met rfl rfl) rfl ?_; refine A6 rfl rfl rfl (.met rfl rfl) rfl ?_; refine Of rfl rfl ?_
  exact Al 3 rfl rfl hk
 ·intro _ hk; refine Aq 3 rfl ?_; refine Ot rfl rfl ?_
  exact Al 3 rfl rfl hk
 refine Aa ?_
 first | refine Tw rfl (by have := hl2; omega) ?_ | refine Tv rfl (by have := hl2; omega) ?_ | refine Cw (by simp [A8, Au, *]) ?_
 refine Aj (Se rfl (Om rfl ?_))
 first | refine E1 rfl rfl 1 rfl .free rfl ?_ | refine E2 rfl rfl 1 rfl .free rfl ?_
 refine Pq rfl .free rfl ?_; refine Ca rfl (Kv (t.pts.getD 1 []) (by rw [hp1]; have := hrg; unfold Cn at this; simp at this; have := J9 this.1; unfold As; omega) _ _) ?_; rintro _ _ _ _ ⟨rfl, rfl, rfl⟩; refine Om rfl (Oe rfl rfl (Oe rfl rfl (Oa rfl (Oa rfl (Aa (Se rfl (Om rfl ?_)))))))
 first | refine E1 rfl rfl 0 rfl .free rfl ?_ | refine E2 rfl rfl 0 rfl .free rfl ?_
 refine Pq rfl .free rfl ?_; refine Od rfl rfl rfl (Om rfl ?_)
 apply D6 53 58 rfl
 ·intro g12_5 hk
  try simp only [nb] at g12_5
  refine Ow rfl ?_
  first | refine E1 rfl rfl 0 rfl (.met rfl rfl) rfl ?_ | refine E2 rfl rfl 0 rfl (.met rfl rfl) rfl ?_
  refine Pq rfl (.met rfl rfl) rfl ?_; refine Ef rfl rfl rfl (.met rfl rfl) rfl ?_; refine Of rfl rfl ?_
  exact Al 4 rfl rfl hk
 ·intro _ hk; refine Aq 4 rfl ?_; refine Ot rfl rfl ?_
  exact Al 4 rfl rfl hk
 refine Oa rfl (Aa (Se rfl (Om rfl (Om rfl ?_))))
 apply Br 60 63 rfl
 ·intro g13_2 hk
  try simp only [nb] at g13_2
  refine Ow rfl ?_; refine A6 rfl rfl rfl (.met rfl rfl) rfl ?_; refine Ot rfl rfl ?_
  exact Al 2 rfl rfl hk
 ·intro _ hk; refine Aq 2 rfl ?_; refine Of rfl rfl ?_
  exact Al 2 rfl rfl hk
 refine Om rfl ?_
 apply Br 64 67 rfl
 ·intro g13_6 hk
  try simp only [nb] at g13_6
  refine Ow rfl ?_; refine A6 rfl rfl rfl (.met rfl rfl) rfl ?_; refine Ot rfl rfl ?_
  exact Al 2 rfl rfl hk
 ·intro _ hk; refine Aq 2 rfl ?_; refine Of rfl rfl ?_
  exact Al 2 rfl rfl hk
 refine Om rfl ?_
 apply Br 68 73 rfl
 ·intro g13_10 hk
  try simp only [nb] at g13_10
  refine Ow rfl ?_; refine Bs rfl (.met rfl rfl) rfl (H5 s hs _ _) ?_; rintro _ J5 _ e5 ⟨rfl, rfl⟩; refine E3 (fun w h => Mem.le e5 h) ?_; refine Ow rfl ?_; refine I6 rfl rfl rfl (.met rfl rfl) rfl ?_; refine Ot rfl rfl ?_
  exact Al 4 rfl rfl hk
 ·intro _ hk; refine Aq 4 rfl ?_; refine Of rfl rfl ?_
  exact Al 4 rfl rfl hk
 refine Oa rfl (Aa (Ac (.tmp rfl .nil) ?_)); refine ⟨J4, L, hle, Cy, ?_, rfl⟩
 unfold Cn at hrg
 simp only [Bool.and_eq_true, decide_eq_true_eq] at hrg
 have h40 : B6 (t.pt 1).atom < 40 := by omega
 rw [hp1, hp0, hlo]
 simp [Bj, hrg, h40, Tree.last]
theorem Ih {I : Heap} {oa : Option Addr} {code : List UInt8} {c : Nat} (h : Bytes I oa code c) (L : At) : Fun Tryd.prog 4 [.slice oa code.length c] I L (Te L) := by
 have hlen := h.len
 refine Ag (by simp) ?_; refine Se rfl (Oa rfl (Aa (Ai (Se rfl (Om rfl (On rfl (Oc rfl rfl rfl (Aa ?_)))))))); refine Am rfl ?_ ?_
 ·intro c0
  try simp only [nb] at c0
  refine Se rfl (Oa rfl (Aa (Ac (.tmp rfl .nil) ?_)))
  exact ⟨I, L, .refl _, fun _ h => h, rfl, rfl⟩
 intro c0
 try simp only [nb] at c0
 refine Aj (Se rfl (Om rfl ?_)); refine Ca rfl (Ig h _) ?_; rintro _ J1 _ e1 ⟨s, rfl, hsl, rfl⟩
 have hs : s.length ≤ As := by unfold As; omega
 refine Oa rfl (Aa (Se rfl (Om rfl ?_))); refine Ca rfl (H5 s hs _ _) ?_; rintro _ J2 _ e2 ⟨rfl, rfl⟩; refine Oa rfl (Aa (Se rfl (Om rfl ?_))); refine Ca rfl (Lu s hs _ _) ?_; rintro _ J3 _ e3 ⟨rfl, rfl⟩
 have hle := (e1.trans e2).trans e3
 refine Oa rfl (Aa (Ai (Se rfl (Om rfl (Om rfl ?_))))); refine I6 rfl rfl rfl .free rfl ?_; refine Om rfl ?_
 apply D6 20 23 rfl
 ·intro g6_4 hk
  try simp only [nb] at g6_4
  refine Ow rfl ?_; refine Ck rfl (.met rfl rfl) rfl ?_; refine Of rfl rfl ?_
  exact Al 2 rfl rfl hk
 ·intro _ hk; refine Aq 2 rfl ?_; refine Ot rfl rfl ?_
  exact Al 2 rfl rfl hk
 refine Aa ?_; refine Am rfl ?_ ?_
 ·intro c1
  try simp only [nb] at c1
  refine Se rfl (Om rfl (Om rfl ?_)); refine I6 rfl rfl rfl .free rfl ?_; refine Oa rfl (Aa (Ac (.tmp rfl .nil) ?_)); refine ⟨J3, L, hle, Cy, ?_, rfl⟩
  simp [Bj]
 intro c1
 try simp only [nb] at c1
 have hla : Gc s = true := by simpa using c1
 obtain ⟨t, hp, hti, htl, hg⟩ : ∃ t, Bv s = some t ∧ t.instr = true ∧ t.last = true ∧ t.good = true := by
  unfold Gc at hla
  cases hp : Bv s with
  | none => rw [hp] at hla; cases hla
  | some t => rw [hp] at hla; simp only [Bool.and_eq_true] at hla; exact ⟨t, rfl, hla.1, hla.2, (Dl hp).1⟩
 obtain ⟨hl2, -, -, -, h2⟩ := E0 hti hg
 have h2 := h2 htl
 have hpo : En s = some t.pts := by unfold En; rw [hp]; simp only; rw [if_neg (by intro e; rw [e] at hl2; simp at hl2)]
 have hin : Ej s = true := by unfold Ej; rw [hp]; exact hti
 have hptl := Io t
 clear c1
 refine Aj (Se rfl (Om rfl ?_)); refine Ca rfl (H4 s hs _ _) ?_; rintro _ J4 _ e4 ⟨op, cp, rfl, hpS, rfl⟩; rw [hpo] at hpS; rw [hpo]
 simp only [Option.getD_some, Option.isSome_some] at hpS ⊢
 have hle := hle.trans e4
 refine Om rfl (Oe rfl rfl (Oe rfl rfl (Oa rfl (Oa rfl (Aa (Se rfl (Om rfl (Om rfl ?_))))))))
 apply Br 33 37 rfl
 ·intro g9_2 hk
  try simp only [nb] at g9_2
  refine Ow rfl ?_; refine Co rfl (.met rfl rfl) rfl ?_; refine A6 rfl rfl rfl (.met rfl rfl) rfl ?_; refine Ot rfl rfl ?_
  exact Al 3 rfl rfl hk
 ·intro _ hk; refine Aq 3 rfl ?_; refine Of rfl rfl ?_
  exact Al 3 rfl rfl hk
 refine Om rfl ?_
 apply Br 38 41 rfl
 ·intro g9_7 hk
  try simp only [nb] at g9_7
  refine Ow rfl ?_; refine Bs rfl (.met rfl rfl) rfl (G8 s hs _ _) ?_; rintro _ J5 _ e5 ⟨rfl, rfl⟩; refine E3 (fun w h => Mem.le e5 h) ?_; refine Ot rfl rfl ?_
  exact Al 2 rfl rfl hk
 ·intro _ hk; refine Aq 2 rfl ?_; refine Of rfl rfl ?_
  exact Al 2 rfl rfl hk
 refine Oa rfl (Aa (Ac (.tmp rfl .nil) ?_)); refine ⟨J4, L, hle, Cy, ?_, rfl⟩
 simp [Bj, hin, hptl, h2]
end Go.Proofs.YtbmgbhfeifgciaaDoor
