/- Names that stand free. No conditions. -/
import Derived.Test.YtmfagaajiakgoaaGreatDoorG6

namespace Go.Proofs.YtmfagaajiakgoaaGreatDoor
set_option maxRecDepth 100000
set_option linter.unusedVariables false
set_option linter.unusedSimpArgs false

def Ex.binds : Ex → Nat → List As
 | .lt x _ _, i => if i = 3 then [x] else []
 | .fn f x _ _ _, i => if i = 5 then [f, x] else []
 | _, _ => []
theorem Ex.shapes (e : Ex) (h : e.bare = false) : (∃ o a b, e = .bin o a b) ∨ (∃ a b c, e = .ite a b c) ∨ (∃ x a b, e = .lt x a b) ∨ (∃ f x s t b, e = .fn f x s t b) ∨ (∃ o a, e = .un o a) := by
 cases e with
 | num s => cases h
 | name s => cases h
 | bin o a b => exact .inl ⟨o, a, b, rfl⟩
 | ite a b c => exact .inr (.inl ⟨a, b, c, rfl⟩)
 | lt x a b => exact .inr (.inr (.inl ⟨x, a, b, rfl⟩))
 | fn f x s t b => exact .inr (.inr (.inr (.inl ⟨f, x, s, t, b, rfl⟩)))
 | un o a => exact .inr (.inr (.inr (.inr ⟨o, a, rfl⟩)))
def lbl : List As → Bool := fun l => l.all fun s => decide (s.length ≤ Bd)
theorem Hy {I : Heap} {b : Nat} {x : As} {e : TypeId} (hle : HLe I (I.set b (.cells [.string (str x)].toArray e (0, 0)))) (hx : x.length ≤ Bd) : Strs (I.set b (.cells [.string (str x)].toArray e (0, 0))) (some ⟨b, 0, none⟩) [x] 1 :=
 ⟨fun y hy => by cases hy; exact Ba (xs := [x].map sv) (ys := []), by simp, by simp, by simp [Bd], by simpa using hx⟩
theorem Pf {I : Heap} {b : Nat} {x y : As} {e : TypeId} (hle : HLe I (I.set b (.cells [.string (str x), .string (str y)].toArray e (0, 0)))) (hx : x.length ≤ Bd) (hy : y.length ≤ Bd) : Strs (I.set b (.cells [.string (str x), .string (str y)].toArray e (0, 0))) (some ⟨b, 0, none⟩) [x, y] 2 :=
 ⟨fun z hz => by cases hz; exact Ba (xs := [x, y].map sv) (ys := []), by simp, by simp, by simp [Bd], by simpa using ⟨hx, hy⟩⟩
theorem N9 (I : Heap) : Strs I none [] 0 := ⟨by simp, by simp, by simp, by simp [Bd], by simp⟩
theorem Ex.name_len {x : As} (h : Bu x = true) : x.length ≤ Bd := by have := Fs h; unfold Bd; omega

theorem Cl {I : Heap} {e : Ex} {cs : List Value} (h : Rep I e.tree cs) (hok : e.ok = true) (i : Nat) (L : Bl) : Fun Tryz.prog 133 [.agg cs.toArray, .int .i64 (i : Nat)] I L (SS (e.binds i) L) := by
 obtain ⟨oa, c, oaf, cf, rfl, hf⟩ := h.at'; refine Ao Ad ?_; refine Se rfl ?_; refine Cg rfl rfl .free rfl ?_; intro b2; refine Oa rfl (Ab (Ah (Ar (Se rfl ?_)))); refine Bj rfl .free rfl ?_; refine Ca rfl (Cf hf.rep _) ?_; rintro _ _ _ _ ⟨rfl, rfl, rfl⟩; refine Od rfl rfl rfl (Om rfl ?_)
 apply C0 9 12 rfl
 ·intro g1_4 hk
  try simp only [nb] at g1_4
  refine Ow rfl ?_; refine Dj rfl rfl rfl (.met rfl rfl) rfl ?_; refine Ot rfl rfl ?_
  exact Aw 2 rfl rfl hk
 ·intro _ hk; refine A0 2 rfl ?_; refine Of rfl rfl ?_
  exact Aw 2 rfl rfl hk
 refine Oa rfl (Ab ?_); refine Az rfl ?_ ?_
 ·intro c0
  try simp only [nb] at c0
  obtain ⟨x, a, b, rfl⟩ := Ex.of_let c0.1; obtain rfl : i = 3 := by omega
  simp only [Ex.ok, Bool.and_eq_true] at hok
  have hlen : (Ex.lt x a b).tree.parts.length = 4 := rfl
  have hx : ((Ex.lt x a b).tree.pt 1).atom.length ≤ Bd := Ex.name_len hok.1.1
  refine Se rfl (Oh rfl ?_); refine A9 rfl .free rfl ?_
  first | refine Bh rfl rfl 1 rfl .free rfl ?_ | refine Bi rfl rfl 1 rfl .free rfl ?_
  refine Be rfl .free rfl ?_; refine Gf rfl .free rfl ?_; refine Ol rfl rfl ?_; intro b18; refine Oa rfl (Ab ?_); refine Bo ?_; intro hz; refine Al (.tmp rfl .nil) ?_
  exact ⟨_, L, hz, Cb, some ⟨b18, 0, none⟩, 1, rfl, Hy hz hx, rfl⟩
 intro c0
 try simp only [nb] at c0
 refine Se rfl ?_; refine Bj rfl .free rfl ?_; refine Ca rfl (Cf hf.rep _) ?_; rintro _ _ _ _ ⟨rfl, rfl, rfl⟩; refine Od rfl rfl rfl (Om rfl ?_)
 apply C0 23 26 rfl
 ·intro g3_4 hk
  try simp only [nb] at g3_4
  refine Ow rfl ?_; refine Dj rfl rfl rfl (.met rfl rfl) rfl ?_; refine Ot rfl rfl ?_
  exact Aw 2 rfl rfl hk
 ·intro _ hk; refine A0 2 rfl ?_; refine Of rfl rfl ?_
  exact Aw 2 rfl rfl hk
 refine Oa rfl (Ab ?_); refine Az rfl ?_ ?_
 ·intro c1
  try simp only [nb] at c1
  obtain ⟨f, x, s, t, b, rfl⟩ := Ex.of_fun c1.1; obtain rfl : i = 5 := by omega
  simp only [Ex.ok, Bool.and_eq_true] at hok
  have hlen : (Ex.fn f x s t b).tree.parts.length = 6 := rfl
  have hx1 : ((Ex.fn f x s t b).tree.pt 1).atom.length ≤ Bd := Ex.name_len hok.1.1.1.1.1
  have hx2 : ((Ex.fn f x s t b).tree.pt 2).atom.length ≤ Bd := Ex.name_len hok.1.1.1.1.2
  refine Ah ?_; refine Fj 12 rfl rfl ?_; refine Da 0 rfl (Ap rfl) ?_; refine Dt 1 [12] rfl (Bx rfl) ?_
  first | refine Da 2 rfl (Bp rfl rfl 1 rfl) ?_ | refine Da 2 rfl (Bq rfl rfl 1 rfl) ?_
  refine Da 3 rfl (Bn rfl) ?_; refine Dt 4 [12] rfl (L6 rfl) ?_; refine Da 5 rfl (Ap rfl) ?_; refine Dt 6 [12] rfl (Bx rfl) ?_
  first | refine Da 7 rfl (Bp rfl rfl 2 rfl) ?_ | refine Da 7 rfl (Bq rfl rfl 2 rfl) ?_
  refine Da 8 rfl (Bn rfl) ?_; refine Dt 9 [12] rfl (L6 rfl) ?_; refine Fz 10 rfl Af rfl rfl rfl Ae Ae Ae Ac Ac Ae .free rfl (.inr Bb) ?_; intro b37; refine Da 11 rfl (A2 rfl) ?_; refine Bg Af ?_; refine Bo ?_; intro hz; refine Al (.tmp rfl .nil) ?_
  exact ⟨_, L, hz, Cb, some ⟨b37, 0, none⟩, 2, rfl, Pf hz hx1 hx2, rfl⟩
 intro c1
 try simp only [nb] at c1
 refine Aj (Aq (Se rfl (Oa rfl (Ab (Al (.tmp rfl .nil) ?_)))))
 have hb : e.binds i = [] := by
  cases e with
  | lt x a b => exact if_neg fun hi => by rcases c0 with h | h; exact h rfl; omega
  | fn f x s t b => exact if_neg fun hi => by rcases c1 with h | h; exact h rfl; omega
  | _ => rfl
 exact ⟨I, L, .refl _, Cb, none, 0, by rw [hb]; rfl, by rw [hb]; exact N9 I, rfl⟩

theorem Ex.binds_le (e : Ex) (i : Nat) : (e.binds i).length ≤ 2 := by
 cases e with
 | lt x a b => simp only [Ex.binds]; split <;> simp
 | fn f x s t b => simp only [Ex.binds]; split <;> simp
 | _ => simp [Ex.binds]
theorem Ex.binds_room {bd : List As} {e : Ex} {i k : Nat} (h : bd.length + 2 + k ≤ 4294967296) : (bd ++ e.binds i).length + k ≤ Bd := by
 have := e.binds_le i; rw [List.length_append]; unfold Bd; omega
theorem Ex.binds_room0 {bd : List As} {e : Ex} {i : Nat} (h : bd.length + 2 ≤ 4294967296) : bd.length + (e.binds i).length ≤ Bd := by
 have := e.binds_le i; unfold Bd; omega
structure Z9 (P : Program) (kf : FuncId) (cap : List Value) (X : Type) (own : X → Bl) (R : X → List As → Heap → Prop) : Prop where
 tell : ∀ x seen s I L, R x seen I → Bu s = true → seen.length < 4294967296 → Fun P kf (.string (str s) :: cap) I (own x ++ L) (fun v I' L' => v = .tuple #[] ∧ ∃ y, R y (seen ++ [s]) I' ∧ L' = own y ++ L)
 mono : ∀ x seen I I', HLe I I' → R x seen I → R x seen I'
theorem Mem.w1 {I : Heap} {a : Nat × Obj} {X L : Bl} {w : World} (h : Mem I (X ++ a :: L) w) : Mem I (a :: (X ++ L)) w := h.perm List.perm_middle
theorem Ex.size_pos (e : Ex) : 1 ≤ e.size := by cases e <;> simp [Ex.size] <;> omega
theorem Ex.occ_len : ∀ (e : Ex) (bd : List As), (e.occ bd).length ≤ e.size
 | .num s, bd => Nat.zero_le _
 | .name s, bd => by simp only [Ex.occ]; split <;> simp [Ex.size]
 | .bin o a b, bd => by have := a.occ_len bd; have := b.occ_len bd; simp [Ex.occ, Ex.size]; omega
 | .ite a b c, bd => by have := a.occ_len bd; have := b.occ_len bd; have := c.occ_len bd; simp [Ex.occ, Ex.size]; omega
 | .lt x a b, bd => by have := a.occ_len bd; have := b.occ_len (bd ++ [x]); simp [Ex.occ, Ex.size]; omega
 | .fn f x s t b, bd => by have := b.occ_len (bd ++ [f, x]); simp [Ex.occ, Ex.size]; omega
 | .un o a, bd => by have := a.occ_len bd; simp [Ex.occ, Ex.size]; omega
theorem Ex.occ_room {seen bd : List As} {e : Ex} {k n : Nat} (h : seen.length + (e.size + k) ≤ n) : (seen ++ e.occ bd).length + k ≤ n := by
 have := e.occ_len bd; rw [List.length_append]; omega
theorem Ex.occ_room2 {seen bd bd' : List As} {e e' : Ex} {k n : Nat} (h : seen.length + (e.size + (e'.size + k)) ≤ n) : (seen ++ e.occ bd ++ e'.occ bd').length + k ≤ n := Ex.occ_room (Ex.occ_room h)
def TP {X : Type} (own : X → Bl) (R : X → List As → Heap → Prop) (seen : List As) (L : Bl) : Cx := fun v I' L' => v = .tuple #[] ∧ ∃ y, R y seen I' ∧ L' = own y ++ L
theorem Vf          {kf : FuncId} {cap : List Value} {X : Type} {own : X → Bl } {R : X → List As  → Heap → Prop} {c0 : Code} {m0' : Nat} {rs0 : List ResultVar} [hfi : Bm   Tryz.prog kf c0 m0' rs0] (T : Z9     Tryz.prog kf cap X own R) :
    ∀ (n : Nat) {I : Heap} {e : Ex} {cs : List Value} (_ : SizeOf.sizeOf e < n) (_ : Rep I e.tree cs) (_ : e.ok = true) {bd : List As } {ob : Option Addr} {cb : Nat} (_ : Strs I ob bd cb) (_ : bd.length + 2 * e.size ≤ Bd  ) (x : X) (seen : List As ) (_ : seen.length + e.size ≤ 4294967296) (_ : R x seen I) (L : Bl ),
    Fun Tryz.prog 126 [.agg cs.toArray, .slice ob bd.length cb, .func (.func kf) #[] cap.toArray] I (own x ++ L) (TP own R (seen ++ e.occ bd) L) := by
  intro n
  induction n with
  | zero => intro I e cs h; omega
  | succ n ihn =>
    intro I e cs hlt h hok bd ob cb hbd hbl x seen hsl hx L
    obtain ⟨oa, c, oaf, cf, rfl, hf⟩ := h.at'
    have ha := hf.alen
    unfold Bd   at hbl
    refine Ao        (by simp) ?_
    refine Se rfl ?_
    refine Cg    rfl rfl .free rfl ?_
    intro b3
    refine Ab     (Ah    (Se rfl ?_))
    refine Bj    rfl .free rfl ?_
    refine Ca rfl (Cs            hf.rep _) ?_
    rintro _ _ _ _ ⟨rfl, rfl, rfl⟩
    refine Ab     ?_
    refine Az     rfl ?_ ?_
    · intro c0
      try simp only [nb] at c0
      have hb : e.bare = true := by rw [Ex.bare_parts]; exact c0
      refine Ah    (Se rfl (Oh rfl ?_))
      refine A9    rfl .free rfl ?_
      refine Ca rfl (Jt       e.tree.atom ha _ _) ?_
      rintro _ _ _ _ ⟨rfl, rfl, rfl⟩
      refine Om rfl ?_
      apply C0    13 19 rfl
      · intro g2_4 hk
        try simp only [nb] at g2_4
        refine Ow rfl ?_
        refine Ay          rfl (.met rfl rfl) rfl ?_
        refine A9    rfl (.met rfl rfl) rfl ?_
        refine C1     rfl (.met rfl rfl) rfl (H1                (hbd.rd _) cb e.tree.atom) ?_
        rintro _ _ _ _ ⟨rfl, rfl, rfl⟩
        refine Dv    rfl (.met rfl rfl) rfl ?_
        refine Ot rfl rfl ?_
        exact Aw    5 rfl rfl hk
      · intro _ hk
        refine A0      5 rfl ?_
        refine Of rfl rfl ?_
        exact Aw    5 rfl rfl hk
      refine Ab     ?_
      refine Az     rfl ?_ ?_
      · intro c1
        try simp only [nb] at c1
        have hnm := c1.1
        have hem : e = .name e.tree.atom := by
          cases e with
          | num s => have h1 : Bz    s = true := hok; have h2 := G3           hnm; rw [show (Ex.num s).tree.atom = s from rfl, h1] at h2; cases h2
          | name s => rfl
          | _ => cases hb
        have hoc : e.occ bd = [e.tree.atom] := by
          have h2 := c1.2
          rw [hem]; simp only [Ex.occ]
          rw [if_neg (by simpa using h2)]
          rfl
        refine Am      rfl (Om rfl (Oh rfl ?_))
        refine A9    rfl .free rfl ?_
        refine Fc    (fun w h => h.u1) ?_
        refine Ac4     rfl rfl .free rfl (T.tell x seen e.tree.atom _ _ hx hnm (by have := e.size_pos; omega)) ?_
        rintro _ J _ e1 ⟨rfl, y, hy, rfl⟩
        refine Ab     ?_
        refine Al    .nil ?_
        first
          | exact ⟨J, _, e1, fun w h => h.w1.drop, rfl, y, by rw [hoc]; exact hy, rfl⟩
          | (have hoc : e.occ bd = [] := by
               cases e with
               | num s => rfl
               | name s =>
                 simp only [Ex.occ]
                 rw [if_pos]
                 rcases c1 with h | h
                 · rw [show (Ex.name s).tree.atom = s from rfl, show Bu     s = true from hok] at h; cases h
                 · exact h
               | _ => cases hb
             exact ⟨I, _, .refl _, fun w h => h.drop, rfl, x, by rw [hoc, List.append_nil]; exact hx, rfl⟩)
      intro c1
      try simp only [nb] at c1
      refine Aj     ?_
      refine Al    .nil ?_
      first
        | exact ⟨J, _, e1, fun w h => h.w1.drop, rfl, y, by rw [hoc]; exact hy, rfl⟩
        | (have hoc : e.occ bd = [] := by
             cases e with
             | num s => rfl
             | name s =>
               simp only [Ex.occ]
               rw [if_pos]
               rcases c1 with h | h
               · rw [show (Ex.name s).tree.atom = s from rfl, show Bu     s = true from hok] at h; cases h
               · exact h
             | _ => cases hb
           exact ⟨I, _, .refl _, fun w h => h.drop, rfl, x, by rw [hoc, List.append_nil]; exact hx, rfl⟩)
    intro c0
    try simp only [nb] at c0
    have hb : e.bare = false := by rw [Ex.bare_parts]; exact c0
    have hsh := e.shapes hb
    refine Aj     (Ah    ?_)
    rcases hsh with ⟨o, a, b, rfl⟩ | ⟨a, b, d, rfl⟩ | ⟨z, a, b, rfl⟩ | ⟨g, z, s, t, b, rfl⟩ | ⟨o, a, rfl⟩
    · skip
      refine Am      rfl ?_
      refine Bj    rfl .free rfl ?_
      refine Ca rfl (D3          hf.rep _) ?_
      rintro _ J _ e0 ⟨ok, ck, rfl, hk, rfl⟩
      have hf := hf.mono e0
      have hbd := hbd.mono e0
      have hx := T.mono _ _ _ _ e0 hx
      have hle := e0
      have hok0 := hok
      simp only [Ex.ok, Bool.and_eq_true] at hok
      rw [Nw      ] at hk
      rw [Nw      ]
      have hlen : (Ex.bin o a b).tree.parts.length = 3 := rfl
      have hkl : [1, 2].length = 2 := rfl
      simp only [Ex.bin.sizeOf_spec] at hlt
      simp only [Ex.size] at hbl hsl
      refine On rfl (Om rfl (Ab     (Ar      ?_)))
      refine Ek     ?_
      refine Se rfl (Oc rfl rfl rfl (Ab     (Ah    ?_)))
      refine B9      rfl (by first | rfl | decide | (simp; done) | omega) ?_
      refine Aj     (Ah    (Ar      (Se rfl ?_)))
      first | refine Bh    rfl rfl _ rfl .free rfl ?_ | refine Bi    rfl rfl _ rfl .free rfl ?_
      refine Et    rfl .free rfl ?_
      refine Oa rfl (Ab     ?_)
      refine Th  13 rfl rfl ?_
      refine Da 0 rfl (Ap          rfl) ?_
      refine Dt 1 [13] rfl (Bx    rfl) ?_
      refine Da 2 rfl (Ai     rfl) ?_
      first | refine Da 3 rfl (Bp    rfl rfl _ rfl) ?_ | refine Da 3 rfl (Bq    rfl rfl _ rfl) ?_
      refine Dt 4 [13] rfl (Dz    rfl) ?_
      refine Da 5 rfl (Ai     rfl) ?_
      refine Dt 6 [13] rfl (D2    rfl) ?_
      refine Da 7 rfl (Ai     rfl) ?_
      refine Da 11 rfl (Ai     rfl) ?_
      refine Dc 8 rfl rfl (Cl           hf.rep hok0 _ _) ?_
      rintro _ J1 _ e1 ⟨o1, k1, rfl, hs1, rfl⟩
      refine Hx ?_
      refine Fz     9 rfl (by kernel_rfl) rfl rfl rfl (by rfl) (by rfl) (by rfl) (by decide) (by decide) (by rfl) .free rfl (.inr Bb   ) ?_
      intro b40
      refine Ee       ?_
      intro hz
      have e2 := e1.trans hz
      refine Dc 10 rfl rfl (B0              (Ba        (xs := [.slice ob bd.length cb, .slice o1 (List.length _) k1]) (ys := [])) (hbd.mono e2) (hs1.mono hz) (Ex.binds_room0 (by omega)) _) ?_
      rintro _ J3 _ e3 ⟨o3, k3, rfl, hs3, rfl⟩
      have e4 := e2.trans e3
      have hf3 := hf.mono e4
      have hx3 := T.mono _ _ _ _ e4 hx
      refine Hx ?_
      refine C4    (fun w h => h.u1) ?_
      refine Dc 12 rfl rfl (ihn (by omega) (hf3.as 1 a.tree (by omega) rfl) hok.1 hs3 (Ex.binds_room (by omega)) _ _ (by omega) hx3 _) ?_
      rintro _ J4 _ e5 ⟨rfl, x, hx, rfl⟩
      have e6 := e4.trans e5
      refine Hx ?_
      refine C4    (fun w h => h.w1) ?_
      have hf := hf.mono e6
      have hbd := hbd.mono e6
      have hle := hle.trans e6
      have hk := hk.mono e6
      refine Bg     (by kernel_rfl) ?_
      refine Aq        (Am      rfl ?_)
      refine Or rfl rfl rfl ?_
      refine Om rfl (Ab     ?_)
      refine B7      ?_
      refine Se rfl (Oc rfl rfl rfl (Ab     (Ah    ?_)))
      refine B9      rfl (by first | rfl | decide | (simp; done) | omega) ?_
      refine Aj     (Ah    (Ar      (Se rfl ?_)))
      first | refine Bh    rfl rfl _ rfl .free rfl ?_ | refine Bi    rfl rfl _ rfl .free rfl ?_
      refine Et    rfl .free rfl ?_
      refine Oa rfl (Ab     ?_)
      refine Th  13 rfl rfl ?_
      refine Da 0 rfl (Ap          rfl) ?_
      refine Dt 1 [13] rfl (Bx    rfl) ?_
      refine Da 2 rfl (Ai     rfl) ?_
      first | refine Da 3 rfl (Bp    rfl rfl _ rfl) ?_ | refine Da 3 rfl (Bq    rfl rfl _ rfl) ?_
      refine Dt 4 [13] rfl (Dz    rfl) ?_
      refine Da 5 rfl (Ai     rfl) ?_
      refine Dt 6 [13] rfl (D2    rfl) ?_
      refine Da 7 rfl (Ai     rfl) ?_
      refine Da 11 rfl (Ai     rfl) ?_
      refine Dc 8 rfl rfl (Cl           hf.rep hok0 _ _) ?_
      rintro _ J1 _ e1 ⟨o1, k1, rfl, hs1, rfl⟩
      refine Hx ?_
      refine Fz     9 rfl (by kernel_rfl) rfl rfl rfl (by rfl) (by rfl) (by rfl) (by decide) (by decide) (by rfl) .free rfl (.inr Bb   ) ?_
      intro b40
      refine Ee       ?_
      intro hz
      have e2 := e1.trans hz
      refine Dc 10 rfl rfl (B0              (Ba        (xs := [.slice ob bd.length cb, .slice o1 (List.length _) k1]) (ys := [])) (hbd.mono e2) (hs1.mono hz) (Ex.binds_room0 (by omega)) _) ?_
      rintro _ J3 _ e3 ⟨o3, k3, rfl, hs3, rfl⟩
      have e4 := e2.trans e3
      have hf3 := hf.mono e4
      have hx3 := T.mono _ _ _ _ e4 hx
      refine Hx ?_
      refine C4    (fun w h => h.u1) ?_
      refine Dc 12 rfl rfl (ihn (by omega) (hf3.as 2 b.tree (by omega) rfl) hok.2 hs3 (Ex.binds_room (by omega)) _ _ (Ex.occ_room (by omega)) hx3 _) ?_
      rintro _ J4 _ e5 ⟨rfl, x, hx, rfl⟩
      have e6 := e4.trans e5
      refine Hx ?_
      refine C4    (fun w h => h.w1) ?_
      have hf := hf.mono e6
      have hbd := hbd.mono e6
      have hle := hle.trans e6
      have hk := hk.mono e6
      refine Bg     (by kernel_rfl) ?_
      refine Aq        (Am      rfl ?_)
      refine Or rfl rfl rfl ?_
      refine Om rfl (Ab     ?_)
      refine B7      ?_
      refine Se rfl (Oc rfl rfl rfl (Ab     (Ah    ?_)))
      refine Dw      rfl (by first | rfl | decide | (simp; done) | omega) ?_
      refine Cd     rfl ?_
      refine Kk    .nil ?_
      exact ⟨_, _, hle, fun w h => h.drop, rfl, x, by simpa [Ex.occ, Ex.binds] using hx, rfl⟩
    · skip
      refine Am      rfl ?_
      refine Bj    rfl .free rfl ?_
      refine Ca rfl (D3          hf.rep _) ?_
      rintro _ J _ e0 ⟨ok, ck, rfl, hk, rfl⟩
      have hf := hf.mono e0
      have hbd := hbd.mono e0
      have hx := T.mono _ _ _ _ e0 hx
      have hle := e0
      have hok0 := hok
      simp only [Ex.ok, Bool.and_eq_true] at hok
      rw [Ny      ] at hk
      rw [Ny      ]
      have hlen : (Ex.ite a b d).tree.parts.length = 4 := rfl
      have hkl : [1, 2, 3].length = 3 := rfl
      simp only [Ex.ite.sizeOf_spec] at hlt
      simp only [Ex.size] at hbl hsl
      refine On rfl (Om rfl (Ab     (Ar      ?_)))
      refine Ek     ?_
      refine Se rfl (Oc rfl rfl rfl (Ab     (Ah    ?_)))
      refine B9      rfl (by first | rfl | decide | (simp; done) | omega) ?_
      refine Aj     (Ah    (Ar      (Se rfl ?_)))
      first | refine Bh    rfl rfl _ rfl .free rfl ?_ | refine Bi    rfl rfl _ rfl .free rfl ?_
      refine Et    rfl .free rfl ?_
      refine Oa rfl (Ab     ?_)
      refine Th  13 rfl rfl ?_
      refine Da 0 rfl (Ap          rfl) ?_
      refine Dt 1 [13] rfl (Bx    rfl) ?_
      refine Da 2 rfl (Ai     rfl) ?_
      first | refine Da 3 rfl (Bp    rfl rfl _ rfl) ?_ | refine Da 3 rfl (Bq    rfl rfl _ rfl) ?_
      refine Dt 4 [13] rfl (Dz    rfl) ?_
      refine Da 5 rfl (Ai     rfl) ?_
      refine Dt 6 [13] rfl (D2    rfl) ?_
      refine Da 7 rfl (Ai     rfl) ?_
      refine Da 11 rfl (Ai     rfl) ?_
      refine Dc 8 rfl rfl (Cl           hf.rep hok0 _ _) ?_
      rintro _ J1 _ e1 ⟨o1, k1, rfl, hs1, rfl⟩
      refine Hx ?_
      refine Fz     9 rfl (by kernel_rfl) rfl rfl rfl (by rfl) (by rfl) (by rfl) (by decide) (by decide) (by rfl) .free rfl (.inr Bb   ) ?_
      intro b40
      refine Ee       ?_
      intro hz
      have e2 := e1.trans hz
      refine Dc 10 rfl rfl (B0              (Ba        (xs := [.slice ob bd.length cb, .slice o1 (List.length _) k1]) (ys := [])) (hbd.mono e2) (hs1.mono hz) (Ex.binds_room0 (by omega)) _) ?_
      rintro _ J3 _ e3 ⟨o3, k3, rfl, hs3, rfl⟩
      have e4 := e2.trans e3
      have hf3 := hf.mono e4
      have hx3 := T.mono _ _ _ _ e4 hx
      refine Hx ?_
      refine C4    (fun w h => h.u1) ?_
      refine Dc 12 rfl rfl (ihn (by omega) (hf3.as 1 a.tree (by omega) rfl) hok.1.1 hs3 (Ex.binds_room (by omega)) _ _ (by omega) hx3 _) ?_
      rintro _ J4 _ e5 ⟨rfl, x, hx, rfl⟩
      have e6 := e4.trans e5
      refine Hx ?_
      refine C4    (fun w h => h.w1) ?_
      have hf := hf.mono e6
      have hbd := hbd.mono e6
      have hle := hle.trans e6
      have hk := hk.mono e6
      refine Bg     (by kernel_rfl) ?_
      refine Aq        (Am      rfl ?_)
      refine Or rfl rfl rfl ?_
      refine Om rfl (Ab     ?_)
      refine B7      ?_
      refine Se rfl (Oc rfl rfl rfl (Ab     (Ah    ?_)))
      refine B9      rfl (by first | rfl | decide | (simp; done) | omega) ?_
      refine Aj     (Ah    (Ar      (Se rfl ?_)))
      first | refine Bh    rfl rfl _ rfl .free rfl ?_ | refine Bi    rfl rfl _ rfl .free rfl ?_
      refine Et    rfl .free rfl ?_
      refine Oa rfl (Ab     ?_)
      refine Th  13 rfl rfl ?_
      refine Da 0 rfl (Ap          rfl) ?_
      refine Dt 1 [13] rfl (Bx    rfl) ?_
      refine Da 2 rfl (Ai     rfl) ?_
      first | refine Da 3 rfl (Bp    rfl rfl _ rfl) ?_ | refine Da 3 rfl (Bq    rfl rfl _ rfl) ?_
      refine Dt 4 [13] rfl (Dz    rfl) ?_
      refine Da 5 rfl (Ai     rfl) ?_
      refine Dt 6 [13] rfl (D2    rfl) ?_
      refine Da 7 rfl (Ai     rfl) ?_
      refine Da 11 rfl (Ai     rfl) ?_
      refine Dc 8 rfl rfl (Cl           hf.rep hok0 _ _) ?_
      rintro _ J1 _ e1 ⟨o1, k1, rfl, hs1, rfl⟩
      refine Hx ?_
      refine Fz     9 rfl (by kernel_rfl) rfl rfl rfl (by rfl) (by rfl) (by rfl) (by decide) (by decide) (by rfl) .free rfl (.inr Bb   ) ?_
      intro b40
      refine Ee       ?_
      intro hz
      have e2 := e1.trans hz
      refine Dc 10 rfl rfl (B0              (Ba        (xs := [.slice ob bd.length cb, .slice o1 (List.length _) k1]) (ys := [])) (hbd.mono e2) (hs1.mono hz) (Ex.binds_room0 (by omega)) _) ?_
      rintro _ J3 _ e3 ⟨o3, k3, rfl, hs3, rfl⟩
      have e4 := e2.trans e3
      have hf3 := hf.mono e4
      have hx3 := T.mono _ _ _ _ e4 hx
      refine Hx ?_
      refine C4    (fun w h => h.u1) ?_
      refine Dc 12 rfl rfl (ihn (by omega) (hf3.as 2 b.tree (by omega) rfl) hok.1.2 hs3 (Ex.binds_room (by omega)) _ _ (Ex.occ_room (by omega)) hx3 _) ?_
      rintro _ J4 _ e5 ⟨rfl, x, hx, rfl⟩
      have e6 := e4.trans e5
      refine Hx ?_
      refine C4    (fun w h => h.w1) ?_
      have hf := hf.mono e6
      have hbd := hbd.mono e6
      have hle := hle.trans e6
      have hk := hk.mono e6
      refine Bg     (by kernel_rfl) ?_
      refine Aq        (Am      rfl ?_)
      refine Or rfl rfl rfl ?_
      refine Om rfl (Ab     ?_)
      refine B7      ?_
      refine Se rfl (Oc rfl rfl rfl (Ab     (Ah    ?_)))
      refine B9      rfl (by first | rfl | decide | (simp; done) | omega) ?_
      refine Aj     (Ah    (Ar      (Se rfl ?_)))
      first | refine Bh    rfl rfl _ rfl .free rfl ?_ | refine Bi    rfl rfl _ rfl .free rfl ?_
      refine Et    rfl .free rfl ?_
      refine Oa rfl (Ab     ?_)
      refine Th  13 rfl rfl ?_
      refine Da 0 rfl (Ap          rfl) ?_
      refine Dt 1 [13] rfl (Bx    rfl) ?_
      refine Da 2 rfl (Ai     rfl) ?_
      first | refine Da 3 rfl (Bp    rfl rfl _ rfl) ?_ | refine Da 3 rfl (Bq    rfl rfl _ rfl) ?_
      refine Dt 4 [13] rfl (Dz    rfl) ?_
      refine Da 5 rfl (Ai     rfl) ?_
      refine Dt 6 [13] rfl (D2    rfl) ?_
      refine Da 7 rfl (Ai     rfl) ?_
      refine Da 11 rfl (Ai     rfl) ?_
      refine Dc 8 rfl rfl (Cl           hf.rep hok0 _ _) ?_
      rintro _ J1 _ e1 ⟨o1, k1, rfl, hs1, rfl⟩
      refine Hx ?_
      refine Fz     9 rfl (by kernel_rfl) rfl rfl rfl (by rfl) (by rfl) (by rfl) (by decide) (by decide) (by rfl) .free rfl (.inr Bb   ) ?_
      intro b40
      refine Ee       ?_
      intro hz
      have e2 := e1.trans hz
      refine Dc 10 rfl rfl (B0              (Ba        (xs := [.slice ob bd.length cb, .slice o1 (List.length _) k1]) (ys := [])) (hbd.mono e2) (hs1.mono hz) (Ex.binds_room0 (by omega)) _) ?_
      rintro _ J3 _ e3 ⟨o3, k3, rfl, hs3, rfl⟩
      have e4 := e2.trans e3
      have hf3 := hf.mono e4
      have hx3 := T.mono _ _ _ _ e4 hx
      refine Hx ?_
      refine C4    (fun w h => h.u1) ?_
      refine Dc 12 rfl rfl (ihn (by omega) (hf3.as 3 d.tree (by omega) rfl) hok.2 hs3 (Ex.binds_room (by omega)) _ _ (Ex.occ_room2 (by omega)) hx3 _) ?_
      rintro _ J4 _ e5 ⟨rfl, x, hx, rfl⟩
      have e6 := e4.trans e5
      refine Hx ?_
      refine C4    (fun w h => h.w1) ?_
      have hf := hf.mono e6
      have hbd := hbd.mono e6
      have hle := hle.trans e6
      have hk := hk.mono e6
      refine Bg     (by kernel_rfl) ?_
      refine Aq        (Am      rfl ?_)
      refine Or rfl rfl rfl ?_
      refine Om rfl (Ab     ?_)
      refine B7      ?_
      refine Se rfl (Oc rfl rfl rfl (Ab     (Ah    ?_)))
      refine Dw      rfl (by first | rfl | decide | (simp; done) | omega) ?_
      refine Cd     rfl ?_
      refine Kk    .nil ?_
      exact ⟨_, _, hle, fun w h => h.drop, rfl, x, by simpa [Ex.occ, Ex.binds] using hx, rfl⟩
    · skip
      refine Am      rfl ?_
      refine Bj    rfl .free rfl ?_
      refine Ca rfl (D3          hf.rep _) ?_
      rintro _ J _ e0 ⟨ok, ck, rfl, hk, rfl⟩
      have hf := hf.mono e0
      have hbd := hbd.mono e0
      have hx := T.mono _ _ _ _ e0 hx
      have hle := e0
      have hok0 := hok
      simp only [Ex.ok, Bool.and_eq_true] at hok
      rw [Nz      ] at hk
      rw [Nz      ]
      have hlen : (Ex.lt z a b).tree.parts.length = 4 := rfl
      have hkl : [2, 3].length = 2 := rfl
      simp only [Ex.lt.sizeOf_spec] at hlt
      simp only [Ex.size] at hbl hsl
      refine On rfl (Om rfl (Ab     (Ar      ?_)))
      refine Ek     ?_
      refine Se rfl (Oc rfl rfl rfl (Ab     (Ah    ?_)))
      refine B9      rfl (by first | rfl | decide | (simp; done) | omega) ?_
      refine Aj     (Ah    (Ar      (Se rfl ?_)))
      first | refine Bh    rfl rfl _ rfl .free rfl ?_ | refine Bi    rfl rfl _ rfl .free rfl ?_
      refine Et    rfl .free rfl ?_
      refine Oa rfl (Ab     ?_)
      refine Th  13 rfl rfl ?_
      refine Da 0 rfl (Ap          rfl) ?_
      refine Dt 1 [13] rfl (Bx    rfl) ?_
      refine Da 2 rfl (Ai     rfl) ?_
      first | refine Da 3 rfl (Bp    rfl rfl _ rfl) ?_ | refine Da 3 rfl (Bq    rfl rfl _ rfl) ?_
      refine Dt 4 [13] rfl (Dz    rfl) ?_
      refine Da 5 rfl (Ai     rfl) ?_
      refine Dt 6 [13] rfl (D2    rfl) ?_
      refine Da 7 rfl (Ai     rfl) ?_
      refine Da 11 rfl (Ai     rfl) ?_
      refine Dc 8 rfl rfl (Cl           hf.rep hok0 _ _) ?_
      rintro _ J1 _ e1 ⟨o1, k1, rfl, hs1, rfl⟩
      refine Hx ?_
      refine Fz     9 rfl (by kernel_rfl) rfl rfl rfl (by rfl) (by rfl) (by rfl) (by decide) (by decide) (by rfl) .free rfl (.inr Bb   ) ?_
      intro b40
      refine Ee       ?_
      intro hz
      have e2 := e1.trans hz
      refine Dc 10 rfl rfl (B0              (Ba        (xs := [.slice ob bd.length cb, .slice o1 (List.length _) k1]) (ys := [])) (hbd.mono e2) (hs1.mono hz) (Ex.binds_room0 (by omega)) _) ?_
      rintro _ J3 _ e3 ⟨o3, k3, rfl, hs3, rfl⟩
      have e4 := e2.trans e3
      have hf3 := hf.mono e4
      have hx3 := T.mono _ _ _ _ e4 hx
      refine Hx ?_
      refine C4    (fun w h => h.u1) ?_
      refine Dc 12 rfl rfl (ihn (by omega) (hf3.as 2 a.tree (by omega) rfl) hok.1.2 hs3 (Ex.binds_room (by omega)) _ _ (by omega) hx3 _) ?_
      rintro _ J4 _ e5 ⟨rfl, x, hx, rfl⟩
      have e6 := e4.trans e5
      refine Hx ?_
      refine C4    (fun w h => h.w1) ?_
      have hf := hf.mono e6
      have hbd := hbd.mono e6
      have hle := hle.trans e6
      have hk := hk.mono e6
      refine Bg     (by kernel_rfl) ?_
      refine Aq        (Am      rfl ?_)
      refine Or rfl rfl rfl ?_
      refine Om rfl (Ab     ?_)
      refine B7      ?_
      refine Se rfl (Oc rfl rfl rfl (Ab     (Ah    ?_)))
      refine B9      rfl (by first | rfl | decide | (simp; done) | omega) ?_
      refine Aj     (Ah    (Ar      (Se rfl ?_)))
      first | refine Bh    rfl rfl _ rfl .free rfl ?_ | refine Bi    rfl rfl _ rfl .free rfl ?_
      refine Et    rfl .free rfl ?_
      refine Oa rfl (Ab     ?_)
      refine Th  13 rfl rfl ?_
      refine Da 0 rfl (Ap          rfl) ?_
      refine Dt 1 [13] rfl (Bx    rfl) ?_
      refine Da 2 rfl (Ai     rfl) ?_
      first | refine Da 3 rfl (Bp    rfl rfl _ rfl) ?_ | refine Da 3 rfl (Bq    rfl rfl _ rfl) ?_
      refine Dt 4 [13] rfl (Dz    rfl) ?_
      refine Da 5 rfl (Ai     rfl) ?_
      refine Dt 6 [13] rfl (D2    rfl) ?_
      refine Da 7 rfl (Ai     rfl) ?_
      refine Da 11 rfl (Ai     rfl) ?_
      refine Dc 8 rfl rfl (Cl           hf.rep hok0 _ _) ?_
      rintro _ J1 _ e1 ⟨o1, k1, rfl, hs1, rfl⟩
      refine Hx ?_
      refine Fz     9 rfl (by kernel_rfl) rfl rfl rfl (by rfl) (by rfl) (by rfl) (by decide) (by decide) (by rfl) .free rfl (.inr Bb   ) ?_
      intro b40
      refine Ee       ?_
      intro hz
      have e2 := e1.trans hz
      refine Dc 10 rfl rfl (B0              (Ba        (xs := [.slice ob bd.length cb, .slice o1 (List.length _) k1]) (ys := [])) (hbd.mono e2) (hs1.mono hz) (Ex.binds_room0 (by omega)) _) ?_
      rintro _ J3 _ e3 ⟨o3, k3, rfl, hs3, rfl⟩
      have e4 := e2.trans e3
      have hf3 := hf.mono e4
      have hx3 := T.mono _ _ _ _ e4 hx
      refine Hx ?_
      refine C4    (fun w h => h.u1) ?_
      refine Dc 12 rfl rfl (ihn (by omega) (hf3.as 3 b.tree (by omega) rfl) hok.2 hs3 (Ex.binds_room (by omega)) _ _ (Ex.occ_room (by omega)) hx3 _) ?_
      rintro _ J4 _ e5 ⟨rfl, x, hx, rfl⟩
      have e6 := e4.trans e5
      refine Hx ?_
      refine C4    (fun w h => h.w1) ?_
      have hf := hf.mono e6
      have hbd := hbd.mono e6
      have hle := hle.trans e6
      have hk := hk.mono e6
      refine Bg     (by kernel_rfl) ?_
      refine Aq        (Am      rfl ?_)
      refine Or rfl rfl rfl ?_
      refine Om rfl (Ab     ?_)
      refine B7      ?_
      refine Se rfl (Oc rfl rfl rfl (Ab     (Ah    ?_)))
      refine Dw      rfl (by first | rfl | decide | (simp; done) | omega) ?_
      refine Cd     rfl ?_
      refine Kk    .nil ?_
      exact ⟨_, _, hle, fun w h => h.drop, rfl, x, by simpa [Ex.occ, Ex.binds] using hx, rfl⟩
    · skip
      refine Am      rfl ?_
      refine Bj    rfl .free rfl ?_
      refine Ca rfl (D3          hf.rep _) ?_
      rintro _ J _ e0 ⟨ok, ck, rfl, hk, rfl⟩
      have hf := hf.mono e0
      have hbd := hbd.mono e0
      have hx := T.mono _ _ _ _ e0 hx
      have hle := e0
      have hok0 := hok
      simp only [Ex.ok, Bool.and_eq_true] at hok
      rw [Nx     ] at hk
      rw [Nx     ]
      have hlen : (Ex.fn g z s t b).tree.parts.length = 6 := rfl
      have hkl : [5].length = 1 := rfl
      simp only [Ex.fn.sizeOf_spec] at hlt
      simp only [Ex.size] at hbl hsl
      refine On rfl (Om rfl (Ab     (Ar      ?_)))
      refine Ek     ?_
      refine Se rfl (Oc rfl rfl rfl (Ab     (Ah    ?_)))
      refine B9      rfl (by first | rfl | decide | (simp; done) | omega) ?_
      refine Aj     (Ah    (Ar      (Se rfl ?_)))
      first | refine Bh    rfl rfl _ rfl .free rfl ?_ | refine Bi    rfl rfl _ rfl .free rfl ?_
      refine Et    rfl .free rfl ?_
      refine Oa rfl (Ab     ?_)
      refine Th  13 rfl rfl ?_
      refine Da 0 rfl (Ap          rfl) ?_
      refine Dt 1 [13] rfl (Bx    rfl) ?_
      refine Da 2 rfl (Ai     rfl) ?_
      first | refine Da 3 rfl (Bp    rfl rfl _ rfl) ?_ | refine Da 3 rfl (Bq    rfl rfl _ rfl) ?_
      refine Dt 4 [13] rfl (Dz    rfl) ?_
      refine Da 5 rfl (Ai     rfl) ?_
      refine Dt 6 [13] rfl (D2    rfl) ?_
      refine Da 7 rfl (Ai     rfl) ?_
      refine Da 11 rfl (Ai     rfl) ?_
      refine Dc 8 rfl rfl (Cl           hf.rep hok0 _ _) ?_
      rintro _ J1 _ e1 ⟨o1, k1, rfl, hs1, rfl⟩
      refine Hx ?_
      refine Fz     9 rfl (by kernel_rfl) rfl rfl rfl (by rfl) (by rfl) (by rfl) (by decide) (by decide) (by rfl) .free rfl (.inr Bb   ) ?_
      intro b40
      refine Ee       ?_
      intro hz
      have e2 := e1.trans hz
      refine Dc 10 rfl rfl (B0              (Ba        (xs := [.slice ob bd.length cb, .slice o1 (List.length _) k1]) (ys := [])) (hbd.mono e2) (hs1.mono hz) (Ex.binds_room0 (by omega)) _) ?_
      rintro _ J3 _ e3 ⟨o3, k3, rfl, hs3, rfl⟩
      have e4 := e2.trans e3
      have hf3 := hf.mono e4
      have hx3 := T.mono _ _ _ _ e4 hx
      refine Hx ?_
      refine C4    (fun w h => h.u1) ?_
      refine Dc 12 rfl rfl (ihn (by omega) (hf3.as 5 b.tree (by omega) rfl) hok.2 hs3 (Ex.binds_room (by omega)) _ _ (by omega) hx3 _) ?_
      rintro _ J4 _ e5 ⟨rfl, x, hx, rfl⟩
      have e6 := e4.trans e5
      refine Hx ?_
      refine C4    (fun w h => h.w1) ?_
      have hf := hf.mono e6
      have hbd := hbd.mono e6
      have hle := hle.trans e6
      have hk := hk.mono e6
      refine Bg     (by kernel_rfl) ?_
      refine Aq        (Am      rfl ?_)
      refine Or rfl rfl rfl ?_
      refine Om rfl (Ab     ?_)
      refine B7      ?_
      refine Se rfl (Oc rfl rfl rfl (Ab     (Ah    ?_)))
      refine Dw      rfl (by first | rfl | decide | (simp; done) | omega) ?_
      refine Cd     rfl ?_
      refine Kk    .nil ?_
      exact ⟨_, _, hle, fun w h => h.drop, rfl, x, by simpa [Ex.occ, Ex.binds] using hx, rfl⟩
    · skip
      refine Am      rfl ?_
      refine Bj    rfl .free rfl ?_
      refine Ca rfl (D3          hf.rep _) ?_
      rintro _ J _ e0 ⟨ok, ck, rfl, hk, rfl⟩
      have hf := hf.mono e0
      have hbd := hbd.mono e0
      have hx := T.mono _ _ _ _ e0 hx
      have hle := e0
      have hok0 := hok
      simp only [Ex.ok, Bool.and_eq_true] at hok
      rw [P3     ] at hk
      rw [P3     ]
      have hlen : (Ex.un o a).tree.parts.length = 2 := rfl
      have hkl : [1].length = 1 := rfl
      simp only [Ex.un.sizeOf_spec] at hlt
      simp only [Ex.size] at hbl hsl
      refine On rfl (Om rfl (Ab     (Ar      ?_)))
      refine Ek     ?_
      refine Se rfl (Oc rfl rfl rfl (Ab     (Ah    ?_)))
      refine B9      rfl (by first | rfl | decide | (simp; done) | omega) ?_
      refine Aj     (Ah    (Ar      (Se rfl ?_)))
      first | refine Bh    rfl rfl _ rfl .free rfl ?_ | refine Bi    rfl rfl _ rfl .free rfl ?_
      refine Et    rfl .free rfl ?_
      refine Oa rfl (Ab     ?_)
      refine Th  13 rfl rfl ?_
      refine Da 0 rfl (Ap          rfl) ?_
      refine Dt 1 [13] rfl (Bx    rfl) ?_
      refine Da 2 rfl (Ai     rfl) ?_
      first | refine Da 3 rfl (Bp    rfl rfl _ rfl) ?_ | refine Da 3 rfl (Bq    rfl rfl _ rfl) ?_
      refine Dt 4 [13] rfl (Dz    rfl) ?_
      refine Da 5 rfl (Ai     rfl) ?_
      refine Dt 6 [13] rfl (D2    rfl) ?_
      refine Da 7 rfl (Ai     rfl) ?_
      refine Da 11 rfl (Ai     rfl) ?_
      refine Dc 8 rfl rfl (Cl           hf.rep hok0 _ _) ?_
      rintro _ J1 _ e1 ⟨o1, k1, rfl, hs1, rfl⟩
      refine Hx ?_
      refine Fz     9 rfl (by kernel_rfl) rfl rfl rfl (by rfl) (by rfl) (by rfl) (by decide) (by decide) (by rfl) .free rfl (.inr Bb   ) ?_
      intro b40
      refine Ee       ?_
      intro hz
      have e2 := e1.trans hz
      refine Dc 10 rfl rfl (B0              (Ba        (xs := [.slice ob bd.length cb, .slice o1 (List.length _) k1]) (ys := [])) (hbd.mono e2) (hs1.mono hz) (Ex.binds_room0 (by omega)) _) ?_
      rintro _ J3 _ e3 ⟨o3, k3, rfl, hs3, rfl⟩
      have e4 := e2.trans e3
      have hf3 := hf.mono e4
      have hx3 := T.mono _ _ _ _ e4 hx
      refine Hx ?_
      refine C4    (fun w h => h.u1) ?_
      refine Dc 12 rfl rfl (ihn (by omega) (hf3.as 1 a.tree (by omega) rfl) hok hs3 (Ex.binds_room (by omega)) _ _ (by omega) hx3 _) ?_
      rintro _ J4 _ e5 ⟨rfl, x, hx, rfl⟩
      have e6 := e4.trans e5
      refine Hx ?_
      refine C4    (fun w h => h.w1) ?_
      have hf := hf.mono e6
      have hbd := hbd.mono e6
      have hle := hle.trans e6
      have hk := hk.mono e6
      refine Bg     (by kernel_rfl) ?_
      refine Aq        (Am      rfl ?_)
      refine Or rfl rfl rfl ?_
      refine Om rfl (Ab     ?_)
      refine B7      ?_
      refine Se rfl (Oc rfl rfl rfl (Ab     (Ah    ?_)))
      refine Dw      rfl (by first | rfl | decide | (simp; done) | omega) ?_
      refine Cd     rfl ?_
      refine Kk    .nil ?_
      exact ⟨_, _, hle, fun w h => h.drop, rfl, x, by simpa [Ex.occ, Ex.binds] using hx, rfl⟩

structure FB where
 l : List As
 B : K8
 c : Nat
def FB.own (bo : Nat) (x : FB) : Bl := (bo, .cells [B6 x.l.length x.c x.B].toArray 33 (0, 0)) :: Ch 9 (x.l.map sv) x.B
def FB.is (x : FB) (seen : List As) (I : Heap) : Prop := x.l = Dd [] seen ∧ E0 1 x.l.length x.c (x.l.map sv) x.B ∧ ∀ s ∈ x.l, Bu s = true
theorem Hk (l m : List As) : (Dd l m).length ≤ l.length + m.length := by
 induction m generalizing l with
 | nil => exact Nat.le_refl _
 | cons s m ih =>
  have h1 : (Gl l s).length ≤ l.length + 1 := by unfold Gl; split <;> simp
  have h2 := ih (Gl l s)
  simp only [Dd, List.foldl_cons, List.length_cons] at *
  omega
theorem Ru (bo : Nat) (x : FB) (seen : List As) (s : As) (I : Heap) (L : Bl) (hx : x.is seen I) (hs : Bu s = true) (hl : seen.length < 4294967296) :
  Fun Tryz.prog 127 [.string (str s), .pointer (some ⟨bo, 0, none⟩)] I (FB.own bo x ++ L) (fun v I' L' => v = .tuple #[] ∧ ∃ y : FB, y.is (seen ++ [s]) I' ∧ L' = FB.own bo y ++ L) := by
 obtain ⟨l, B, c⟩ := x; obtain ⟨hl1, hB, hn⟩ := hx
 simp only at hl1 hB hn
 have hll := Hk [] seen
 rw [← hl1] at hll
 simp only [List.length_nil, Nat.zero_add] at hll
 obtain ⟨oa, c', hbv, hrd⟩ := Aai (I := I) (L := L) (e := 9) hB rfl Cv
 have hcon : Fun Tryz.prog 128 [B6 l.length c B, .string (str s)] I ((bo, .cells [B6 l.length c B].toArray 33 (0, 0)) :: (Ch 9 (l.map sv) B ++ L)) (Ed (.bool (decide (s ∈ l))) I ((bo, .cells [B6 l.length c B].toArray 33 (0, 0)) :: (Ch 9 (l.map sv) B ++ L))) := by
  have := H1 (hrd.sub (L' := (bo, .cells [B6 l.length c B].toArray 33 (0, 0)) :: (Ch 9 (l.map sv) B ++ L)) fun w h => h.drop) c' s
  rwa [← hbv] at this
 unfold FB.own
 simp only [List.cons_append]
 refine Ao Ad ?_; refine Se rfl ?_; refine Bs rfl (Fu (cs := [B6 l.length c B]) m0 Ae (by cases B <;> rfl)) .free rfl ?_; refine Om rfl ?_; refine C1 rfl .free rfl hcon ?_; rintro _ _ _ _ ⟨rfl, rfl, rfl⟩; refine Dv rfl .free rfl ?_; refine Ab ?_; refine Az rfl ?_ ?_
 ·intro c0
  try simp only [nb] at c0
  have hadd : Dd [] (seen ++ [s]) = l ++ [s] := by rw [Cr, ← hl1]; simp [Dd, Gl, c0]
  refine Am rfl ?_; refine Bs rfl (Fu (cs := [B6 l.length c B]) m0 Ae (by cases B <;> rfl)) .free rfl ?_; refine Om rfl ?_; refine Ol rfl rfl ?_; intro b9; refine D7 (B := B) (xs := l.map sv) (ys := [sv s]) (m := l.length) (c := c) Bk Ae rfl rfl hB (fun _ h => h.u2) Ae (fun a ha => by cases ha; exact Cc (.head _) Ae) Ad Ae Ac Ac Aa Ac .free rfl ?_; intro bb sp c2 hB'; refine T9 rfl rfl rfl rfl Ae u2 Ae .free ?_; refine Ab ?_; refine Kk .nil ?_
  first
   | exact ⟨I, _, .refl _, fun w h => h, rfl, ⟨l, B, c⟩, ⟨hadd.symm, hB, hn⟩, rfl⟩
   | exact ⟨I, _, .refl _, fun w h => Mem.sub (L' := (bo, _) :: (bb, _) :: L) Bf h.f2, rfl, ⟨l ++ [s], some (bb, sp), c2⟩, ⟨hadd.symm, by simpa using hB', by intro z hz; rcases List.mem_append.1 hz with h | h; exact hn z h; rw [List.mem_singleton.1 h]; exact hs⟩, by simp [Ch, B6]⟩
 intro c0
 try simp only [nb] at c0
 have hadd : Dd [] (seen ++ [s]) = l := by rw [Cr, ← hl1]; simp [Dd, Gl, c0]
 refine Aj ?_; refine Kk .nil ?_
 first
  | exact ⟨I, _, .refl _, fun w h => h, rfl, ⟨l, B, c⟩, ⟨hadd.symm, hB, hn⟩, rfl⟩
  | exact ⟨I, _, .refl _, fun w h => Mem.sub (L' := (bo, _) :: (bb, _) :: L) Bf h.f2, rfl, ⟨l ++ [s], some (bb, sp), c2⟩, ⟨hadd.symm, by simpa using hB', by intro z hz; rcases List.mem_append.1 hz with h | h; exact hn z h; rw [List.mem_singleton.1 h]; exact hs⟩, by simp [Ch, B6]⟩
theorem Ov (bo : Nat) : Z9 Tryz.prog 127 [.pointer (some ⟨bo, 0, none⟩)] FB (FB.own bo) FB.is :=
 ⟨fun x seen s I L hx hs hl => Ru bo x seen s I L hx hs hl, fun x seen I I' _ h => h⟩
theorem Q3 {l : List As} (h : ∀ s ∈ l, Bu s = true) : ∀ s ∈ l, s.length ≤ Bd := fun s hs => Ex.name_len (h s hs)
theorem Kz {I : Heap} {e : Ex} {cs : List Value} (h : Rep I e.tree cs) (hok : e.ok = true) (hz : 2 * e.size ≤ 4294967295) (L : Bl) : Fun Tryz.prog 74 [.agg cs.toArray] I L (SS e.free L) := by
 obtain ⟨oa, c, oaf, cf, rfl, hf⟩ := h.at'
 have hT := fun bo => Ov bo
 refine Ao Ad ?_; refine Se rfl ?_; refine Cg rfl rfl .free rfl ?_; intro b1; refine Oa rfl (Ab (Se rfl ?_)); refine A5 .free rfl ?_; intro b3; refine Ab (Se rfl ?_); refine Bj rfl .free rfl ?_; refine Xq rfl rfl .free rfl ?_; refine Fc (L' := FB.own b3 ⟨[], none, 0⟩ ++ _) (fun w h => h) ?_; refine Ca rfl (Vf (hT b3) _ (Nat.lt_succ_self _) hf.rep hok (N9 I) Ib ⟨[], none, 0⟩ [] Dq ⟨rfl, ⟨rfl, rfl, rfl⟩, by simp⟩ _) ?_; rintro _ J _ e1 ⟨rfl, ⟨l, B, c2⟩, ⟨hl, hB, hn⟩, rfl⟩
 simp only at hl hB hn
 simp only [FB.own, List.cons_append]
 refine Ab (Se rfl ?_); refine Bs rfl (Fu (cs := [B6 l.length c2 B]) m0 Ae (by cases B <;> rfl)) .free rfl ?_; refine Oa rfl (Ab ?_)
 have hll := Hk [] (e.occ [])
 have hol := e.occ_len []
 simp only [List.nil_append] at hl
 rw [← hl] at hll
 simp only [List.length_nil, Nat.zero_add] at hll
 refine Cq (fun w h => h.u1) (G6 hB rfl Cv (Q3 hn) ?_); intro J2 oz cz ez hbv hst; refine K6 (t := 2) rfl hbv ?_; refine Al (.tmp rfl .nil) ?_
 exact ⟨J2, L, e1.trans ez, fun w h => h.drop.drop, oz, cz, by rw [show e.free = l from hl.symm]; rfl, by rw [show e.free = l from hl.symm]; exact hst, rfl⟩
theorem Fd {P : Program} {f : FuncId} {n : Nat} {I₀ : Heap} {Q : Cx} {k : List Item} {ops : Array Oper} {S : World → Prop} {fuel : Nat} {listed : Array Bool} {E : Hi} {I : Heap} {L : Bl} {e : TypeId} {l : List As} {B : K8} {m c : Nat}
  (hB : E0 1 m c (l.map sv) B) (hm : m = l.length) (hlen : l.length ≤ Bd) (hs : ∀ s ∈ l, s.length ≤ Bd)
  (h : ∀ I' oa c', HLe I I' → B6 m c B = .slice oa l.length c' → Strs I' oa l c' → Cz P f n I₀ Q ops S fuel listed k E I' L) : Cz P f n I₀ Q ops S fuel listed k E I (Ch e (l.map sv) B ++ L) := by
 cases B with
 | none =>
  obtain ⟨h1, h2, h3⟩ := hB; obtain rfl : l = [] := by simpa using h1
  exact h I .none 0 (.refl _) rfl ⟨by simp, by simp, by simp, hlen, hs⟩
 | some p =>
  obtain ⟨b, sp⟩ := p; refine Ee fun hle => h _ (some ⟨b, 0, .none⟩) c hle (by rw [← hm]; rfl) ⟨fun y hy => ?_, by simp, by have := hB.2.1; omega, hlen, hs⟩
  cases hy; exact Ba
theorem Ex.binds_room1 {bd : List As} {e : Ex} {i : Nat} (h : bd.length + 2 ≤ 4294967296) : 0 + bd.length + (e.binds i).length ≤ 4294967296 := by
 have := e.binds_le i; omega
theorem Hp (I : Heap) (oa : Option Addr) : Strs I oa [] 0 := ⟨fun x _ => .inl rfl, fun _ => rfl, by simp, by simp [Bd], by simp⟩
theorem G2 {I : Heap} {e : Ex} {cs : List Value} (h : Rep I e.tree cs) (hok : e.ok = true) (hb : e.bare = false) (i : Nat) (hi : i ∈ De e.tree) (L : Bl) : Fun Tryz.prog 184 [.agg cs.toArray, .int .i64 (i : Nat)] I L (SS (e.binds i) L) := by
 obtain ⟨oa, c, oaf, cf, rfl, hf⟩ := h.at'
 have hg := (Ex.tree_good hok).1
 have h0 : 0 < e.tree.parts.length := by
  rw [Ex.bare_parts] at hb
  have : e.tree.parts ≠ [] := by intro hh; rw [hh] at hb; cases hb
  exact List.length_pos_iff.2 this
 have hhd := Mh h0
 refine Ao Ad ?_; refine Se rfl ?_; refine Cg rfl rfl .free rfl ?_; intro b2; refine Oa rfl (Ab (Ah (Ar (Se rfl (Oh rfl ?_))))); refine A9 rfl .free rfl ?_
 first | refine Bh rfl rfl 0 rfl .free rfl ?_ | refine Bi rfl rfl 0 rfl .free rfl ?_
 refine Be rfl .free rfl ?_; refine Gf rfl .free rfl ?_; refine Od rfl rfl rfl (Om rfl ?_)
 apply C0 12 15 rfl
 ·intro g1_7 hk
  try simp only [nb] at g1_7
  refine Ow rfl ?_; refine Dj rfl rfl rfl (.met rfl rfl) rfl ?_; refine Ot rfl rfl ?_
  exact Aw 2 rfl rfl hk
 ·intro _ hk; refine A0 2 rfl ?_; refine Of rfl rfl ?_
  exact Aw 2 rfl rfl hk
 refine Oa rfl (Ab ?_); refine Az rfl ?_ ?_
 ·intro c0
  try simp only [nb] at c0
  obtain ⟨x, a, b, rfl⟩ := Ex.of_let (hhd.trans c0.1); obtain rfl : i = 3 := by omega
  simp only [Ex.ok, Bool.and_eq_true] at hok
  have hlen : (Ex.lt x a b).tree.parts.length = 4 := rfl
  have hx : ((Ex.lt x a b).tree.pt 1).atom.length ≤ Bd := Ex.name_len hok.1.1
  refine Se rfl (Oh rfl ?_); refine A9 rfl .free rfl ?_
  first | refine Bh rfl rfl 1 rfl .free rfl ?_ | refine Bi rfl rfl 1 rfl .free rfl ?_
  refine Be rfl .free rfl ?_; refine Gf rfl .free rfl ?_; refine Ol rfl rfl ?_; intro b21; refine Oa rfl (Ab ?_); refine Bo ?_; intro hz; refine Al (.tmp rfl .nil) ?_
  exact ⟨_, L, hz, Cb, some ⟨b21, 0, none⟩, 1, rfl, Hy hz hx, rfl⟩
 intro c0
 try simp only [nb] at c0
 refine Se rfl (Oh rfl ?_); refine A9 rfl .free rfl ?_
 first | refine Bh rfl rfl 0 rfl .free rfl ?_ | refine Bi rfl rfl 0 rfl .free rfl ?_
 refine Be rfl .free rfl ?_; refine Gf rfl .free rfl ?_; refine Od rfl rfl rfl (Oa rfl (Ab ?_)); refine Az rfl ?_ ?_
 ·intro c1
  try simp only [nb] at c1
  obtain ⟨f, x, s, t, b, rfl⟩ := Ex.of_fun (hhd.trans c1); obtain rfl : i = 5 := by rw [Nx] at hi; simpa using hi
  simp only [Ex.ok, Bool.and_eq_true] at hok
  have hlen : (Ex.fn f x s t b).tree.parts.length = 6 := rfl
  have hx1 : ((Ex.fn f x s t b).tree.pt 1).atom.length ≤ Bd := Ex.name_len hok.1.1.1.1.1
  have hx2 : ((Ex.fn f x s t b).tree.pt 2).atom.length ≤ Bd := Ex.name_len hok.1.1.1.1.2
  refine Ah ?_; refine Fj 12 rfl rfl ?_; refine Da 0 rfl (Ap rfl) ?_; refine Dt 1 [12] rfl (Bx rfl) ?_
  first | refine Da 2 rfl (Bp rfl rfl 1 rfl) ?_ | refine Da 2 rfl (Bq rfl rfl 1 rfl) ?_
  refine Da 3 rfl (Bn rfl) ?_; refine Dt 4 [12] rfl (L6 rfl) ?_; refine Da 5 rfl (Ap rfl) ?_; refine Dt 6 [12] rfl (Bx rfl) ?_
  first | refine Da 7 rfl (Bp rfl rfl 2 rfl) ?_ | refine Da 7 rfl (Bq rfl rfl 2 rfl) ?_
  refine Da 8 rfl (Bn rfl) ?_; refine Dt 9 [12] rfl (L6 rfl) ?_; refine Fz 10 rfl Af rfl rfl rfl Ae Ae Ae Ac Ac Ae .free rfl (.inr Bb) ?_; intro b39; refine Da 11 rfl (A2 rfl) ?_; refine Bg Af ?_; refine Bo ?_; intro hz; refine Al (.tmp rfl .nil) ?_
  exact ⟨_, L, hz, Cb, some ⟨b39, 0, none⟩, 2, rfl, Pf hz hx1 hx2, rfl⟩
 intro c1
 try simp only [nb] at c1
 refine Aj (Aq (Se rfl ?_)); refine Eh .free rfl ?_; intro b40; refine Oa rfl (Ab (Al (.tmp rfl .nil) ?_))
 have hbd : e.binds i = [] := by
  cases e with
  | lt x a b => exact if_neg fun hi => by rcases c0 with h | h; exact h rfl; omega
  | fn f x s t b => exact absurd rfl c1
  | _ => rfl
 exact ⟨I, L, .refl _, Cb, some ⟨b40, 0, none⟩, 0, by rw [hbd]; rfl, by rw [hbd]; exact Hp I _, rfl⟩

def LP (l : List As) (L : Bl) : Cx := fun v I' L' => ∃ B c, v = B6 l.length c B ∧ E0 1 l.length c (l.map sv) B ∧ L' = Ch 9 (l.map sv) B ++ L
theorem Ye {l : List As} {B : K8} {c : Nat} (hB : E0 1 l.length c (l.map sv) B) (hl : l.length ≤ Bd) (I : Heap) (p : Nat × Obj) (L : Bl) (s : As) :
  Fun Tryz.prog 170 [B6 l.length c B, .string (str s)] I (p :: (Ch 9 (l.map sv) B ++ L)) (Ed (.bool (decide (s ∈ l))) I (p :: (Ch 9 (l.map sv) B ++ L))) := by
 obtain ⟨oa, c', hbv, hrd⟩ := Aai (I := I) (L := L) (e := 9) hB rfl hl; rw [hbv]
 exact Yc (hrd.sub fun w h => h.drop) c' s
theorem Qa {l : List As} {s : As} (h : s ∉ l) : Dd l [s] = l ++ [s] := by simp [Dd, Gl, h]
theorem R0 {l : List As} {s : As} (h : s ∈ l) : Dd l [s] = l := by simp [Dd, Gl, h]
theorem Ir {l bd : List As} {e : Ex} {k n : Nat} (h : l.length + (e.size + k) ≤ n) : (Dd l (e.occ bd)).length + k ≤ n := by
 have := Hk l (e.occ bd); have := e.occ_len bd; omega
theorem S9 {l bd bd' : List As} {e e' : Ex} {k n : Nat} (h : l.length + (e.size + (e'.size + k)) ≤ n) : (Dd (Dd l (e.occ bd)) (e'.occ bd')).length + k ≤ n := Ir (Ir h)
theorem Aa1 : ∀ (n : Nat) {I : Heap} {e : Ex} {cs : List Value} (_ : SizeOf.sizeOf e < n) (_ : Rep I e.tree cs) (_ : e.ok = true) {bd : List As} {ob : Option Addr} {cb : Nat} (_ : Strs I ob bd cb) (_ : bd.length + 2 * e.size ≤ Bd)
   (l : List As) (B : K8) (c : Nat) (_ : l.length + e.size ≤ 4294967295) (_ : E0 1 l.length c (l.map sv) B) (L : Bl),
  Fun Tryz.prog 147 [.agg cs.toArray, .slice ob bd.length cb, B6 l.length c B] I (Ch 9 (l.map sv) B ++ L) (LP (Dd l (e.occ bd)) L) := by
 intro n
 induction n with
 | zero => intro I e cs h; omega
 | succ n ihn =>
  intro I e cs hlt h hok bd ob cb hbd hbl l B c hl hB L; obtain ⟨oa, cc, oaf, cf, rfl, hf⟩ := h.at'
  have ha := hf.alen
  have hlN : l.length ≤ Bd := by unfold Bd; omega
  unfold Bd at hbl
  refine Ao Ad ?_; refine Se rfl ?_; refine Cg rfl rfl .free rfl ?_; intro b3; refine Oa rfl (Ab (Ah (Se rfl (Oh rfl ?_)))); refine A9 rfl .free rfl ?_; refine Od rfl rfl rfl (Ab ?_); refine Az rfl ?_ ?_
  ·intro c0
   try simp only [nb] at c0
   have hb : e.bare = true := by
    cases hb : e.bare with
    | true => rfl
    | false => exact absurd ((Ex.atom_iff hok).2 hb) c0
   refine Ah (Se rfl (Oh rfl ?_)); refine A9 rfl .free rfl ?_; refine Ca rfl (Nu e.tree.atom ha _ _) ?_; rintro _ _ _ _ ⟨rfl, rfl, rfl⟩; refine Dv rfl .free rfl ?_; refine Om rfl ?_
   apply Gk 17 22 rfl
   ·intro g2_5 hk
    try simp only [nb] at g2_5
    refine Ow rfl ?_; refine Ay rfl (.met rfl rfl) rfl ?_; refine A9 rfl (.met rfl rfl) rfl ?_; refine C1 rfl (.met rfl rfl) rfl (Yc (hbd.rd _) cb e.tree.atom) ?_; rintro _ _ _ _ ⟨rfl, rfl, rfl⟩; refine Of rfl rfl ?_
    exact Aw 4 rfl rfl hk
   ·intro _ hk; refine A0 4 rfl ?_; refine Ot rfl rfl ?_
    exact Aw 4 rfl rfl hk
   refine Om rfl ?_
   apply Gk 23 28 rfl
   ·intro g2_11 hk
    try simp only [nb] at g2_11
    refine Ow rfl ?_; refine Ay rfl (.met rfl rfl) rfl ?_; refine A9 rfl (.met rfl rfl) rfl ?_; refine C1 rfl (.met rfl rfl) rfl (Ye hB hlN _ _ _ _) ?_; rintro _ _ _ _ ⟨rfl, rfl, rfl⟩; refine Of rfl rfl ?_
    exact Aw 4 rfl rfl hk
   ·intro _ hk; refine A0 4 rfl ?_; refine Ot rfl rfl ?_
    exact Aw 4 rfl rfl hk
   refine Ab ?_; refine Az rfl ?_ ?_
   ·intro c1
    try simp only [nb] at c1
    refine Se rfl (Om rfl (Oa rfl (Ab (Al (.tmp rfl .nil) ?_))))
    have hoc : Dd l (e.occ bd) = l := by
     cases e with
     | num s => rfl
     | name s =>
      have c1 : (Bu s = false ∨ s ∈ bd) ∨ s ∈ l := c1
      rcases c1 with (h | h) | h
      ·rw [show Bu s = true from hok] at h; cases h
      ·simp only [Ex.occ]; rw [if_pos h]; rfl
      ·simp only [Ex.occ]
       split
       ·rfl
       ·exact R0 h
     | _ => cases hb
    exact ⟨I, _, .refl _, fun w h => h.drop, B, c, by rw [hoc]; rfl, by rw [hoc]; exact hB, by rw [hoc]⟩
   intro c1
   try simp only [nb] at c1
   refine Aj (Se rfl (Om rfl (Oh rfl ?_))); refine A9 rfl .free rfl ?_; refine Ol rfl rfl ?_; intro b33; refine D7 (B := B) (xs := l.map sv) (ys := [sv e.tree.atom]) (m := l.length) (c := c) Bk Ae rfl rfl hB (fun _ h => h.u2) Ae (fun a ha => by cases ha; exact Cc (.head _) Ae) Ad Ae Ac Ac (by have := e.size_pos; omega) Ac .free rfl ?_; intro bb sp c2 hB'; refine Oa rfl (Ab (Al (.tmp rfl .nil) ?_))
   have hoc : Dd l (e.occ bd) = l ++ [e.tree.atom] := by
    cases e with
    | num s =>
     have h1 : Bu s = true := c1.1.1
     have h2 := G3 h1
     rw [show Bz s = true from hok] at h2; cases h2
    | name s =>
     have c1 : (Bu s = true ∧ ¬ s ∈ bd) ∧ ¬ s ∈ l := c1
     simp only [Ex.occ]; rw [if_neg c1.1.2]; exact Qa c1.2
    | _ => cases hb
   exact ⟨I, _, .refl _, Ms (L' := (bb, _) :: L), some (bb, sp), c2, by rw [hoc]; simp [C6, B6], by rw [hoc]; simpa using hB', by rw [hoc]; simp [Ch]⟩
  intro c0
  try simp only [nb] at c0
  have hb : e.bare = false := (Ex.atom_iff hok).1 Ev
  have hsh := e.shapes hb
  have h0 : 0 < e.tree.parts.length := by
   rw [Ex.bare_parts] at hb
   have : e.tree.parts ≠ [] := by intro hh; rw [hh] at hb; cases hb
   exact List.length_pos_iff.2 this
  have hhd := Mh h0
  have hok0 := hok
  have hle : HLe I I := .refl _
  refine Aj (Se rfl (Oh rfl ?_)); refine A9 rfl .free rfl ?_
  first | refine Bh rfl rfl 0 rfl .free rfl ?_ | refine Bi rfl rfl 0 rfl .free rfl ?_
  refine Be rfl .free rfl ?_; refine Gf rfl .free rfl ?_; refine Ca rfl (Vt (e.tree.pt 0).atom _ _) ?_; rw [← hhd]; rintro _ _ _ _ ⟨rfl, rfl, rfl⟩; refine Om rfl (Oe rfl rfl (Oe rfl rfl (Oa rfl (Oa rfl (Ab (Ah (Ah ?_)))))))
  rcases hsh with ⟨o, a, b, rfl⟩ | ⟨a, b, d, rfl⟩ | ⟨z, a, b, rfl⟩ | ⟨g, z, s, t, b, rfl⟩ | ⟨o, a, rfl⟩
  ·skip
   have hk : Ax (Ex.bin o a b).tree.head = (1, 3) := by cases o <;> rfl
   rw [hk]
   have hlen : (Ex.bin o a b).tree.parts.length = 3 := rfl
   have hki := Nw o a b
   simp only [Ex.bin.sizeOf_spec] at hlt
   simp only [Ex.size] at hbl hl
   simp only [Ex.ok, Bool.and_eq_true] at hok
   refine Am rfl (Om rfl (Oa rfl (Ab (Ar ?_)))); refine Ek ?_; refine Ah (Se rfl (Om rfl (Om rfl (Oc rfl rfl rfl (Ab ?_))))); refine B9 rfl A8 ?_; refine Aj (Ah (Ar ?_)); refine Th 15 rfl rfl ?_; refine Da 0 rfl (Ap rfl) ?_; refine Dt 1 [15] rfl (Bx rfl) ?_; refine Da 2 rfl (Ai rfl) ?_
   first | refine Da 3 rfl (Bp rfl rfl _ rfl) ?_ | refine Da 3 rfl (Bq rfl rfl _ rfl) ?_
   refine Dt 4 [15] rfl (Dz rfl) ?_; refine Da 6 rfl (Ai rfl) ?_; refine Dt 8 [15] rfl (D2 rfl) ?_; refine Da 9 rfl (Ai rfl) ?_; refine Da 12 rfl (Ai rfl) ?_; refine Io 5 rfl Af rfl .free rfl (.inr Bb) ?_; intro b55; refine C9 7 (B := some (b55, [])) (xs := []) (ys := bd.map sv) (m := 0) (c := 0) rfl Af rfl Bk Ae rfl rfl ⟨rfl, Nat.le_refl _, rfl⟩ (fun _ h => h) Ad hbd.reads hbd.none (D9 bd) Ac Aa Ac .free rfl (fun _ => .inr Bb) ?_; intro B1 c1' hB1; refine Dc 10 rfl rfl (G2 hf.rep hok0 hb _ (by rw [hki]; decide) _) ?_; rintro _ J1 _ e1 ⟨o1, k1, rfl, hs1, rfl⟩
   have hbd1 := hbd.mono e1
   refine Hx ?_; refine C9 11 (B := B1) (xs := bd.map sv) (ys := (Ex.binds _ _).map sv) (m := 0 + bd.length) (c := c1') rfl Af rfl Bk Ae rfl rfl hB1 (fun _ h => h) Ad hs1.reads hs1.none (D9 _) Ac (Ex.binds_room1 Aa) Ac .free rfl (fun _ => .inr Bb) ?_; intro B2 c2' hB2; rw [← List.map_append] at hB2 ⊢; refine Fd (l := bd ++ Ex.binds _ _) hB2 Ad Gx (hbd1.append hs1) ?_; intro J3 o3 k3 ez hbv hs3; refine I7 (t := 61) rfl hbv ?_
   have e4 := e1.trans ez
   have hf3 := hf.mono e4
   refine C4 (fun w h => h.u1) ?_; refine Dc 13 rfl rfl (ihn Aa (hf3.as 1 a.tree Aa rfl) hok.1 hs3 (Ex.binds_room Aa) _ _ _ Aa hB _) ?_; rintro _ J4 _ e5 ⟨B, c, rfl, hB, rfl⟩
   have e6 := e4.trans e5
   refine Hx ?_; refine C4 (fun w h => h.w1) ?_
   have hf := hf.mono e6
   have hbd := hbd.mono e6
   have hle := hle.trans e6
   refine Da 14 rfl (A2 rfl) ?_; refine Bg Af ?_; refine Aq (Am rfl (Om rfl ?_)); refine Or rfl rfl rfl ?_; refine Oa rfl (Ab ?_); refine B7 ?_; refine Ah (Se rfl (Om rfl (Om rfl (Oc rfl rfl rfl (Ab ?_))))); refine B9 rfl A8 ?_; refine Aj (Ah (Ar ?_)); refine Th 15 rfl rfl ?_; refine Da 0 rfl (Ap rfl) ?_; refine Dt 1 [15] rfl (Bx rfl) ?_; refine Da 2 rfl (Ai rfl) ?_
   first | refine Da 3 rfl (Bp rfl rfl _ rfl) ?_ | refine Da 3 rfl (Bq rfl rfl _ rfl) ?_
   refine Dt 4 [15] rfl (Dz rfl) ?_; refine Da 6 rfl (Ai rfl) ?_; refine Dt 8 [15] rfl (D2 rfl) ?_; refine Da 9 rfl (Ai rfl) ?_; refine Da 12 rfl (Ai rfl) ?_; refine Io 5 rfl Af rfl .free rfl (.inr Bb) ?_; intro b55; refine C9 7 (B := some (b55, [])) (xs := []) (ys := bd.map sv) (m := 0) (c := 0) rfl Af rfl Bk Ae rfl rfl ⟨rfl, Nat.le_refl _, rfl⟩ (fun _ h => h) Ad hbd.reads hbd.none (D9 bd) Ac Aa Ac .free rfl (fun _ => .inr Bb) ?_; intro B1 c1' hB1; refine Dc 10 rfl rfl (G2 hf.rep hok0 hb _ (by rw [hki]; decide) _) ?_; rintro _ J1 _ e1 ⟨o1, k1, rfl, hs1, rfl⟩
   have hbd1 := hbd.mono e1
   refine Hx ?_; refine C9 11 (B := B1) (xs := bd.map sv) (ys := (Ex.binds _ _).map sv) (m := 0 + bd.length) (c := c1') rfl Af rfl Bk Ae rfl rfl hB1 (fun _ h => h) Ad hs1.reads hs1.none (D9 _) Ac (Ex.binds_room1 Aa) Ac .free rfl (fun _ => .inr Bb) ?_; intro B2 c2' hB2; rw [← List.map_append] at hB2 ⊢; refine Fd (l := bd ++ Ex.binds _ _) hB2 Ad Gx (hbd1.append hs1) ?_; intro J3 o3 k3 ez hbv hs3; refine I7 (t := 61) rfl hbv ?_
   have e4 := e1.trans ez
   have hf3 := hf.mono e4
   refine C4 (fun w h => h.u1) ?_; refine Dc 13 rfl rfl (ihn Aa (hf3.as 2 b.tree Aa rfl) hok.2 hs3 (Ex.binds_room Aa) _ _ _ (Ir Aa) hB _) ?_; rintro _ J4 _ e5 ⟨B, c, rfl, hB, rfl⟩
   have e6 := e4.trans e5
   refine Hx ?_; refine C4 (fun w h => h.w1) ?_
   have hf := hf.mono e6
   have hbd := hbd.mono e6
   have hle := hle.trans e6
   refine Da 14 rfl (A2 rfl) ?_; refine Bg Af ?_; refine Aq (Am rfl (Om rfl ?_)); refine Or rfl rfl rfl ?_; refine Oa rfl (Ab ?_); refine B7 ?_; refine Ah (Se rfl (Om rfl (Om rfl (Oc rfl rfl rfl (Ab ?_))))); refine Dw rfl A8 ?_; refine Cd rfl ?_; refine Se rfl (Om rfl (Oa rfl (Ab (Al (.tmp rfl .nil) ?_))))
   exact ⟨_, _, hle, fun w h => h.drop, B, c, by simp [Ex.occ, Ex.binds, Cr, C6], by simpa [Ex.occ, Ex.binds, Cr] using hB, by simp [Ex.occ, Ex.binds, Cr]⟩
  ·skip
   have hk : Ax (Ex.ite a b d).tree.head = (1, 4) := rfl
   rw [hk]
   have hlen : (Ex.ite a b d).tree.parts.length = 4 := rfl
   have hki := Ny a b d
   simp only [Ex.ite.sizeOf_spec] at hlt
   simp only [Ex.size] at hbl hl
   simp only [Ex.ok, Bool.and_eq_true] at hok
   refine Am rfl (Om rfl (Oa rfl (Ab (Ar ?_)))); refine Ek ?_; refine Ah (Se rfl (Om rfl (Om rfl (Oc rfl rfl rfl (Ab ?_))))); refine B9 rfl A8 ?_; refine Aj (Ah (Ar ?_)); refine Th 15 rfl rfl ?_; refine Da 0 rfl (Ap rfl) ?_; refine Dt 1 [15] rfl (Bx rfl) ?_; refine Da 2 rfl (Ai rfl) ?_
   first | refine Da 3 rfl (Bp rfl rfl _ rfl) ?_ | refine Da 3 rfl (Bq rfl rfl _ rfl) ?_
   refine Dt 4 [15] rfl (Dz rfl) ?_; refine Da 6 rfl (Ai rfl) ?_; refine Dt 8 [15] rfl (D2 rfl) ?_; refine Da 9 rfl (Ai rfl) ?_; refine Da 12 rfl (Ai rfl) ?_; refine Io 5 rfl Af rfl .free rfl (.inr Bb) ?_; intro b55; refine C9 7 (B := some (b55, [])) (xs := []) (ys := bd.map sv) (m := 0) (c := 0) rfl Af rfl Bk Ae rfl rfl ⟨rfl, Nat.le_refl _, rfl⟩ (fun _ h => h) Ad hbd.reads hbd.none (D9 bd) Ac Aa Ac .free rfl (fun _ => .inr Bb) ?_; intro B1 c1' hB1; refine Dc 10 rfl rfl (G2 hf.rep hok0 hb _ (by rw [hki]; decide) _) ?_; rintro _ J1 _ e1 ⟨o1, k1, rfl, hs1, rfl⟩
   have hbd1 := hbd.mono e1
   refine Hx ?_; refine C9 11 (B := B1) (xs := bd.map sv) (ys := (Ex.binds _ _).map sv) (m := 0 + bd.length) (c := c1') rfl Af rfl Bk Ae rfl rfl hB1 (fun _ h => h) Ad hs1.reads hs1.none (D9 _) Ac (Ex.binds_room1 Aa) Ac .free rfl (fun _ => .inr Bb) ?_; intro B2 c2' hB2; rw [← List.map_append] at hB2 ⊢; refine Fd (l := bd ++ Ex.binds _ _) hB2 Ad Gx (hbd1.append hs1) ?_; intro J3 o3 k3 ez hbv hs3; refine I7 (t := 61) rfl hbv ?_
   have e4 := e1.trans ez
   have hf3 := hf.mono e4
   refine C4 (fun w h => h.u1) ?_; refine Dc 13 rfl rfl (ihn Aa (hf3.as 1 a.tree Aa rfl) hok.1.1 hs3 (Ex.binds_room Aa) _ _ _ Aa hB _) ?_; rintro _ J4 _ e5 ⟨B, c, rfl, hB, rfl⟩
   have e6 := e4.trans e5
   refine Hx ?_; refine C4 (fun w h => h.w1) ?_
   have hf := hf.mono e6
   have hbd := hbd.mono e6
   have hle := hle.trans e6
   refine Da 14 rfl (A2 rfl) ?_; refine Bg Af ?_; refine Aq (Am rfl (Om rfl ?_)); refine Or rfl rfl rfl ?_; refine Oa rfl (Ab ?_); refine B7 ?_; refine Ah (Se rfl (Om rfl (Om rfl (Oc rfl rfl rfl (Ab ?_))))); refine B9 rfl A8 ?_; refine Aj (Ah (Ar ?_)); refine Th 15 rfl rfl ?_; refine Da 0 rfl (Ap rfl) ?_; refine Dt 1 [15] rfl (Bx rfl) ?_; refine Da 2 rfl (Ai rfl) ?_
   first | refine Da 3 rfl (Bp rfl rfl _ rfl) ?_ | refine Da 3 rfl (Bq rfl rfl _ rfl) ?_
   refine Dt 4 [15] rfl (Dz rfl) ?_; refine Da 6 rfl (Ai rfl) ?_; refine Dt 8 [15] rfl (D2 rfl) ?_; refine Da 9 rfl (Ai rfl) ?_; refine Da 12 rfl (Ai rfl) ?_; refine Io 5 rfl Af rfl .free rfl (.inr Bb) ?_; intro b55; refine C9 7 (B := some (b55, [])) (xs := []) (ys := bd.map sv) (m := 0) (c := 0) rfl Af rfl Bk Ae rfl rfl ⟨rfl, Nat.le_refl _, rfl⟩ (fun _ h => h) Ad hbd.reads hbd.none (D9 bd) Ac Aa Ac .free rfl (fun _ => .inr Bb) ?_; intro B1 c1' hB1; refine Dc 10 rfl rfl (G2 hf.rep hok0 hb _ (by rw [hki]; decide) _) ?_; rintro _ J1 _ e1 ⟨o1, k1, rfl, hs1, rfl⟩
   have hbd1 := hbd.mono e1
   refine Hx ?_; refine C9 11 (B := B1) (xs := bd.map sv) (ys := (Ex.binds _ _).map sv) (m := 0 + bd.length) (c := c1') rfl Af rfl Bk Ae rfl rfl hB1 (fun _ h => h) Ad hs1.reads hs1.none (D9 _) Ac (Ex.binds_room1 Aa) Ac .free rfl (fun _ => .inr Bb) ?_; intro B2 c2' hB2; rw [← List.map_append] at hB2 ⊢; refine Fd (l := bd ++ Ex.binds _ _) hB2 Ad Gx (hbd1.append hs1) ?_; intro J3 o3 k3 ez hbv hs3; refine I7 (t := 61) rfl hbv ?_
   have e4 := e1.trans ez
   have hf3 := hf.mono e4
   refine C4 (fun w h => h.u1) ?_; refine Dc 13 rfl rfl (ihn Aa (hf3.as 2 b.tree Aa rfl) hok.1.2 hs3 (Ex.binds_room Aa) _ _ _ (Ir Aa) hB _) ?_; rintro _ J4 _ e5 ⟨B, c, rfl, hB, rfl⟩
   have e6 := e4.trans e5
   refine Hx ?_; refine C4 (fun w h => h.w1) ?_
   have hf := hf.mono e6
   have hbd := hbd.mono e6
   have hle := hle.trans e6
   refine Da 14 rfl (A2 rfl) ?_; refine Bg Af ?_; refine Aq (Am rfl (Om rfl ?_)); refine Or rfl rfl rfl ?_; refine Oa rfl (Ab ?_); refine B7 ?_; refine Ah (Se rfl (Om rfl (Om rfl (Oc rfl rfl rfl (Ab ?_))))); refine B9 rfl A8 ?_; refine Aj (Ah (Ar ?_)); refine Th 15 rfl rfl ?_; refine Da 0 rfl (Ap rfl) ?_; refine Dt 1 [15] rfl (Bx rfl) ?_; refine Da 2 rfl (Ai rfl) ?_
   first | refine Da 3 rfl (Bp rfl rfl _ rfl) ?_ | refine Da 3 rfl (Bq rfl rfl _ rfl) ?_
   refine Dt 4 [15] rfl (Dz rfl) ?_; refine Da 6 rfl (Ai rfl) ?_; refine Dt 8 [15] rfl (D2 rfl) ?_; refine Da 9 rfl (Ai rfl) ?_; refine Da 12 rfl (Ai rfl) ?_; refine Io 5 rfl Af rfl .free rfl (.inr Bb) ?_; intro b55; refine C9 7 (B := some (b55, [])) (xs := []) (ys := bd.map sv) (m := 0) (c := 0) rfl Af rfl Bk Ae rfl rfl ⟨rfl, Nat.le_refl _, rfl⟩ (fun _ h => h) Ad hbd.reads hbd.none (D9 bd) Ac Aa Ac .free rfl (fun _ => .inr Bb) ?_; intro B1 c1' hB1; refine Dc 10 rfl rfl (G2 hf.rep hok0 hb _ (by rw [hki]; decide) _) ?_; rintro _ J1 _ e1 ⟨o1, k1, rfl, hs1, rfl⟩
   have hbd1 := hbd.mono e1
   refine Hx ?_; refine C9 11 (B := B1) (xs := bd.map sv) (ys := (Ex.binds _ _).map sv) (m := 0 + bd.length) (c := c1') rfl Af rfl Bk Ae rfl rfl hB1 (fun _ h => h) Ad hs1.reads hs1.none (D9 _) Ac (Ex.binds_room1 Aa) Ac .free rfl (fun _ => .inr Bb) ?_; intro B2 c2' hB2; rw [← List.map_append] at hB2 ⊢; refine Fd (l := bd ++ Ex.binds _ _) hB2 Ad Gx (hbd1.append hs1) ?_; intro J3 o3 k3 ez hbv hs3; refine I7 (t := 61) rfl hbv ?_
   have e4 := e1.trans ez
   have hf3 := hf.mono e4
   refine C4 (fun w h => h.u1) ?_; refine Dc 13 rfl rfl (ihn Aa (hf3.as 3 d.tree Aa rfl) hok.2 hs3 (Ex.binds_room Aa) _ _ _ (S9 Aa) hB _) ?_; rintro _ J4 _ e5 ⟨B, c, rfl, hB, rfl⟩
   have e6 := e4.trans e5
   refine Hx ?_; refine C4 (fun w h => h.w1) ?_
   have hf := hf.mono e6
   have hbd := hbd.mono e6
   have hle := hle.trans e6
   refine Da 14 rfl (A2 rfl) ?_; refine Bg Af ?_; refine Aq (Am rfl (Om rfl ?_)); refine Or rfl rfl rfl ?_; refine Oa rfl (Ab ?_); refine B7 ?_; refine Ah (Se rfl (Om rfl (Om rfl (Oc rfl rfl rfl (Ab ?_))))); refine Dw rfl A8 ?_; refine Cd rfl ?_; refine Se rfl (Om rfl (Oa rfl (Ab (Al (.tmp rfl .nil) ?_))))
   exact ⟨_, _, hle, fun w h => h.drop, B, c, by simp [Ex.occ, Ex.binds, Cr, C6], by simpa [Ex.occ, Ex.binds, Cr] using hB, by simp [Ex.occ, Ex.binds, Cr]⟩
  ·skip
   have hk : Ax (Ex.lt z a b).tree.head = (2, 4) := rfl
   rw [hk]
   have hlen : (Ex.lt z a b).tree.parts.length = 4 := rfl
   have hki := Nz z a b
   simp only [Ex.lt.sizeOf_spec] at hlt
   simp only [Ex.size] at hbl hl
   simp only [Ex.ok, Bool.and_eq_true] at hok
   refine Am rfl (Om rfl (Oa rfl (Ab (Ar ?_)))); refine Ek ?_; refine Ah (Se rfl (Om rfl (Om rfl (Oc rfl rfl rfl (Ab ?_))))); refine B9 rfl A8 ?_; refine Aj (Ah (Ar ?_)); refine Th 15 rfl rfl ?_; refine Da 0 rfl (Ap rfl) ?_; refine Dt 1 [15] rfl (Bx rfl) ?_; refine Da 2 rfl (Ai rfl) ?_
   first | refine Da 3 rfl (Bp rfl rfl _ rfl) ?_ | refine Da 3 rfl (Bq rfl rfl _ rfl) ?_
   refine Dt 4 [15] rfl (Dz rfl) ?_; refine Da 6 rfl (Ai rfl) ?_; refine Dt 8 [15] rfl (D2 rfl) ?_; refine Da 9 rfl (Ai rfl) ?_; refine Da 12 rfl (Ai rfl) ?_; refine Io 5 rfl Af rfl .free rfl (.inr Bb) ?_; intro b55; refine C9 7 (B := some (b55, [])) (xs := []) (ys := bd.map sv) (m := 0) (c := 0) rfl Af rfl Bk Ae rfl rfl ⟨rfl, Nat.le_refl _, rfl⟩ (fun _ h => h) Ad hbd.reads hbd.none (D9 bd) Ac Aa Ac .free rfl (fun _ => .inr Bb) ?_; intro B1 c1' hB1; refine Dc 10 rfl rfl (G2 hf.rep hok0 hb _ (by rw [hki]; decide) _) ?_; rintro _ J1 _ e1 ⟨o1, k1, rfl, hs1, rfl⟩
   have hbd1 := hbd.mono e1
   refine Hx ?_; refine C9 11 (B := B1) (xs := bd.map sv) (ys := (Ex.binds _ _).map sv) (m := 0 + bd.length) (c := c1') rfl Af rfl Bk Ae rfl rfl hB1 (fun _ h => h) Ad hs1.reads hs1.none (D9 _) Ac (Ex.binds_room1 Aa) Ac .free rfl (fun _ => .inr Bb) ?_; intro B2 c2' hB2; rw [← List.map_append] at hB2 ⊢; refine Fd (l := bd ++ Ex.binds _ _) hB2 Ad Gx (hbd1.append hs1) ?_; intro J3 o3 k3 ez hbv hs3; refine I7 (t := 61) rfl hbv ?_
   have e4 := e1.trans ez
   have hf3 := hf.mono e4
   refine C4 (fun w h => h.u1) ?_; refine Dc 13 rfl rfl (ihn Aa (hf3.as 2 a.tree Aa rfl) hok.1.2 hs3 (Ex.binds_room Aa) _ _ _ Aa hB _) ?_; rintro _ J4 _ e5 ⟨B, c, rfl, hB, rfl⟩
   have e6 := e4.trans e5
   refine Hx ?_; refine C4 (fun w h => h.w1) ?_
   have hf := hf.mono e6
   have hbd := hbd.mono e6
   have hle := hle.trans e6
   refine Da 14 rfl (A2 rfl) ?_; refine Bg Af ?_; refine Aq (Am rfl (Om rfl ?_)); refine Or rfl rfl rfl ?_; refine Oa rfl (Ab ?_); refine B7 ?_; refine Ah (Se rfl (Om rfl (Om rfl (Oc rfl rfl rfl (Ab ?_))))); refine B9 rfl A8 ?_; refine Aj (Ah (Ar ?_)); refine Th 15 rfl rfl ?_; refine Da 0 rfl (Ap rfl) ?_; refine Dt 1 [15] rfl (Bx rfl) ?_; refine Da 2 rfl (Ai rfl) ?_
   first | refine Da 3 rfl (Bp rfl rfl _ rfl) ?_ | refine Da 3 rfl (Bq rfl rfl _ rfl) ?_
   refine Dt 4 [15] rfl (Dz rfl) ?_; refine Da 6 rfl (Ai rfl) ?_; refine Dt 8 [15] rfl (D2 rfl) ?_; refine Da 9 rfl (Ai rfl) ?_; refine Da 12 rfl (Ai rfl) ?_; refine Io 5 rfl Af rfl .free rfl (.inr Bb) ?_; intro b55; refine C9 7 (B := some (b55, [])) (xs := []) (ys := bd.map sv) (m := 0) (c := 0) rfl Af rfl Bk Ae rfl rfl ⟨rfl, Nat.le_refl _, rfl⟩ (fun _ h => h) Ad hbd.reads hbd.none (D9 bd) Ac Aa Ac .free rfl (fun _ => .inr Bb) ?_; intro B1 c1' hB1; refine Dc 10 rfl rfl (G2 hf.rep hok0 hb _ (by rw [hki]; decide) _) ?_; rintro _ J1 _ e1 ⟨o1, k1, rfl, hs1, rfl⟩
   have hbd1 := hbd.mono e1
   refine Hx ?_; refine C9 11 (B := B1) (xs := bd.map sv) (ys := (Ex.binds _ _).map sv) (m := 0 + bd.length) (c := c1') rfl Af rfl Bk Ae rfl rfl hB1 (fun _ h => h) Ad hs1.reads hs1.none (D9 _) Ac (Ex.binds_room1 Aa) Ac .free rfl (fun _ => .inr Bb) ?_; intro B2 c2' hB2; rw [← List.map_append] at hB2 ⊢; refine Fd (l := bd ++ Ex.binds _ _) hB2 Ad Gx (hbd1.append hs1) ?_; intro J3 o3 k3 ez hbv hs3; refine I7 (t := 61) rfl hbv ?_
   have e4 := e1.trans ez
   have hf3 := hf.mono e4
   refine C4 (fun w h => h.u1) ?_; refine Dc 13 rfl rfl (ihn Aa (hf3.as 3 b.tree Aa rfl) hok.2 hs3 (Ex.binds_room Aa) _ _ _ (Ir Aa) hB _) ?_; rintro _ J4 _ e5 ⟨B, c, rfl, hB, rfl⟩
   have e6 := e4.trans e5
   refine Hx ?_; refine C4 (fun w h => h.w1) ?_
   have hf := hf.mono e6
   have hbd := hbd.mono e6
   have hle := hle.trans e6
   refine Da 14 rfl (A2 rfl) ?_; refine Bg Af ?_; refine Aq (Am rfl (Om rfl ?_)); refine Or rfl rfl rfl ?_; refine Oa rfl (Ab ?_); refine B7 ?_; refine Ah (Se rfl (Om rfl (Om rfl (Oc rfl rfl rfl (Ab ?_))))); refine Dw rfl A8 ?_; refine Cd rfl ?_; refine Se rfl (Om rfl (Oa rfl (Ab (Al (.tmp rfl .nil) ?_))))
   exact ⟨_, _, hle, fun w h => h.drop, B, c, by simp [Ex.occ, Ex.binds, Cr, C6], by simpa [Ex.occ, Ex.binds, Cr] using hB, by simp [Ex.occ, Ex.binds, Cr]⟩
  ·skip
   have hk : Ax (Ex.fn g z s t b).tree.head = (5, 6) := rfl
   rw [hk]
   have hlen : (Ex.fn g z s t b).tree.parts.length = 6 := rfl
   have hki := Nx g z s t b
   simp only [Ex.fn.sizeOf_spec] at hlt
   simp only [Ex.size] at hbl hl
   simp only [Ex.ok, Bool.and_eq_true] at hok
   refine Am rfl (Om rfl (Oa rfl (Ab (Ar ?_)))); refine Ek ?_; refine Ah (Se rfl (Om rfl (Om rfl (Oc rfl rfl rfl (Ab ?_))))); refine B9 rfl A8 ?_; refine Aj (Ah (Ar ?_)); refine Th 15 rfl rfl ?_; refine Da 0 rfl (Ap rfl) ?_; refine Dt 1 [15] rfl (Bx rfl) ?_; refine Da 2 rfl (Ai rfl) ?_
   first | refine Da 3 rfl (Bp rfl rfl _ rfl) ?_ | refine Da 3 rfl (Bq rfl rfl _ rfl) ?_
   refine Dt 4 [15] rfl (Dz rfl) ?_; refine Da 6 rfl (Ai rfl) ?_; refine Dt 8 [15] rfl (D2 rfl) ?_; refine Da 9 rfl (Ai rfl) ?_; refine Da 12 rfl (Ai rfl) ?_; refine Io 5 rfl Af rfl .free rfl (.inr Bb) ?_; intro b55; refine C9 7 (B := some (b55, [])) (xs := []) (ys := bd.map sv) (m := 0) (c := 0) rfl Af rfl Bk Ae rfl rfl ⟨rfl, Nat.le_refl _, rfl⟩ (fun _ h => h) Ad hbd.reads hbd.none (D9 bd) Ac Aa Ac .free rfl (fun _ => .inr Bb) ?_; intro B1 c1' hB1; refine Dc 10 rfl rfl (G2 hf.rep hok0 hb _ (by rw [hki]; decide) _) ?_; rintro _ J1 _ e1 ⟨o1, k1, rfl, hs1, rfl⟩
   have hbd1 := hbd.mono e1
   refine Hx ?_; refine C9 11 (B := B1) (xs := bd.map sv) (ys := (Ex.binds _ _).map sv) (m := 0 + bd.length) (c := c1') rfl Af rfl Bk Ae rfl rfl hB1 (fun _ h => h) Ad hs1.reads hs1.none (D9 _) Ac (Ex.binds_room1 Aa) Ac .free rfl (fun _ => .inr Bb) ?_; intro B2 c2' hB2; rw [← List.map_append] at hB2 ⊢; refine Fd (l := bd ++ Ex.binds _ _) hB2 Ad Gx (hbd1.append hs1) ?_; intro J3 o3 k3 ez hbv hs3; refine I7 (t := 61) rfl hbv ?_
   have e4 := e1.trans ez
   have hf3 := hf.mono e4
   refine C4 (fun w h => h.u1) ?_; refine Dc 13 rfl rfl (ihn Aa (hf3.as 5 b.tree Aa rfl) hok.2 hs3 (Ex.binds_room Aa) _ _ _ Aa hB _) ?_; rintro _ J4 _ e5 ⟨B, c, rfl, hB, rfl⟩
   have e6 := e4.trans e5
   refine Hx ?_; refine C4 (fun w h => h.w1) ?_
   have hf := hf.mono e6
   have hbd := hbd.mono e6
   have hle := hle.trans e6
   refine Da 14 rfl (A2 rfl) ?_; refine Bg Af ?_; refine Aq (Am rfl (Om rfl ?_)); refine Or rfl rfl rfl ?_; refine Oa rfl (Ab ?_); refine B7 ?_; refine Ah (Se rfl (Om rfl (Om rfl (Oc rfl rfl rfl (Ab ?_))))); refine Dw rfl A8 ?_; refine Cd rfl ?_; refine Se rfl (Om rfl (Oa rfl (Ab (Al (.tmp rfl .nil) ?_))))
   exact ⟨_, _, hle, fun w h => h.drop, B, c, by simp [Ex.occ, Ex.binds, Cr, C6], by simpa [Ex.occ, Ex.binds, Cr] using hB, by simp [Ex.occ, Ex.binds, Cr]⟩
  ·skip
   have hk : Ax (Ex.un o a).tree.head = (1, 2) := by cases o <;> rfl
   rw [hk]
   have hlen : (Ex.un o a).tree.parts.length = 2 := rfl
   have hki := P3 o a
   simp only [Ex.un.sizeOf_spec] at hlt
   simp only [Ex.size] at hbl hl
   simp only [Ex.ok] at hok
   refine Am rfl (Om rfl (Oa rfl (Ab (Ar ?_)))); refine Ek ?_; refine Ah (Se rfl (Om rfl (Om rfl (Oc rfl rfl rfl (Ab ?_))))); refine B9 rfl A8 ?_; refine Aj (Ah (Ar ?_)); refine Th 15 rfl rfl ?_; refine Da 0 rfl (Ap rfl) ?_; refine Dt 1 [15] rfl (Bx rfl) ?_; refine Da 2 rfl (Ai rfl) ?_
   first | refine Da 3 rfl (Bp rfl rfl _ rfl) ?_ | refine Da 3 rfl (Bq rfl rfl _ rfl) ?_
   refine Dt 4 [15] rfl (Dz rfl) ?_; refine Da 6 rfl (Ai rfl) ?_; refine Dt 8 [15] rfl (D2 rfl) ?_; refine Da 9 rfl (Ai rfl) ?_; refine Da 12 rfl (Ai rfl) ?_; refine Io 5 rfl Af rfl .free rfl (.inr Bb) ?_; intro b55; refine C9 7 (B := some (b55, [])) (xs := []) (ys := bd.map sv) (m := 0) (c := 0) rfl Af rfl Bk Ae rfl rfl ⟨rfl, Nat.le_refl _, rfl⟩ (fun _ h => h) Ad hbd.reads hbd.none (D9 bd) Ac Aa Ac .free rfl (fun _ => .inr Bb) ?_; intro B1 c1' hB1; refine Dc 10 rfl rfl (G2 hf.rep hok0 hb _ (by rw [hki]; decide) _) ?_; rintro _ J1 _ e1 ⟨o1, k1, rfl, hs1, rfl⟩
   have hbd1 := hbd.mono e1
   refine Hx ?_; refine C9 11 (B := B1) (xs := bd.map sv) (ys := (Ex.binds _ _).map sv) (m := 0 + bd.length) (c := c1') rfl Af rfl Bk Ae rfl rfl hB1 (fun _ h => h) Ad hs1.reads hs1.none (D9 _) Ac (Ex.binds_room1 Aa) Ac .free rfl (fun _ => .inr Bb) ?_; intro B2 c2' hB2; rw [← List.map_append] at hB2 ⊢; refine Fd (l := bd ++ Ex.binds _ _) hB2 Ad Gx (hbd1.append hs1) ?_; intro J3 o3 k3 ez hbv hs3; refine I7 (t := 61) rfl hbv ?_
   have e4 := e1.trans ez
   have hf3 := hf.mono e4
   refine C4 (fun w h => h.u1) ?_; refine Dc 13 rfl rfl (ihn Aa (hf3.as 1 a.tree Aa rfl) hok hs3 (Ex.binds_room Aa) _ _ _ Aa hB _) ?_; rintro _ J4 _ e5 ⟨B, c, rfl, hB, rfl⟩
   have e6 := e4.trans e5
   refine Hx ?_; refine C4 (fun w h => h.w1) ?_
   have hf := hf.mono e6
   have hbd := hbd.mono e6
   have hle := hle.trans e6
   refine Da 14 rfl (A2 rfl) ?_; refine Bg Af ?_; refine Aq (Am rfl (Om rfl ?_)); refine Or rfl rfl rfl ?_; refine Oa rfl (Ab ?_); refine B7 ?_; refine Ah (Se rfl (Om rfl (Om rfl (Oc rfl rfl rfl (Ab ?_))))); refine Dw rfl A8 ?_; refine Cd rfl ?_; refine Se rfl (Om rfl (Oa rfl (Ab (Al (.tmp rfl .nil) ?_))))
   exact ⟨_, _, hle, fun w h => h.drop, B, c, by simp [Ex.occ, Ex.binds, Cr, C6], by simpa [Ex.occ, Ex.binds, Cr] using hB, by simp [Ex.occ, Ex.binds, Cr]⟩

def If (s : As) : Option (List As) := (E2 s).map Ex.free
def Cu (s : As) : Option Ex := match E2 s with
 | some e => if e.closed = true then some e else none
 | none => none
def EF (o : Option (List As)) (L : Bl) : Cx := fun v I' L' => ∃ oa c, v = .tuple #[.slice oa (o.getD []).length c, .bool o.isSome] ∧ Strs I' oa (o.getD []) c ∧ L = L'
theorem Y7 {e : Ex} (h : e.fine = true) : e.size ≤ 120 := by
 simp only [Ex.fine, Bool.and_eq_true, decide_eq_true_eq] at h; exact h.1.2
theorem R9 {s : As} {e : Ex} (h : E2 s = some e) : e.size ≤ 120 := Y7 (Mc h).2.1
theorem Xc (s : As) (hs : s.length ≤ Kr) (I : Heap) (L : Bl) : Fun Tryz.prog 97 [.string (str s)] I L (EF (If s) L) := by
 refine Ao Ad ?_; refine Se rfl (Oa rfl (Oa rfl (Ab (Se rfl (Om rfl ?_))))); refine Ca rfl (M3 s hs _ _) ?_; rintro _ J _ hleJ ⟨t, cs, ok, rfl, hrep, rfl, hpf⟩; obtain ⟨oa, cc, vs, rfl, -⟩ := hrep.open; refine Om rfl (Oe rfl rfl (Oe rfl rfl ?_)); refine A5 .free rfl ?_; intro b4; refine By rfl rfl rfl rfl .free ?_; refine Oa rfl (Ab (Ah (Se rfl (Om rfl ?_)))); refine Dv rfl .free rfl ?_; refine Ab ?_; refine Az rfl ?_ ?_
 ·intro c0
  try simp only [nb] at c0
  refine Se rfl ?_; refine Eh .free rfl ?_; intro b13; refine Oa rfl (Oa rfl (Ab ?_)); refine Al (.tmp rfl (.tmp rfl .nil)) ?_
  exact ⟨J, L, hleJ, fun w h => h.drop.drop, some ⟨b13, 0, none⟩, 0, by rw [If, S7 hpf c0]; rfl, by rw [If, S7 hpf c0]; exact Hp _ _, rfl⟩
 intro c0
 try simp only [nb] at c0
 obtain ⟨e, he, rfl, hok, -⟩ := P1 hpf c0
 have hez := R9 he
 refine Aj (Se rfl ?_); refine Bj rfl .free rfl ?_; refine Eh .free rfl ?_; intro b15; refine Eh .free rfl ?_; intro b16; refine Fc (L' := Ch 9 (([] : List As).map sv) (some (b16, [])) ++ _) (fun w h => h) ?_; refine Ca rfl (Aa1 _ (Nat.lt_succ_self _) hrep hok (Hp _ _) Ib [] (some (b16, [])) 0 Dq ⟨rfl, Nat.le_refl _, rfl⟩ _) ?_; rintro _ J2 _ e2 ⟨B, c, rfl, hB, rfl⟩; refine Oa rfl (Oa rfl (Ab ?_))
 have hll := Hk [] (e.occ [])
 have hol := e.occ_len []
 simp only [List.length_nil, Nat.zero_add] at hll
 have hnm : ∀ z ∈ Dd [] (e.occ []), Bu z = true := fun z hz => Ex.occ_name hok z (by simpa [Jk] using hz)
 refine G6 hB rfl Cv (Q3 hnm) ?_; intro J3 oz cz ez hbv hst; refine K6 (t := 2) rfl hbv ?_; refine Al (.tmp rfl (.tmp rfl .nil)) ?_
 exact ⟨J3, L, (hleJ.trans e2).trans ez, Cb, oz, cz, by rw [If, he]; rfl, by rw [If, he]; exact hst, rfl⟩

theorem Mu (s : As) : (Cu s).isSome = ((If s).isSome && decide ((If s).getD [] = [])) := by
 unfold Cu If
 cases E2 s with
 | none => rfl
 | some e =>
  simp only [Option.map_some, Option.isSome_some, Option.getD_some, Bool.true_and]
  rw [← Ex.closed_free]
  cases e.closed <;> rfl
theorem Kn {s : As} {e : Ex} (h : Cu s = some e) : E2 s = some e ∧ e.closed = true := by
 unfold Cu at h
 cases hx : E2 s with
 | none => rw [hx] at h; cases h
 | some e' =>
  rw [hx] at h
  simp only at h
  split at h
  ·rename_i hc; cases h; exact ⟨rfl, hc⟩
  ·cases h
theorem Nt (s : As) (hs : s.length ≤ Kr) (I : Heap) (L : Bl) : Fun Tryz.prog 52 [.string (str s)] I L (Ed (.bool (Cu s).isSome) I L) := by
 refine Ao Ad ?_; refine Se rfl (Oa rfl (Ab (Se rfl (Om rfl ?_)))); refine Ca rfl (Xc s hs _ _) ?_; rintro _ J _ hleJ ⟨oa, c, rfl, hst, rfl⟩; refine Om rfl (Oe rfl rfl (Oe rfl rfl (Oa rfl (Oa rfl (Ab (Se rfl (Om rfl (Om rfl ?_))))))))
 apply C0 11 15 rfl
 ·intro g2_2 hk
  try simp only [nb] at g2_2
  refine Ow rfl ?_; refine Kf rfl (.met rfl rfl) rfl ?_; refine Dj rfl rfl rfl (.met rfl rfl) rfl ?_; refine Ot rfl rfl ?_
  exact Aw 3 rfl rfl hk
 ·intro _ hk; refine A0 3 rfl ?_; refine Of rfl rfl ?_
  exact Aw 3 rfl rfl hk
 refine Oa rfl (Ab (Al (.tmp rfl .nil) ?_)); refine Jq hleJ Cb ?_; rw [Mu]; refine congrArg Value.bool ?_; rw [Bool.eq_iff_iff]; simp
theorem Y5 {I : Heap} {s : As} {t : Tree} {cs : List Value} {ok : Bool} (h : Rep I t cs) (hpf : match E2 s with | some e => ok = true ∧ t = e.tree | none => ok = false) (hok : ok = true) (L : Bl) :
  Fun Tryz.prog 74 [.agg cs.toArray] I L (SS ((If s).getD []) L) := by
 obtain ⟨e, he, rfl, h1, _⟩ := P1 hpf hok
 have hez := R9 he
 rw [If, he]; exact Kz h h1 Aa L
theorem Tr (s : As) (hs : s.length ≤ Bd) (I : Heap) (L : Bl) : Fun Tryz.prog 41 [.string (str s)] I L (RX (Cu s) L) := by
 refine Ao Ad ?_; refine Se rfl ?_; refine A5 .free rfl ?_; intro b2; refine Oa rfl (Ab (Se rfl (Om rfl ?_))); refine Ca rfl (Qo s hs _ _) ?_; rintro _ J _ hleJ ⟨t, cs, ok, rfl, hrep, rfl, hpf⟩; obtain ⟨oa, cc, vs, rfl, -⟩ := hrep.open; refine Om rfl (Oe rfl rfl (Oe rfl rfl ?_)); refine A5 .free rfl ?_; intro b4; refine By rfl rfl rfl rfl .free ?_; refine Oa rfl (Ab (Ah ?_)); refine Fj 10 rfl rfl ?_; refine Dt 0 [8] rfl (D2 rfl) ?_; refine Da 1 rfl (Ai rfl) ?_; refine Da 2 rfl (Ai rfl) ?_
 apply R2 13 18 rfl
 ·intro g2_3 hk
  try simp only [nb] at g2_3
  refine Hb 3 [4, 8] rfl Af rfl Bb (D2 rfl) (.met rfl rfl) rfl ?_; refine K9 4 rfl Af rfl rfl (.met rfl rfl) rfl (Y5 hrep hpf g2_3 _) ?_; rintro _ J2 _ e2 ⟨oz, cz, rfl, hst, rfl⟩; refine Hx ?_; refine Dm 5 rfl (F6 rfl) ?_; refine C4 (fun w h => Mem.le e2 h) ?_; refine Dm 6 rfl (Oo rfl rfl rfl) ?_; refine Da 7 rfl (Fh rfl rfl) ?_
  exact H7 4 rfl rfl hk
 ·intro _ hk; refine Ds 3 rfl rfl rfl ?_; refine Ds 4 rfl rfl rfl ?_; refine Ds 5 rfl rfl rfl ?_; refine Ds 6 rfl rfl rfl ?_; refine Da 7 rfl (Ez rfl rfl) ?_
  exact H7 4 rfl rfl hk
 refine Dx 8 rfl rfl rfl rfl ?_; refine Db 9 rfl (A2 rfl) ?_; refine Bg Af ?_; refine Al (.c rfl (.tmp rfl .nil)) ?_; refine ⟨J, L, hleJ, Cb, t, _, _, rfl, hrep, rfl, ?_⟩
 have hcf := Mu s
 cases hc : Cu s with
 | some e =>
  obtain ⟨he, hcl⟩ := Kn hc; rw [he] at hpf; rw [hc] at hcf
  simp only [Option.isSome_some, Bool.true_eq, Bool.and_eq_true, decide_eq_true_eq] at hcf
  exact ⟨by rw [hpf.1, hcf.2]; rfl, hpf.2⟩
 | none =>
  rw [hc] at hcf
  cases ok with
  | false => rfl
  | true =>
   obtain ⟨e, he, _⟩ := P1 hpf rfl
   simp only [If, he, Option.map_some, Option.isSome_some, Option.isSome_none, Option.getD_some, Bool.true_and] at hcf ⊢
   have h1 : e.free ≠ [] := by simpa using hcf.symm
   have h2 := List.length_pos_iff.2 h1
   exact decide_eq_false Aa
def smallL (m : List Ty) : Prop := ∀ t ∈ m, t.size ≤ 16
theorem smallL.add {m : List Ty} {t : Ty} (h : smallL m) (ht : t.size ≤ 16) : smallL (m ++ [t]) := by
 intro u hu
 rcases List.mem_append.1 hu with h1 | h1
 ·exact h u h1
 ·obtain rfl := List.mem_singleton.1 h1; exact ht
/- Texts of types; the empty text for none. -/
def tyT : Option Ty → As
 | some t => t.tree.text
 | none => []
theorem Ty.text_len {t : Ty} (h : t.size ≤ 16) : t.tree.text.length ≤ 80 := by
 have := t.tree_small; rw [Tree.text_len]; omega
def Aeb (o : Option Ty) : Prop := ∀ t, o = some t → t.size ≤ 16
def Afh (ks : List (Option Ty)) : Prop := ∀ o ∈ ks, Aeb o
def O0 (h : As) : List (Option Ty) → Option Ty
 | [some a] => (U2.of h).bind fun o => o.ty a
 | [some a, some b] => (B5.of h).bind fun o => o.ty a b
 | [some a, some b, some c] => if a = .i ∧ b = c then some b else none
 | _ => none
theorem Ex.ty_bin (o : B5) (a b : Ex) (l : List As) (m : List Ty) : (Ex.bin o a b).ty l m = O0 o.txt [a.ty l m, b.ty l m] := by
 simp only [Ex.ty, Ex.chk]
 cases a.chk l m with
 | error x => cases b.chk l m <;> rfl
 | ok s =>
  cases b.chk l m with
  | error y => rfl
  | ok t =>
   simp only [O0, B5.of_txt, Option.bind]
   cases o.ty s t <;> rfl
theorem Ex.ty_ite (a b c : Ex) (l : List As) (m : List Ty) : (Ex.ite a b c).ty l m = O0 G9 [a.ty l m, b.ty l m, c.ty l m] := by
 simp only [Ex.ty, Ex.chk]
 cases a.chk l m with
 | error x => cases b.chk l m <;> cases c.chk l m <;> rfl
 | ok s =>
  cases b.chk l m with
  | error y => cases c.chk l m <;> rfl
  | ok t =>
   cases c.chk l m with
   | error y => rfl
   | ok u =>
    simp only [O0]
    by_cases h : s = .i ∧ t = u <;> simp [h]
theorem Ex.ty_un (o : U2) (a : Ex) (l : List As) (m : List Ty) : (Ex.un o a).ty l m = O0 o.txt [a.ty l m] := by
 simp only [Ex.ty, Ex.chk]
 cases a.chk l m with
 | error x => rfl
 | ok s =>
  simp only [O0, U2.of_txt, Option.bind]
  cases o.ty s <;> rfl
theorem Ex.ty_lt (x : As) (a b : Ex) (l : List As) (m : List Ty) : (Ex.lt x a b).ty l m = match a.ty l m with | some s => b.ty (l ++ [x]) (m ++ [s]) | none => none := by
 simp only [Ex.ty, Ex.chk]
 cases a.chk l m <;> rfl
theorem Ex.ty_fn (f x : As) (s t : Ty) (b : Ex) (l : List As) (m : List Ty) : (Ex.fn f x s t b).ty l m = if (Ty.fn s t).size ≤ 16 ∧ b.ty (l ++ [f, x]) (m ++ [.fn s t, s]) = some t then some (.fn s t) else none := by
 simp only [Ex.ty, Ex.chk]
 by_cases h : (Ty.fn s t).size ≤ 16
 ·simp only [h, if_true, true_and]
  cases b.chk (l ++ [f, x]) (m ++ [.fn s t, s]) with
  | error x => simp
  | ok u => by_cases hu : u = t <;> simp [hu]
 ·simp [h]
theorem Ex.ty_name (s : As) (l : List As) (m : List Ty) : (Ex.name s).ty l m = F4 l m s := by
 simp only [Ex.ty, Ex.chk]
 cases F4 l m s <;> rfl
def Ln (s : As) : Option Ty := (I5 s).bind Tree.ty
theorem Ym {s : As} {t : Tree} (h : I5 s = some t) : ∃ a : Ty, Ln s = some a ∧ t = a.tree ∧ a.size ≤ 16 ∧ s = a.tree.text := by
 obtain ⟨a, rfl, h2, h3⟩ := Wp h
 exact ⟨a, by simp [Ln, h, a.tree_ty], rfl, h2, h3⟩
theorem S2 {s : As} {a : Ty} (h : Ln s = some a) : I5 s = some a.tree ∧ a.size ≤ 16 ∧ s = a.tree.text := by
 cases h1 : I5 s with
 | none => simp [Ln, h1] at h
 | some t =>
  obtain ⟨b, h2, rfl, h3, h4⟩ := Ym h1; rw [h] at h2; cases h2
  exact ⟨rfl, h3, h4⟩
def Aeq (m : List As) : List Ty := m.map fun s => (Ln s).getD .i
def Af0 (l m : List As) (s : As) : Option As := if Yg l m = true then (E2 s).bind fun e => (e.ty l (Aeq m)).map fun t => t.tree.text else none
def Ex.sub : Ex → List Ex
 | .num _ => []
 | .name _ => []
 | .bin _ a b => [a, b]
 | .ite a b c => [a, b, c]
 | .lt _ a b => [a, b]
 | .fn _ _ _ _ b => [b]
 | .un _ a => [a]
/- Environments of parts. -/
def Ex.inL (e : Ex) (i : Nat) (l : List As) : List As := match e with
 | .lt x _ _ => if i = 3 then l ++ [x] else l
 | .fn f x _ _ _ => l ++ [f] ++ [x]
 | _ => l
def Ex.inM (e : Ex) (i : Nat) (s0 : Ty) (m : List Ty) : List Ty := match e with
 | .lt _ _ _ => if i = 3 then m ++ [s0] else m
 | .fn _ _ s t _ => m ++ [.fn s t] ++ [s]
 | _ => m
def Ex.raw (e : Ex) (ts : List Ty) (l : List As) (m : List Ty) : Option Ty := match e, ts with
 | .num _, _ => some .i
 | .name s, _ => F4 l m s
 | .bin .pair _ _, [a, b] => some (.pr a b)
 | .bin o _ _, [a, b] => o.ty a b
 | .ite _ _ _, [a, b, c] => if a = .i ∧ b = c then some b else none
 | .lt _ _ _, [_, b] => some b
 | .fn _ _ s t _, [b] => if b = t then some (.fn s t) else none
 | .un o _, [a] => o.ty a
 | _, _ => none
def Ex.fin (e : Ex) (r : Option Ty) : Except Ex Ty := match r with
 | some t => if t.size ≤ 16 then .ok t else .error e
 | none => .error e
def Ex.run (e : Ex) (l : List As) (m : List Ty) : List Ex → List Nat → List Ty → Except Ex (List Ty)
 | a :: more, k :: ks, ts => match a.chk (e.inL k l) (e.inM k (ts.getD 0 .i) m) with
  | .ok t => e.run l m more ks (ts ++ [t])
  | .error x => .error x
 | _, _, ts => .ok ts
def Ex.runs (e : Ex) (l : List As) (m : List Ty) : Except Ex (List Ty) := e.run l m e.sub (De e.tree) []
def Ex.funOk : Ex → Bool
 | .fn _ _ s t _ => decide ((Ty.fn s t).size ≤ 16)
 | _ => true
end Go.Proofs.YtmfagaajiakgoaaGreatDoor
