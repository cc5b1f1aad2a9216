/- Names that stand free. No conditions. -/
import Derived.Test.YtmfagaajiakgoaaGreatDoorG6

namespace Go.Proofs.YtmfagaajiakgoaaGreatDoor
set_option maxRecDepth 100000
set_option linter.unusedVariables false
set_option linter.unusedSimpArgs false

def Ex.binds : Ex → Nat → List As
 | .lt x _ _, i => if i = 3 then [x] else []
 | .fn f x _ _ _, i => if i = 5 then [f, x] else []
 | _, _ => []
theorem Ex.shapes (e : Ex) (h : e.bare = false) : (∃ o a b, e = .bin o a b) ∨ (∃ a b c, e = .ite a b c) ∨ (∃ x a b, e = .lt x a b) ∨ (∃ f x s t b, e = .fn f x s t b) ∨ (∃ o a, e = .un o a) := by
 cases e with
 | num s => cases h
 | name s => cases h
 | bin o a b => exact .inl ⟨o, a, b, rfl⟩
 | ite a b c => exact .inr (.inl ⟨a, b, c, rfl⟩)
 | lt x a b => exact .inr (.inr (.inl ⟨x, a, b, rfl⟩))
 | fn f x s t b => exact .inr (.inr (.inr (.inl ⟨f, x, s, t, b, rfl⟩)))
 | un o a => exact .inr (.inr (.inr (.inr ⟨o, a, rfl⟩)))
def lbl : List As → Bool := fun l => l.all fun s => decide (s.length ≤ Bg)
theorem Jl {I : Heap} {b : Nat} {x : As} {e : TypeId} (hle : HLe I (I.set b (.cells [.string (str x)].toArray e (0, 0)))) (hx : x.length ≤ Bg) : Strs (I.set b (.cells [.string (str x)].toArray e (0, 0))) (some ⟨b, 0, none⟩) [x] 1 :=
 ⟨fun y hy => by cases hy; exact A9 (xs := [x].map sv) (ys := []), by simp, by simp, by simp [Bg], by simpa using hx⟩
theorem Vh {I : Heap} {b : Nat} {x y : As} {e : TypeId} (hle : HLe I (I.set b (.cells [.string (str x), .string (str y)].toArray e (0, 0)))) (hx : x.length ≤ Bg) (hy : y.length ≤ Bg) : Strs (I.set b (.cells [.string (str x), .string (str y)].toArray e (0, 0))) (some ⟨b, 0, none⟩) [x, y] 2 :=
 ⟨fun z hz => by cases hz; exact A9 (xs := [x, y].map sv) (ys := []), by simp, by simp, by simp [Bg], by simpa using ⟨hx, hy⟩⟩
theorem P3 (I : Heap) : Strs I none [] 0 := ⟨by simp, by simp, by simp, by simp [Bg], by simp⟩
theorem Ex.name_len {x : As} (h : B0 x = true) : x.length ≤ Bg := by have := Jf h; unfold Bg; omega

theorem Ct {I : Heap} {e : Ex} {cs : List Value} (h : Rep I e.tree cs) (hok : e.ok = true) (i : Nat) (L : Bj) : Fun Tryz.prog 133 [.agg cs.toArray, .int .i64 (i : Nat)] I L (SS (e.binds i) L) := by
 obtain ⟨oa, c, oaf, cf, rfl, hf⟩ := h.at'; refine Ao Ae ?_; refine Se rfl ?_; refine Cm rfl rfl .free rfl ?_; intro b2; refine Oa rfl (Ab (Ah (Aq (Se rfl ?_)))); refine Az rfl .free rfl ?_; refine Ca rfl (Bl hf.rep _) ?_; rintro _ _ _ _ ⟨rfl, rfl, rfl⟩; refine Od rfl rfl rfl (Om rfl ?_)
 apply Fr 9 12 rfl
 ·intro g1_4 hk
  try simp only [nb] at g1_4
  refine Ow rfl ?_; refine D8 rfl rfl rfl (.met rfl rfl) rfl ?_; refine Ot rfl rfl ?_
  exact Bb 2 rfl rfl hk
 ·intro _ hk; refine Br 2 rfl ?_; refine Of rfl rfl ?_
  exact Bb 2 rfl rfl hk
 refine Oa rfl (Ab ?_); refine A6 rfl ?_ ?_
 ·intro c0
  try simp only [nb] at c0
  obtain ⟨x, a, b, rfl⟩ := Ex.of_let c0.1; obtain rfl : i = 3 := by omega
  simp only [Ex.ok, Bool.and_eq_true] at hok
  have hlen : (Ex.lt x a b).tree.parts.length = 4 := rfl
  have hx : ((Ex.lt x a b).tree.pt 1).atom.length ≤ Bg := Ex.name_len hok.1.1
  refine Se rfl (Oh rfl ?_); refine Bv rfl .free rfl ?_
  first | refine Bs rfl rfl 1 rfl .free rfl ?_ | refine Bt rfl rfl 1 rfl .free rfl ?_
  refine Bh rfl .free rfl ?_; refine Gj rfl .free rfl ?_; refine Ol rfl rfl ?_; intro b18; refine Oa rfl (Ab ?_); refine Bu ?_; intro hz; refine Am (.tmp rfl .nil) ?_
  exact ⟨_, L, hz, Cl, some ⟨b18, 0, none⟩, 1, rfl, Jl hz hx, rfl⟩
 intro c0
 try simp only [nb] at c0
 refine Se rfl ?_; refine Az rfl .free rfl ?_; refine Ca rfl (Bl hf.rep _) ?_; rintro _ _ _ _ ⟨rfl, rfl, rfl⟩; refine Od rfl rfl rfl (Om rfl ?_)
 apply Fr 23 26 rfl
 ·intro g3_4 hk
  try simp only [nb] at g3_4
  refine Ow rfl ?_; refine D8 rfl rfl rfl (.met rfl rfl) rfl ?_; refine Ot rfl rfl ?_
  exact Bb 2 rfl rfl hk
 ·intro _ hk; refine Br 2 rfl ?_; refine Of rfl rfl ?_
  exact Bb 2 rfl rfl hk
 refine Oa rfl (Ab ?_); refine A6 rfl ?_ ?_
 ·intro c1
  try simp only [nb] at c1
  obtain ⟨f, x, s, t, b, rfl⟩ := Ex.of_fun c1.1; obtain rfl : i = 5 := by omega
  simp only [Ex.ok, Bool.and_eq_true] at hok
  have hlen : (Ex.fn f x s t b).tree.parts.length = 6 := rfl
  have hx1 : ((Ex.fn f x s t b).tree.pt 1).atom.length ≤ Bg := Ex.name_len hok.1.1.1.1.1
  have hx2 : ((Ex.fn f x s t b).tree.pt 2).atom.length ≤ Bg := Ex.name_len hok.1.1.1.1.2
  refine Ah ?_; refine Fh 12 rfl rfl ?_; refine Da 0 rfl (Aj rfl) ?_; refine Dt 1 [12] rfl (Bo rfl) ?_
  first | refine Da 2 rfl (Bc rfl rfl 1 rfl) ?_ | refine Da 2 rfl (Bd rfl rfl 1 rfl) ?_
  refine Da 3 rfl (A4 rfl) ?_; refine Dt 4 [12] rfl (Kb rfl) ?_; refine Da 5 rfl (Aj rfl) ?_; refine Dt 6 [12] rfl (Bo rfl) ?_
  first | refine Da 7 rfl (Bc rfl rfl 2 rfl) ?_ | refine Da 7 rfl (Bd rfl rfl 2 rfl) ?_
  refine Da 8 rfl (A4 rfl) ?_; refine Dt 9 [12] rfl (Kb rfl) ?_; refine Fg 10 rfl Af rfl rfl rfl Ac Ac Ac Ad Ad Ac .free rfl (.inr Au) ?_; intro b37; refine Da 11 rfl (Bk rfl) ?_; refine A5 Af ?_; refine Bu ?_; intro hz; refine Am (.tmp rfl .nil) ?_
  exact ⟨_, L, hz, Cl, some ⟨b37, 0, none⟩, 2, rfl, Vh hz hx1 hx2, rfl⟩
 intro c1
 try simp only [nb] at c1
 refine Ak (Ap (Se rfl (Oa rfl (Ab (Am (.tmp rfl .nil) ?_)))))
 have hb : e.binds i = [] := by
  cases e with
  | lt x a b => exact if_neg fun hi => by rcases c0 with h | h; exact h rfl; omega
  | fn f x s t b => exact if_neg fun hi => by rcases c1 with h | h; exact h rfl; omega
  | _ => rfl
 exact ⟨I, L, .refl _, Cl, none, 0, by rw [hb]; rfl, by rw [hb]; exact P3 I, rfl⟩

theorem Ex.binds_le (e : Ex) (i : Nat) : (e.binds i).length ≤ 2 := by
 cases e with
 | lt x a b => simp only [Ex.binds]; split <;> simp
 | fn f x s t b => simp only [Ex.binds]; split <;> simp
 | _ => simp [Ex.binds]
theorem Ex.binds_room {bd : List As} {e : Ex} {i k : Nat} (h : bd.length + 2 + k ≤ 4294967296) : (bd ++ e.binds i).length + k ≤ Bg := by
 have := e.binds_le i; rw [List.length_append]; unfold Bg; omega
theorem Ex.binds_room0 {bd : List As} {e : Ex} {i : Nat} (h : bd.length + 2 ≤ 4294967296) : bd.length + (e.binds i).length ≤ Bg := by
 have := e.binds_le i; unfold Bg; omega
structure Acj (P : Program) (kf : FuncId) (cap : List Value) (X : Type) (own : X → Bj) (R : X → List As → Heap → Prop) : Prop where
 tell : ∀ x seen s I L, R x seen I → B0 s = true → seen.length < 4294967296 → Fun P kf (.string (str s) :: cap) I (own x ++ L) (fun v I' L' => v = .tuple #[] ∧ ∃ y, R y (seen ++ [s]) I' ∧ L' = own y ++ L)
 mono : ∀ x seen I I', HLe I I' → R x seen I → R x seen I'
theorem Mem.w1 {I : Heap} {a : Nat × Obj} {X L : Bj} {w : World} (h : Mem I (X ++ a :: L) w) : Mem I (a :: (X ++ L)) w := h.perm List.perm_middle
theorem Ex.size_pos (e : Ex) : 1 ≤ e.size := by cases e <;> simp [Ex.size] <;> omega
theorem Ex.occ_len : ∀ (e : Ex) (bd : List As), (e.occ bd).length ≤ e.size
 | .num s, bd => Nat.zero_le _
 | .name s, bd => by simp only [Ex.occ]; split <;> simp [Ex.size]
 | .bin o a b, bd => by have := a.occ_len bd; have := b.occ_len bd; simp [Ex.occ, Ex.size]; omega
 | .ite a b c, bd => by have := a.occ_len bd; have := b.occ_len bd; have := c.occ_len bd; simp [Ex.occ, Ex.size]; omega
 | .lt x a b, bd => by have := a.occ_len bd; have := b.occ_len (bd ++ [x]); simp [Ex.occ, Ex.size]; omega
 | .fn f x s t b, bd => by have := b.occ_len (bd ++ [f, x]); simp [Ex.occ, Ex.size]; omega
 | .un o a, bd => by have := a.occ_len bd; simp [Ex.occ, Ex.size]; omega
theorem Ex.occ_room {seen bd : List As} {e : Ex} {k n : Nat} (h : seen.length + (e.size + k) ≤ n) : (seen ++ e.occ bd).length + k ≤ n := by
 have := e.occ_len bd; rw [List.length_append]; omega
theorem Ex.occ_room2 {seen bd bd' : List As} {e e' : Ex} {k n : Nat} (h : seen.length + (e.size + (e'.size + k)) ≤ n) : (seen ++ e.occ bd ++ e'.occ bd').length + k ≤ n := Ex.occ_room (Ex.occ_room h)
def TP {X : Type} (own : X → Bj) (R : X → List As → Heap → Prop) (seen : List As) (L : Bj) : Cv := fun v I' L' => v = .tuple #[] ∧ ∃ y, R y seen I' ∧ L' = own y ++ L
theorem Xq          {kf : FuncId} {cap : List Value} {X : Type} {own : X → Bj } {R : X → List As  → Heap → Prop} {c0 : Code} {m0' : Nat} {rs0 : List ResultVar} [hfi : Bq   Tryz.prog kf c0 m0' rs0] (T : Acj    Tryz.prog kf cap X own R) :
    ∀ (n : Nat) {I : Heap} {e : Ex} {cs : List Value} (_ : SizeOf.sizeOf e < n) (_ : Rep I e.tree cs) (_ : e.ok = true) {bd : List As } {ob : Option Addr} {cb : Nat} (_ : Strs I ob bd cb) (_ : bd.length + 2 * e.size ≤ Bg  ) (x : X) (seen : List As ) (_ : seen.length + e.size ≤ 4294967296) (_ : R x seen I) (L : Bj ),
    Fun Tryz.prog 126 [.agg cs.toArray, .slice ob bd.length cb, .func (.func kf) #[] cap.toArray] I (own x ++ L) (TP own R (seen ++ e.occ bd) L) := by
  intro n
  induction n with
  | zero => intro I e cs h; omega
  | succ n ihn =>
    intro I e cs hlt h hok bd ob cb hbd hbl x seen hsl hx L
    obtain ⟨oa, c, oaf, cf, rfl, hf⟩ := h.at'
    have ha := hf.alen
    unfold Bg   at hbl
    refine Ao        (by simp) ?_
    refine Se rfl ?_
    refine Cm    rfl rfl .free rfl ?_
    intro b3
    refine Ab     (Ah    (Se rfl ?_))
    refine Az    rfl .free rfl ?_
    refine Ca rfl (B8            hf.rep _) ?_
    rintro _ _ _ _ ⟨rfl, rfl, rfl⟩
    refine Ab     ?_
    refine A6     rfl ?_ ?_
    · intro c0
      try simp only [nb] at c0
      have hb : e.bare = true := by rw [Ex.bare_parts]; exact c0
      refine Ah    (Se rfl (Oh rfl ?_))
      refine Bv    rfl .free rfl ?_
      refine Ca rfl (Ko       e.tree.atom ha _ _) ?_
      rintro _ _ _ _ ⟨rfl, rfl, rfl⟩
      refine Om rfl ?_
      apply Fr    13 19 rfl
      · intro g2_4 hk
        try simp only [nb] at g2_4
        refine Ow rfl ?_
        refine Cj          rfl (.met rfl rfl) rfl ?_
        refine Bv    rfl (.met rfl rfl) rfl ?_
        refine Cx     rfl (.met rfl rfl) rfl (I6                (hbd.rd _) cb e.tree.atom) ?_
        rintro _ _ _ _ ⟨rfl, rfl, rfl⟩
        refine Ei    rfl (.met rfl rfl) rfl ?_
        refine Ot rfl rfl ?_
        exact Bb    5 rfl rfl hk
      · intro _ hk
        refine Br      5 rfl ?_
        refine Of rfl rfl ?_
        exact Bb    5 rfl rfl hk
      refine Ab     ?_
      refine A6     rfl ?_ ?_
      · intro c1
        try simp only [nb] at c1
        have hnm := c1.1
        have hem : e = .name e.tree.atom := by
          cases e with
          | num s => have h1 : Ci    s = true := hok; have h2 := Hy           hnm; rw [show (Ex.num s).tree.atom = s from rfl, h1] at h2; cases h2
          | name s => rfl
          | _ => cases hb
        have hoc : e.occ bd = [e.tree.atom] := by
          have h2 := c1.2
          rw [hem]; simp only [Ex.occ]
          rw [if_neg (by simpa using h2)]
          rfl
        refine Al      rfl (Om rfl (Oh rfl ?_))
        refine Bv    rfl .free rfl ?_
        refine C4    (fun w h => h.u1) ?_
        refine Aaq     rfl rfl .free rfl (T.tell x seen e.tree.atom _ _ hx hnm (by have := e.size_pos; omega)) ?_
        rintro _ J _ e1 ⟨rfl, y, hy, rfl⟩
        refine Ab     ?_
        refine Am    .nil ?_
        first
          | exact ⟨J, _, e1, fun w h => h.w1.drop, rfl, y, by rw [hoc]; exact hy, rfl⟩
          | (have hoc : e.occ bd = [] := by
               cases e with
               | num s => rfl
               | name s =>
                 simp only [Ex.occ]
                 rw [if_pos]
                 rcases c1 with h | h
                 · rw [show (Ex.name s).tree.atom = s from rfl, show B0     s = true from hok] at h; cases h
                 · exact h
               | _ => cases hb
             exact ⟨I, _, .refl _, fun w h => h.drop, rfl, x, by rw [hoc, List.append_nil]; exact hx, rfl⟩)
      intro c1
      try simp only [nb] at c1
      refine Ak     ?_
      refine Am    .nil ?_
      first
        | exact ⟨J, _, e1, fun w h => h.w1.drop, rfl, y, by rw [hoc]; exact hy, rfl⟩
        | (have hoc : e.occ bd = [] := by
             cases e with
             | num s => rfl
             | name s =>
               simp only [Ex.occ]
               rw [if_pos]
               rcases c1 with h | h
               · rw [show (Ex.name s).tree.atom = s from rfl, show B0     s = true from hok] at h; cases h
               · exact h
             | _ => cases hb
           exact ⟨I, _, .refl _, fun w h => h.drop, rfl, x, by rw [hoc, List.append_nil]; exact hx, rfl⟩)
    intro c0
    try simp only [nb] at c0
    have hb : e.bare = false := by rw [Ex.bare_parts]; exact c0
    have hsh := e.shapes hb
    refine Ak     (Ah    ?_)
    rcases hsh with ⟨o, a, b, rfl⟩ | ⟨a, b, d, rfl⟩ | ⟨z, a, b, rfl⟩ | ⟨g, z, s, t, b, rfl⟩ | ⟨o, a, rfl⟩
    · skip
      refine Al      rfl ?_
      refine Az    rfl .free rfl ?_
      refine Ca rfl (Du          hf.rep _) ?_
      rintro _ J _ e0 ⟨ok, ck, rfl, hk, rfl⟩
      have hf := hf.mono e0
      have hbd := hbd.mono e0
      have hx := T.mono _ _ _ _ e0 hx
      have hle := e0
      have hok0 := hok
      simp only [Ex.ok, Bool.and_eq_true] at hok
      rw [L5      ] at hk
      rw [L5      ]
      have hlen : (Ex.bin o a b).tree.parts.length = 3 := rfl
      have hkl : [1, 2].length = 2 := rfl
      simp only [Ex.bin.sizeOf_spec] at hlt
      simp only [Ex.size] at hbl hsl
      refine On rfl (Om rfl (Ab     (Aq      ?_)))
      refine Ee     ?_
      refine Se rfl (Oc rfl rfl rfl (Ab     (Ah    ?_)))
      refine B6      rfl (by first | rfl | decide | (simp; done) | omega) ?_
      refine Ak     (Ah    (Aq      (Se rfl ?_)))
      first | refine Bs    rfl rfl _ rfl .free rfl ?_ | refine Bt    rfl rfl _ rfl .free rfl ?_
      refine Er    rfl .free rfl ?_
      refine Oa rfl (Ab     ?_)
      refine Vz  13 rfl rfl ?_
      refine Da 0 rfl (Aj          rfl) ?_
      refine Dt 1 [13] rfl (Bo    rfl) ?_
      refine Da 2 rfl (Ai     rfl) ?_
      first | refine Da 3 rfl (Bc    rfl rfl _ rfl) ?_ | refine Da 3 rfl (Bd    rfl rfl _ rfl) ?_
      refine Dt 4 [13] rfl (C5    rfl) ?_
      refine Da 5 rfl (Ai     rfl) ?_
      refine Dt 6 [13] rfl (Ea    rfl) ?_
      refine Da 7 rfl (Ai     rfl) ?_
      refine Da 11 rfl (Ai     rfl) ?_
      refine Dc 8 rfl rfl (Ct           hf.rep hok0 _ _) ?_
      rintro _ J1 _ e1 ⟨o1, k1, rfl, hs1, rfl⟩
      refine Hx ?_
      refine Fg     9 rfl (by kernel_rfl) rfl rfl rfl (by rfl) (by rfl) (by rfl) (by decide) (by decide) (by rfl) .free rfl (.inr Au   ) ?_
      intro b40
      refine E0       ?_
      intro hz
      have e2 := e1.trans hz
      refine Dc 10 rfl rfl (Cf              (A9        (xs := [.slice ob bd.length cb, .slice o1 (List.length _) k1]) (ys := [])) (hbd.mono e2) (hs1.mono hz) (Ex.binds_room0 (by omega)) _) ?_
      rintro _ J3 _ e3 ⟨o3, k3, rfl, hs3, rfl⟩
      have e4 := e2.trans e3
      have hf3 := hf.mono e4
      have hx3 := T.mono _ _ _ _ e4 hx
      refine Hx ?_
      refine Bn    (fun w h => h.u1) ?_
      refine Dc 12 rfl rfl (ihn (by omega) (hf3.as 1 a.tree (by omega) rfl) hok.1 hs3 (Ex.binds_room (by omega)) _ _ (by omega) hx3 _) ?_
      rintro _ J4 _ e5 ⟨rfl, x, hx, rfl⟩
      have e6 := e4.trans e5
      refine Hx ?_
      refine Bn    (fun w h => h.w1) ?_
      have hf := hf.mono e6
      have hbd := hbd.mono e6
      have hle := hle.trans e6
      have hk := hk.mono e6
      refine A5     (by kernel_rfl) ?_
      refine Ap        (Al      rfl ?_)
      refine Or rfl rfl rfl ?_
      refine Om rfl (Ab     ?_)
      refine Bz      ?_
      refine Se rfl (Oc rfl rfl rfl (Ab     (Ah    ?_)))
      refine B6      rfl (by first | rfl | decide | (simp; done) | omega) ?_
      refine Ak     (Ah    (Aq      (Se rfl ?_)))
      first | refine Bs    rfl rfl _ rfl .free rfl ?_ | refine Bt    rfl rfl _ rfl .free rfl ?_
      refine Er    rfl .free rfl ?_
      refine Oa rfl (Ab     ?_)
      refine Vz  13 rfl rfl ?_
      refine Da 0 rfl (Aj          rfl) ?_
      refine Dt 1 [13] rfl (Bo    rfl) ?_
      refine Da 2 rfl (Ai     rfl) ?_
      first | refine Da 3 rfl (Bc    rfl rfl _ rfl) ?_ | refine Da 3 rfl (Bd    rfl rfl _ rfl) ?_
      refine Dt 4 [13] rfl (C5    rfl) ?_
      refine Da 5 rfl (Ai     rfl) ?_
      refine Dt 6 [13] rfl (Ea    rfl) ?_
      refine Da 7 rfl (Ai     rfl) ?_
      refine Da 11 rfl (Ai     rfl) ?_
      refine Dc 8 rfl rfl (Ct           hf.rep hok0 _ _) ?_
      rintro _ J1 _ e1 ⟨o1, k1, rfl, hs1, rfl⟩
      refine Hx ?_
      refine Fg     9 rfl (by kernel_rfl) rfl rfl rfl (by rfl) (by rfl) (by rfl) (by decide) (by decide) (by rfl) .free rfl (.inr Au   ) ?_
      intro b40
      refine E0       ?_
      intro hz
      have e2 := e1.trans hz
      refine Dc 10 rfl rfl (Cf              (A9        (xs := [.slice ob bd.length cb, .slice o1 (List.length _) k1]) (ys := [])) (hbd.mono e2) (hs1.mono hz) (Ex.binds_room0 (by omega)) _) ?_
      rintro _ J3 _ e3 ⟨o3, k3, rfl, hs3, rfl⟩
      have e4 := e2.trans e3
      have hf3 := hf.mono e4
      have hx3 := T.mono _ _ _ _ e4 hx
      refine Hx ?_
      refine Bn    (fun w h => h.u1) ?_
      refine Dc 12 rfl rfl (ihn (by omega) (hf3.as 2 b.tree (by omega) rfl) hok.2 hs3 (Ex.binds_room (by omega)) _ _ (Ex.occ_room (by omega)) hx3 _) ?_
      rintro _ J4 _ e5 ⟨rfl, x, hx, rfl⟩
      have e6 := e4.trans e5
      refine Hx ?_
      refine Bn    (fun w h => h.w1) ?_
      have hf := hf.mono e6
      have hbd := hbd.mono e6
      have hle := hle.trans e6
      have hk := hk.mono e6
      refine A5     (by kernel_rfl) ?_
      refine Ap        (Al      rfl ?_)
      refine Or rfl rfl rfl ?_
      refine Om rfl (Ab     ?_)
      refine Bz      ?_
      refine Se rfl (Oc rfl rfl rfl (Ab     (Ah    ?_)))
      refine De      rfl (by first | rfl | decide | (simp; done) | omega) ?_
      refine Cc     rfl ?_
      refine Ju    .nil ?_
      exact ⟨_, _, hle, fun w h => h.drop, rfl, x, by simpa [Ex.occ, Ex.binds] using hx, rfl⟩
    · skip
      refine Al      rfl ?_
      refine Az    rfl .free rfl ?_
      refine Ca rfl (Du          hf.rep _) ?_
      rintro _ J _ e0 ⟨ok, ck, rfl, hk, rfl⟩
      have hf := hf.mono e0
      have hbd := hbd.mono e0
      have hx := T.mono _ _ _ _ e0 hx
      have hle := e0
      have hok0 := hok
      simp only [Ex.ok, Bool.and_eq_true] at hok
      rw [L6      ] at hk
      rw [L6      ]
      have hlen : (Ex.ite a b d).tree.parts.length = 4 := rfl
      have hkl : [1, 2, 3].length = 3 := rfl
      simp only [Ex.ite.sizeOf_spec] at hlt
      simp only [Ex.size] at hbl hsl
      refine On rfl (Om rfl (Ab     (Aq      ?_)))
      refine Ee     ?_
      refine Se rfl (Oc rfl rfl rfl (Ab     (Ah    ?_)))
      refine B6      rfl (by first | rfl | decide | (simp; done) | omega) ?_
      refine Ak     (Ah    (Aq      (Se rfl ?_)))
      first | refine Bs    rfl rfl _ rfl .free rfl ?_ | refine Bt    rfl rfl _ rfl .free rfl ?_
      refine Er    rfl .free rfl ?_
      refine Oa rfl (Ab     ?_)
      refine Vz  13 rfl rfl ?_
      refine Da 0 rfl (Aj          rfl) ?_
      refine Dt 1 [13] rfl (Bo    rfl) ?_
      refine Da 2 rfl (Ai     rfl) ?_
      first | refine Da 3 rfl (Bc    rfl rfl _ rfl) ?_ | refine Da 3 rfl (Bd    rfl rfl _ rfl) ?_
      refine Dt 4 [13] rfl (C5    rfl) ?_
      refine Da 5 rfl (Ai     rfl) ?_
      refine Dt 6 [13] rfl (Ea    rfl) ?_
      refine Da 7 rfl (Ai     rfl) ?_
      refine Da 11 rfl (Ai     rfl) ?_
      refine Dc 8 rfl rfl (Ct           hf.rep hok0 _ _) ?_
      rintro _ J1 _ e1 ⟨o1, k1, rfl, hs1, rfl⟩
      refine Hx ?_
      refine Fg     9 rfl (by kernel_rfl) rfl rfl rfl (by rfl) (by rfl) (by rfl) (by decide) (by decide) (by rfl) .free rfl (.inr Au   ) ?_
      intro b40
      refine E0       ?_
      intro hz
      have e2 := e1.trans hz
      refine Dc 10 rfl rfl (Cf              (A9        (xs := [.slice ob bd.length cb, .slice o1 (List.length _) k1]) (ys := [])) (hbd.mono e2) (hs1.mono hz) (Ex.binds_room0 (by omega)) _) ?_
      rintro _ J3 _ e3 ⟨o3, k3, rfl, hs3, rfl⟩
      have e4 := e2.trans e3
      have hf3 := hf.mono e4
      have hx3 := T.mono _ _ _ _ e4 hx
      refine Hx ?_
      refine Bn    (fun w h => h.u1) ?_
      refine Dc 12 rfl rfl (ihn (by omega) (hf3.as 1 a.tree (by omega) rfl) hok.1.1 hs3 (Ex.binds_room (by omega)) _ _ (by omega) hx3 _) ?_
      rintro _ J4 _ e5 ⟨rfl, x, hx, rfl⟩
      have e6 := e4.trans e5
      refine Hx ?_
      refine Bn    (fun w h => h.w1) ?_
      have hf := hf.mono e6
      have hbd := hbd.mono e6
      have hle := hle.trans e6
      have hk := hk.mono e6
      refine A5     (by kernel_rfl) ?_
      refine Ap        (Al      rfl ?_)
      refine Or rfl rfl rfl ?_
      refine Om rfl (Ab     ?_)
      refine Bz      ?_
      refine Se rfl (Oc rfl rfl rfl (Ab     (Ah    ?_)))
      refine B6      rfl (by first | rfl | decide | (simp; done) | omega) ?_
      refine Ak     (Ah    (Aq      (Se rfl ?_)))
      first | refine Bs    rfl rfl _ rfl .free rfl ?_ | refine Bt    rfl rfl _ rfl .free rfl ?_
      refine Er    rfl .free rfl ?_
      refine Oa rfl (Ab     ?_)
      refine Vz  13 rfl rfl ?_
      refine Da 0 rfl (Aj          rfl) ?_
      refine Dt 1 [13] rfl (Bo    rfl) ?_
      refine Da 2 rfl (Ai     rfl) ?_
      first | refine Da 3 rfl (Bc    rfl rfl _ rfl) ?_ | refine Da 3 rfl (Bd    rfl rfl _ rfl) ?_
      refine Dt 4 [13] rfl (C5    rfl) ?_
      refine Da 5 rfl (Ai     rfl) ?_
      refine Dt 6 [13] rfl (Ea    rfl) ?_
      refine Da 7 rfl (Ai     rfl) ?_
      refine Da 11 rfl (Ai     rfl) ?_
      refine Dc 8 rfl rfl (Ct           hf.rep hok0 _ _) ?_
      rintro _ J1 _ e1 ⟨o1, k1, rfl, hs1, rfl⟩
      refine Hx ?_
      refine Fg     9 rfl (by kernel_rfl) rfl rfl rfl (by rfl) (by rfl) (by rfl) (by decide) (by decide) (by rfl) .free rfl (.inr Au   ) ?_
      intro b40
      refine E0       ?_
      intro hz
      have e2 := e1.trans hz
      refine Dc 10 rfl rfl (Cf              (A9        (xs := [.slice ob bd.length cb, .slice o1 (List.length _) k1]) (ys := [])) (hbd.mono e2) (hs1.mono hz) (Ex.binds_room0 (by omega)) _) ?_
      rintro _ J3 _ e3 ⟨o3, k3, rfl, hs3, rfl⟩
      have e4 := e2.trans e3
      have hf3 := hf.mono e4
      have hx3 := T.mono _ _ _ _ e4 hx
      refine Hx ?_
      refine Bn    (fun w h => h.u1) ?_
      refine Dc 12 rfl rfl (ihn (by omega) (hf3.as 2 b.tree (by omega) rfl) hok.1.2 hs3 (Ex.binds_room (by omega)) _ _ (Ex.occ_room (by omega)) hx3 _) ?_
      rintro _ J4 _ e5 ⟨rfl, x, hx, rfl⟩
      have e6 := e4.trans e5
      refine Hx ?_
      refine Bn    (fun w h => h.w1) ?_
      have hf := hf.mono e6
      have hbd := hbd.mono e6
      have hle := hle.trans e6
      have hk := hk.mono e6
      refine A5     (by kernel_rfl) ?_
      refine Ap        (Al      rfl ?_)
      refine Or rfl rfl rfl ?_
      refine Om rfl (Ab     ?_)
      refine Bz      ?_
      refine Se rfl (Oc rfl rfl rfl (Ab     (Ah    ?_)))
      refine B6      rfl (by first | rfl | decide | (simp; done) | omega) ?_
      refine Ak     (Ah    (Aq      (Se rfl ?_)))
      first | refine Bs    rfl rfl _ rfl .free rfl ?_ | refine Bt    rfl rfl _ rfl .free rfl ?_
      refine Er    rfl .free rfl ?_
      refine Oa rfl (Ab     ?_)
      refine Vz  13 rfl rfl ?_
      refine Da 0 rfl (Aj          rfl) ?_
      refine Dt 1 [13] rfl (Bo    rfl) ?_
      refine Da 2 rfl (Ai     rfl) ?_
      first | refine Da 3 rfl (Bc    rfl rfl _ rfl) ?_ | refine Da 3 rfl (Bd    rfl rfl _ rfl) ?_
      refine Dt 4 [13] rfl (C5    rfl) ?_
      refine Da 5 rfl (Ai     rfl) ?_
      refine Dt 6 [13] rfl (Ea    rfl) ?_
      refine Da 7 rfl (Ai     rfl) ?_
      refine Da 11 rfl (Ai     rfl) ?_
      refine Dc 8 rfl rfl (Ct           hf.rep hok0 _ _) ?_
      rintro _ J1 _ e1 ⟨o1, k1, rfl, hs1, rfl⟩
      refine Hx ?_
      refine Fg     9 rfl (by kernel_rfl) rfl rfl rfl (by rfl) (by rfl) (by rfl) (by decide) (by decide) (by rfl) .free rfl (.inr Au   ) ?_
      intro b40
      refine E0       ?_
      intro hz
      have e2 := e1.trans hz
      refine Dc 10 rfl rfl (Cf              (A9        (xs := [.slice ob bd.length cb, .slice o1 (List.length _) k1]) (ys := [])) (hbd.mono e2) (hs1.mono hz) (Ex.binds_room0 (by omega)) _) ?_
      rintro _ J3 _ e3 ⟨o3, k3, rfl, hs3, rfl⟩
      have e4 := e2.trans e3
      have hf3 := hf.mono e4
      have hx3 := T.mono _ _ _ _ e4 hx
      refine Hx ?_
      refine Bn    (fun w h => h.u1) ?_
      refine Dc 12 rfl rfl (ihn (by omega) (hf3.as 3 d.tree (by omega) rfl) hok.2 hs3 (Ex.binds_room (by omega)) _ _ (Ex.occ_room2 (by omega)) hx3 _) ?_
      rintro _ J4 _ e5 ⟨rfl, x, hx, rfl⟩
      have e6 := e4.trans e5
      refine Hx ?_
      refine Bn    (fun w h => h.w1) ?_
      have hf := hf.mono e6
      have hbd := hbd.mono e6
      have hle := hle.trans e6
      have hk := hk.mono e6
      refine A5     (by kernel_rfl) ?_
      refine Ap        (Al      rfl ?_)
      refine Or rfl rfl rfl ?_
      refine Om rfl (Ab     ?_)
      refine Bz      ?_
      refine Se rfl (Oc rfl rfl rfl (Ab     (Ah    ?_)))
      refine De      rfl (by first | rfl | decide | (simp; done) | omega) ?_
      refine Cc     rfl ?_
      refine Ju    .nil ?_
      exact ⟨_, _, hle, fun w h => h.drop, rfl, x, by simpa [Ex.occ, Ex.binds] using hx, rfl⟩
    · skip
      refine Al      rfl ?_
      refine Az    rfl .free rfl ?_
      refine Ca rfl (Du          hf.rep _) ?_
      rintro _ J _ e0 ⟨ok, ck, rfl, hk, rfl⟩
      have hf := hf.mono e0
      have hbd := hbd.mono e0
      have hx := T.mono _ _ _ _ e0 hx
      have hle := e0
      have hok0 := hok
      simp only [Ex.ok, Bool.and_eq_true] at hok
      rw [L7      ] at hk
      rw [L7      ]
      have hlen : (Ex.lt z a b).tree.parts.length = 4 := rfl
      have hkl : [2, 3].length = 2 := rfl
      simp only [Ex.lt.sizeOf_spec] at hlt
      simp only [Ex.size] at hbl hsl
      refine On rfl (Om rfl (Ab     (Aq      ?_)))
      refine Ee     ?_
      refine Se rfl (Oc rfl rfl rfl (Ab     (Ah    ?_)))
      refine B6      rfl (by first | rfl | decide | (simp; done) | omega) ?_
      refine Ak     (Ah    (Aq      (Se rfl ?_)))
      first | refine Bs    rfl rfl _ rfl .free rfl ?_ | refine Bt    rfl rfl _ rfl .free rfl ?_
      refine Er    rfl .free rfl ?_
      refine Oa rfl (Ab     ?_)
      refine Vz  13 rfl rfl ?_
      refine Da 0 rfl (Aj          rfl) ?_
      refine Dt 1 [13] rfl (Bo    rfl) ?_
      refine Da 2 rfl (Ai     rfl) ?_
      first | refine Da 3 rfl (Bc    rfl rfl _ rfl) ?_ | refine Da 3 rfl (Bd    rfl rfl _ rfl) ?_
      refine Dt 4 [13] rfl (C5    rfl) ?_
      refine Da 5 rfl (Ai     rfl) ?_
      refine Dt 6 [13] rfl (Ea    rfl) ?_
      refine Da 7 rfl (Ai     rfl) ?_
      refine Da 11 rfl (Ai     rfl) ?_
      refine Dc 8 rfl rfl (Ct           hf.rep hok0 _ _) ?_
      rintro _ J1 _ e1 ⟨o1, k1, rfl, hs1, rfl⟩
      refine Hx ?_
      refine Fg     9 rfl (by kernel_rfl) rfl rfl rfl (by rfl) (by rfl) (by rfl) (by decide) (by decide) (by rfl) .free rfl (.inr Au   ) ?_
      intro b40
      refine E0       ?_
      intro hz
      have e2 := e1.trans hz
      refine Dc 10 rfl rfl (Cf              (A9        (xs := [.slice ob bd.length cb, .slice o1 (List.length _) k1]) (ys := [])) (hbd.mono e2) (hs1.mono hz) (Ex.binds_room0 (by omega)) _) ?_
      rintro _ J3 _ e3 ⟨o3, k3, rfl, hs3, rfl⟩
      have e4 := e2.trans e3
      have hf3 := hf.mono e4
      have hx3 := T.mono _ _ _ _ e4 hx
      refine Hx ?_
      refine Bn    (fun w h => h.u1) ?_
      refine Dc 12 rfl rfl (ihn (by omega) (hf3.as 2 a.tree (by omega) rfl) hok.1.2 hs3 (Ex.binds_room (by omega)) _ _ (by omega) hx3 _) ?_
      rintro _ J4 _ e5 ⟨rfl, x, hx, rfl⟩
      have e6 := e4.trans e5
      refine Hx ?_
      refine Bn    (fun w h => h.w1) ?_
      have hf := hf.mono e6
      have hbd := hbd.mono e6
      have hle := hle.trans e6
      have hk := hk.mono e6
      refine A5     (by kernel_rfl) ?_
      refine Ap        (Al      rfl ?_)
      refine Or rfl rfl rfl ?_
      refine Om rfl (Ab     ?_)
      refine Bz      ?_
      refine Se rfl (Oc rfl rfl rfl (Ab     (Ah    ?_)))
      refine B6      rfl (by first | rfl | decide | (simp; done) | omega) ?_
      refine Ak     (Ah    (Aq      (Se rfl ?_)))
      first | refine Bs    rfl rfl _ rfl .free rfl ?_ | refine Bt    rfl rfl _ rfl .free rfl ?_
      refine Er    rfl .free rfl ?_
      refine Oa rfl (Ab     ?_)
      refine Vz  13 rfl rfl ?_
      refine Da 0 rfl (Aj          rfl) ?_
      refine Dt 1 [13] rfl (Bo    rfl) ?_
      refine Da 2 rfl (Ai     rfl) ?_
      first | refine Da 3 rfl (Bc    rfl rfl _ rfl) ?_ | refine Da 3 rfl (Bd    rfl rfl _ rfl) ?_
      refine Dt 4 [13] rfl (C5    rfl) ?_
      refine Da 5 rfl (Ai     rfl) ?_
      refine Dt 6 [13] rfl (Ea    rfl) ?_
      refine Da 7 rfl (Ai     rfl) ?_
      refine Da 11 rfl (Ai     rfl) ?_
      refine Dc 8 rfl rfl (Ct           hf.rep hok0 _ _) ?_
      rintro _ J1 _ e1 ⟨o1, k1, rfl, hs1, rfl⟩
      refine Hx ?_
      refine Fg     9 rfl (by kernel_rfl) rfl rfl rfl (by rfl) (by rfl) (by rfl) (by decide) (by decide) (by rfl) .free rfl (.inr Au   ) ?_
      intro b40
      refine E0       ?_
      intro hz
      have e2 := e1.trans hz
      refine Dc 10 rfl rfl (Cf              (A9        (xs := [.slice ob bd.length cb, .slice o1 (List.length _) k1]) (ys := [])) (hbd.mono e2) (hs1.mono hz) (Ex.binds_room0 (by omega)) _) ?_
      rintro _ J3 _ e3 ⟨o3, k3, rfl, hs3, rfl⟩
      have e4 := e2.trans e3
      have hf3 := hf.mono e4
      have hx3 := T.mono _ _ _ _ e4 hx
      refine Hx ?_
      refine Bn    (fun w h => h.u1) ?_
      refine Dc 12 rfl rfl (ihn (by omega) (hf3.as 3 b.tree (by omega) rfl) hok.2 hs3 (Ex.binds_room (by omega)) _ _ (Ex.occ_room (by omega)) hx3 _) ?_
      rintro _ J4 _ e5 ⟨rfl, x, hx, rfl⟩
      have e6 := e4.trans e5
      refine Hx ?_
      refine Bn    (fun w h => h.w1) ?_
      have hf := hf.mono e6
      have hbd := hbd.mono e6
      have hle := hle.trans e6
      have hk := hk.mono e6
      refine A5     (by kernel_rfl) ?_
      refine Ap        (Al      rfl ?_)
      refine Or rfl rfl rfl ?_
      refine Om rfl (Ab     ?_)
      refine Bz      ?_
      refine Se rfl (Oc rfl rfl rfl (Ab     (Ah    ?_)))
      refine De      rfl (by first | rfl | decide | (simp; done) | omega) ?_
      refine Cc     rfl ?_
      refine Ju    .nil ?_
      exact ⟨_, _, hle, fun w h => h.drop, rfl, x, by simpa [Ex.occ, Ex.binds] using hx, rfl⟩
    · skip
      refine Al      rfl ?_
      refine Az    rfl .free rfl ?_
      refine Ca rfl (Du          hf.rep _) ?_
      rintro _ J _ e0 ⟨ok, ck, rfl, hk, rfl⟩
      have hf := hf.mono e0
      have hbd := hbd.mono e0
      have hx := T.mono _ _ _ _ e0 hx
      have hle := e0
      have hok0 := hok
      simp only [Ex.ok, Bool.and_eq_true] at hok
      rw [Mh     ] at hk
      rw [Mh     ]
      have hlen : (Ex.fn g z s t b).tree.parts.length = 6 := rfl
      have hkl : [5].length = 1 := rfl
      simp only [Ex.fn.sizeOf_spec] at hlt
      simp only [Ex.size] at hbl hsl
      refine On rfl (Om rfl (Ab     (Aq      ?_)))
      refine Ee     ?_
      refine Se rfl (Oc rfl rfl rfl (Ab     (Ah    ?_)))
      refine B6      rfl (by first | rfl | decide | (simp; done) | omega) ?_
      refine Ak     (Ah    (Aq      (Se rfl ?_)))
      first | refine Bs    rfl rfl _ rfl .free rfl ?_ | refine Bt    rfl rfl _ rfl .free rfl ?_
      refine Er    rfl .free rfl ?_
      refine Oa rfl (Ab     ?_)
      refine Vz  13 rfl rfl ?_
      refine Da 0 rfl (Aj          rfl) ?_
      refine Dt 1 [13] rfl (Bo    rfl) ?_
      refine Da 2 rfl (Ai     rfl) ?_
      first | refine Da 3 rfl (Bc    rfl rfl _ rfl) ?_ | refine Da 3 rfl (Bd    rfl rfl _ rfl) ?_
      refine Dt 4 [13] rfl (C5    rfl) ?_
      refine Da 5 rfl (Ai     rfl) ?_
      refine Dt 6 [13] rfl (Ea    rfl) ?_
      refine Da 7 rfl (Ai     rfl) ?_
      refine Da 11 rfl (Ai     rfl) ?_
      refine Dc 8 rfl rfl (Ct           hf.rep hok0 _ _) ?_
      rintro _ J1 _ e1 ⟨o1, k1, rfl, hs1, rfl⟩
      refine Hx ?_
      refine Fg     9 rfl (by kernel_rfl) rfl rfl rfl (by rfl) (by rfl) (by rfl) (by decide) (by decide) (by rfl) .free rfl (.inr Au   ) ?_
      intro b40
      refine E0       ?_
      intro hz
      have e2 := e1.trans hz
      refine Dc 10 rfl rfl (Cf              (A9        (xs := [.slice ob bd.length cb, .slice o1 (List.length _) k1]) (ys := [])) (hbd.mono e2) (hs1.mono hz) (Ex.binds_room0 (by omega)) _) ?_
      rintro _ J3 _ e3 ⟨o3, k3, rfl, hs3, rfl⟩
      have e4 := e2.trans e3
      have hf3 := hf.mono e4
      have hx3 := T.mono _ _ _ _ e4 hx
      refine Hx ?_
      refine Bn    (fun w h => h.u1) ?_
      refine Dc 12 rfl rfl (ihn (by omega) (hf3.as 5 b.tree (by omega) rfl) hok.2 hs3 (Ex.binds_room (by omega)) _ _ (by omega) hx3 _) ?_
      rintro _ J4 _ e5 ⟨rfl, x, hx, rfl⟩
      have e6 := e4.trans e5
      refine Hx ?_
      refine Bn    (fun w h => h.w1) ?_
      have hf := hf.mono e6
      have hbd := hbd.mono e6
      have hle := hle.trans e6
      have hk := hk.mono e6
      refine A5     (by kernel_rfl) ?_
      refine Ap        (Al      rfl ?_)
      refine Or rfl rfl rfl ?_
      refine Om rfl (Ab     ?_)
      refine Bz      ?_
      refine Se rfl (Oc rfl rfl rfl (Ab     (Ah    ?_)))
      refine De      rfl (by first | rfl | decide | (simp; done) | omega) ?_
      refine Cc     rfl ?_
      refine Ju    .nil ?_
      exact ⟨_, _, hle, fun w h => h.drop, rfl, x, by simpa [Ex.occ, Ex.binds] using hx, rfl⟩
    · skip
      refine Al      rfl ?_
      refine Az    rfl .free rfl ?_
      refine Ca rfl (Du          hf.rep _) ?_
      rintro _ J _ e0 ⟨ok, ck, rfl, hk, rfl⟩
      have hf := hf.mono e0
      have hbd := hbd.mono e0
      have hx := T.mono _ _ _ _ e0 hx
      have hle := e0
      have hok0 := hok
      simp only [Ex.ok, Bool.and_eq_true] at hok
      rw [Nz     ] at hk
      rw [Nz     ]
      have hlen : (Ex.un o a).tree.parts.length = 2 := rfl
      have hkl : [1].length = 1 := rfl
      simp only [Ex.un.sizeOf_spec] at hlt
      simp only [Ex.size] at hbl hsl
      refine On rfl (Om rfl (Ab     (Aq      ?_)))
      refine Ee     ?_
      refine Se rfl (Oc rfl rfl rfl (Ab     (Ah    ?_)))
      refine B6      rfl (by first | rfl | decide | (simp; done) | omega) ?_
      refine Ak     (Ah    (Aq      (Se rfl ?_)))
      first | refine Bs    rfl rfl _ rfl .free rfl ?_ | refine Bt    rfl rfl _ rfl .free rfl ?_
      refine Er    rfl .free rfl ?_
      refine Oa rfl (Ab     ?_)
      refine Vz  13 rfl rfl ?_
      refine Da 0 rfl (Aj          rfl) ?_
      refine Dt 1 [13] rfl (Bo    rfl) ?_
      refine Da 2 rfl (Ai     rfl) ?_
      first | refine Da 3 rfl (Bc    rfl rfl _ rfl) ?_ | refine Da 3 rfl (Bd    rfl rfl _ rfl) ?_
      refine Dt 4 [13] rfl (C5    rfl) ?_
      refine Da 5 rfl (Ai     rfl) ?_
      refine Dt 6 [13] rfl (Ea    rfl) ?_
      refine Da 7 rfl (Ai     rfl) ?_
      refine Da 11 rfl (Ai     rfl) ?_
      refine Dc 8 rfl rfl (Ct           hf.rep hok0 _ _) ?_
      rintro _ J1 _ e1 ⟨o1, k1, rfl, hs1, rfl⟩
      refine Hx ?_
      refine Fg     9 rfl (by kernel_rfl) rfl rfl rfl (by rfl) (by rfl) (by rfl) (by decide) (by decide) (by rfl) .free rfl (.inr Au   ) ?_
      intro b40
      refine E0       ?_
      intro hz
      have e2 := e1.trans hz
      refine Dc 10 rfl rfl (Cf              (A9        (xs := [.slice ob bd.length cb, .slice o1 (List.length _) k1]) (ys := [])) (hbd.mono e2) (hs1.mono hz) (Ex.binds_room0 (by omega)) _) ?_
      rintro _ J3 _ e3 ⟨o3, k3, rfl, hs3, rfl⟩
      have e4 := e2.trans e3
      have hf3 := hf.mono e4
      have hx3 := T.mono _ _ _ _ e4 hx
      refine Hx ?_
      refine Bn    (fun w h => h.u1) ?_
      refine Dc 12 rfl rfl (ihn (by omega) (hf3.as 1 a.tree (by omega) rfl) hok hs3 (Ex.binds_room (by omega)) _ _ (by omega) hx3 _) ?_
      rintro _ J4 _ e5 ⟨rfl, x, hx, rfl⟩
      have e6 := e4.trans e5
      refine Hx ?_
      refine Bn    (fun w h => h.w1) ?_
      have hf := hf.mono e6
      have hbd := hbd.mono e6
      have hle := hle.trans e6
      have hk := hk.mono e6
      refine A5     (by kernel_rfl) ?_
      refine Ap        (Al      rfl ?_)
      refine Or rfl rfl rfl ?_
      refine Om rfl (Ab     ?_)
      refine Bz      ?_
      refine Se rfl (Oc rfl rfl rfl (Ab     (Ah    ?_)))
      refine De      rfl (by first | rfl | decide | (simp; done) | omega) ?_
      refine Cc     rfl ?_
      refine Ju    .nil ?_
      exact ⟨_, _, hle, fun w h => h.drop, rfl, x, by simpa [Ex.occ, Ex.binds] using hx, rfl⟩

structure FB where
 l : List As
 B : Kg
 c : Nat
def FB.own (bo : Nat) (x : FB) : Bj := (bo, .cells [Bm x.l.length x.c x.B].toArray 33 (0, 0)) :: A2 9 (x.l.map sv) x.B
def FB.is (x : FB) (seen : List As) (I : Heap) : Prop := x.l = C8 [] seen ∧ Dd 1 x.l.length x.c (x.l.map sv) x.B ∧ ∀ s ∈ x.l, B0 s = true
theorem Ie (l m : List As) : (C8 l m).length ≤ l.length + m.length := by
 induction m generalizing l with
 | nil => exact Nat.le_refl _
 | cons s m ih =>
  have h1 : (Fj l s).length ≤ l.length + 1 := by unfold Fj; split <;> simp
  have h2 := ih (Fj l s)
  simp only [C8, List.foldl_cons, List.length_cons] at *
  omega
theorem Ub (bo : Nat) (x : FB) (seen : List As) (s : As) (I : Heap) (L : Bj) (hx : x.is seen I) (hs : B0 s = true) (hl : seen.length < 4294967296) :
  Fun Tryz.prog 127 [.string (str s), .pointer (some ⟨bo, 0, none⟩)] I (FB.own bo x ++ L) (fun v I' L' => v = .tuple #[] ∧ ∃ y : FB, y.is (seen ++ [s]) I' ∧ L' = FB.own bo y ++ L) := by
 obtain ⟨l, B, c⟩ := x; obtain ⟨hl1, hB, hn⟩ := hx
 simp only at hl1 hB hn
 have hll := Ie [] seen
 rw [← hl1] at hll
 simp only [List.length_nil, Nat.zero_add] at hll
 obtain ⟨oa, c', hbv, hrd⟩ := Acq (I := I) (L := L) (e := 9) hB rfl C3
 have hcon : Fun Tryz.prog 128 [Bm l.length c B, .string (str s)] I ((bo, .cells [Bm l.length c B].toArray 33 (0, 0)) :: (A2 9 (l.map sv) B ++ L)) (E2 (.bool (decide (s ∈ l))) I ((bo, .cells [Bm l.length c B].toArray 33 (0, 0)) :: (A2 9 (l.map sv) B ++ L))) := by
  have := I6 (hrd.sub (L' := (bo, .cells [Bm l.length c B].toArray 33 (0, 0)) :: (A2 9 (l.map sv) B ++ L)) fun w h => h.drop) c' s
  rwa [← hbv] at this
 unfold FB.own
 simp only [List.cons_append]
 refine Ao Ae ?_; refine Se rfl ?_; refine Cp rfl (El (cs := [Bm l.length c B]) m0 Ac (by cases B <;> rfl)) .free rfl ?_; refine Om rfl ?_; refine Cx rfl .free rfl hcon ?_; rintro _ _ _ _ ⟨rfl, rfl, rfl⟩; refine Ei rfl .free rfl ?_; refine Ab ?_; refine A6 rfl ?_ ?_
 ·intro c0
  try simp only [nb] at c0
  have hadd : C8 [] (seen ++ [s]) = l ++ [s] := by rw [Cs, ← hl1]; simp [C8, Fj, c0]
  refine Al rfl ?_; refine Cp rfl (El (cs := [Bm l.length c B]) m0 Ac (by cases B <;> rfl)) .free rfl ?_; refine Om rfl ?_; refine Ol rfl rfl ?_; intro b9; refine D1 (B := B) (xs := l.map sv) (ys := [sv s]) (m := l.length) (c := c) Av Ac rfl rfl hB (fun _ h => h.u2) Ac (fun a ha => by cases ha; exact Bw (.head _) Ac) Ae Ac Ad Ad Aa Ad .free rfl ?_; intro bb sp c2 hB'; refine Wn rfl rfl rfl rfl Ac u2 Ac .free ?_; refine Ab ?_; refine Ju .nil ?_
  first
   | exact ⟨I, _, .refl _, fun w h => h, rfl, ⟨l, B, c⟩, ⟨hadd.symm, hB, hn⟩, rfl⟩
   | exact ⟨I, _, .refl _, fun w h => Mem.sub (L' := (bo, _) :: (bb, _) :: L) A7 h.f2, rfl, ⟨l ++ [s], some (bb, sp), c2⟩, ⟨hadd.symm, by simpa using hB', by intro z hz; rcases List.mem_append.1 hz with h | h; exact hn z h; rw [List.mem_singleton.1 h]; exact hs⟩, by simp [A2, Bm]⟩
 intro c0
 try simp only [nb] at c0
 have hadd : C8 [] (seen ++ [s]) = l := by rw [Cs, ← hl1]; simp [C8, Fj, c0]
 refine Ak ?_; refine Ju .nil ?_
 first
  | exact ⟨I, _, .refl _, fun w h => h, rfl, ⟨l, B, c⟩, ⟨hadd.symm, hB, hn⟩, rfl⟩
  | exact ⟨I, _, .refl _, fun w h => Mem.sub (L' := (bo, _) :: (bb, _) :: L) A7 h.f2, rfl, ⟨l ++ [s], some (bb, sp), c2⟩, ⟨hadd.symm, by simpa using hB', by intro z hz; rcases List.mem_append.1 hz with h | h; exact hn z h; rw [List.mem_singleton.1 h]; exact hs⟩, by simp [A2, Bm]⟩
theorem Qg (bo : Nat) : Acj Tryz.prog 127 [.pointer (some ⟨bo, 0, none⟩)] FB (FB.own bo) FB.is :=
 ⟨fun x seen s I L hx hs hl => Ub bo x seen s I L hx hs hl, fun x seen I I' _ h => h⟩
theorem S9 {l : List As} (h : ∀ s ∈ l, B0 s = true) : ∀ s ∈ l, s.length ≤ Bg := fun s hs => Ex.name_len (h s hs)
theorem Lz {I : Heap} {e : Ex} {cs : List Value} (h : Rep I e.tree cs) (hok : e.ok = true) (hz : 2 * e.size ≤ 4294967295) (L : Bj) : Fun Tryz.prog 74 [.agg cs.toArray] I L (SS e.free L) := by
 obtain ⟨oa, c, oaf, cf, rfl, hf⟩ := h.at'
 have hT := fun bo => Qg bo
 refine Ao Ae ?_; refine Se rfl ?_; refine Cm rfl rfl .free rfl ?_; intro b1; refine Oa rfl (Ab (Se rfl ?_)); refine A1 .free rfl ?_; intro b3; refine Ab (Se rfl ?_); refine Az rfl .free rfl ?_; refine Te rfl rfl .free rfl ?_; refine C4 (L' := FB.own b3 ⟨[], none, 0⟩ ++ _) (fun w h => h) ?_; refine Ca rfl (Xq (hT b3) _ (Nat.lt_succ_self _) hf.rep hok (P3 I) Jc ⟨[], none, 0⟩ [] Dr ⟨rfl, ⟨rfl, rfl, rfl⟩, by simp⟩ _) ?_; rintro _ J _ e1 ⟨rfl, ⟨l, B, c2⟩, ⟨hl, hB, hn⟩, rfl⟩
 simp only at hl hB hn
 simp only [FB.own, List.cons_append]
 refine Ab (Se rfl ?_); refine Cp rfl (El (cs := [Bm l.length c2 B]) m0 Ac (by cases B <;> rfl)) .free rfl ?_; refine Oa rfl (Ab ?_)
 have hll := Ie [] (e.occ [])
 have hol := e.occ_len []
 simp only [List.nil_append] at hl
 rw [← hl] at hll
 simp only [List.length_nil, Nat.zero_add] at hll
 refine Cu (fun w h => h.u1) (Gk hB rfl C3 (S9 hn) ?_); intro J2 oz cz ez hbv hst; refine Jv (t := 2) rfl hbv ?_; refine Am (.tmp rfl .nil) ?_
 exact ⟨J2, L, e1.trans ez, fun w h => h.drop.drop, oz, cz, by rw [show e.free = l from hl.symm]; rfl, by rw [show e.free = l from hl.symm]; exact hst, rfl⟩
theorem Eh {P : Program} {f : FuncId} {n : Nat} {I₀ : Heap} {Q : Cv} {k : List Item} {ops : Array Oper} {S : World → Prop} {fuel : Nat} {listed : Array Bool} {E : Hg} {I : Heap} {L : Bj} {e : TypeId} {l : List As} {B : Kg} {m c : Nat}
  (hB : Dd 1 m c (l.map sv) B) (hm : m = l.length) (hlen : l.length ≤ Bg) (hs : ∀ s ∈ l, s.length ≤ Bg)
  (h : ∀ I' oa c', HLe I I' → Bm m c B = .slice oa l.length c' → Strs I' oa l c' → C0 P f n I₀ Q ops S fuel listed k E I' L) : C0 P f n I₀ Q ops S fuel listed k E I (A2 e (l.map sv) B ++ L) := by
 cases B with
 | none =>
  obtain ⟨h1, h2, h3⟩ := hB; obtain rfl : l = [] := by simpa using h1
  exact h I .none 0 (.refl _) rfl ⟨by simp, by simp, by simp, hlen, hs⟩
 | some p =>
  obtain ⟨b, sp⟩ := p; refine E0 fun hle => h _ (some ⟨b, 0, .none⟩) c hle (by rw [← hm]; rfl) ⟨fun y hy => ?_, by simp, by have := hB.2.1; omega, hlen, hs⟩
  cases hy; exact A9
theorem Ex.binds_room1 {bd : List As} {e : Ex} {i : Nat} (h : bd.length + 2 ≤ 4294967296) : 0 + bd.length + (e.binds i).length ≤ 4294967296 := by
 have := e.binds_le i; omega
theorem Ik (I : Heap) (oa : Option Addr) : Strs I oa [] 0 := ⟨fun x _ => .inl rfl, fun _ => rfl, by simp, by simp [Bg], by simp⟩
theorem Hw {I : Heap} {e : Ex} {cs : List Value} (h : Rep I e.tree cs) (hok : e.ok = true) (hb : e.bare = false) (i : Nat) (hi : i ∈ D2 e.tree) (L : Bj) : Fun Tryz.prog 184 [.agg cs.toArray, .int .i64 (i : Nat)] I L (SS (e.binds i) L) := by
 obtain ⟨oa, c, oaf, cf, rfl, hf⟩ := h.at'
 have hg := (Ex.tree_good hok).1
 have h0 : 0 < e.tree.parts.length := by
  rw [Ex.bare_parts] at hb
  have : e.tree.parts ≠ [] := by intro hh; rw [hh] at hb; cases hb
  exact List.length_pos_iff.2 this
 have hhd := I7 h0
 refine Ao Ae ?_; refine Se rfl ?_; refine Cm rfl rfl .free rfl ?_; intro b2; refine Oa rfl (Ab (Ah (Aq (Se rfl (Oh rfl ?_))))); refine Bv rfl .free rfl ?_
 first | refine Bs rfl rfl 0 rfl .free rfl ?_ | refine Bt rfl rfl 0 rfl .free rfl ?_
 refine Bh rfl .free rfl ?_; refine Gj rfl .free rfl ?_; refine Od rfl rfl rfl (Om rfl ?_)
 apply Fr 12 15 rfl
 ·intro g1_7 hk
  try simp only [nb] at g1_7
  refine Ow rfl ?_; refine D8 rfl rfl rfl (.met rfl rfl) rfl ?_; refine Ot rfl rfl ?_
  exact Bb 2 rfl rfl hk
 ·intro _ hk; refine Br 2 rfl ?_; refine Of rfl rfl ?_
  exact Bb 2 rfl rfl hk
 refine Oa rfl (Ab ?_); refine A6 rfl ?_ ?_
 ·intro c0
  try simp only [nb] at c0
  obtain ⟨x, a, b, rfl⟩ := Ex.of_let (hhd.trans c0.1); obtain rfl : i = 3 := by omega
  simp only [Ex.ok, Bool.and_eq_true] at hok
  have hlen : (Ex.lt x a b).tree.parts.length = 4 := rfl
  have hx : ((Ex.lt x a b).tree.pt 1).atom.length ≤ Bg := Ex.name_len hok.1.1
  refine Se rfl (Oh rfl ?_); refine Bv rfl .free rfl ?_
  first | refine Bs rfl rfl 1 rfl .free rfl ?_ | refine Bt rfl rfl 1 rfl .free rfl ?_
  refine Bh rfl .free rfl ?_; refine Gj rfl .free rfl ?_; refine Ol rfl rfl ?_; intro b21; refine Oa rfl (Ab ?_); refine Bu ?_; intro hz; refine Am (.tmp rfl .nil) ?_
  exact ⟨_, L, hz, Cl, some ⟨b21, 0, none⟩, 1, rfl, Jl hz hx, rfl⟩
 intro c0
 try simp only [nb] at c0
 refine Se rfl (Oh rfl ?_); refine Bv rfl .free rfl ?_
 first | refine Bs rfl rfl 0 rfl .free rfl ?_ | refine Bt rfl rfl 0 rfl .free rfl ?_
 refine Bh rfl .free rfl ?_; refine Gj rfl .free rfl ?_; refine Od rfl rfl rfl (Oa rfl (Ab ?_)); refine A6 rfl ?_ ?_
 ·intro c1
  try simp only [nb] at c1
  obtain ⟨f, x, s, t, b, rfl⟩ := Ex.of_fun (hhd.trans c1); obtain rfl : i = 5 := by rw [Mh] at hi; simpa using hi
  simp only [Ex.ok, Bool.and_eq_true] at hok
  have hlen : (Ex.fn f x s t b).tree.parts.length = 6 := rfl
  have hx1 : ((Ex.fn f x s t b).tree.pt 1).atom.length ≤ Bg := Ex.name_len hok.1.1.1.1.1
  have hx2 : ((Ex.fn f x s t b).tree.pt 2).atom.length ≤ Bg := Ex.name_len hok.1.1.1.1.2
  refine Ah ?_; refine Fh 12 rfl rfl ?_; refine Da 0 rfl (Aj rfl) ?_; refine Dt 1 [12] rfl (Bo rfl) ?_
  first | refine Da 2 rfl (Bc rfl rfl 1 rfl) ?_ | refine Da 2 rfl (Bd rfl rfl 1 rfl) ?_
  refine Da 3 rfl (A4 rfl) ?_; refine Dt 4 [12] rfl (Kb rfl) ?_; refine Da 5 rfl (Aj rfl) ?_; refine Dt 6 [12] rfl (Bo rfl) ?_
  first | refine Da 7 rfl (Bc rfl rfl 2 rfl) ?_ | refine Da 7 rfl (Bd rfl rfl 2 rfl) ?_
  refine Da 8 rfl (A4 rfl) ?_; refine Dt 9 [12] rfl (Kb rfl) ?_; refine Fg 10 rfl Af rfl rfl rfl Ac Ac Ac Ad Ad Ac .free rfl (.inr Au) ?_; intro b39; refine Da 11 rfl (Bk rfl) ?_; refine A5 Af ?_; refine Bu ?_; intro hz; refine Am (.tmp rfl .nil) ?_
  exact ⟨_, L, hz, Cl, some ⟨b39, 0, none⟩, 2, rfl, Vh hz hx1 hx2, rfl⟩
 intro c1
 try simp only [nb] at c1
 refine Ak (Ap (Se rfl ?_)); refine Dl .free rfl ?_; intro b40; refine Oa rfl (Ab (Am (.tmp rfl .nil) ?_))
 have hbd : e.binds i = [] := by
  cases e with
  | lt x a b => exact if_neg fun hi => by rcases c0 with h | h; exact h rfl; omega
  | fn f x s t b => exact absurd rfl c1
  | _ => rfl
 exact ⟨I, L, .refl _, Cl, some ⟨b40, 0, none⟩, 0, by rw [hbd]; rfl, by rw [hbd]; exact Ik I _, rfl⟩

def LP (l : List As) (L : Bj) : Cv := fun v I' L' => ∃ B c, v = Bm l.length c B ∧ Dd 1 l.length c (l.map sv) B ∧ L' = A2 9 (l.map sv) B ++ L
theorem Aal {l : List As} {B : Kg} {c : Nat} (hB : Dd 1 l.length c (l.map sv) B) (hl : l.length ≤ Bg) (I : Heap) (p : Nat × Obj) (L : Bj) (s : As) :
  Fun Tryz.prog 170 [Bm l.length c B, .string (str s)] I (p :: (A2 9 (l.map sv) B ++ L)) (E2 (.bool (decide (s ∈ l))) I (p :: (A2 9 (l.map sv) B ++ L))) := by
 obtain ⟨oa, c', hbv, hrd⟩ := Acq (I := I) (L := L) (e := 9) hB rfl hl; rw [hbv]
 exact R4 (hrd.sub fun w h => h.drop) c' s
theorem Sb {l : List As} {s : As} (h : s ∉ l) : C8 l [s] = l ++ [s] := by simp [C8, Fj, h]
theorem Ul {l : List As} {s : As} (h : s ∈ l) : C8 l [s] = l := by simp [C8, Fj, h]
theorem Jp {l bd : List As} {e : Ex} {k n : Nat} (h : l.length + (e.size + k) ≤ n) : (C8 l (e.occ bd)).length + k ≤ n := by
 have := Ie l (e.occ bd); have := e.occ_len bd; omega
theorem Vp {l bd bd' : List As} {e e' : Ex} {k n : Nat} (h : l.length + (e.size + (e'.size + k)) ≤ n) : (C8 (C8 l (e.occ bd)) (e'.occ bd')).length + k ≤ n := Jp (Jp h)
theorem Ade : ∀ (n : Nat) {I : Heap} {e : Ex} {cs : List Value} (_ : SizeOf.sizeOf e < n) (_ : Rep I e.tree cs) (_ : e.ok = true) {bd : List As} {ob : Option Addr} {cb : Nat} (_ : Strs I ob bd cb) (_ : bd.length + 2 * e.size ≤ Bg)
   (l : List As) (B : Kg) (c : Nat) (_ : l.length + e.size ≤ 4294967295) (_ : Dd 1 l.length c (l.map sv) B) (L : Bj),
  Fun Tryz.prog 147 [.agg cs.toArray, .slice ob bd.length cb, Bm l.length c B] I (A2 9 (l.map sv) B ++ L) (LP (C8 l (e.occ bd)) L) := by
 intro n
 induction n with
 | zero => intro I e cs h; omega
 | succ n ihn =>
  intro I e cs hlt h hok bd ob cb hbd hbl l B c hl hB L; obtain ⟨oa, cc, oaf, cf, rfl, hf⟩ := h.at'
  have ha := hf.alen
  have hlN : l.length ≤ Bg := by unfold Bg; omega
  unfold Bg at hbl
  refine Ao Ae ?_; refine Se rfl ?_; refine Cm rfl rfl .free rfl ?_; intro b3; refine Oa rfl (Ab (Ah (Se rfl (Oh rfl ?_)))); refine Bv rfl .free rfl ?_; refine Od rfl rfl rfl (Ab ?_); refine A6 rfl ?_ ?_
  ·intro c0
   try simp only [nb] at c0
   have hb : e.bare = true := by
    cases hb : e.bare with
    | true => rfl
    | false => exact absurd ((Ex.atom_iff hok).2 hb) c0
   refine Ah (Se rfl (Oh rfl ?_)); refine Bv rfl .free rfl ?_; refine Ca rfl (Nf e.tree.atom ha _ _) ?_; rintro _ _ _ _ ⟨rfl, rfl, rfl⟩; refine Ei rfl .free rfl ?_; refine Om rfl ?_
   apply G4 17 22 rfl
   ·intro g2_5 hk
    try simp only [nb] at g2_5
    refine Ow rfl ?_; refine Cj rfl (.met rfl rfl) rfl ?_; refine Bv rfl (.met rfl rfl) rfl ?_; refine Cx rfl (.met rfl rfl) rfl (R4 (hbd.rd _) cb e.tree.atom) ?_; rintro _ _ _ _ ⟨rfl, rfl, rfl⟩; refine Of rfl rfl ?_
    exact Bb 4 rfl rfl hk
   ·intro _ hk; refine Br 4 rfl ?_; refine Ot rfl rfl ?_
    exact Bb 4 rfl rfl hk
   refine Om rfl ?_
   apply G4 23 28 rfl
   ·intro g2_11 hk
    try simp only [nb] at g2_11
    refine Ow rfl ?_; refine Cj rfl (.met rfl rfl) rfl ?_; refine Bv rfl (.met rfl rfl) rfl ?_; refine Cx rfl (.met rfl rfl) rfl (Aal hB hlN _ _ _ _) ?_; rintro _ _ _ _ ⟨rfl, rfl, rfl⟩; refine Of rfl rfl ?_
    exact Bb 4 rfl rfl hk
   ·intro _ hk; refine Br 4 rfl ?_; refine Ot rfl rfl ?_
    exact Bb 4 rfl rfl hk
   refine Ab ?_; refine A6 rfl ?_ ?_
   ·intro c1
    try simp only [nb] at c1
    refine Se rfl (Om rfl (Oa rfl (Ab (Am (.tmp rfl .nil) ?_))))
    have hoc : C8 l (e.occ bd) = l := by
     cases e with
     | num s => rfl
     | name s =>
      have c1 : (B0 s = false ∨ s ∈ bd) ∨ s ∈ l := c1
      rcases c1 with (h | h) | h
      ·rw [show B0 s = true from hok] at h; cases h
      ·simp only [Ex.occ]; rw [if_pos h]; rfl
      ·simp only [Ex.occ]
       split
       ·rfl
       ·exact Ul h
     | _ => cases hb
    exact ⟨I, _, .refl _, fun w h => h.drop, B, c, by rw [hoc]; rfl, by rw [hoc]; exact hB, by rw [hoc]⟩
   intro c1
   try simp only [nb] at c1
   refine Ak (Se rfl (Om rfl (Oh rfl ?_))); refine Bv rfl .free rfl ?_; refine Ol rfl rfl ?_; intro b33; refine D1 (B := B) (xs := l.map sv) (ys := [sv e.tree.atom]) (m := l.length) (c := c) Av Ac rfl rfl hB (fun _ h => h.u2) Ac (fun a ha => by cases ha; exact Bw (.head _) Ac) Ae Ac Ad Ad (by have := e.size_pos; omega) Ad .free rfl ?_; intro bb sp c2 hB'; refine Oa rfl (Ab (Am (.tmp rfl .nil) ?_))
   have hoc : C8 l (e.occ bd) = l ++ [e.tree.atom] := by
    cases e with
    | num s =>
     have h1 : B0 s = true := c1.1.1
     have h2 := Hy h1
     rw [show Ci s = true from hok] at h2; cases h2
    | name s =>
     have c1 : (B0 s = true ∧ ¬ s ∈ bd) ∧ ¬ s ∈ l := c1
     simp only [Ex.occ]; rw [if_neg c1.1.2]; exact Sb c1.2
    | _ => cases hb
   exact ⟨I, _, .refl _, Ms (L' := (bb, _) :: L), some (bb, sp), c2, by rw [hoc]; simp [C2, Bm], by rw [hoc]; simpa using hB', by rw [hoc]; simp [A2]⟩
  intro c0
  try simp only [nb] at c0
  have hb : e.bare = false := (Ex.atom_iff hok).1 Fv
  have hsh := e.shapes hb
  have h0 : 0 < e.tree.parts.length := by
   rw [Ex.bare_parts] at hb
   have : e.tree.parts ≠ [] := by intro hh; rw [hh] at hb; cases hb
   exact List.length_pos_iff.2 this
  have hhd := I7 h0
  have hok0 := hok
  have hle : HLe I I := .refl _
  refine Ak (Se rfl (Oh rfl ?_)); refine Bv rfl .free rfl ?_
  first | refine Bs rfl rfl 0 rfl .free rfl ?_ | refine Bt rfl rfl 0 rfl .free rfl ?_
  refine Bh rfl .free rfl ?_; refine Gj rfl .free rfl ?_; refine Ca rfl (Kr (e.tree.pt 0).atom _ _) ?_; rw [← hhd]; rintro _ _ _ _ ⟨rfl, rfl, rfl⟩; refine Om rfl (Oe rfl rfl (Oe rfl rfl (Oa rfl (Oa rfl (Ab (Ah (Ah ?_)))))))
  rcases hsh with ⟨o, a, b, rfl⟩ | ⟨a, b, d, rfl⟩ | ⟨z, a, b, rfl⟩ | ⟨g, z, s, t, b, rfl⟩ | ⟨o, a, rfl⟩
  ·skip
   have hk : Ax (Ex.bin o a b).tree.head = (1, 3) := by cases o <;> rfl
   rw [hk]
   have hlen : (Ex.bin o a b).tree.parts.length = 3 := rfl
   have hki := L5 o a b
   simp only [Ex.bin.sizeOf_spec] at hlt
   simp only [Ex.size] at hbl hl
   simp only [Ex.ok, Bool.and_eq_true] at hok
   refine Al rfl (Om rfl (Oa rfl (Ab (Aq ?_)))); refine Ee ?_; refine Ah (Se rfl (Om rfl (Om rfl (Oc rfl rfl rfl (Ab ?_))))); refine B6 rfl Ay ?_; refine Ak (Ah (Aq ?_)); refine Vz 15 rfl rfl ?_; refine Da 0 rfl (Aj rfl) ?_; refine Dt 1 [15] rfl (Bo rfl) ?_; refine Da 2 rfl (Ai rfl) ?_
   first | refine Da 3 rfl (Bc rfl rfl _ rfl) ?_ | refine Da 3 rfl (Bd rfl rfl _ rfl) ?_
   refine Dt 4 [15] rfl (C5 rfl) ?_; refine Da 6 rfl (Ai rfl) ?_; refine Dt 8 [15] rfl (Ea rfl) ?_; refine Da 9 rfl (Ai rfl) ?_; refine Da 12 rfl (Ai rfl) ?_; refine Ib 5 rfl Af rfl .free rfl (.inr Au) ?_; intro b55; refine Cg 7 (B := some (b55, [])) (xs := []) (ys := bd.map sv) (m := 0) (c := 0) rfl Af rfl Av Ac rfl rfl ⟨rfl, Nat.le_refl _, rfl⟩ (fun _ h => h) Ae hbd.reads hbd.none (Cn bd) Ad Aa Ad .free rfl (fun _ => .inr Au) ?_; intro B1 c1' hB1; refine Dc 10 rfl rfl (Hw hf.rep hok0 hb _ (by rw [hki]; decide) _) ?_; rintro _ J1 _ e1 ⟨o1, k1, rfl, hs1, rfl⟩
   have hbd1 := hbd.mono e1
   refine Hx ?_; refine Cg 11 (B := B1) (xs := bd.map sv) (ys := (Ex.binds _ _).map sv) (m := 0 + bd.length) (c := c1') rfl Af rfl Av Ac rfl rfl hB1 (fun _ h => h) Ae hs1.reads hs1.none (Cn _) Ad (Ex.binds_room1 Aa) Ad .free rfl (fun _ => .inr Au) ?_; intro B2 c2' hB2; rw [← List.map_append] at hB2 ⊢; refine Eh (l := bd ++ Ex.binds _ _) hB2 Ae Hu (hbd1.append hs1) ?_; intro J3 o3 k3 ez hbv hs3; refine G8 (t := 61) rfl hbv ?_
   have e4 := e1.trans ez
   have hf3 := hf.mono e4
   refine Bn (fun w h => h.u1) ?_; refine Dc 13 rfl rfl (ihn Aa (hf3.as 1 a.tree Aa rfl) hok.1 hs3 (Ex.binds_room Aa) _ _ _ Aa hB _) ?_; rintro _ J4 _ e5 ⟨B, c, rfl, hB, rfl⟩
   have e6 := e4.trans e5
   refine Hx ?_; refine Bn (fun w h => h.w1) ?_
   have hf := hf.mono e6
   have hbd := hbd.mono e6
   have hle := hle.trans e6
   refine Da 14 rfl (Bk rfl) ?_; refine A5 Af ?_; refine Ap (Al rfl (Om rfl ?_)); refine Or rfl rfl rfl ?_; refine Oa rfl (Ab ?_); refine Bz ?_; refine Ah (Se rfl (Om rfl (Om rfl (Oc rfl rfl rfl (Ab ?_))))); refine B6 rfl Ay ?_; refine Ak (Ah (Aq ?_)); refine Vz 15 rfl rfl ?_; refine Da 0 rfl (Aj rfl) ?_; refine Dt 1 [15] rfl (Bo rfl) ?_; refine Da 2 rfl (Ai rfl) ?_
   first | refine Da 3 rfl (Bc rfl rfl _ rfl) ?_ | refine Da 3 rfl (Bd rfl rfl _ rfl) ?_
   refine Dt 4 [15] rfl (C5 rfl) ?_; refine Da 6 rfl (Ai rfl) ?_; refine Dt 8 [15] rfl (Ea rfl) ?_; refine Da 9 rfl (Ai rfl) ?_; refine Da 12 rfl (Ai rfl) ?_; refine Ib 5 rfl Af rfl .free rfl (.inr Au) ?_; intro b55; refine Cg 7 (B := some (b55, [])) (xs := []) (ys := bd.map sv) (m := 0) (c := 0) rfl Af rfl Av Ac rfl rfl ⟨rfl, Nat.le_refl _, rfl⟩ (fun _ h => h) Ae hbd.reads hbd.none (Cn bd) Ad Aa Ad .free rfl (fun _ => .inr Au) ?_; intro B1 c1' hB1; refine Dc 10 rfl rfl (Hw hf.rep hok0 hb _ (by rw [hki]; decide) _) ?_; rintro _ J1 _ e1 ⟨o1, k1, rfl, hs1, rfl⟩
   have hbd1 := hbd.mono e1
   refine Hx ?_; refine Cg 11 (B := B1) (xs := bd.map sv) (ys := (Ex.binds _ _).map sv) (m := 0 + bd.length) (c := c1') rfl Af rfl Av Ac rfl rfl hB1 (fun _ h => h) Ae hs1.reads hs1.none (Cn _) Ad (Ex.binds_room1 Aa) Ad .free rfl (fun _ => .inr Au) ?_; intro B2 c2' hB2; rw [← List.map_append] at hB2 ⊢; refine Eh (l := bd ++ Ex.binds _ _) hB2 Ae Hu (hbd1.append hs1) ?_; intro J3 o3 k3 ez hbv hs3; refine G8 (t := 61) rfl hbv ?_
   have e4 := e1.trans ez
   have hf3 := hf.mono e4
   refine Bn (fun w h => h.u1) ?_; refine Dc 13 rfl rfl (ihn Aa (hf3.as 2 b.tree Aa rfl) hok.2 hs3 (Ex.binds_room Aa) _ _ _ (Jp Aa) hB _) ?_; rintro _ J4 _ e5 ⟨B, c, rfl, hB, rfl⟩
   have e6 := e4.trans e5
   refine Hx ?_; refine Bn (fun w h => h.w1) ?_
   have hf := hf.mono e6
   have hbd := hbd.mono e6
   have hle := hle.trans e6
   refine Da 14 rfl (Bk rfl) ?_; refine A5 Af ?_; refine Ap (Al rfl (Om rfl ?_)); refine Or rfl rfl rfl ?_; refine Oa rfl (Ab ?_); refine Bz ?_; refine Ah (Se rfl (Om rfl (Om rfl (Oc rfl rfl rfl (Ab ?_))))); refine De rfl Ay ?_; refine Cc rfl ?_; refine Se rfl (Om rfl (Oa rfl (Ab (Am (.tmp rfl .nil) ?_))))
   exact ⟨_, _, hle, fun w h => h.drop, B, c, by simp [Ex.occ, Ex.binds, Cs, C2], by simpa [Ex.occ, Ex.binds, Cs] using hB, by simp [Ex.occ, Ex.binds, Cs]⟩
  ·skip
   have hk : Ax (Ex.ite a b d).tree.head = (1, 4) := rfl
   rw [hk]
   have hlen : (Ex.ite a b d).tree.parts.length = 4 := rfl
   have hki := L6 a b d
   simp only [Ex.ite.sizeOf_spec] at hlt
   simp only [Ex.size] at hbl hl
   simp only [Ex.ok, Bool.and_eq_true] at hok
   refine Al rfl (Om rfl (Oa rfl (Ab (Aq ?_)))); refine Ee ?_; refine Ah (Se rfl (Om rfl (Om rfl (Oc rfl rfl rfl (Ab ?_))))); refine B6 rfl Ay ?_; refine Ak (Ah (Aq ?_)); refine Vz 15 rfl rfl ?_; refine Da 0 rfl (Aj rfl) ?_; refine Dt 1 [15] rfl (Bo rfl) ?_; refine Da 2 rfl (Ai rfl) ?_
   first | refine Da 3 rfl (Bc rfl rfl _ rfl) ?_ | refine Da 3 rfl (Bd rfl rfl _ rfl) ?_
   refine Dt 4 [15] rfl (C5 rfl) ?_; refine Da 6 rfl (Ai rfl) ?_; refine Dt 8 [15] rfl (Ea rfl) ?_; refine Da 9 rfl (Ai rfl) ?_; refine Da 12 rfl (Ai rfl) ?_; refine Ib 5 rfl Af rfl .free rfl (.inr Au) ?_; intro b55; refine Cg 7 (B := some (b55, [])) (xs := []) (ys := bd.map sv) (m := 0) (c := 0) rfl Af rfl Av Ac rfl rfl ⟨rfl, Nat.le_refl _, rfl⟩ (fun _ h => h) Ae hbd.reads hbd.none (Cn bd) Ad Aa Ad .free rfl (fun _ => .inr Au) ?_; intro B1 c1' hB1; refine Dc 10 rfl rfl (Hw hf.rep hok0 hb _ (by rw [hki]; decide) _) ?_; rintro _ J1 _ e1 ⟨o1, k1, rfl, hs1, rfl⟩
   have hbd1 := hbd.mono e1
   refine Hx ?_; refine Cg 11 (B := B1) (xs := bd.map sv) (ys := (Ex.binds _ _).map sv) (m := 0 + bd.length) (c := c1') rfl Af rfl Av Ac rfl rfl hB1 (fun _ h => h) Ae hs1.reads hs1.none (Cn _) Ad (Ex.binds_room1 Aa) Ad .free rfl (fun _ => .inr Au) ?_; intro B2 c2' hB2; rw [← List.map_append] at hB2 ⊢; refine Eh (l := bd ++ Ex.binds _ _) hB2 Ae Hu (hbd1.append hs1) ?_; intro J3 o3 k3 ez hbv hs3; refine G8 (t := 61) rfl hbv ?_
   have e4 := e1.trans ez
   have hf3 := hf.mono e4
   refine Bn (fun w h => h.u1) ?_; refine Dc 13 rfl rfl (ihn Aa (hf3.as 1 a.tree Aa rfl) hok.1.1 hs3 (Ex.binds_room Aa) _ _ _ Aa hB _) ?_; rintro _ J4 _ e5 ⟨B, c, rfl, hB, rfl⟩
   have e6 := e4.trans e5
   refine Hx ?_; refine Bn (fun w h => h.w1) ?_
   have hf := hf.mono e6
   have hbd := hbd.mono e6
   have hle := hle.trans e6
   refine Da 14 rfl (Bk rfl) ?_; refine A5 Af ?_; refine Ap (Al rfl (Om rfl ?_)); refine Or rfl rfl rfl ?_; refine Oa rfl (Ab ?_); refine Bz ?_; refine Ah (Se rfl (Om rfl (Om rfl (Oc rfl rfl rfl (Ab ?_))))); refine B6 rfl Ay ?_; refine Ak (Ah (Aq ?_)); refine Vz 15 rfl rfl ?_; refine Da 0 rfl (Aj rfl) ?_; refine Dt 1 [15] rfl (Bo rfl) ?_; refine Da 2 rfl (Ai rfl) ?_
   first | refine Da 3 rfl (Bc rfl rfl _ rfl) ?_ | refine Da 3 rfl (Bd rfl rfl _ rfl) ?_
   refine Dt 4 [15] rfl (C5 rfl) ?_; refine Da 6 rfl (Ai rfl) ?_; refine Dt 8 [15] rfl (Ea rfl) ?_; refine Da 9 rfl (Ai rfl) ?_; refine Da 12 rfl (Ai rfl) ?_; refine Ib 5 rfl Af rfl .free rfl (.inr Au) ?_; intro b55; refine Cg 7 (B := some (b55, [])) (xs := []) (ys := bd.map sv) (m := 0) (c := 0) rfl Af rfl Av Ac rfl rfl ⟨rfl, Nat.le_refl _, rfl⟩ (fun _ h => h) Ae hbd.reads hbd.none (Cn bd) Ad Aa Ad .free rfl (fun _ => .inr Au) ?_; intro B1 c1' hB1; refine Dc 10 rfl rfl (Hw hf.rep hok0 hb _ (by rw [hki]; decide) _) ?_; rintro _ J1 _ e1 ⟨o1, k1, rfl, hs1, rfl⟩
   have hbd1 := hbd.mono e1
   refine Hx ?_; refine Cg 11 (B := B1) (xs := bd.map sv) (ys := (Ex.binds _ _).map sv) (m := 0 + bd.length) (c := c1') rfl Af rfl Av Ac rfl rfl hB1 (fun _ h => h) Ae hs1.reads hs1.none (Cn _) Ad (Ex.binds_room1 Aa) Ad .free rfl (fun _ => .inr Au) ?_; intro B2 c2' hB2; rw [← List.map_append] at hB2 ⊢; refine Eh (l := bd ++ Ex.binds _ _) hB2 Ae Hu (hbd1.append hs1) ?_; intro J3 o3 k3 ez hbv hs3; refine G8 (t := 61) rfl hbv ?_
   have e4 := e1.trans ez
   have hf3 := hf.mono e4
   refine Bn (fun w h => h.u1) ?_; refine Dc 13 rfl rfl (ihn Aa (hf3.as 2 b.tree Aa rfl) hok.1.2 hs3 (Ex.binds_room Aa) _ _ _ (Jp Aa) hB _) ?_; rintro _ J4 _ e5 ⟨B, c, rfl, hB, rfl⟩
   have e6 := e4.trans e5
   refine Hx ?_; refine Bn (fun w h => h.w1) ?_
   have hf := hf.mono e6
   have hbd := hbd.mono e6
   have hle := hle.trans e6
   refine Da 14 rfl (Bk rfl) ?_; refine A5 Af ?_; refine Ap (Al rfl (Om rfl ?_)); refine Or rfl rfl rfl ?_; refine Oa rfl (Ab ?_); refine Bz ?_; refine Ah (Se rfl (Om rfl (Om rfl (Oc rfl rfl rfl (Ab ?_))))); refine B6 rfl Ay ?_; refine Ak (Ah (Aq ?_)); refine Vz 15 rfl rfl ?_; refine Da 0 rfl (Aj rfl) ?_; refine Dt 1 [15] rfl (Bo rfl) ?_; refine Da 2 rfl (Ai rfl) ?_
   first | refine Da 3 rfl (Bc rfl rfl _ rfl) ?_ | refine Da 3 rfl (Bd rfl rfl _ rfl) ?_
   refine Dt 4 [15] rfl (C5 rfl) ?_; refine Da 6 rfl (Ai rfl) ?_; refine Dt 8 [15] rfl (Ea rfl) ?_; refine Da 9 rfl (Ai rfl) ?_; refine Da 12 rfl (Ai rfl) ?_; refine Ib 5 rfl Af rfl .free rfl (.inr Au) ?_; intro b55; refine Cg 7 (B := some (b55, [])) (xs := []) (ys := bd.map sv) (m := 0) (c := 0) rfl Af rfl Av Ac rfl rfl ⟨rfl, Nat.le_refl _, rfl⟩ (fun _ h => h) Ae hbd.reads hbd.none (Cn bd) Ad Aa Ad .free rfl (fun _ => .inr Au) ?_; intro B1 c1' hB1; refine Dc 10 rfl rfl (Hw hf.rep hok0 hb _ (by rw [hki]; decide) _) ?_; rintro _ J1 _ e1 ⟨o1, k1, rfl, hs1, rfl⟩
   have hbd1 := hbd.mono e1
   refine Hx ?_; refine Cg 11 (B := B1) (xs := bd.map sv) (ys := (Ex.binds _ _).map sv) (m := 0 + bd.length) (c := c1') rfl Af rfl Av Ac rfl rfl hB1 (fun _ h => h) Ae hs1.reads hs1.none (Cn _) Ad (Ex.binds_room1 Aa) Ad .free rfl (fun _ => .inr Au) ?_; intro B2 c2' hB2; rw [← List.map_append] at hB2 ⊢; refine Eh (l := bd ++ Ex.binds _ _) hB2 Ae Hu (hbd1.append hs1) ?_; intro J3 o3 k3 ez hbv hs3; refine G8 (t := 61) rfl hbv ?_
   have e4 := e1.trans ez
   have hf3 := hf.mono e4
   refine Bn (fun w h => h.u1) ?_; refine Dc 13 rfl rfl (ihn Aa (hf3.as 3 d.tree Aa rfl) hok.2 hs3 (Ex.binds_room Aa) _ _ _ (Vp Aa) hB _) ?_; rintro _ J4 _ e5 ⟨B, c, rfl, hB, rfl⟩
   have e6 := e4.trans e5
   refine Hx ?_; refine Bn (fun w h => h.w1) ?_
   have hf := hf.mono e6
   have hbd := hbd.mono e6
   have hle := hle.trans e6
   refine Da 14 rfl (Bk rfl) ?_; refine A5 Af ?_; refine Ap (Al rfl (Om rfl ?_)); refine Or rfl rfl rfl ?_; refine Oa rfl (Ab ?_); refine Bz ?_; refine Ah (Se rfl (Om rfl (Om rfl (Oc rfl rfl rfl (Ab ?_))))); refine De rfl Ay ?_; refine Cc rfl ?_; refine Se rfl (Om rfl (Oa rfl (Ab (Am (.tmp rfl .nil) ?_))))
   exact ⟨_, _, hle, fun w h => h.drop, B, c, by simp [Ex.occ, Ex.binds, Cs, C2], by simpa [Ex.occ, Ex.binds, Cs] using hB, by simp [Ex.occ, Ex.binds, Cs]⟩
  ·skip
   have hk : Ax (Ex.lt z a b).tree.head = (2, 4) := rfl
   rw [hk]
   have hlen : (Ex.lt z a b).tree.parts.length = 4 := rfl
   have hki := L7 z a b
   simp only [Ex.lt.sizeOf_spec] at hlt
   simp only [Ex.size] at hbl hl
   simp only [Ex.ok, Bool.and_eq_true] at hok
   refine Al rfl (Om rfl (Oa rfl (Ab (Aq ?_)))); refine Ee ?_; refine Ah (Se rfl (Om rfl (Om rfl (Oc rfl rfl rfl (Ab ?_))))); refine B6 rfl Ay ?_; refine Ak (Ah (Aq ?_)); refine Vz 15 rfl rfl ?_; refine Da 0 rfl (Aj rfl) ?_; refine Dt 1 [15] rfl (Bo rfl) ?_; refine Da 2 rfl (Ai rfl) ?_
   first | refine Da 3 rfl (Bc rfl rfl _ rfl) ?_ | refine Da 3 rfl (Bd rfl rfl _ rfl) ?_
   refine Dt 4 [15] rfl (C5 rfl) ?_; refine Da 6 rfl (Ai rfl) ?_; refine Dt 8 [15] rfl (Ea rfl) ?_; refine Da 9 rfl (Ai rfl) ?_; refine Da 12 rfl (Ai rfl) ?_; refine Ib 5 rfl Af rfl .free rfl (.inr Au) ?_; intro b55; refine Cg 7 (B := some (b55, [])) (xs := []) (ys := bd.map sv) (m := 0) (c := 0) rfl Af rfl Av Ac rfl rfl ⟨rfl, Nat.le_refl _, rfl⟩ (fun _ h => h) Ae hbd.reads hbd.none (Cn bd) Ad Aa Ad .free rfl (fun _ => .inr Au) ?_; intro B1 c1' hB1; refine Dc 10 rfl rfl (Hw hf.rep hok0 hb _ (by rw [hki]; decide) _) ?_; rintro _ J1 _ e1 ⟨o1, k1, rfl, hs1, rfl⟩
   have hbd1 := hbd.mono e1
   refine Hx ?_; refine Cg 11 (B := B1) (xs := bd.map sv) (ys := (Ex.binds _ _).map sv) (m := 0 + bd.length) (c := c1') rfl Af rfl Av Ac rfl rfl hB1 (fun _ h => h) Ae hs1.reads hs1.none (Cn _) Ad (Ex.binds_room1 Aa) Ad .free rfl (fun _ => .inr Au) ?_; intro B2 c2' hB2; rw [← List.map_append] at hB2 ⊢; refine Eh (l := bd ++ Ex.binds _ _) hB2 Ae Hu (hbd1.append hs1) ?_; intro J3 o3 k3 ez hbv hs3; refine G8 (t := 61) rfl hbv ?_
   have e4 := e1.trans ez
   have hf3 := hf.mono e4
   refine Bn (fun w h => h.u1) ?_; refine Dc 13 rfl rfl (ihn Aa (hf3.as 2 a.tree Aa rfl) hok.1.2 hs3 (Ex.binds_room Aa) _ _ _ Aa hB _) ?_; rintro _ J4 _ e5 ⟨B, c, rfl, hB, rfl⟩
   have e6 := e4.trans e5
   refine Hx ?_; refine Bn (fun w h => h.w1) ?_
   have hf := hf.mono e6
   have hbd := hbd.mono e6
   have hle := hle.trans e6
   refine Da 14 rfl (Bk rfl) ?_; refine A5 Af ?_; refine Ap (Al rfl (Om rfl ?_)); refine Or rfl rfl rfl ?_; refine Oa rfl (Ab ?_); refine Bz ?_; refine Ah (Se rfl (Om rfl (Om rfl (Oc rfl rfl rfl (Ab ?_))))); refine B6 rfl Ay ?_; refine Ak (Ah (Aq ?_)); refine Vz 15 rfl rfl ?_; refine Da 0 rfl (Aj rfl) ?_; refine Dt 1 [15] rfl (Bo rfl) ?_; refine Da 2 rfl (Ai rfl) ?_
   first | refine Da 3 rfl (Bc rfl rfl _ rfl) ?_ | refine Da 3 rfl (Bd rfl rfl _ rfl) ?_
   refine Dt 4 [15] rfl (C5 rfl) ?_; refine Da 6 rfl (Ai rfl) ?_; refine Dt 8 [15] rfl (Ea rfl) ?_; refine Da 9 rfl (Ai rfl) ?_; refine Da 12 rfl (Ai rfl) ?_; refine Ib 5 rfl Af rfl .free rfl (.inr Au) ?_; intro b55; refine Cg 7 (B := some (b55, [])) (xs := []) (ys := bd.map sv) (m := 0) (c := 0) rfl Af rfl Av Ac rfl rfl ⟨rfl, Nat.le_refl _, rfl⟩ (fun _ h => h) Ae hbd.reads hbd.none (Cn bd) Ad Aa Ad .free rfl (fun _ => .inr Au) ?_; intro B1 c1' hB1; refine Dc 10 rfl rfl (Hw hf.rep hok0 hb _ (by rw [hki]; decide) _) ?_; rintro _ J1 _ e1 ⟨o1, k1, rfl, hs1, rfl⟩
   have hbd1 := hbd.mono e1
   refine Hx ?_; refine Cg 11 (B := B1) (xs := bd.map sv) (ys := (Ex.binds _ _).map sv) (m := 0 + bd.length) (c := c1') rfl Af rfl Av Ac rfl rfl hB1 (fun _ h => h) Ae hs1.reads hs1.none (Cn _) Ad (Ex.binds_room1 Aa) Ad .free rfl (fun _ => .inr Au) ?_; intro B2 c2' hB2; rw [← List.map_append] at hB2 ⊢; refine Eh (l := bd ++ Ex.binds _ _) hB2 Ae Hu (hbd1.append hs1) ?_; intro J3 o3 k3 ez hbv hs3; refine G8 (t := 61) rfl hbv ?_
   have e4 := e1.trans ez
   have hf3 := hf.mono e4
   refine Bn (fun w h => h.u1) ?_; refine Dc 13 rfl rfl (ihn Aa (hf3.as 3 b.tree Aa rfl) hok.2 hs3 (Ex.binds_room Aa) _ _ _ (Jp Aa) hB _) ?_; rintro _ J4 _ e5 ⟨B, c, rfl, hB, rfl⟩
   have e6 := e4.trans e5
   refine Hx ?_; refine Bn (fun w h => h.w1) ?_
   have hf := hf.mono e6
   have hbd := hbd.mono e6
   have hle := hle.trans e6
   refine Da 14 rfl (Bk rfl) ?_; refine A5 Af ?_; refine Ap (Al rfl (Om rfl ?_)); refine Or rfl rfl rfl ?_; refine Oa rfl (Ab ?_); refine Bz ?_; refine Ah (Se rfl (Om rfl (Om rfl (Oc rfl rfl rfl (Ab ?_))))); refine De rfl Ay ?_; refine Cc rfl ?_; refine Se rfl (Om rfl (Oa rfl (Ab (Am (.tmp rfl .nil) ?_))))
   exact ⟨_, _, hle, fun w h => h.drop, B, c, by simp [Ex.occ, Ex.binds, Cs, C2], by simpa [Ex.occ, Ex.binds, Cs] using hB, by simp [Ex.occ, Ex.binds, Cs]⟩
  ·skip
   have hk : Ax (Ex.fn g z s t b).tree.head = (5, 6) := rfl
   rw [hk]
   have hlen : (Ex.fn g z s t b).tree.parts.length = 6 := rfl
   have hki := Mh g z s t b
   simp only [Ex.fn.sizeOf_spec] at hlt
   simp only [Ex.size] at hbl hl
   simp only [Ex.ok, Bool.and_eq_true] at hok
   refine Al rfl (Om rfl (Oa rfl (Ab (Aq ?_)))); refine Ee ?_; refine Ah (Se rfl (Om rfl (Om rfl (Oc rfl rfl rfl (Ab ?_))))); refine B6 rfl Ay ?_; refine Ak (Ah (Aq ?_)); refine Vz 15 rfl rfl ?_; refine Da 0 rfl (Aj rfl) ?_; refine Dt 1 [15] rfl (Bo rfl) ?_; refine Da 2 rfl (Ai rfl) ?_
   first | refine Da 3 rfl (Bc rfl rfl _ rfl) ?_ | refine Da 3 rfl (Bd rfl rfl _ rfl) ?_
   refine Dt 4 [15] rfl (C5 rfl) ?_; refine Da 6 rfl (Ai rfl) ?_; refine Dt 8 [15] rfl (Ea rfl) ?_; refine Da 9 rfl (Ai rfl) ?_; refine Da 12 rfl (Ai rfl) ?_; refine Ib 5 rfl Af rfl .free rfl (.inr Au) ?_; intro b55; refine Cg 7 (B := some (b55, [])) (xs := []) (ys := bd.map sv) (m := 0) (c := 0) rfl Af rfl Av Ac rfl rfl ⟨rfl, Nat.le_refl _, rfl⟩ (fun _ h => h) Ae hbd.reads hbd.none (Cn bd) Ad Aa Ad .free rfl (fun _ => .inr Au) ?_; intro B1 c1' hB1; refine Dc 10 rfl rfl (Hw hf.rep hok0 hb _ (by rw [hki]; decide) _) ?_; rintro _ J1 _ e1 ⟨o1, k1, rfl, hs1, rfl⟩
   have hbd1 := hbd.mono e1
   refine Hx ?_; refine Cg 11 (B := B1) (xs := bd.map sv) (ys := (Ex.binds _ _).map sv) (m := 0 + bd.length) (c := c1') rfl Af rfl Av Ac rfl rfl hB1 (fun _ h => h) Ae hs1.reads hs1.none (Cn _) Ad (Ex.binds_room1 Aa) Ad .free rfl (fun _ => .inr Au) ?_; intro B2 c2' hB2; rw [← List.map_append] at hB2 ⊢; refine Eh (l := bd ++ Ex.binds _ _) hB2 Ae Hu (hbd1.append hs1) ?_; intro J3 o3 k3 ez hbv hs3; refine G8 (t := 61) rfl hbv ?_
   have e4 := e1.trans ez
   have hf3 := hf.mono e4
   refine Bn (fun w h => h.u1) ?_; refine Dc 13 rfl rfl (ihn Aa (hf3.as 5 b.tree Aa rfl) hok.2 hs3 (Ex.binds_room Aa) _ _ _ Aa hB _) ?_; rintro _ J4 _ e5 ⟨B, c, rfl, hB, rfl⟩
   have e6 := e4.trans e5
   refine Hx ?_; refine Bn (fun w h => h.w1) ?_
   have hf := hf.mono e6
   have hbd := hbd.mono e6
   have hle := hle.trans e6
   refine Da 14 rfl (Bk rfl) ?_; refine A5 Af ?_; refine Ap (Al rfl (Om rfl ?_)); refine Or rfl rfl rfl ?_; refine Oa rfl (Ab ?_); refine Bz ?_; refine Ah (Se rfl (Om rfl (Om rfl (Oc rfl rfl rfl (Ab ?_))))); refine De rfl Ay ?_; refine Cc rfl ?_; refine Se rfl (Om rfl (Oa rfl (Ab (Am (.tmp rfl .nil) ?_))))
   exact ⟨_, _, hle, fun w h => h.drop, B, c, by simp [Ex.occ, Ex.binds, Cs, C2], by simpa [Ex.occ, Ex.binds, Cs] using hB, by simp [Ex.occ, Ex.binds, Cs]⟩
  ·skip
   have hk : Ax (Ex.un o a).tree.head = (1, 2) := by cases o <;> rfl
   rw [hk]
   have hlen : (Ex.un o a).tree.parts.length = 2 := rfl
   have hki := Nz o a
   simp only [Ex.un.sizeOf_spec] at hlt
   simp only [Ex.size] at hbl hl
   simp only [Ex.ok] at hok
   refine Al rfl (Om rfl (Oa rfl (Ab (Aq ?_)))); refine Ee ?_; refine Ah (Se rfl (Om rfl (Om rfl (Oc rfl rfl rfl (Ab ?_))))); refine B6 rfl Ay ?_; refine Ak (Ah (Aq ?_)); refine Vz 15 rfl rfl ?_; refine Da 0 rfl (Aj rfl) ?_; refine Dt 1 [15] rfl (Bo rfl) ?_; refine Da 2 rfl (Ai rfl) ?_
   first | refine Da 3 rfl (Bc rfl rfl _ rfl) ?_ | refine Da 3 rfl (Bd rfl rfl _ rfl) ?_
   refine Dt 4 [15] rfl (C5 rfl) ?_; refine Da 6 rfl (Ai rfl) ?_; refine Dt 8 [15] rfl (Ea rfl) ?_; refine Da 9 rfl (Ai rfl) ?_; refine Da 12 rfl (Ai rfl) ?_; refine Ib 5 rfl Af rfl .free rfl (.inr Au) ?_; intro b55; refine Cg 7 (B := some (b55, [])) (xs := []) (ys := bd.map sv) (m := 0) (c := 0) rfl Af rfl Av Ac rfl rfl ⟨rfl, Nat.le_refl _, rfl⟩ (fun _ h => h) Ae hbd.reads hbd.none (Cn bd) Ad Aa Ad .free rfl (fun _ => .inr Au) ?_; intro B1 c1' hB1; refine Dc 10 rfl rfl (Hw hf.rep hok0 hb _ (by rw [hki]; decide) _) ?_; rintro _ J1 _ e1 ⟨o1, k1, rfl, hs1, rfl⟩
   have hbd1 := hbd.mono e1
   refine Hx ?_; refine Cg 11 (B := B1) (xs := bd.map sv) (ys := (Ex.binds _ _).map sv) (m := 0 + bd.length) (c := c1') rfl Af rfl Av Ac rfl rfl hB1 (fun _ h => h) Ae hs1.reads hs1.none (Cn _) Ad (Ex.binds_room1 Aa) Ad .free rfl (fun _ => .inr Au) ?_; intro B2 c2' hB2; rw [← List.map_append] at hB2 ⊢; refine Eh (l := bd ++ Ex.binds _ _) hB2 Ae Hu (hbd1.append hs1) ?_; intro J3 o3 k3 ez hbv hs3; refine G8 (t := 61) rfl hbv ?_
   have e4 := e1.trans ez
   have hf3 := hf.mono e4
   refine Bn (fun w h => h.u1) ?_; refine Dc 13 rfl rfl (ihn Aa (hf3.as 1 a.tree Aa rfl) hok hs3 (Ex.binds_room Aa) _ _ _ Aa hB _) ?_; rintro _ J4 _ e5 ⟨B, c, rfl, hB, rfl⟩
   have e6 := e4.trans e5
   refine Hx ?_; refine Bn (fun w h => h.w1) ?_
   have hf := hf.mono e6
   have hbd := hbd.mono e6
   have hle := hle.trans e6
   refine Da 14 rfl (Bk rfl) ?_; refine A5 Af ?_; refine Ap (Al rfl (Om rfl ?_)); refine Or rfl rfl rfl ?_; refine Oa rfl (Ab ?_); refine Bz ?_; refine Ah (Se rfl (Om rfl (Om rfl (Oc rfl rfl rfl (Ab ?_))))); refine De rfl Ay ?_; refine Cc rfl ?_; refine Se rfl (Om rfl (Oa rfl (Ab (Am (.tmp rfl .nil) ?_))))
   exact ⟨_, _, hle, fun w h => h.drop, B, c, by simp [Ex.occ, Ex.binds, Cs, C2], by simpa [Ex.occ, Ex.binds, Cs] using hB, by simp [Ex.occ, Ex.binds, Cs]⟩

def Nb (s : As) : Option (List As) := (Fo s).map Ex.free
def Cr (s : As) : Option Ex := match Fo s with
 | some e => if e.closed = true then some e else none
 | none => none
def EF (o : Option (List As)) (L : Bj) : Cv := fun v I' L' => ∃ oa c, v = .tuple #[.slice oa (o.getD []).length c, .bool o.isSome] ∧ Strs I' oa (o.getD []) c ∧ L = L'
theorem Abf {e : Ex} (h : e.fine = true) : e.size ≤ 120 := by
 simp only [Ex.fine, Bool.and_eq_true, decide_eq_true_eq] at h; exact h.1.2
theorem Aa9 {s : As} {e : Ex} (h : Fo s = some e) : e.size ≤ 120 := Abf (Nw h).2.1
theorem T4 (s : As) : (Cr s).isSome = ((Nb s).isSome && decide ((Nb s).getD [] = [])) := by
 unfold Cr Nb
 cases Fo s with
 | none => rfl
 | some e =>
  simp only [Option.map_some, Option.isSome_some, Option.getD_some, Bool.true_and]
  rw [← Ex.closed_free]
  cases e.closed <;> rfl
theorem H4 {s : As} {e : Ex} (h : Cr s = some e) : Fo s = some e ∧ e.closed = true := by
 unfold Cr at h
 cases hx : Fo s with
 | none => rw [hx] at h; cases h
 | some e' =>
  rw [hx] at h
  simp only at h
  split at h
  ·rename_i hc; cases h; exact ⟨rfl, hc⟩
  ·cases h
theorem Abd {I : Heap} {s : As} {t : Tree} {cs : List Value} {ok : Bool} (h : Rep I t cs) (hpf : match Fo s with | some e => ok = true ∧ t = e.tree | none => ok = false) (hok : ok = true) (L : Bj) :
  Fun Tryz.prog 74 [.agg cs.toArray] I L (SS ((Nb s).getD []) L) := by
 obtain ⟨e, he, rfl, h1, _⟩ := Ry hpf hok
 have hez := Aa9 he
 rw [Nb, he]; exact Lz h h1 Aa L
theorem Mf (s : As) (hs : s.length ≤ Bg) (I : Heap) (L : Bj) : Fun Tryz.prog 41 [.string (str s)] I L (RX (Cr s) L) := by
 refine Ao Ae ?_; refine Se rfl ?_; refine A1 .free rfl ?_; intro b2; refine Oa rfl (Ab (Se rfl (Om rfl ?_))); refine Ca rfl (Sr s hs _ _) ?_; rintro _ J _ hleJ ⟨t, cs, ok, rfl, hrep, rfl, hpf⟩; obtain ⟨oa, cc, vs, rfl, -⟩ := hrep.open; refine Om rfl (Oe rfl rfl (Oe rfl rfl ?_)); refine A1 .free rfl ?_; intro b4; refine By rfl rfl rfl rfl .free ?_; refine Oa rfl (Ab (Ah ?_)); refine Fh 10 rfl rfl ?_; refine Dt 0 [8] rfl (Ea rfl) ?_; refine Da 1 rfl (Ai rfl) ?_; refine Da 2 rfl (Ai rfl) ?_
 apply Sk 13 18 rfl
 ·intro g2_3 hk
  try simp only [nb] at g2_3
  refine Hk 3 [4, 8] rfl Af rfl Au (Ea rfl) (.met rfl rfl) rfl ?_; refine Lf 4 rfl Af rfl rfl (.met rfl rfl) rfl (Abd hrep hpf g2_3 _) ?_; rintro _ J2 _ e2 ⟨oz, cz, rfl, hst, rfl⟩; refine Hx ?_; refine Dm 5 rfl (Fd rfl) ?_; refine Bn (fun w h => Mem.le e2 h) ?_; refine Dm 6 rfl (Le rfl rfl rfl) ?_; refine Da 7 rfl (Ft rfl rfl) ?_
  exact Iq 4 rfl rfl hk
 ·intro _ hk; refine Ds 3 rfl rfl rfl ?_; refine Ds 4 rfl rfl rfl ?_; refine Ds 5 rfl rfl rfl ?_; refine Ds 6 rfl rfl rfl ?_; refine Da 7 rfl (Fa rfl rfl) ?_
  exact Iq 4 rfl rfl hk
 refine Dx 8 rfl rfl rfl rfl ?_; refine Db 9 rfl (Bk rfl) ?_; refine A5 Af ?_; refine Am (.c rfl (.tmp rfl .nil)) ?_; refine ⟨J, L, hleJ, Cl, t, _, _, rfl, hrep, rfl, ?_⟩
 have hcf := T4 s
 cases hc : Cr s with
 | some e =>
  obtain ⟨he, hcl⟩ := H4 hc; rw [he] at hpf; rw [hc] at hcf
  simp only [Option.isSome_some, Bool.true_eq, Bool.and_eq_true, decide_eq_true_eq] at hcf
  exact ⟨by rw [hpf.1, hcf.2]; rfl, hpf.2⟩
 | none =>
  rw [hc] at hcf
  cases ok with
  | false => rfl
  | true =>
   obtain ⟨e, he, _⟩ := Ry hpf rfl
   simp only [Nb, he, Option.map_some, Option.isSome_some, Option.isSome_none, Option.getD_some, Bool.true_and] at hcf ⊢
   have h1 : e.free ≠ [] := by simpa using hcf.symm
   have h2 := List.length_pos_iff.2 h1
   exact decide_eq_false Aa
theorem V3 (s : As) (hs : s.length ≤ Bg) (I : Heap) (L : Bj) : Fun Tryz.prog 38 [.string (str s)] I L (E2 (.bool (Cr s).isSome) I L) := by
 refine Ao Ae ?_; refine Se rfl (Oa rfl (Ab (Se rfl (Om rfl ?_)))); refine Ca rfl (Mf s hs _ _) ?_; rintro _ J _ hleJ ⟨t, cs, ok, rfl, hrep, rfl, hpf⟩; obtain ⟨oa, cc, vs, rfl, -⟩ := hrep.open; refine Om rfl (Oe rfl rfl (Oe rfl rfl ?_)); refine A1 .free rfl ?_; intro b3; refine By rfl rfl rfl rfl .free ?_; refine Oa rfl (Ab (Se rfl (Om rfl (Oa rfl (Ab (Am (.tmp rfl .nil) ?_)))))); refine Km hleJ Cl ?_; refine congrArg Value.bool ?_
 cases hp : Cr s with
 | none => rw [hp] at hpf; exact hpf
 | some e => rw [hp] at hpf; exact hpf.1
def smallL (m : List Ty) : Prop := ∀ t ∈ m, t.size ≤ 16
theorem smallL.add {m : List Ty} {t : Ty} (h : smallL m) (ht : t.size ≤ 16) : smallL (m ++ [t]) := by
 intro u hu
 rcases List.mem_append.1 hu with h1 | h1
 ·exact h u h1
 ·obtain rfl := List.mem_singleton.1 h1; exact ht
/- Texts of types; the empty text for none. -/
def tyT : Option Ty → As
 | some t => t.tree.text
 | none => []
theorem Ty.text_len {t : Ty} (h : t.size ≤ 16) : t.tree.text.length ≤ 80 := by
 have := t.tree_small; rw [Tree.text_len]; omega
def Agy (o : Option Ty) : Prop := ∀ t, o = some t → t.size ≤ 16
def Aic (ks : List (Option Ty)) : Prop := ∀ o ∈ ks, Agy o
def Ql (h : As) : List (Option Ty) → Option Ty
 | [some a] => (U2.of h).bind fun o => o.ty a
 | [some a, some b] => (B5.of h).bind fun o => o.ty a b
 | [some a, some b, some c] => if a = .i ∧ b = c then some b else none
 | _ => none
theorem Ex.ty_bin (o : B5) (a b : Ex) (l : List As) (m : List Ty) : (Ex.bin o a b).ty l m = Ql o.txt [a.ty l m, b.ty l m] := by
 simp only [Ex.ty, Ex.chk]
 cases a.chk l m with
 | error x => cases b.chk l m <;> rfl
 | ok s =>
  cases b.chk l m with
  | error y => rfl
  | ok t =>
   simp only [Ql, B5.of_txt, Option.bind]
   cases o.ty s t <;> rfl
theorem Ex.ty_ite (a b c : Ex) (l : List As) (m : List Ty) : (Ex.ite a b c).ty l m = Ql Gy [a.ty l m, b.ty l m, c.ty l m] := by
 simp only [Ex.ty, Ex.chk]
 cases a.chk l m with
 | error x => cases b.chk l m <;> cases c.chk l m <;> rfl
 | ok s =>
  cases b.chk l m with
  | error y => cases c.chk l m <;> rfl
  | ok t =>
   cases c.chk l m with
   | error y => rfl
   | ok u =>
    simp only [Ql]
    by_cases h : s = .i ∧ t = u <;> simp [h]
theorem Ex.ty_un (o : U2) (a : Ex) (l : List As) (m : List Ty) : (Ex.un o a).ty l m = Ql o.txt [a.ty l m] := by
 simp only [Ex.ty, Ex.chk]
 cases a.chk l m with
 | error x => rfl
 | ok s =>
  simp only [Ql, U2.of_txt, Option.bind]
  cases o.ty s <;> rfl
theorem Ex.ty_lt (x : As) (a b : Ex) (l : List As) (m : List Ty) : (Ex.lt x a b).ty l m = match a.ty l m with | some s => b.ty (l ++ [x]) (m ++ [s]) | none => none := by
 simp only [Ex.ty, Ex.chk]
 cases a.chk l m <;> rfl
theorem Ex.ty_fn (f x : As) (s t : Ty) (b : Ex) (l : List As) (m : List Ty) : (Ex.fn f x s t b).ty l m = if (Ty.fn s t).size ≤ 16 ∧ b.ty (l ++ [f, x]) (m ++ [.fn s t, s]) = some t then some (.fn s t) else none := by
 simp only [Ex.ty, Ex.chk]
 by_cases h : (Ty.fn s t).size ≤ 16
 ·simp only [h, if_true, true_and]
  cases b.chk (l ++ [f, x]) (m ++ [.fn s t, s]) with
  | error x => simp
  | ok u => by_cases hu : u = t <;> simp [hu]
 ·simp [h]
theorem Ex.ty_name (s : As) (l : List As) (m : List Ty) : (Ex.name s).ty l m = Ge l m s := by
 simp only [Ex.ty, Ex.chk]
 cases Ge l m s <;> rfl
def M0 (s : As) : Option Ty := (J7 s).bind Tree.ty
theorem Aau {s : As} {t : Tree} (h : J7 s = some t) : ∃ a : Ty, M0 s = some a ∧ t = a.tree ∧ a.size ≤ 16 ∧ s = a.tree.text := by
 obtain ⟨a, rfl, h2, h3⟩ := Y3 h
 exact ⟨a, by simp [M0, h, a.tree_ty], rfl, h2, h3⟩
theorem Vk {s : As} {a : Ty} (h : M0 s = some a) : J7 s = some a.tree ∧ a.size ≤ 16 ∧ s = a.tree.text := by
 cases h1 : J7 s with
 | none => simp [M0, h1] at h
 | some t =>
  obtain ⟨b, h2, rfl, h3, h4⟩ := Aau h1; rw [h] at h2; cases h2
  exact ⟨rfl, h3, h4⟩
def Ahl (m : List As) : List Ty := m.map fun s => (M0 s).getD .i
def Aiy (l m : List As) (s : As) : Option As := if Aam l m = true then (Fo s).bind fun e => (e.ty l (Ahl m)).map fun t => t.tree.text else none
def Ex.sub : Ex → List Ex
 | .num _ => []
 | .name _ => []
 | .bin _ a b => [a, b]
 | .ite a b c => [a, b, c]
 | .lt _ a b => [a, b]
 | .fn _ _ _ _ b => [b]
 | .un _ a => [a]
/- Environments of parts. -/
def Ex.inL (e : Ex) (i : Nat) (l : List As) : List As := match e with
 | .lt x _ _ => if i = 3 then l ++ [x] else l
 | .fn f x _ _ _ => l ++ [f] ++ [x]
 | _ => l
def Ex.inM (e : Ex) (i : Nat) (s0 : Ty) (m : List Ty) : List Ty := match e with
 | .lt _ _ _ => if i = 3 then m ++ [s0] else m
 | .fn _ _ s t _ => m ++ [.fn s t] ++ [s]
 | _ => m
def Ex.raw (e : Ex) (ts : List Ty) (l : List As) (m : List Ty) : Option Ty := match e, ts with
 | .num _, _ => some .i
 | .name s, _ => Ge l m s
 | .bin .pair _ _, [a, b] => some (.pr a b)
 | .bin o _ _, [a, b] => o.ty a b
 | .ite _ _ _, [a, b, c] => if a = .i ∧ b = c then some b else none
 | .lt _ _ _, [_, b] => some b
 | .fn _ _ s t _, [b] => if b = t then some (.fn s t) else none
 | .un o _, [a] => o.ty a
 | _, _ => none
def Ex.fin (e : Ex) (r : Option Ty) : Except Ex Ty := match r with
 | some t => if t.size ≤ 16 then .ok t else .error e
 | none => .error e
def Ex.run (e : Ex) (l : List As) (m : List Ty) : List Ex → List Nat → List Ty → Except Ex (List Ty)
 | a :: more, k :: ks, ts => match a.chk (e.inL k l) (e.inM k (ts.getD 0 .i) m) with
  | .ok t => e.run l m more ks (ts ++ [t])
  | .error x => .error x
 | _, _, ts => .ok ts
def Ex.runs (e : Ex) (l : List As) (m : List Ty) : Except Ex (List Ty) := e.run l m e.sub (D2 e.tree) []
def Ex.funOk : Ex → Bool
 | .fn _ _ s t _ => decide ((Ty.fn s t).size ≤ 16)
 | _ => true
end Go.Proofs.YtmfagaajiakgoaaGreatDoor
