/- Names that stand free. No conditions. -/
import Derived.Test.YtfddjcmeejjhiaaGreatDoorG6

namespace Go.Proofs.YtfddjcmeejjhiaaGreatDoor
set_option maxRecDepth 100000
set_option linter.unusedVariables false
set_option linter.unusedSimpArgs false

def Ex.binds : Ex → Nat → List Aq
 | .lt x _ _, i => if i = 3 then [x] else []
 | .fn f x _ _ _, i => if i = 5 then [f, x] else []
 | _, _ => []
theorem Ex.shapes (e : Ex) (h : e.bare = false) : (∃ o a b, e = .bin o a b) ∨ (∃ a b c, e = .ite a b c) ∨ (∃ x a b, e = .lt x a b) ∨ (∃ f x s t b, e = .fn f x s t b) ∨ (∃ o a, e = .un o a) := by
 cases e with
 | num s => cases h
 | name s => cases h
 | bin o a b => exact .inl ⟨o, a, b, rfl⟩
 | ite a b c => exact .inr (.inl ⟨a, b, c, rfl⟩)
 | lt x a b => exact .inr (.inr (.inl ⟨x, a, b, rfl⟩))
 | fn f x s t b => exact .inr (.inr (.inr (.inl ⟨f, x, s, t, b, rfl⟩)))
 | un o a => exact .inr (.inr (.inr (.inr ⟨o, a, rfl⟩)))
def lbl : List Aq → Bool := fun l => l.all fun s => decide (s.length ≤ Ap)
theorem Fg {I : Heap} {b : Nat} {x : Aq} {e : TypeId} (hle : HLe I (I.set b (.cells [.string (str x)].toArray e (0, 0)))) (hx : x.length ≤ Ap) : Strs (I.set b (.cells [.string (str x)].toArray e (0, 0))) (some ⟨b, 0, none⟩) [x] 1 :=
 ⟨fun y hy => by cases hy; exact Bg (xs := [x].map sv) (ys := []), by simp, by simp, by simp [Ap], by simpa using hx⟩
theorem Hy {I : Heap} {b : Nat} {x y : Aq} {e : TypeId} (hle : HLe I (I.set b (.cells [.string (str x), .string (str y)].toArray e (0, 0)))) (hx : x.length ≤ Ap) (hy : y.length ≤ Ap) : Strs (I.set b (.cells [.string (str x), .string (str y)].toArray e (0, 0))) (some ⟨b, 0, none⟩) [x, y] 2 :=
 ⟨fun z hz => by cases hz; exact Bg (xs := [x, y].map sv) (ys := []), by simp, by simp, by simp [Ap], by simpa using ⟨hx, hy⟩⟩
theorem Mz (I : Heap) : Strs I none [] 0 := ⟨by simp, by simp, by simp, by simp [Ap], by simp⟩
theorem Ex.name_len {x : Aq} (h : Bj x = true) : x.length ≤ Ap := by have := Hp h; unfold Ap; omega

theorem Cy {I : Heap} {e : Ex} {cs : List Value} (h : Rep I e.tree cs) (hok : e.ok = true) (i : Nat) (L : Bf) : Fun Tryz.prog 131 [.agg cs.toArray, .int .i64 (i : Nat)] I L (SS (e.binds i) L) := by
 obtain ⟨oa, c, oaf, cf, rfl, hf⟩ := h.at'; refine Ai (by simp) ?_; refine Se rfl ?_; refine Ct rfl rfl .free rfl ?_; intro b2; refine Oa rfl (Aa (Ac (Al (Se rfl ?_)))); refine Az rfl .free rfl ?_; refine Ca rfl (A7 hf.rep _) ?_; rintro _ _ _ _ ⟨rfl, rfl, rfl⟩; refine Od rfl rfl rfl (Om rfl ?_)
 apply D3 9 12 rfl
 ·intro g1_4 hk
  try simp only [nb] at g1_4
  refine Ow rfl ?_; refine Df rfl rfl rfl (.met rfl rfl) rfl ?_; refine Ot rfl rfl ?_
  exact Ay 2 rfl rfl hk
 ·intro _ hk; refine Ba 2 rfl ?_; refine Of rfl rfl ?_
  exact Ay 2 rfl rfl hk
 refine Oa rfl (Aa ?_); refine Ar rfl ?_ ?_
 ·intro c0
  try simp only [nb] at c0
  obtain ⟨x, a, b, rfl⟩ := Ex.of_let c0.1; obtain rfl : i = 3 := by omega
  simp only [Ex.ok, Bool.and_eq_true] at hok
  have hlen : (Ex.lt x a b).tree.parts.length = 4 := rfl
  have hx : ((Ex.lt x a b).tree.pt 1).atom.length ≤ Ap := Ex.name_len hok.1.1
  refine Se rfl (Oh rfl ?_); refine Bi rfl .free rfl ?_
  first | refine A8 rfl rfl 1 rfl .free rfl ?_ | refine A9 rfl rfl 1 rfl .free rfl ?_
  refine Bq rfl .free rfl ?_; refine Iz rfl .free rfl ?_; refine Ol rfl rfl ?_; intro b18; refine Oa rfl (Aa ?_); refine Br ?_; intro hz; refine Ad (.tmp rfl .nil) ?_
  exact ⟨_, L, hz, Ax, some ⟨b18, 0, none⟩, 1, rfl, Fg hz hx, rfl⟩
 intro c0
 try simp only [nb] at c0
 refine Se rfl ?_; refine Az rfl .free rfl ?_; refine Ca rfl (A7 hf.rep _) ?_; rintro _ _ _ _ ⟨rfl, rfl, rfl⟩; refine Od rfl rfl rfl (Om rfl ?_)
 apply D3 23 26 rfl
 ·intro g3_4 hk
  try simp only [nb] at g3_4
  refine Ow rfl ?_; refine Df rfl rfl rfl (.met rfl rfl) rfl ?_; refine Ot rfl rfl ?_
  exact Ay 2 rfl rfl hk
 ·intro _ hk; refine Ba 2 rfl ?_; refine Of rfl rfl ?_
  exact Ay 2 rfl rfl hk
 refine Oa rfl (Aa ?_); refine Ar rfl ?_ ?_
 ·intro c1
  try simp only [nb] at c1
  obtain ⟨f, x, s, t, b, rfl⟩ := Ex.of_fun c1.1; obtain rfl : i = 5 := by omega
  simp only [Ex.ok, Bool.and_eq_true] at hok
  have hlen : (Ex.fn f x s t b).tree.parts.length = 6 := rfl
  have hx1 : ((Ex.fn f x s t b).tree.pt 1).atom.length ≤ Ap := Ex.name_len hok.1.1.1.1.1
  have hx2 : ((Ex.fn f x s t b).tree.pt 2).atom.length ≤ Ap := Ex.name_len hok.1.1.1.1.2
  refine Ac ?_; refine Cz 12 rfl rfl ?_; refine Da 0 rfl (Ah rfl) ?_; refine Dt 1 [12] rfl (Bl rfl) ?_
  first | refine Da 2 rfl (A5 rfl rfl 1 rfl) ?_ | refine Da 2 rfl (A6 rfl rfl 1 rfl) ?_
  refine Da 3 rfl (A1 rfl) ?_; refine Dt 4 [12] rfl (Ha rfl) ?_; refine Da 5 rfl (Ah rfl) ?_; refine Dt 6 [12] rfl (Bl rfl) ?_
  first | refine Da 7 rfl (A5 rfl rfl 2 rfl) ?_ | refine Da 7 rfl (A6 rfl rfl 2 rfl) ?_
  refine Da 8 rfl (A1 rfl) ?_; refine Dt 9 [12] rfl (Ha rfl) ?_; refine Et 10 rfl (by kernel_rfl) rfl rfl rfl (by rfl) (by rfl) (by rfl) (by decide) (by decide) (by rfl) .free rfl (.inr Aj) ?_; intro b37; refine Da 11 rfl (Av rfl) ?_; refine Ao (by kernel_rfl) ?_; refine Br ?_; intro hz; refine Ad (.tmp rfl .nil) ?_
  exact ⟨_, L, hz, Ax, some ⟨b37, 0, none⟩, 2, rfl, Hy hz hx1 hx2, rfl⟩
 intro c1
 try simp only [nb] at c1
 refine Ae (Ak (Se rfl (Oa rfl (Aa (Ad (.tmp rfl .nil) ?_)))))
 have hb : e.binds i = [] := by
  cases e with
  | lt x a b => exact if_neg fun hi => by rcases c0 with h | h; exact h rfl; omega
  | fn f x s t b => exact if_neg fun hi => by rcases c1 with h | h; exact h rfl; omega
  | _ => rfl
 exact ⟨I, L, .refl _, Ax, none, 0, by rw [hb]; rfl, by rw [hb]; exact Mz I, rfl⟩

theorem Ex.binds_le (e : Ex) (i : Nat) : (e.binds i).length ≤ 2 := by
 cases e with
 | lt x a b => simp only [Ex.binds]; split <;> simp
 | fn f x s t b => simp only [Ex.binds]; split <;> simp
 | _ => simp [Ex.binds]
theorem Ex.binds_room {bd : List Aq} {e : Ex} {i k : Nat} (h : bd.length + 2 + k ≤ 4294967296) : (bd ++ e.binds i).length + k ≤ Ap := by
 have := e.binds_le i; rw [List.length_append]; unfold Ap; omega
theorem Ex.binds_room0 {bd : List Aq} {e : Ex} {i : Nat} (h : bd.length + 2 ≤ 4294967296) : bd.length + (e.binds i).length ≤ Ap := by
 have := e.binds_le i; unfold Ap; omega
structure Zl (P : Program) (kf : FuncId) (cap : List Value) (X : Type) (own : X → Bf) (R : X → List Aq → Heap → Prop) : Prop where
 tell : ∀ x seen s I L, R x seen I → Bj s = true → seen.length < 4294967296 → Fun P kf (.string (str s) :: cap) I (own x ++ L) (fun v I' L' => v = .tuple #[] ∧ ∃ y, R y (seen ++ [s]) I' ∧ L' = own y ++ L)
 mono : ∀ x seen I I', HLe I I' → R x seen I → R x seen I'
theorem Mem.w1 {I : Heap} {a : Nat × Obj} {X L : Bf} {w : World} (h : Mem I (X ++ a :: L) w) : Mem I (a :: (X ++ L)) w := h.perm List.perm_middle
theorem Ex.size_pos (e : Ex) : 1 ≤ e.size := by cases e <;> simp [Ex.size] <;> omega
theorem Ex.occ_len : ∀ (e : Ex) (bd : List Aq), (e.occ bd).length ≤ e.size
 | .num s, bd => Nat.zero_le _
 | .name s, bd => by simp only [Ex.occ]; split <;> simp [Ex.size]
 | .bin o a b, bd => by have := a.occ_len bd; have := b.occ_len bd; simp [Ex.occ, Ex.size]; omega
 | .ite a b c, bd => by have := a.occ_len bd; have := b.occ_len bd; have := c.occ_len bd; simp [Ex.occ, Ex.size]; omega
 | .lt x a b, bd => by have := a.occ_len bd; have := b.occ_len (bd ++ [x]); simp [Ex.occ, Ex.size]; omega
 | .fn f x s t b, bd => by have := b.occ_len (bd ++ [f, x]); simp [Ex.occ, Ex.size]; omega
 | .un o a, bd => by have := a.occ_len bd; simp [Ex.occ, Ex.size]; omega
theorem Ex.occ_room {seen bd : List Aq} {e : Ex} {k n : Nat} (h : seen.length + (e.size + k) ≤ n) : (seen ++ e.occ bd).length + k ≤ n := by
 have := e.occ_len bd; rw [List.length_append]; omega
theorem Ex.occ_room2 {seen bd bd' : List Aq} {e e' : Ex} {k n : Nat} (h : seen.length + (e.size + (e'.size + k)) ≤ n) : (seen ++ e.occ bd ++ e'.occ bd').length + k ≤ n := Ex.occ_room (Ex.occ_room h)
def TP {X : Type} (own : X → Bf) (R : X → List Aq → Heap → Prop) (seen : List Aq) (L : Bf) : C1 := fun v I' L' => v = .tuple #[] ∧ ∃ y, R y seen I' ∧ L' = own y ++ L
theorem Uh          {kf : FuncId} {cap : List Value} {X : Type} {own : X → Bf } {R : X → List Aq  → Heap → Prop} {c0 : Code} {m0' : Nat} {rs0 : List ResultVar} [hfi : Bm   Tryz.prog kf c0 m0' rs0] (T : Zl     Tryz.prog kf cap X own R) :
    ∀ (n : Nat) {I : Heap} {e : Ex} {cs : List Value} (_ : SizeOf.sizeOf e < n) (_ : Rep I e.tree cs) (_ : e.ok = true) {bd : List Aq } {ob : Option Addr} {cb : Nat} (_ : Strs I ob bd cb) (_ : bd.length + 2 * e.size ≤ Ap  ) (x : X) (seen : List Aq ) (_ : seen.length + e.size ≤ 4294967296) (_ : R x seen I) (L : Bf ),
    Fun Tryz.prog 105 [.agg cs.toArray, .slice ob bd.length cb, .func (.func kf) #[] cap.toArray] I (own x ++ L) (TP own R (seen ++ e.occ bd) L) := by
  intro n
  induction n with
  | zero => intro I e cs h; omega
  | succ n ihn =>
    intro I e cs hlt h hok bd ob cb hbd hbl x seen hsl hx L
    obtain ⟨oa, c, oaf, cf, rfl, hf⟩ := h.at'
    have ha := hf.alen
    unfold Ap   at hbl
    refine Ai        (by simp) ?_
    refine Se rfl ?_
    refine Ct    rfl rfl .free rfl ?_
    intro b3
    refine Aa     (Ac    (Se rfl ?_))
    refine Az    rfl .free rfl ?_
    refine Ca rfl (Bo            hf.rep _) ?_
    rintro _ _ _ _ ⟨rfl, rfl, rfl⟩
    refine Aa     ?_
    refine Ar     rfl ?_ ?_
    · intro c0
      try simp only [nb] at c0
      have hb : e.bare = true := by rw [Ex.bare_parts]; exact c0
      refine Ac    (Se rfl (Oh rfl ?_))
      refine Bi    rfl .free rfl ?_
      refine Ca rfl (Hf       e.tree.atom ha _ _) ?_
      rintro _ _ _ _ ⟨rfl, rfl, rfl⟩
      refine Om rfl ?_
      apply D3    13 19 rfl
      · intro g2_4 hk
        try simp only [nb] at g2_4
        refine Ow rfl ?_
        refine Bv          rfl (.met rfl rfl) rfl ?_
        refine Bi    rfl (.met rfl rfl) rfl ?_
        refine B9     rfl (.met rfl rfl) rfl (C3                (hbd.rd _) cb e.tree.atom) ?_
        rintro _ _ _ _ ⟨rfl, rfl, rfl⟩
        refine Cw    rfl (.met rfl rfl) rfl ?_
        refine Ot rfl rfl ?_
        exact Ay    5 rfl rfl hk
      · intro _ hk
        refine Ba      5 rfl ?_
        refine Of rfl rfl ?_
        exact Ay    5 rfl rfl hk
      refine Aa     ?_
      refine Ar     rfl ?_ ?_
      · intro c1
        try simp only [nb] at c1
        have hnm := c1.1
        have hem : e = .name e.tree.atom := by
          cases e with
          | num s => have h1 : Cc    s = true := hok; have h2 := Fh           hnm; rw [show (Ex.num s).tree.atom = s from rfl, h1] at h2; cases h2
          | name s => rfl
          | _ => cases hb
        have hoc : e.occ bd = [e.tree.atom] := by
          have h2 := c1.2
          rw [hem]; simp only [Ex.occ]
          rw [if_neg (by simpa using h2)]
          rfl
        refine Ag      rfl (Om rfl (Oh rfl ?_))
        refine Bi    rfl .free rfl ?_
        refine Dw    (fun w h => h.u1) ?_
        refine Xz      rfl rfl .free rfl (T.tell x seen e.tree.atom _ _ hx hnm (by have := e.size_pos; omega)) ?_
        rintro _ J _ e1 ⟨rfl, y, hy, rfl⟩
        refine Aa     ?_
        refine Ad    .nil ?_
        first
          | exact ⟨J, _, e1, fun w h => h.w1.drop, rfl, y, by rw [hoc]; exact hy, rfl⟩
          | (have hoc : e.occ bd = [] := by
               cases e with
               | num s => rfl
               | name s =>
                 simp only [Ex.occ]
                 rw [if_pos]
                 rcases c1 with h | h
                 · rw [show (Ex.name s).tree.atom = s from rfl, show Bj     s = true from hok] at h; cases h
                 · exact h
               | _ => cases hb
             exact ⟨I, _, .refl _, fun w h => h.drop, rfl, x, by rw [hoc, List.append_nil]; exact hx, rfl⟩)
      intro c1
      try simp only [nb] at c1
      refine Ae     ?_
      refine Ad    .nil ?_
      first
        | exact ⟨J, _, e1, fun w h => h.w1.drop, rfl, y, by rw [hoc]; exact hy, rfl⟩
        | (have hoc : e.occ bd = [] := by
             cases e with
             | num s => rfl
             | name s =>
               simp only [Ex.occ]
               rw [if_pos]
               rcases c1 with h | h
               · rw [show (Ex.name s).tree.atom = s from rfl, show Bj     s = true from hok] at h; cases h
               · exact h
             | _ => cases hb
           exact ⟨I, _, .refl _, fun w h => h.drop, rfl, x, by rw [hoc, List.append_nil]; exact hx, rfl⟩)
    intro c0
    try simp only [nb] at c0
    have hb : e.bare = false := by rw [Ex.bare_parts]; exact c0
    have hsh := e.shapes hb
    refine Ae     (Ac    ?_)
    rcases hsh with ⟨o, a, b, rfl⟩ | ⟨a, b, d, rfl⟩ | ⟨z, a, b, rfl⟩ | ⟨g, z, s, t, b, rfl⟩ | ⟨o, a, rfl⟩
    · skip
      refine Ag      rfl ?_
      refine Az    rfl .free rfl ?_
      refine Ca rfl (D2          hf.rep _) ?_
      rintro _ J _ e0 ⟨ok, ck, rfl, hk, rfl⟩
      have hf := hf.mono e0
      have hbd := hbd.mono e0
      have hx := T.mono _ _ _ _ e0 hx
      have hle := e0
      have hok0 := hok
      simp only [Ex.ok, Bool.and_eq_true] at hok
      rw [F6      ] at hk
      rw [F6      ]
      have hlen : (Ex.bin o a b).tree.parts.length = 3 := rfl
      have hkl : [1, 2].length = 2 := rfl
      simp only [Ex.bin.sizeOf_spec] at hlt
      simp only [Ex.size] at hbl hsl
      refine On rfl (Om rfl (Aa     (Al      ?_)))
      refine Eh     ?_
      refine Se rfl (Oc rfl rfl rfl (Aa     (Ac    ?_)))
      refine Cj      rfl (by first | rfl | decide | (simp; done) | omega) ?_
      refine Ae     (Ac    (Al      (Se rfl ?_)))
      first | refine A8    rfl rfl _ rfl .free rfl ?_ | refine A9    rfl rfl _ rfl .free rfl ?_
      refine Dv    rfl .free rfl ?_
      refine Oa rfl (Aa     ?_)
      refine R9  13 rfl rfl ?_
      refine Da 0 rfl (Ah          rfl) ?_
      refine Dt 1 [13] rfl (Bl    rfl) ?_
      refine Da 2 rfl (Af     rfl) ?_
      first | refine Da 3 rfl (A5    rfl rfl _ rfl) ?_ | refine Da 3 rfl (A6    rfl rfl _ rfl) ?_
      refine Dt 4 [13] rfl (Bb    rfl) ?_
      refine Da 5 rfl (Af     rfl) ?_
      refine Dt 6 [13] rfl (Cb    rfl) ?_
      refine Da 7 rfl (Af     rfl) ?_
      refine Da 11 rfl (Af     rfl) ?_
      refine Dc 8 rfl rfl (Cy           hf.rep hok0 _ _) ?_
      rintro _ J1 _ e1 ⟨o1, k1, rfl, hs1, rfl⟩
      refine Hx ?_
      refine Et     9 rfl (by kernel_rfl) rfl rfl rfl (by rfl) (by rfl) (by rfl) (by decide) (by decide) (by rfl) .free rfl (.inr Aj   ) ?_
      intro b40
      refine Cx       ?_
      intro hz
      have e2 := e1.trans hz
      refine Dc 10 rfl rfl (D0              (Bg        (xs := [.slice ob bd.length cb, .slice o1 (List.length _) k1]) (ys := [])) (hbd.mono e2) (hs1.mono hz) (Ex.binds_room0 (by omega)) _) ?_
      rintro _ J3 _ e3 ⟨o3, k3, rfl, hs3, rfl⟩
      have e4 := e2.trans e3
      have hf3 := hf.mono e4
      have hx3 := T.mono _ _ _ _ e4 hx
      refine Hx ?_
      refine Ek    (fun w h => h.u1) ?_
      refine Dc 12 rfl rfl (ihn (by omega) (hf3.as 1 a.tree (by omega) rfl) hok.1 hs3 (Ex.binds_room (by omega)) _ _ (by omega) hx3 _) ?_
      rintro _ J4 _ e5 ⟨rfl, x, hx, rfl⟩
      have e6 := e4.trans e5
      refine Hx ?_
      refine Ek    (fun w h => h.w1) ?_
      have hf := hf.mono e6
      have hbd := hbd.mono e6
      have hle := hle.trans e6
      have hk := hk.mono e6
      refine Ao     (by kernel_rfl) ?_
      refine Ak        (Ag      rfl ?_)
      refine Or rfl rfl rfl ?_
      refine Om rfl (Aa     ?_)
      refine Ce      ?_
      refine Se rfl (Oc rfl rfl rfl (Aa     (Ac    ?_)))
      refine Cj      rfl (by first | rfl | decide | (simp; done) | omega) ?_
      refine Ae     (Ac    (Al      (Se rfl ?_)))
      first | refine A8    rfl rfl _ rfl .free rfl ?_ | refine A9    rfl rfl _ rfl .free rfl ?_
      refine Dv    rfl .free rfl ?_
      refine Oa rfl (Aa     ?_)
      refine R9  13 rfl rfl ?_
      refine Da 0 rfl (Ah          rfl) ?_
      refine Dt 1 [13] rfl (Bl    rfl) ?_
      refine Da 2 rfl (Af     rfl) ?_
      first | refine Da 3 rfl (A5    rfl rfl _ rfl) ?_ | refine Da 3 rfl (A6    rfl rfl _ rfl) ?_
      refine Dt 4 [13] rfl (Bb    rfl) ?_
      refine Da 5 rfl (Af     rfl) ?_
      refine Dt 6 [13] rfl (Cb    rfl) ?_
      refine Da 7 rfl (Af     rfl) ?_
      refine Da 11 rfl (Af     rfl) ?_
      refine Dc 8 rfl rfl (Cy           hf.rep hok0 _ _) ?_
      rintro _ J1 _ e1 ⟨o1, k1, rfl, hs1, rfl⟩
      refine Hx ?_
      refine Et     9 rfl (by kernel_rfl) rfl rfl rfl (by rfl) (by rfl) (by rfl) (by decide) (by decide) (by rfl) .free rfl (.inr Aj   ) ?_
      intro b40
      refine Cx       ?_
      intro hz
      have e2 := e1.trans hz
      refine Dc 10 rfl rfl (D0              (Bg        (xs := [.slice ob bd.length cb, .slice o1 (List.length _) k1]) (ys := [])) (hbd.mono e2) (hs1.mono hz) (Ex.binds_room0 (by omega)) _) ?_
      rintro _ J3 _ e3 ⟨o3, k3, rfl, hs3, rfl⟩
      have e4 := e2.trans e3
      have hf3 := hf.mono e4
      have hx3 := T.mono _ _ _ _ e4 hx
      refine Hx ?_
      refine Ek    (fun w h => h.u1) ?_
      refine Dc 12 rfl rfl (ihn (by omega) (hf3.as 2 b.tree (by omega) rfl) hok.2 hs3 (Ex.binds_room (by omega)) _ _ (Ex.occ_room (by omega)) hx3 _) ?_
      rintro _ J4 _ e5 ⟨rfl, x, hx, rfl⟩
      have e6 := e4.trans e5
      refine Hx ?_
      refine Ek    (fun w h => h.w1) ?_
      have hf := hf.mono e6
      have hbd := hbd.mono e6
      have hle := hle.trans e6
      have hk := hk.mono e6
      refine Ao     (by kernel_rfl) ?_
      refine Ak        (Ag      rfl ?_)
      refine Or rfl rfl rfl ?_
      refine Om rfl (Aa     ?_)
      refine Ce      ?_
      refine Se rfl (Oc rfl rfl rfl (Aa     (Ac    ?_)))
      refine Dj      rfl (by first | rfl | decide | (simp; done) | omega) ?_
      refine Bx     rfl ?_
      refine Ly    .nil ?_
      exact ⟨_, _, hle, fun w h => h.drop, rfl, x, by simpa [Ex.occ, Ex.binds] using hx, rfl⟩
    · skip
      refine Ag      rfl ?_
      refine Az    rfl .free rfl ?_
      refine Ca rfl (D2          hf.rep _) ?_
      rintro _ J _ e0 ⟨ok, ck, rfl, hk, rfl⟩
      have hf := hf.mono e0
      have hbd := hbd.mono e0
      have hx := T.mono _ _ _ _ e0 hx
      have hle := e0
      have hok0 := hok
      simp only [Ex.ok, Bool.and_eq_true] at hok
      rw [Kz      ] at hk
      rw [Kz      ]
      have hlen : (Ex.ite a b d).tree.parts.length = 4 := rfl
      have hkl : [1, 2, 3].length = 3 := rfl
      simp only [Ex.ite.sizeOf_spec] at hlt
      simp only [Ex.size] at hbl hsl
      refine On rfl (Om rfl (Aa     (Al      ?_)))
      refine Eh     ?_
      refine Se rfl (Oc rfl rfl rfl (Aa     (Ac    ?_)))
      refine Cj      rfl (by first | rfl | decide | (simp; done) | omega) ?_
      refine Ae     (Ac    (Al      (Se rfl ?_)))
      first | refine A8    rfl rfl _ rfl .free rfl ?_ | refine A9    rfl rfl _ rfl .free rfl ?_
      refine Dv    rfl .free rfl ?_
      refine Oa rfl (Aa     ?_)
      refine R9  13 rfl rfl ?_
      refine Da 0 rfl (Ah          rfl) ?_
      refine Dt 1 [13] rfl (Bl    rfl) ?_
      refine Da 2 rfl (Af     rfl) ?_
      first | refine Da 3 rfl (A5    rfl rfl _ rfl) ?_ | refine Da 3 rfl (A6    rfl rfl _ rfl) ?_
      refine Dt 4 [13] rfl (Bb    rfl) ?_
      refine Da 5 rfl (Af     rfl) ?_
      refine Dt 6 [13] rfl (Cb    rfl) ?_
      refine Da 7 rfl (Af     rfl) ?_
      refine Da 11 rfl (Af     rfl) ?_
      refine Dc 8 rfl rfl (Cy           hf.rep hok0 _ _) ?_
      rintro _ J1 _ e1 ⟨o1, k1, rfl, hs1, rfl⟩
      refine Hx ?_
      refine Et     9 rfl (by kernel_rfl) rfl rfl rfl (by rfl) (by rfl) (by rfl) (by decide) (by decide) (by rfl) .free rfl (.inr Aj   ) ?_
      intro b40
      refine Cx       ?_
      intro hz
      have e2 := e1.trans hz
      refine Dc 10 rfl rfl (D0              (Bg        (xs := [.slice ob bd.length cb, .slice o1 (List.length _) k1]) (ys := [])) (hbd.mono e2) (hs1.mono hz) (Ex.binds_room0 (by omega)) _) ?_
      rintro _ J3 _ e3 ⟨o3, k3, rfl, hs3, rfl⟩
      have e4 := e2.trans e3
      have hf3 := hf.mono e4
      have hx3 := T.mono _ _ _ _ e4 hx
      refine Hx ?_
      refine Ek    (fun w h => h.u1) ?_
      refine Dc 12 rfl rfl (ihn (by omega) (hf3.as 1 a.tree (by omega) rfl) hok.1.1 hs3 (Ex.binds_room (by omega)) _ _ (by omega) hx3 _) ?_
      rintro _ J4 _ e5 ⟨rfl, x, hx, rfl⟩
      have e6 := e4.trans e5
      refine Hx ?_
      refine Ek    (fun w h => h.w1) ?_
      have hf := hf.mono e6
      have hbd := hbd.mono e6
      have hle := hle.trans e6
      have hk := hk.mono e6
      refine Ao     (by kernel_rfl) ?_
      refine Ak        (Ag      rfl ?_)
      refine Or rfl rfl rfl ?_
      refine Om rfl (Aa     ?_)
      refine Ce      ?_
      refine Se rfl (Oc rfl rfl rfl (Aa     (Ac    ?_)))
      refine Cj      rfl (by first | rfl | decide | (simp; done) | omega) ?_
      refine Ae     (Ac    (Al      (Se rfl ?_)))
      first | refine A8    rfl rfl _ rfl .free rfl ?_ | refine A9    rfl rfl _ rfl .free rfl ?_
      refine Dv    rfl .free rfl ?_
      refine Oa rfl (Aa     ?_)
      refine R9  13 rfl rfl ?_
      refine Da 0 rfl (Ah          rfl) ?_
      refine Dt 1 [13] rfl (Bl    rfl) ?_
      refine Da 2 rfl (Af     rfl) ?_
      first | refine Da 3 rfl (A5    rfl rfl _ rfl) ?_ | refine Da 3 rfl (A6    rfl rfl _ rfl) ?_
      refine Dt 4 [13] rfl (Bb    rfl) ?_
      refine Da 5 rfl (Af     rfl) ?_
      refine Dt 6 [13] rfl (Cb    rfl) ?_
      refine Da 7 rfl (Af     rfl) ?_
      refine Da 11 rfl (Af     rfl) ?_
      refine Dc 8 rfl rfl (Cy           hf.rep hok0 _ _) ?_
      rintro _ J1 _ e1 ⟨o1, k1, rfl, hs1, rfl⟩
      refine Hx ?_
      refine Et     9 rfl (by kernel_rfl) rfl rfl rfl (by rfl) (by rfl) (by rfl) (by decide) (by decide) (by rfl) .free rfl (.inr Aj   ) ?_
      intro b40
      refine Cx       ?_
      intro hz
      have e2 := e1.trans hz
      refine Dc 10 rfl rfl (D0              (Bg        (xs := [.slice ob bd.length cb, .slice o1 (List.length _) k1]) (ys := [])) (hbd.mono e2) (hs1.mono hz) (Ex.binds_room0 (by omega)) _) ?_
      rintro _ J3 _ e3 ⟨o3, k3, rfl, hs3, rfl⟩
      have e4 := e2.trans e3
      have hf3 := hf.mono e4
      have hx3 := T.mono _ _ _ _ e4 hx
      refine Hx ?_
      refine Ek    (fun w h => h.u1) ?_
      refine Dc 12 rfl rfl (ihn (by omega) (hf3.as 2 b.tree (by omega) rfl) hok.1.2 hs3 (Ex.binds_room (by omega)) _ _ (Ex.occ_room (by omega)) hx3 _) ?_
      rintro _ J4 _ e5 ⟨rfl, x, hx, rfl⟩
      have e6 := e4.trans e5
      refine Hx ?_
      refine Ek    (fun w h => h.w1) ?_
      have hf := hf.mono e6
      have hbd := hbd.mono e6
      have hle := hle.trans e6
      have hk := hk.mono e6
      refine Ao     (by kernel_rfl) ?_
      refine Ak        (Ag      rfl ?_)
      refine Or rfl rfl rfl ?_
      refine Om rfl (Aa     ?_)
      refine Ce      ?_
      refine Se rfl (Oc rfl rfl rfl (Aa     (Ac    ?_)))
      refine Cj      rfl (by first | rfl | decide | (simp; done) | omega) ?_
      refine Ae     (Ac    (Al      (Se rfl ?_)))
      first | refine A8    rfl rfl _ rfl .free rfl ?_ | refine A9    rfl rfl _ rfl .free rfl ?_
      refine Dv    rfl .free rfl ?_
      refine Oa rfl (Aa     ?_)
      refine R9  13 rfl rfl ?_
      refine Da 0 rfl (Ah          rfl) ?_
      refine Dt 1 [13] rfl (Bl    rfl) ?_
      refine Da 2 rfl (Af     rfl) ?_
      first | refine Da 3 rfl (A5    rfl rfl _ rfl) ?_ | refine Da 3 rfl (A6    rfl rfl _ rfl) ?_
      refine Dt 4 [13] rfl (Bb    rfl) ?_
      refine Da 5 rfl (Af     rfl) ?_
      refine Dt 6 [13] rfl (Cb    rfl) ?_
      refine Da 7 rfl (Af     rfl) ?_
      refine Da 11 rfl (Af     rfl) ?_
      refine Dc 8 rfl rfl (Cy           hf.rep hok0 _ _) ?_
      rintro _ J1 _ e1 ⟨o1, k1, rfl, hs1, rfl⟩
      refine Hx ?_
      refine Et     9 rfl (by kernel_rfl) rfl rfl rfl (by rfl) (by rfl) (by rfl) (by decide) (by decide) (by rfl) .free rfl (.inr Aj   ) ?_
      intro b40
      refine Cx       ?_
      intro hz
      have e2 := e1.trans hz
      refine Dc 10 rfl rfl (D0              (Bg        (xs := [.slice ob bd.length cb, .slice o1 (List.length _) k1]) (ys := [])) (hbd.mono e2) (hs1.mono hz) (Ex.binds_room0 (by omega)) _) ?_
      rintro _ J3 _ e3 ⟨o3, k3, rfl, hs3, rfl⟩
      have e4 := e2.trans e3
      have hf3 := hf.mono e4
      have hx3 := T.mono _ _ _ _ e4 hx
      refine Hx ?_
      refine Ek    (fun w h => h.u1) ?_
      refine Dc 12 rfl rfl (ihn (by omega) (hf3.as 3 d.tree (by omega) rfl) hok.2 hs3 (Ex.binds_room (by omega)) _ _ (Ex.occ_room2 (by omega)) hx3 _) ?_
      rintro _ J4 _ e5 ⟨rfl, x, hx, rfl⟩
      have e6 := e4.trans e5
      refine Hx ?_
      refine Ek    (fun w h => h.w1) ?_
      have hf := hf.mono e6
      have hbd := hbd.mono e6
      have hle := hle.trans e6
      have hk := hk.mono e6
      refine Ao     (by kernel_rfl) ?_
      refine Ak        (Ag      rfl ?_)
      refine Or rfl rfl rfl ?_
      refine Om rfl (Aa     ?_)
      refine Ce      ?_
      refine Se rfl (Oc rfl rfl rfl (Aa     (Ac    ?_)))
      refine Dj      rfl (by first | rfl | decide | (simp; done) | omega) ?_
      refine Bx     rfl ?_
      refine Ly    .nil ?_
      exact ⟨_, _, hle, fun w h => h.drop, rfl, x, by simpa [Ex.occ, Ex.binds] using hx, rfl⟩
    · skip
      refine Ag      rfl ?_
      refine Az    rfl .free rfl ?_
      refine Ca rfl (D2          hf.rep _) ?_
      rintro _ J _ e0 ⟨ok, ck, rfl, hk, rfl⟩
      have hf := hf.mono e0
      have hbd := hbd.mono e0
      have hx := T.mono _ _ _ _ e0 hx
      have hle := e0
      have hok0 := hok
      simp only [Ex.ok, Bool.and_eq_true] at hok
      rw [K0      ] at hk
      rw [K0      ]
      have hlen : (Ex.lt z a b).tree.parts.length = 4 := rfl
      have hkl : [2, 3].length = 2 := rfl
      simp only [Ex.lt.sizeOf_spec] at hlt
      simp only [Ex.size] at hbl hsl
      refine On rfl (Om rfl (Aa     (Al      ?_)))
      refine Eh     ?_
      refine Se rfl (Oc rfl rfl rfl (Aa     (Ac    ?_)))
      refine Cj      rfl (by first | rfl | decide | (simp; done) | omega) ?_
      refine Ae     (Ac    (Al      (Se rfl ?_)))
      first | refine A8    rfl rfl _ rfl .free rfl ?_ | refine A9    rfl rfl _ rfl .free rfl ?_
      refine Dv    rfl .free rfl ?_
      refine Oa rfl (Aa     ?_)
      refine R9  13 rfl rfl ?_
      refine Da 0 rfl (Ah          rfl) ?_
      refine Dt 1 [13] rfl (Bl    rfl) ?_
      refine Da 2 rfl (Af     rfl) ?_
      first | refine Da 3 rfl (A5    rfl rfl _ rfl) ?_ | refine Da 3 rfl (A6    rfl rfl _ rfl) ?_
      refine Dt 4 [13] rfl (Bb    rfl) ?_
      refine Da 5 rfl (Af     rfl) ?_
      refine Dt 6 [13] rfl (Cb    rfl) ?_
      refine Da 7 rfl (Af     rfl) ?_
      refine Da 11 rfl (Af     rfl) ?_
      refine Dc 8 rfl rfl (Cy           hf.rep hok0 _ _) ?_
      rintro _ J1 _ e1 ⟨o1, k1, rfl, hs1, rfl⟩
      refine Hx ?_
      refine Et     9 rfl (by kernel_rfl) rfl rfl rfl (by rfl) (by rfl) (by rfl) (by decide) (by decide) (by rfl) .free rfl (.inr Aj   ) ?_
      intro b40
      refine Cx       ?_
      intro hz
      have e2 := e1.trans hz
      refine Dc 10 rfl rfl (D0              (Bg        (xs := [.slice ob bd.length cb, .slice o1 (List.length _) k1]) (ys := [])) (hbd.mono e2) (hs1.mono hz) (Ex.binds_room0 (by omega)) _) ?_
      rintro _ J3 _ e3 ⟨o3, k3, rfl, hs3, rfl⟩
      have e4 := e2.trans e3
      have hf3 := hf.mono e4
      have hx3 := T.mono _ _ _ _ e4 hx
      refine Hx ?_
      refine Ek    (fun w h => h.u1) ?_
      refine Dc 12 rfl rfl (ihn (by omega) (hf3.as 2 a.tree (by omega) rfl) hok.1.2 hs3 (Ex.binds_room (by omega)) _ _ (by omega) hx3 _) ?_
      rintro _ J4 _ e5 ⟨rfl, x, hx, rfl⟩
      have e6 := e4.trans e5
      refine Hx ?_
      refine Ek    (fun w h => h.w1) ?_
      have hf := hf.mono e6
      have hbd := hbd.mono e6
      have hle := hle.trans e6
      have hk := hk.mono e6
      refine Ao     (by kernel_rfl) ?_
      refine Ak        (Ag      rfl ?_)
      refine Or rfl rfl rfl ?_
      refine Om rfl (Aa     ?_)
      refine Ce      ?_
      refine Se rfl (Oc rfl rfl rfl (Aa     (Ac    ?_)))
      refine Cj      rfl (by first | rfl | decide | (simp; done) | omega) ?_
      refine Ae     (Ac    (Al      (Se rfl ?_)))
      first | refine A8    rfl rfl _ rfl .free rfl ?_ | refine A9    rfl rfl _ rfl .free rfl ?_
      refine Dv    rfl .free rfl ?_
      refine Oa rfl (Aa     ?_)
      refine R9  13 rfl rfl ?_
      refine Da 0 rfl (Ah          rfl) ?_
      refine Dt 1 [13] rfl (Bl    rfl) ?_
      refine Da 2 rfl (Af     rfl) ?_
      first | refine Da 3 rfl (A5    rfl rfl _ rfl) ?_ | refine Da 3 rfl (A6    rfl rfl _ rfl) ?_
      refine Dt 4 [13] rfl (Bb    rfl) ?_
      refine Da 5 rfl (Af     rfl) ?_
      refine Dt 6 [13] rfl (Cb    rfl) ?_
      refine Da 7 rfl (Af     rfl) ?_
      refine Da 11 rfl (Af     rfl) ?_
      refine Dc 8 rfl rfl (Cy           hf.rep hok0 _ _) ?_
      rintro _ J1 _ e1 ⟨o1, k1, rfl, hs1, rfl⟩
      refine Hx ?_
      refine Et     9 rfl (by kernel_rfl) rfl rfl rfl (by rfl) (by rfl) (by rfl) (by decide) (by decide) (by rfl) .free rfl (.inr Aj   ) ?_
      intro b40
      refine Cx       ?_
      intro hz
      have e2 := e1.trans hz
      refine Dc 10 rfl rfl (D0              (Bg        (xs := [.slice ob bd.length cb, .slice o1 (List.length _) k1]) (ys := [])) (hbd.mono e2) (hs1.mono hz) (Ex.binds_room0 (by omega)) _) ?_
      rintro _ J3 _ e3 ⟨o3, k3, rfl, hs3, rfl⟩
      have e4 := e2.trans e3
      have hf3 := hf.mono e4
      have hx3 := T.mono _ _ _ _ e4 hx
      refine Hx ?_
      refine Ek    (fun w h => h.u1) ?_
      refine Dc 12 rfl rfl (ihn (by omega) (hf3.as 3 b.tree (by omega) rfl) hok.2 hs3 (Ex.binds_room (by omega)) _ _ (Ex.occ_room (by omega)) hx3 _) ?_
      rintro _ J4 _ e5 ⟨rfl, x, hx, rfl⟩
      have e6 := e4.trans e5
      refine Hx ?_
      refine Ek    (fun w h => h.w1) ?_
      have hf := hf.mono e6
      have hbd := hbd.mono e6
      have hle := hle.trans e6
      have hk := hk.mono e6
      refine Ao     (by kernel_rfl) ?_
      refine Ak        (Ag      rfl ?_)
      refine Or rfl rfl rfl ?_
      refine Om rfl (Aa     ?_)
      refine Ce      ?_
      refine Se rfl (Oc rfl rfl rfl (Aa     (Ac    ?_)))
      refine Dj      rfl (by first | rfl | decide | (simp; done) | omega) ?_
      refine Bx     rfl ?_
      refine Ly    .nil ?_
      exact ⟨_, _, hle, fun w h => h.drop, rfl, x, by simpa [Ex.occ, Ex.binds] using hx, rfl⟩
    · skip
      refine Ag      rfl ?_
      refine Az    rfl .free rfl ?_
      refine Ca rfl (D2          hf.rep _) ?_
      rintro _ J _ e0 ⟨ok, ck, rfl, hk, rfl⟩
      have hf := hf.mono e0
      have hbd := hbd.mono e0
      have hx := T.mono _ _ _ _ e0 hx
      have hle := e0
      have hok0 := hok
      simp only [Ex.ok, Bool.and_eq_true] at hok
      rw [Lf     ] at hk
      rw [Lf     ]
      have hlen : (Ex.fn g z s t b).tree.parts.length = 6 := rfl
      have hkl : [5].length = 1 := rfl
      simp only [Ex.fn.sizeOf_spec] at hlt
      simp only [Ex.size] at hbl hsl
      refine On rfl (Om rfl (Aa     (Al      ?_)))
      refine Eh     ?_
      refine Se rfl (Oc rfl rfl rfl (Aa     (Ac    ?_)))
      refine Cj      rfl (by first | rfl | decide | (simp; done) | omega) ?_
      refine Ae     (Ac    (Al      (Se rfl ?_)))
      first | refine A8    rfl rfl _ rfl .free rfl ?_ | refine A9    rfl rfl _ rfl .free rfl ?_
      refine Dv    rfl .free rfl ?_
      refine Oa rfl (Aa     ?_)
      refine R9  13 rfl rfl ?_
      refine Da 0 rfl (Ah          rfl) ?_
      refine Dt 1 [13] rfl (Bl    rfl) ?_
      refine Da 2 rfl (Af     rfl) ?_
      first | refine Da 3 rfl (A5    rfl rfl _ rfl) ?_ | refine Da 3 rfl (A6    rfl rfl _ rfl) ?_
      refine Dt 4 [13] rfl (Bb    rfl) ?_
      refine Da 5 rfl (Af     rfl) ?_
      refine Dt 6 [13] rfl (Cb    rfl) ?_
      refine Da 7 rfl (Af     rfl) ?_
      refine Da 11 rfl (Af     rfl) ?_
      refine Dc 8 rfl rfl (Cy           hf.rep hok0 _ _) ?_
      rintro _ J1 _ e1 ⟨o1, k1, rfl, hs1, rfl⟩
      refine Hx ?_
      refine Et     9 rfl (by kernel_rfl) rfl rfl rfl (by rfl) (by rfl) (by rfl) (by decide) (by decide) (by rfl) .free rfl (.inr Aj   ) ?_
      intro b40
      refine Cx       ?_
      intro hz
      have e2 := e1.trans hz
      refine Dc 10 rfl rfl (D0              (Bg        (xs := [.slice ob bd.length cb, .slice o1 (List.length _) k1]) (ys := [])) (hbd.mono e2) (hs1.mono hz) (Ex.binds_room0 (by omega)) _) ?_
      rintro _ J3 _ e3 ⟨o3, k3, rfl, hs3, rfl⟩
      have e4 := e2.trans e3
      have hf3 := hf.mono e4
      have hx3 := T.mono _ _ _ _ e4 hx
      refine Hx ?_
      refine Ek    (fun w h => h.u1) ?_
      refine Dc 12 rfl rfl (ihn (by omega) (hf3.as 5 b.tree (by omega) rfl) hok.2 hs3 (Ex.binds_room (by omega)) _ _ (by omega) hx3 _) ?_
      rintro _ J4 _ e5 ⟨rfl, x, hx, rfl⟩
      have e6 := e4.trans e5
      refine Hx ?_
      refine Ek    (fun w h => h.w1) ?_
      have hf := hf.mono e6
      have hbd := hbd.mono e6
      have hle := hle.trans e6
      have hk := hk.mono e6
      refine Ao     (by kernel_rfl) ?_
      refine Ak        (Ag      rfl ?_)
      refine Or rfl rfl rfl ?_
      refine Om rfl (Aa     ?_)
      refine Ce      ?_
      refine Se rfl (Oc rfl rfl rfl (Aa     (Ac    ?_)))
      refine Dj      rfl (by first | rfl | decide | (simp; done) | omega) ?_
      refine Bx     rfl ?_
      refine Ly    .nil ?_
      exact ⟨_, _, hle, fun w h => h.drop, rfl, x, by simpa [Ex.occ, Ex.binds] using hx, rfl⟩
    · skip
      refine Ag      rfl ?_
      refine Az    rfl .free rfl ?_
      refine Ca rfl (D2          hf.rep _) ?_
      rintro _ J _ e0 ⟨ok, ck, rfl, hk, rfl⟩
      have hf := hf.mono e0
      have hbd := hbd.mono e0
      have hx := T.mono _ _ _ _ e0 hx
      have hle := e0
      have hok0 := hok
      simp only [Ex.ok, Bool.and_eq_true] at hok
      rw [Jb     ] at hk
      rw [Jb     ]
      have hlen : (Ex.un o a).tree.parts.length = 2 := rfl
      have hkl : [1].length = 1 := rfl
      simp only [Ex.un.sizeOf_spec] at hlt
      simp only [Ex.size] at hbl hsl
      refine On rfl (Om rfl (Aa     (Al      ?_)))
      refine Eh     ?_
      refine Se rfl (Oc rfl rfl rfl (Aa     (Ac    ?_)))
      refine Cj      rfl (by first | rfl | decide | (simp; done) | omega) ?_
      refine Ae     (Ac    (Al      (Se rfl ?_)))
      first | refine A8    rfl rfl _ rfl .free rfl ?_ | refine A9    rfl rfl _ rfl .free rfl ?_
      refine Dv    rfl .free rfl ?_
      refine Oa rfl (Aa     ?_)
      refine R9  13 rfl rfl ?_
      refine Da 0 rfl (Ah          rfl) ?_
      refine Dt 1 [13] rfl (Bl    rfl) ?_
      refine Da 2 rfl (Af     rfl) ?_
      first | refine Da 3 rfl (A5    rfl rfl _ rfl) ?_ | refine Da 3 rfl (A6    rfl rfl _ rfl) ?_
      refine Dt 4 [13] rfl (Bb    rfl) ?_
      refine Da 5 rfl (Af     rfl) ?_
      refine Dt 6 [13] rfl (Cb    rfl) ?_
      refine Da 7 rfl (Af     rfl) ?_
      refine Da 11 rfl (Af     rfl) ?_
      refine Dc 8 rfl rfl (Cy           hf.rep hok0 _ _) ?_
      rintro _ J1 _ e1 ⟨o1, k1, rfl, hs1, rfl⟩
      refine Hx ?_
      refine Et     9 rfl (by kernel_rfl) rfl rfl rfl (by rfl) (by rfl) (by rfl) (by decide) (by decide) (by rfl) .free rfl (.inr Aj   ) ?_
      intro b40
      refine Cx       ?_
      intro hz
      have e2 := e1.trans hz
      refine Dc 10 rfl rfl (D0              (Bg        (xs := [.slice ob bd.length cb, .slice o1 (List.length _) k1]) (ys := [])) (hbd.mono e2) (hs1.mono hz) (Ex.binds_room0 (by omega)) _) ?_
      rintro _ J3 _ e3 ⟨o3, k3, rfl, hs3, rfl⟩
      have e4 := e2.trans e3
      have hf3 := hf.mono e4
      have hx3 := T.mono _ _ _ _ e4 hx
      refine Hx ?_
      refine Ek    (fun w h => h.u1) ?_
      refine Dc 12 rfl rfl (ihn (by omega) (hf3.as 1 a.tree (by omega) rfl) hok hs3 (Ex.binds_room (by omega)) _ _ (by omega) hx3 _) ?_
      rintro _ J4 _ e5 ⟨rfl, x, hx, rfl⟩
      have e6 := e4.trans e5
      refine Hx ?_
      refine Ek    (fun w h => h.w1) ?_
      have hf := hf.mono e6
      have hbd := hbd.mono e6
      have hle := hle.trans e6
      have hk := hk.mono e6
      refine Ao     (by kernel_rfl) ?_
      refine Ak        (Ag      rfl ?_)
      refine Or rfl rfl rfl ?_
      refine Om rfl (Aa     ?_)
      refine Ce      ?_
      refine Se rfl (Oc rfl rfl rfl (Aa     (Ac    ?_)))
      refine Dj      rfl (by first | rfl | decide | (simp; done) | omega) ?_
      refine Bx     rfl ?_
      refine Ly    .nil ?_
      exact ⟨_, _, hle, fun w h => h.drop, rfl, x, by simpa [Ex.occ, Ex.binds] using hx, rfl⟩

structure FB where
 l : List Aq
 B : Jy
 c : Nat
def FB.own (bo : Nat) (x : FB) : Bf := (bo, .cells [Bw x.l.length x.c x.B].toArray 27 (0, 0)) :: B8 9 (x.l.map sv) x.B
def FB.is (x : FB) (seen : List Aq) (I : Heap) : Prop := x.l = C4 [] seen ∧ D9 1 x.l.length x.c (x.l.map sv) x.B ∧ ∀ s ∈ x.l, Bj s = true
theorem Gy (l m : List Aq) : (C4 l m).length ≤ l.length + m.length := by
 induction m generalizing l with
 | nil => exact Nat.le_refl _
 | cons s m ih =>
  have h1 : (Gd l s).length ≤ l.length + 1 := by unfold Gd; split <;> simp
  have h2 := ih (Gd l s)
  simp only [C4, List.foldl_cons, List.length_cons] at *
  omega
theorem Qp (bo : Nat) (x : FB) (seen : List Aq) (s : Aq) (I : Heap) (L : Bf) (hx : x.is seen I) (hs : Bj s = true) (hl : seen.length < 4294967296) :
  Fun Tryz.prog 106 [.string (str s), .pointer (some ⟨bo, 0, none⟩)] I (FB.own bo x ++ L) (fun v I' L' => v = .tuple #[] ∧ ∃ y : FB, y.is (seen ++ [s]) I' ∧ L' = FB.own bo y ++ L) := by
 obtain ⟨l, B, c⟩ := x; obtain ⟨hl1, hB, hn⟩ := hx
 simp only at hl1 hB hn
 have hll := Gy [] seen
 rw [← hl1] at hll
 simp only [List.length_nil, Nat.zero_add] at hll
 obtain ⟨oa, c', hbv, hrd⟩ := V9 (I := I) (L := L) (e := 9) hB rfl (by unfold Ap; omega)
 have hcon : Fun Tryz.prog 107 [Bw l.length c B, .string (str s)] I ((bo, .cells [Bw l.length c B].toArray 27 (0, 0)) :: (B8 9 (l.map sv) B ++ L)) (Ec (.bool (decide (s ∈ l))) I ((bo, .cells [Bw l.length c B].toArray 27 (0, 0)) :: (B8 9 (l.map sv) B ++ L))) := by
  have := C3 (hrd.sub (L' := (bo, .cells [Bw l.length c B].toArray 27 (0, 0)) :: (B8 9 (l.map sv) B ++ L)) fun w h => h.drop) c' s
  rwa [← hbv] at this
 unfold FB.own
 simp only [List.cons_append]
 refine Ai (by simp) ?_; refine Se rfl ?_; refine C5 rfl (Fm (cs := [Bw l.length c B]) m0 (by rfl) (by cases B <;> rfl)) .free rfl ?_; refine Om rfl ?_; refine B9 rfl .free rfl hcon ?_; rintro _ _ _ _ ⟨rfl, rfl, rfl⟩; refine Cw rfl .free rfl ?_; refine Aa ?_; refine Ar rfl ?_ ?_
 ·intro c0
  try simp only [nb] at c0
  have hadd : C4 [] (seen ++ [s]) = l ++ [s] := by rw [Cp, ← hl1]; simp [C4, Gd, c0]
  refine Ag rfl ?_; refine C5 rfl (Fm (cs := [Bw l.length c B]) m0 (by rfl) (by cases B <;> rfl)) .free rfl ?_; refine Om rfl ?_; refine Ol rfl rfl ?_; intro b9; refine D4 (B := B) (xs := l.map sv) (ys := [sv s]) (m := l.length) (c := c) (by intro kk; simp) (by rfl) rfl rfl hB (fun _ h => h.u2) (by rfl) (fun a ha => by cases ha; exact Bk (.head _) (by rfl)) (by simp) (by rfl) (by decide) (by decide) (by omega) (by decide) .free rfl ?_; intro bb sp c2 hB'; refine S7 rfl rfl rfl rfl (by rfl) u2 (by rfl) .free ?_; refine Aa ?_; refine Ly .nil ?_
  first
   | exact ⟨I, _, .refl _, fun w h => h, rfl, ⟨l, B, c⟩, ⟨hadd.symm, hB, hn⟩, rfl⟩
   | exact ⟨I, _, .refl _, fun w h => Mem.sub (L' := (bo, _) :: (bb, _) :: L) (by repeat (first | exact List.Sublist.refl _ | apply List.Sublist.cons_cons | apply List.Sublist.cons)) h.f2, rfl, ⟨l ++ [s], some (bb, sp), c2⟩, ⟨hadd.symm, by simpa using hB', by intro z hz; rcases List.mem_append.1 hz with h | h; exact hn z h; rw [List.mem_singleton.1 h]; exact hs⟩, by simp [B8, Bw]⟩
 intro c0
 try simp only [nb] at c0
 have hadd : C4 [] (seen ++ [s]) = l := by rw [Cp, ← hl1]; simp [C4, Gd, c0]
 refine Ae ?_; refine Ly .nil ?_
 first
  | exact ⟨I, _, .refl _, fun w h => h, rfl, ⟨l, B, c⟩, ⟨hadd.symm, hB, hn⟩, rfl⟩
  | exact ⟨I, _, .refl _, fun w h => Mem.sub (L' := (bo, _) :: (bb, _) :: L) (by repeat (first | exact List.Sublist.refl _ | apply List.Sublist.cons_cons | apply List.Sublist.cons)) h.f2, rfl, ⟨l ++ [s], some (bb, sp), c2⟩, ⟨hadd.symm, by simpa using hB', by intro z hz; rcases List.mem_append.1 hz with h | h; exact hn z h; rw [List.mem_singleton.1 h]; exact hs⟩, by simp [B8, Bw]⟩
theorem Nc (bo : Nat) : Zl Tryz.prog 106 [.pointer (some ⟨bo, 0, none⟩)] FB (FB.own bo) FB.is :=
 ⟨fun x seen s I L hx hs hl => Qp bo x seen s I L hx hs hl, fun x seen I I' _ h => h⟩
theorem Py {l : List Aq} (h : ∀ s ∈ l, Bj s = true) : ∀ s ∈ l, s.length ≤ Ap := fun s hs => Ex.name_len (h s hs)
theorem M9 {I : Heap} {e : Ex} {cs : List Value} (h : Rep I e.tree cs) (hok : e.ok = true) (hz : 2 * e.size ≤ 4294967295) (L : Bf) : Fun Tryz.prog 62 [.agg cs.toArray] I L (SS e.free L) := by
 obtain ⟨oa, c, oaf, cf, rfl, hf⟩ := h.at'
 have hT := fun bo => Nc bo
 refine Ai (by simp) ?_; refine Se rfl ?_; refine Ct rfl rfl .free rfl ?_; intro b1; refine Oa rfl (Aa (Se rfl ?_)); refine A2 .free rfl ?_; intro b3; refine Aa (Se rfl ?_); refine Az rfl .free rfl ?_; refine Wv rfl rfl .free rfl ?_; refine Dw (L' := FB.own b3 ⟨[], none, 0⟩ ++ _) (fun w h => h) ?_; refine Ca rfl (Uh (hT b3) _ (Nat.lt_succ_self _) hf.rep hok (Mz I) (by unfold Ap; simp; omega) ⟨[], none, 0⟩ [] (by simp; omega) ⟨rfl, ⟨rfl, rfl, rfl⟩, by simp⟩ _) ?_; rintro _ J _ e1 ⟨rfl, ⟨l, B, c2⟩, ⟨hl, hB, hn⟩, rfl⟩
 simp only at hl hB hn
 simp only [FB.own, List.cons_append]
 refine Aa (Se rfl ?_); refine C5 rfl (Fm (cs := [Bw l.length c2 B]) m0 (by rfl) (by cases B <;> rfl)) .free rfl ?_; refine Oa rfl (Aa ?_)
 have hll := Gy [] (e.occ [])
 have hol := e.occ_len []
 simp only [List.nil_append] at hl
 rw [← hl] at hll
 simp only [List.length_nil, Nat.zero_add] at hll
 refine Bd (fun w h => h.u1) (Gr hB rfl (by unfold Ap; omega) (Py hn) ?_); intro J2 oz cz ez hbv hst; refine Je (t := 2) rfl hbv ?_; refine Ad (.tmp rfl .nil) ?_
 exact ⟨J2, L, e1.trans ez, fun w h => h.drop.drop, oz, cz, by rw [show e.free = l from hl.symm]; rfl, by rw [show e.free = l from hl.symm]; exact hst, rfl⟩
theorem C2 {P : Program} {f : FuncId} {n : Nat} {I₀ : Heap} {Q : C1} {k : List Item} {ops : Array Oper} {S : World → Prop} {fuel : Nat} {listed : Array Bool} {E : Hb} {I : Heap} {L : Bf} {e : TypeId} {l : List Aq} {B : Jy} {m c : Nat}
  (hB : D9 1 m c (l.map sv) B) (hm : m = l.length) (hlen : l.length ≤ Ap) (hs : ∀ s ∈ l, s.length ≤ Ap)
  (h : ∀ I' oa c', HLe I I' → Bw m c B = .slice oa l.length c' → Strs I' oa l c' → Cn P f n I₀ Q ops S fuel listed k E I' L) : Cn P f n I₀ Q ops S fuel listed k E I (B8 e (l.map sv) B ++ L) := by
 cases B with
 | none =>
  obtain ⟨h1, h2, h3⟩ := hB; obtain rfl : l = [] := by simpa using h1
  exact h I .none 0 (.refl _) rfl ⟨by simp, by simp, by simp, hlen, hs⟩
 | some p =>
  obtain ⟨b, sp⟩ := p; refine Cx fun hle => h _ (some ⟨b, 0, .none⟩) c hle (by rw [← hm]; rfl) ⟨fun y hy => ?_, by simp, by have := hB.2.1; omega, hlen, hs⟩
  cases hy; exact Bg
theorem Ex.binds_room1 {bd : List Aq} {e : Ex} {i : Nat} (h : bd.length + 2 ≤ 4294967296) : 0 + bd.length + (e.binds i).length ≤ 4294967296 := by
 have := e.binds_le i; omega
theorem Gj (I : Heap) (oa : Option Addr) : Strs I oa [] 0 := ⟨fun x _ => .inl rfl, fun _ => rfl, by simp, by simp [Ap], by simp⟩
theorem Gn {I : Heap} {e : Ex} {cs : List Value} (h : Rep I e.tree cs) (hok : e.ok = true) (hb : e.bare = false) (i : Nat) (hi : i ∈ Ch e.tree) (L : Bf) : Fun Tryz.prog 151 [.agg cs.toArray, .int .i64 (i : Nat)] I L (SS (e.binds i) L) := by
 obtain ⟨oa, c, oaf, cf, rfl, hf⟩ := h.at'
 have hg := (Ex.tree_good hok).1
 have h0 : 0 < e.tree.parts.length := by
  rw [Ex.bare_parts] at hb
  have : e.tree.parts ≠ [] := by intro hh; rw [hh] at hb; cases hb
  exact List.length_pos_iff.2 this
 have hhd := Kb h0
 refine Ai (by simp) ?_; refine Se rfl ?_; refine Ct rfl rfl .free rfl ?_; intro b2; refine Oa rfl (Aa (Ac (Al (Se rfl (Oh rfl ?_))))); refine Bi rfl .free rfl ?_
 first | refine A8 rfl rfl 0 rfl .free rfl ?_ | refine A9 rfl rfl 0 rfl .free rfl ?_
 refine Bq rfl .free rfl ?_; refine Iz rfl .free rfl ?_; refine Od rfl rfl rfl (Om rfl ?_)
 apply D3 12 15 rfl
 ·intro g1_7 hk
  try simp only [nb] at g1_7
  refine Ow rfl ?_; refine Df rfl rfl rfl (.met rfl rfl) rfl ?_; refine Ot rfl rfl ?_
  exact Ay 2 rfl rfl hk
 ·intro _ hk; refine Ba 2 rfl ?_; refine Of rfl rfl ?_
  exact Ay 2 rfl rfl hk
 refine Oa rfl (Aa ?_); refine Ar rfl ?_ ?_
 ·intro c0
  try simp only [nb] at c0
  obtain ⟨x, a, b, rfl⟩ := Ex.of_let (hhd.trans c0.1); obtain rfl : i = 3 := by omega
  simp only [Ex.ok, Bool.and_eq_true] at hok
  have hlen : (Ex.lt x a b).tree.parts.length = 4 := rfl
  have hx : ((Ex.lt x a b).tree.pt 1).atom.length ≤ Ap := Ex.name_len hok.1.1
  refine Se rfl (Oh rfl ?_); refine Bi rfl .free rfl ?_
  first | refine A8 rfl rfl 1 rfl .free rfl ?_ | refine A9 rfl rfl 1 rfl .free rfl ?_
  refine Bq rfl .free rfl ?_; refine Iz rfl .free rfl ?_; refine Ol rfl rfl ?_; intro b21; refine Oa rfl (Aa ?_); refine Br ?_; intro hz; refine Ad (.tmp rfl .nil) ?_
  exact ⟨_, L, hz, Ax, some ⟨b21, 0, none⟩, 1, rfl, Fg hz hx, rfl⟩
 intro c0
 try simp only [nb] at c0
 refine Se rfl (Oh rfl ?_); refine Bi rfl .free rfl ?_
 first | refine A8 rfl rfl 0 rfl .free rfl ?_ | refine A9 rfl rfl 0 rfl .free rfl ?_
 refine Bq rfl .free rfl ?_; refine Iz rfl .free rfl ?_; refine Od rfl rfl rfl (Oa rfl (Aa ?_)); refine Ar rfl ?_ ?_
 ·intro c1
  try simp only [nb] at c1
  obtain ⟨f, x, s, t, b, rfl⟩ := Ex.of_fun (hhd.trans c1); obtain rfl : i = 5 := by rw [Lf] at hi; simpa using hi
  simp only [Ex.ok, Bool.and_eq_true] at hok
  have hlen : (Ex.fn f x s t b).tree.parts.length = 6 := rfl
  have hx1 : ((Ex.fn f x s t b).tree.pt 1).atom.length ≤ Ap := Ex.name_len hok.1.1.1.1.1
  have hx2 : ((Ex.fn f x s t b).tree.pt 2).atom.length ≤ Ap := Ex.name_len hok.1.1.1.1.2
  refine Ac ?_; refine Cz 12 rfl rfl ?_; refine Da 0 rfl (Ah rfl) ?_; refine Dt 1 [12] rfl (Bl rfl) ?_
  first | refine Da 2 rfl (A5 rfl rfl 1 rfl) ?_ | refine Da 2 rfl (A6 rfl rfl 1 rfl) ?_
  refine Da 3 rfl (A1 rfl) ?_; refine Dt 4 [12] rfl (Ha rfl) ?_; refine Da 5 rfl (Ah rfl) ?_; refine Dt 6 [12] rfl (Bl rfl) ?_
  first | refine Da 7 rfl (A5 rfl rfl 2 rfl) ?_ | refine Da 7 rfl (A6 rfl rfl 2 rfl) ?_
  refine Da 8 rfl (A1 rfl) ?_; refine Dt 9 [12] rfl (Ha rfl) ?_; refine Et 10 rfl (by kernel_rfl) rfl rfl rfl (by rfl) (by rfl) (by rfl) (by decide) (by decide) (by rfl) .free rfl (.inr Aj) ?_; intro b39; refine Da 11 rfl (Av rfl) ?_; refine Ao (by kernel_rfl) ?_; refine Br ?_; intro hz; refine Ad (.tmp rfl .nil) ?_
  exact ⟨_, L, hz, Ax, some ⟨b39, 0, none⟩, 2, rfl, Hy hz hx1 hx2, rfl⟩
 intro c1
 try simp only [nb] at c1
 refine Ae (Ak (Se rfl ?_)); refine Eo .free rfl ?_; intro b40; refine Oa rfl (Aa (Ad (.tmp rfl .nil) ?_))
 have hbd : e.binds i = [] := by
  cases e with
  | lt x a b => exact if_neg fun hi => by rcases c0 with h | h; exact h rfl; omega
  | fn f x s t b => exact absurd rfl c1
  | _ => rfl
 exact ⟨I, L, .refl _, Ax, some ⟨b40, 0, none⟩, 0, by rw [hbd]; rfl, by rw [hbd]; exact Gj I _, rfl⟩

def LP (l : List Aq) (L : Bf) : C1 := fun v I' L' => ∃ B c, v = Bw l.length c B ∧ D9 1 l.length c (l.map sv) B ∧ L' = B8 9 (l.map sv) B ++ L
theorem Xw {l : List Aq} {B : Jy} {c : Nat} (hB : D9 1 l.length c (l.map sv) B) (hl : l.length ≤ Ap) (I : Heap) (p : Nat × Obj) (L : Bf) (s : Aq) :
  Fun Tryz.prog 143 [Bw l.length c B, .string (str s)] I (p :: (B8 9 (l.map sv) B ++ L)) (Ec (.bool (decide (s ∈ l))) I (p :: (B8 9 (l.map sv) B ++ L))) := by
 obtain ⟨oa, c', hbv, hrd⟩ := V9 (I := I) (L := L) (e := 9) hB rfl hl; rw [hbv]
 exact Ss (hrd.sub fun w h => h.drop) c' s
theorem Pa {l : List Aq} {s : Aq} (h : s ∉ l) : C4 l [s] = l ++ [s] := by simp [C4, Gd, h]
theorem Qz {l : List Aq} {s : Aq} (h : s ∈ l) : C4 l [s] = l := by simp [C4, Gd, h]
theorem H2 {l bd : List Aq} {e : Ex} {k n : Nat} (h : l.length + (e.size + k) ≤ n) : (C4 l (e.occ bd)).length + k ≤ n := by
 have := Gy l (e.occ bd); have := e.occ_len bd; omega
theorem R1 {l bd bd' : List Aq} {e e' : Ex} {k n : Nat} (h : l.length + (e.size + (e'.size + k)) ≤ n) : (C4 (C4 l (e.occ bd)) (e'.occ bd')).length + k ≤ n := H2 (H2 h)
theorem Aad : ∀ (n : Nat) {I : Heap} {e : Ex} {cs : List Value} (_ : SizeOf.sizeOf e < n) (_ : Rep I e.tree cs) (_ : e.ok = true) {bd : List Aq} {ob : Option Addr} {cb : Nat} (_ : Strs I ob bd cb) (_ : bd.length + 2 * e.size ≤ Ap)
   (l : List Aq) (B : Jy) (c : Nat) (_ : l.length + e.size ≤ 4294967295) (_ : D9 1 l.length c (l.map sv) B) (L : Bf),
  Fun Tryz.prog 115 [.agg cs.toArray, .slice ob bd.length cb, Bw l.length c B] I (B8 9 (l.map sv) B ++ L) (LP (C4 l (e.occ bd)) L) := by
 intro n
 induction n with
 | zero => intro I e cs h; omega
 | succ n ihn =>
  intro I e cs hlt h hok bd ob cb hbd hbl l B c hl hB L; obtain ⟨oa, cc, oaf, cf, rfl, hf⟩ := h.at'
  have ha := hf.alen
  have hlN : l.length ≤ Ap := by unfold Ap; omega
  unfold Ap at hbl
  refine Ai (by simp) ?_; refine Se rfl ?_; refine Ct rfl rfl .free rfl ?_; intro b3; refine Oa rfl (Aa (Ac (Se rfl (Oh rfl ?_)))); refine Bi rfl .free rfl ?_; refine Od rfl rfl rfl (Aa ?_); refine Ar rfl ?_ ?_
  ·intro c0
   try simp only [nb] at c0
   have hb : e.bare = true := by
    cases hb : e.bare with
    | true => rfl
    | false => exact absurd ((Ex.atom_iff hok).2 hb) c0
   refine Ac (Se rfl (Oh rfl ?_)); refine Bi rfl .free rfl ?_; refine Ca rfl (Ky e.tree.atom ha _ _) ?_; rintro _ _ _ _ ⟨rfl, rfl, rfl⟩; refine Cw rfl .free rfl ?_; refine Om rfl ?_
   apply Gb 17 22 rfl
   ·intro g2_5 hk
    try simp only [nb] at g2_5
    refine Ow rfl ?_; refine Bv rfl (.met rfl rfl) rfl ?_; refine Bi rfl (.met rfl rfl) rfl ?_; refine B9 rfl (.met rfl rfl) rfl (Ss (hbd.rd _) cb e.tree.atom) ?_; rintro _ _ _ _ ⟨rfl, rfl, rfl⟩; refine Of rfl rfl ?_
    exact Ay 4 rfl rfl hk
   ·intro _ hk; refine Ba 4 rfl ?_; refine Ot rfl rfl ?_
    exact Ay 4 rfl rfl hk
   refine Om rfl ?_
   apply Gb 23 28 rfl
   ·intro g2_11 hk
    try simp only [nb] at g2_11
    refine Ow rfl ?_; refine Bv rfl (.met rfl rfl) rfl ?_; refine Bi rfl (.met rfl rfl) rfl ?_; refine B9 rfl (.met rfl rfl) rfl (Xw hB hlN _ _ _ _) ?_; rintro _ _ _ _ ⟨rfl, rfl, rfl⟩; refine Of rfl rfl ?_
    exact Ay 4 rfl rfl hk
   ·intro _ hk; refine Ba 4 rfl ?_; refine Ot rfl rfl ?_
    exact Ay 4 rfl rfl hk
   refine Aa ?_; refine Ar rfl ?_ ?_
   ·intro c1
    try simp only [nb] at c1
    refine Se rfl (Om rfl (Oa rfl (Aa (Ad (.tmp rfl .nil) ?_))))
    have hoc : C4 l (e.occ bd) = l := by
     cases e with
     | num s => rfl
     | name s =>
      have c1 : (Bj s = false ∨ s ∈ bd) ∨ s ∈ l := c1
      rcases c1 with (h | h) | h
      ·rw [show Bj s = true from hok] at h; cases h
      ·simp only [Ex.occ]; rw [if_pos h]; rfl
      ·simp only [Ex.occ]
       split
       ·rfl
       ·exact Qz h
     | _ => cases hb
    exact ⟨I, _, .refl _, fun w h => h.drop, B, c, by rw [hoc]; rfl, by rw [hoc]; exact hB, by rw [hoc]⟩
   intro c1
   try simp only [nb] at c1
   refine Ae (Se rfl (Om rfl (Oh rfl ?_))); refine Bi rfl .free rfl ?_; refine Ol rfl rfl ?_; intro b33; refine D4 (B := B) (xs := l.map sv) (ys := [sv e.tree.atom]) (m := l.length) (c := c) (by intro kk; simp) (by rfl) rfl rfl hB (fun _ h => h.u2) (by rfl) (fun a ha => by cases ha; exact Bk (.head _) (by rfl)) (by simp) (by rfl) (by decide) (by decide) (by have := e.size_pos; omega) (by decide) .free rfl ?_; intro bb sp c2 hB'; refine Oa rfl (Aa (Ad (.tmp rfl .nil) ?_))
   have hoc : C4 l (e.occ bd) = l ++ [e.tree.atom] := by
    cases e with
    | num s =>
     have h1 : Bj s = true := c1.1.1
     have h2 := Fh h1
     rw [show Cc s = true from hok] at h2; cases h2
    | name s =>
     have c1 : (Bj s = true ∧ ¬ s ∈ bd) ∧ ¬ s ∈ l := c1
     simp only [Ex.occ]; rw [if_neg c1.1.2]; exact Pa c1.2
    | _ => cases hb
   exact ⟨I, _, .refl _, Ms (L' := (bb, _) :: L), some (bb, sp), c2, by rw [hoc]; simp [Cv, Bw], by rw [hoc]; simpa using hB', by rw [hoc]; simp [B8]⟩
  intro c0
  try simp only [nb] at c0
  have hb : e.bare = false := (Ex.atom_iff hok).1 (by simpa using c0)
  have hsh := e.shapes hb
  have h0 : 0 < e.tree.parts.length := by
   rw [Ex.bare_parts] at hb
   have : e.tree.parts ≠ [] := by intro hh; rw [hh] at hb; cases hb
   exact List.length_pos_iff.2 this
  have hhd := Kb h0
  have hok0 := hok
  have hle : HLe I I := .refl _
  refine Ae (Se rfl (Oh rfl ?_)); refine Bi rfl .free rfl ?_
  first | refine A8 rfl rfl 0 rfl .free rfl ?_ | refine A9 rfl rfl 0 rfl .free rfl ?_
  refine Bq rfl .free rfl ?_; refine Iz rfl .free rfl ?_; refine Ca rfl (Uw (e.tree.pt 0).atom _ _) ?_; rw [← hhd]; rintro _ _ _ _ ⟨rfl, rfl, rfl⟩; refine Om rfl (Oe rfl rfl (Oe rfl rfl (Oa rfl (Oa rfl (Aa (Ac (Ac ?_)))))))
  rcases hsh with ⟨o, a, b, rfl⟩ | ⟨a, b, d, rfl⟩ | ⟨z, a, b, rfl⟩ | ⟨g, z, s, t, b, rfl⟩ | ⟨o, a, rfl⟩
  ·skip
   have hk : Au (Ex.bin o a b).tree.head = (1, 3) := by cases o <;> rfl
   rw [hk]
   have hlen : (Ex.bin o a b).tree.parts.length = 3 := rfl
   have hki := F6 o a b
   simp only [Ex.bin.sizeOf_spec] at hlt
   simp only [Ex.size] at hbl hl
   simp only [Ex.ok, Bool.and_eq_true] at hok
   refine Ag rfl (Om rfl (Oa rfl (Aa (Al ?_)))); refine Eh ?_; refine Ac (Se rfl (Om rfl (Om rfl (Oc rfl rfl rfl (Aa ?_))))); refine Cj rfl (by first | rfl | decide | (simp; done) | omega) ?_; refine Ae (Ac (Al ?_)); refine R9 15 rfl rfl ?_; refine Da 0 rfl (Ah rfl) ?_; refine Dt 1 [15] rfl (Bl rfl) ?_; refine Da 2 rfl (Af rfl) ?_
   first | refine Da 3 rfl (A5 rfl rfl _ rfl) ?_ | refine Da 3 rfl (A6 rfl rfl _ rfl) ?_
   refine Dt 4 [15] rfl (Bb rfl) ?_; refine Da 6 rfl (Af rfl) ?_; refine Dt 8 [15] rfl (Cb rfl) ?_; refine Da 9 rfl (Af rfl) ?_; refine Da 12 rfl (Af rfl) ?_; refine Ii 5 rfl (by kernel_rfl) rfl .free rfl (.inr Aj) ?_; intro b55; refine B0 7 (B := some (b55, [])) (xs := []) (ys := bd.map sv) (m := 0) (c := 0) rfl (by kernel_rfl) rfl (by intro kk; simp) (by rfl) rfl rfl ⟨rfl, Nat.le_refl _, rfl⟩ (fun _ h => h) (by simp) hbd.reads hbd.none (Dq bd) (by decide) (by omega) (by decide) .free rfl (fun _ => .inr Aj) ?_; intro B1 c1' hB1
   refine Dc 10 rfl rfl (Gn hf.rep hok0 hb _ (by rw [hki]; decide) _) ?_; rintro _ J1 _ e1 ⟨o1, k1, rfl, hs1, rfl⟩
   have hbd1 := hbd.mono e1
   refine Hx ?_; refine B0 11 (B := B1) (xs := bd.map sv) (ys := (Ex.binds _ _).map sv) (m := 0 + bd.length) (c := c1') rfl (by kernel_rfl) rfl (by intro kk; simp) (by rfl) rfl rfl hB1 (fun _ h => h) (by simp) hs1.reads hs1.none (Dq _) (by decide) (Ex.binds_room1 (by omega)) (by decide) .free rfl (fun _ => .inr Aj) ?_; intro B2 c2' hB2; rw [← List.map_append] at hB2 ⊢; refine C2 (l := bd ++ Ex.binds _ _) hB2 (by simp) (by rw [List.length_append]; exact Ex.binds_room0 (by omega)) (hbd1.append hs1) ?_; intro J3 o3 k3 ez hbv hs3; refine Ea (t := 61) rfl hbv ?_
   have e4 := e1.trans ez
   have hf3 := hf.mono e4
   refine Ek (fun w h => h.u1) ?_; refine Dc 13 rfl rfl (ihn (by omega) (hf3.as 1 a.tree (by omega) rfl) hok.1 hs3 (Ex.binds_room (by omega)) _ _ _ (by omega) hB _) ?_; rintro _ J4 _ e5 ⟨B, c, rfl, hB, rfl⟩
   have e6 := e4.trans e5
   refine Hx ?_; refine Ek (fun w h => h.w1) ?_
   have hf := hf.mono e6
   have hbd := hbd.mono e6
   have hle := hle.trans e6
   refine Da 14 rfl (Av rfl) ?_; refine Ao (by kernel_rfl) ?_; refine Ak (Ag rfl (Om rfl ?_)); refine Or rfl rfl rfl ?_; refine Oa rfl (Aa ?_); refine Ce ?_; refine Ac (Se rfl (Om rfl (Om rfl (Oc rfl rfl rfl (Aa ?_))))); refine Cj rfl (by first | rfl | decide | (simp; done) | omega) ?_; refine Ae (Ac (Al ?_)); refine R9 15 rfl rfl ?_; refine Da 0 rfl (Ah rfl) ?_; refine Dt 1 [15] rfl (Bl rfl) ?_; refine Da 2 rfl (Af rfl) ?_
   first | refine Da 3 rfl (A5 rfl rfl _ rfl) ?_ | refine Da 3 rfl (A6 rfl rfl _ rfl) ?_
   refine Dt 4 [15] rfl (Bb rfl) ?_; refine Da 6 rfl (Af rfl) ?_; refine Dt 8 [15] rfl (Cb rfl) ?_; refine Da 9 rfl (Af rfl) ?_; refine Da 12 rfl (Af rfl) ?_; refine Ii 5 rfl (by kernel_rfl) rfl .free rfl (.inr Aj) ?_; intro b55; refine B0 7 (B := some (b55, [])) (xs := []) (ys := bd.map sv) (m := 0) (c := 0) rfl (by kernel_rfl) rfl (by intro kk; simp) (by rfl) rfl rfl ⟨rfl, Nat.le_refl _, rfl⟩ (fun _ h => h) (by simp) hbd.reads hbd.none (Dq bd) (by decide) (by omega) (by decide) .free rfl (fun _ => .inr Aj) ?_; intro B1 c1' hB1
   refine Dc 10 rfl rfl (Gn hf.rep hok0 hb _ (by rw [hki]; decide) _) ?_; rintro _ J1 _ e1 ⟨o1, k1, rfl, hs1, rfl⟩
   have hbd1 := hbd.mono e1
   refine Hx ?_; refine B0 11 (B := B1) (xs := bd.map sv) (ys := (Ex.binds _ _).map sv) (m := 0 + bd.length) (c := c1') rfl (by kernel_rfl) rfl (by intro kk; simp) (by rfl) rfl rfl hB1 (fun _ h => h) (by simp) hs1.reads hs1.none (Dq _) (by decide) (Ex.binds_room1 (by omega)) (by decide) .free rfl (fun _ => .inr Aj) ?_; intro B2 c2' hB2; rw [← List.map_append] at hB2 ⊢; refine C2 (l := bd ++ Ex.binds _ _) hB2 (by simp) (by rw [List.length_append]; exact Ex.binds_room0 (by omega)) (hbd1.append hs1) ?_; intro J3 o3 k3 ez hbv hs3; refine Ea (t := 61) rfl hbv ?_
   have e4 := e1.trans ez
   have hf3 := hf.mono e4
   refine Ek (fun w h => h.u1) ?_; refine Dc 13 rfl rfl (ihn (by omega) (hf3.as 2 b.tree (by omega) rfl) hok.2 hs3 (Ex.binds_room (by omega)) _ _ _ (H2 (by omega)) hB _) ?_; rintro _ J4 _ e5 ⟨B, c, rfl, hB, rfl⟩
   have e6 := e4.trans e5
   refine Hx ?_; refine Ek (fun w h => h.w1) ?_
   have hf := hf.mono e6
   have hbd := hbd.mono e6
   have hle := hle.trans e6
   refine Da 14 rfl (Av rfl) ?_; refine Ao (by kernel_rfl) ?_; refine Ak (Ag rfl (Om rfl ?_)); refine Or rfl rfl rfl ?_; refine Oa rfl (Aa ?_); refine Ce ?_; refine Ac (Se rfl (Om rfl (Om rfl (Oc rfl rfl rfl (Aa ?_))))); refine Dj rfl (by first | rfl | decide | (simp; done) | omega) ?_; refine Bx rfl ?_; refine Se rfl (Om rfl (Oa rfl (Aa (Ad (.tmp rfl .nil) ?_))))
   exact ⟨_, _, hle, fun w h => h.drop, B, c, by simp [Ex.occ, Ex.binds, Cp, Cv], by simpa [Ex.occ, Ex.binds, Cp] using hB, by simp [Ex.occ, Ex.binds, Cp]⟩
  ·skip
   have hk : Au (Ex.ite a b d).tree.head = (1, 4) := rfl
   rw [hk]
   have hlen : (Ex.ite a b d).tree.parts.length = 4 := rfl
   have hki := Kz a b d
   simp only [Ex.ite.sizeOf_spec] at hlt
   simp only [Ex.size] at hbl hl
   simp only [Ex.ok, Bool.and_eq_true] at hok
   refine Ag rfl (Om rfl (Oa rfl (Aa (Al ?_)))); refine Eh ?_; refine Ac (Se rfl (Om rfl (Om rfl (Oc rfl rfl rfl (Aa ?_))))); refine Cj rfl (by first | rfl | decide | (simp; done) | omega) ?_; refine Ae (Ac (Al ?_)); refine R9 15 rfl rfl ?_; refine Da 0 rfl (Ah rfl) ?_; refine Dt 1 [15] rfl (Bl rfl) ?_; refine Da 2 rfl (Af rfl) ?_
   first | refine Da 3 rfl (A5 rfl rfl _ rfl) ?_ | refine Da 3 rfl (A6 rfl rfl _ rfl) ?_
   refine Dt 4 [15] rfl (Bb rfl) ?_; refine Da 6 rfl (Af rfl) ?_; refine Dt 8 [15] rfl (Cb rfl) ?_; refine Da 9 rfl (Af rfl) ?_; refine Da 12 rfl (Af rfl) ?_; refine Ii 5 rfl (by kernel_rfl) rfl .free rfl (.inr Aj) ?_; intro b55; refine B0 7 (B := some (b55, [])) (xs := []) (ys := bd.map sv) (m := 0) (c := 0) rfl (by kernel_rfl) rfl (by intro kk; simp) (by rfl) rfl rfl ⟨rfl, Nat.le_refl _, rfl⟩ (fun _ h => h) (by simp) hbd.reads hbd.none (Dq bd) (by decide) (by omega) (by decide) .free rfl (fun _ => .inr Aj) ?_; intro B1 c1' hB1
   refine Dc 10 rfl rfl (Gn hf.rep hok0 hb _ (by rw [hki]; decide) _) ?_; rintro _ J1 _ e1 ⟨o1, k1, rfl, hs1, rfl⟩
   have hbd1 := hbd.mono e1
   refine Hx ?_; refine B0 11 (B := B1) (xs := bd.map sv) (ys := (Ex.binds _ _).map sv) (m := 0 + bd.length) (c := c1') rfl (by kernel_rfl) rfl (by intro kk; simp) (by rfl) rfl rfl hB1 (fun _ h => h) (by simp) hs1.reads hs1.none (Dq _) (by decide) (Ex.binds_room1 (by omega)) (by decide) .free rfl (fun _ => .inr Aj) ?_; intro B2 c2' hB2; rw [← List.map_append] at hB2 ⊢; refine C2 (l := bd ++ Ex.binds _ _) hB2 (by simp) (by rw [List.length_append]; exact Ex.binds_room0 (by omega)) (hbd1.append hs1) ?_; intro J3 o3 k3 ez hbv hs3; refine Ea (t := 61) rfl hbv ?_
   have e4 := e1.trans ez
   have hf3 := hf.mono e4
   refine Ek (fun w h => h.u1) ?_; refine Dc 13 rfl rfl (ihn (by omega) (hf3.as 1 a.tree (by omega) rfl) hok.1.1 hs3 (Ex.binds_room (by omega)) _ _ _ (by omega) hB _) ?_; rintro _ J4 _ e5 ⟨B, c, rfl, hB, rfl⟩
   have e6 := e4.trans e5
   refine Hx ?_; refine Ek (fun w h => h.w1) ?_
   have hf := hf.mono e6
   have hbd := hbd.mono e6
   have hle := hle.trans e6
   refine Da 14 rfl (Av rfl) ?_; refine Ao (by kernel_rfl) ?_; refine Ak (Ag rfl (Om rfl ?_)); refine Or rfl rfl rfl ?_; refine Oa rfl (Aa ?_); refine Ce ?_; refine Ac (Se rfl (Om rfl (Om rfl (Oc rfl rfl rfl (Aa ?_))))); refine Cj rfl (by first | rfl | decide | (simp; done) | omega) ?_; refine Ae (Ac (Al ?_)); refine R9 15 rfl rfl ?_; refine Da 0 rfl (Ah rfl) ?_; refine Dt 1 [15] rfl (Bl rfl) ?_; refine Da 2 rfl (Af rfl) ?_
   first | refine Da 3 rfl (A5 rfl rfl _ rfl) ?_ | refine Da 3 rfl (A6 rfl rfl _ rfl) ?_
   refine Dt 4 [15] rfl (Bb rfl) ?_; refine Da 6 rfl (Af rfl) ?_; refine Dt 8 [15] rfl (Cb rfl) ?_; refine Da 9 rfl (Af rfl) ?_; refine Da 12 rfl (Af rfl) ?_; refine Ii 5 rfl (by kernel_rfl) rfl .free rfl (.inr Aj) ?_; intro b55; refine B0 7 (B := some (b55, [])) (xs := []) (ys := bd.map sv) (m := 0) (c := 0) rfl (by kernel_rfl) rfl (by intro kk; simp) (by rfl) rfl rfl ⟨rfl, Nat.le_refl _, rfl⟩ (fun _ h => h) (by simp) hbd.reads hbd.none (Dq bd) (by decide) (by omega) (by decide) .free rfl (fun _ => .inr Aj) ?_; intro B1 c1' hB1
   refine Dc 10 rfl rfl (Gn hf.rep hok0 hb _ (by rw [hki]; decide) _) ?_; rintro _ J1 _ e1 ⟨o1, k1, rfl, hs1, rfl⟩
   have hbd1 := hbd.mono e1
   refine Hx ?_; refine B0 11 (B := B1) (xs := bd.map sv) (ys := (Ex.binds _ _).map sv) (m := 0 + bd.length) (c := c1') rfl (by kernel_rfl) rfl (by intro kk; simp) (by rfl) rfl rfl hB1 (fun _ h => h) (by simp) hs1.reads hs1.none (Dq _) (by decide) (Ex.binds_room1 (by omega)) (by decide) .free rfl (fun _ => .inr Aj) ?_; intro B2 c2' hB2; rw [← List.map_append] at hB2 ⊢; refine C2 (l := bd ++ Ex.binds _ _) hB2 (by simp) (by rw [List.length_append]; exact Ex.binds_room0 (by omega)) (hbd1.append hs1) ?_; intro J3 o3 k3 ez hbv hs3; refine Ea (t := 61) rfl hbv ?_
   have e4 := e1.trans ez
   have hf3 := hf.mono e4
   refine Ek (fun w h => h.u1) ?_; refine Dc 13 rfl rfl (ihn (by omega) (hf3.as 2 b.tree (by omega) rfl) hok.1.2 hs3 (Ex.binds_room (by omega)) _ _ _ (H2 (by omega)) hB _) ?_; rintro _ J4 _ e5 ⟨B, c, rfl, hB, rfl⟩
   have e6 := e4.trans e5
   refine Hx ?_; refine Ek (fun w h => h.w1) ?_
   have hf := hf.mono e6
   have hbd := hbd.mono e6
   have hle := hle.trans e6
   refine Da 14 rfl (Av rfl) ?_; refine Ao (by kernel_rfl) ?_; refine Ak (Ag rfl (Om rfl ?_)); refine Or rfl rfl rfl ?_; refine Oa rfl (Aa ?_); refine Ce ?_; refine Ac (Se rfl (Om rfl (Om rfl (Oc rfl rfl rfl (Aa ?_))))); refine Cj rfl (by first | rfl | decide | (simp; done) | omega) ?_; refine Ae (Ac (Al ?_)); refine R9 15 rfl rfl ?_; refine Da 0 rfl (Ah rfl) ?_; refine Dt 1 [15] rfl (Bl rfl) ?_; refine Da 2 rfl (Af rfl) ?_
   first | refine Da 3 rfl (A5 rfl rfl _ rfl) ?_ | refine Da 3 rfl (A6 rfl rfl _ rfl) ?_
   refine Dt 4 [15] rfl (Bb rfl) ?_; refine Da 6 rfl (Af rfl) ?_; refine Dt 8 [15] rfl (Cb rfl) ?_; refine Da 9 rfl (Af rfl) ?_; refine Da 12 rfl (Af rfl) ?_; refine Ii 5 rfl (by kernel_rfl) rfl .free rfl (.inr Aj) ?_; intro b55; refine B0 7 (B := some (b55, [])) (xs := []) (ys := bd.map sv) (m := 0) (c := 0) rfl (by kernel_rfl) rfl (by intro kk; simp) (by rfl) rfl rfl ⟨rfl, Nat.le_refl _, rfl⟩ (fun _ h => h) (by simp) hbd.reads hbd.none (Dq bd) (by decide) (by omega) (by decide) .free rfl (fun _ => .inr Aj) ?_; intro B1 c1' hB1
   refine Dc 10 rfl rfl (Gn hf.rep hok0 hb _ (by rw [hki]; decide) _) ?_; rintro _ J1 _ e1 ⟨o1, k1, rfl, hs1, rfl⟩
   have hbd1 := hbd.mono e1
   refine Hx ?_; refine B0 11 (B := B1) (xs := bd.map sv) (ys := (Ex.binds _ _).map sv) (m := 0 + bd.length) (c := c1') rfl (by kernel_rfl) rfl (by intro kk; simp) (by rfl) rfl rfl hB1 (fun _ h => h) (by simp) hs1.reads hs1.none (Dq _) (by decide) (Ex.binds_room1 (by omega)) (by decide) .free rfl (fun _ => .inr Aj) ?_; intro B2 c2' hB2; rw [← List.map_append] at hB2 ⊢; refine C2 (l := bd ++ Ex.binds _ _) hB2 (by simp) (by rw [List.length_append]; exact Ex.binds_room0 (by omega)) (hbd1.append hs1) ?_; intro J3 o3 k3 ez hbv hs3; refine Ea (t := 61) rfl hbv ?_
   have e4 := e1.trans ez
   have hf3 := hf.mono e4
   refine Ek (fun w h => h.u1) ?_; refine Dc 13 rfl rfl (ihn (by omega) (hf3.as 3 d.tree (by omega) rfl) hok.2 hs3 (Ex.binds_room (by omega)) _ _ _ (R1 (by omega)) hB _) ?_; rintro _ J4 _ e5 ⟨B, c, rfl, hB, rfl⟩
   have e6 := e4.trans e5
   refine Hx ?_; refine Ek (fun w h => h.w1) ?_
   have hf := hf.mono e6
   have hbd := hbd.mono e6
   have hle := hle.trans e6
   refine Da 14 rfl (Av rfl) ?_; refine Ao (by kernel_rfl) ?_; refine Ak (Ag rfl (Om rfl ?_)); refine Or rfl rfl rfl ?_; refine Oa rfl (Aa ?_); refine Ce ?_; refine Ac (Se rfl (Om rfl (Om rfl (Oc rfl rfl rfl (Aa ?_))))); refine Dj rfl (by first | rfl | decide | (simp; done) | omega) ?_; refine Bx rfl ?_; refine Se rfl (Om rfl (Oa rfl (Aa (Ad (.tmp rfl .nil) ?_))))
   exact ⟨_, _, hle, fun w h => h.drop, B, c, by simp [Ex.occ, Ex.binds, Cp, Cv], by simpa [Ex.occ, Ex.binds, Cp] using hB, by simp [Ex.occ, Ex.binds, Cp]⟩
  ·skip
   have hk : Au (Ex.lt z a b).tree.head = (2, 4) := rfl
   rw [hk]
   have hlen : (Ex.lt z a b).tree.parts.length = 4 := rfl
   have hki := K0 z a b
   simp only [Ex.lt.sizeOf_spec] at hlt
   simp only [Ex.size] at hbl hl
   simp only [Ex.ok, Bool.and_eq_true] at hok
   refine Ag rfl (Om rfl (Oa rfl (Aa (Al ?_)))); refine Eh ?_; refine Ac (Se rfl (Om rfl (Om rfl (Oc rfl rfl rfl (Aa ?_))))); refine Cj rfl (by first | rfl | decide | (simp; done) | omega) ?_; refine Ae (Ac (Al ?_)); refine R9 15 rfl rfl ?_; refine Da 0 rfl (Ah rfl) ?_; refine Dt 1 [15] rfl (Bl rfl) ?_; refine Da 2 rfl (Af rfl) ?_
   first | refine Da 3 rfl (A5 rfl rfl _ rfl) ?_ | refine Da 3 rfl (A6 rfl rfl _ rfl) ?_
   refine Dt 4 [15] rfl (Bb rfl) ?_; refine Da 6 rfl (Af rfl) ?_; refine Dt 8 [15] rfl (Cb rfl) ?_; refine Da 9 rfl (Af rfl) ?_; refine Da 12 rfl (Af rfl) ?_; refine Ii 5 rfl (by kernel_rfl) rfl .free rfl (.inr Aj) ?_; intro b55; refine B0 7 (B := some (b55, [])) (xs := []) (ys := bd.map sv) (m := 0) (c := 0) rfl (by kernel_rfl) rfl (by intro kk; simp) (by rfl) rfl rfl ⟨rfl, Nat.le_refl _, rfl⟩ (fun _ h => h) (by simp) hbd.reads hbd.none (Dq bd) (by decide) (by omega) (by decide) .free rfl (fun _ => .inr Aj) ?_; intro B1 c1' hB1
   refine Dc 10 rfl rfl (Gn hf.rep hok0 hb _ (by rw [hki]; decide) _) ?_; rintro _ J1 _ e1 ⟨o1, k1, rfl, hs1, rfl⟩
   have hbd1 := hbd.mono e1
   refine Hx ?_; refine B0 11 (B := B1) (xs := bd.map sv) (ys := (Ex.binds _ _).map sv) (m := 0 + bd.length) (c := c1') rfl (by kernel_rfl) rfl (by intro kk; simp) (by rfl) rfl rfl hB1 (fun _ h => h) (by simp) hs1.reads hs1.none (Dq _) (by decide) (Ex.binds_room1 (by omega)) (by decide) .free rfl (fun _ => .inr Aj) ?_; intro B2 c2' hB2; rw [← List.map_append] at hB2 ⊢; refine C2 (l := bd ++ Ex.binds _ _) hB2 (by simp) (by rw [List.length_append]; exact Ex.binds_room0 (by omega)) (hbd1.append hs1) ?_; intro J3 o3 k3 ez hbv hs3; refine Ea (t := 61) rfl hbv ?_
   have e4 := e1.trans ez
   have hf3 := hf.mono e4
   refine Ek (fun w h => h.u1) ?_; refine Dc 13 rfl rfl (ihn (by omega) (hf3.as 2 a.tree (by omega) rfl) hok.1.2 hs3 (Ex.binds_room (by omega)) _ _ _ (by omega) hB _) ?_; rintro _ J4 _ e5 ⟨B, c, rfl, hB, rfl⟩
   have e6 := e4.trans e5
   refine Hx ?_; refine Ek (fun w h => h.w1) ?_
   have hf := hf.mono e6
   have hbd := hbd.mono e6
   have hle := hle.trans e6
   refine Da 14 rfl (Av rfl) ?_; refine Ao (by kernel_rfl) ?_; refine Ak (Ag rfl (Om rfl ?_)); refine Or rfl rfl rfl ?_; refine Oa rfl (Aa ?_); refine Ce ?_; refine Ac (Se rfl (Om rfl (Om rfl (Oc rfl rfl rfl (Aa ?_))))); refine Cj rfl (by first | rfl | decide | (simp; done) | omega) ?_; refine Ae (Ac (Al ?_)); refine R9 15 rfl rfl ?_; refine Da 0 rfl (Ah rfl) ?_; refine Dt 1 [15] rfl (Bl rfl) ?_; refine Da 2 rfl (Af rfl) ?_
   first | refine Da 3 rfl (A5 rfl rfl _ rfl) ?_ | refine Da 3 rfl (A6 rfl rfl _ rfl) ?_
   refine Dt 4 [15] rfl (Bb rfl) ?_; refine Da 6 rfl (Af rfl) ?_; refine Dt 8 [15] rfl (Cb rfl) ?_; refine Da 9 rfl (Af rfl) ?_; refine Da 12 rfl (Af rfl) ?_; refine Ii 5 rfl (by kernel_rfl) rfl .free rfl (.inr Aj) ?_; intro b55; refine B0 7 (B := some (b55, [])) (xs := []) (ys := bd.map sv) (m := 0) (c := 0) rfl (by kernel_rfl) rfl (by intro kk; simp) (by rfl) rfl rfl ⟨rfl, Nat.le_refl _, rfl⟩ (fun _ h => h) (by simp) hbd.reads hbd.none (Dq bd) (by decide) (by omega) (by decide) .free rfl (fun _ => .inr Aj) ?_; intro B1 c1' hB1
   refine Dc 10 rfl rfl (Gn hf.rep hok0 hb _ (by rw [hki]; decide) _) ?_; rintro _ J1 _ e1 ⟨o1, k1, rfl, hs1, rfl⟩
   have hbd1 := hbd.mono e1
   refine Hx ?_; refine B0 11 (B := B1) (xs := bd.map sv) (ys := (Ex.binds _ _).map sv) (m := 0 + bd.length) (c := c1') rfl (by kernel_rfl) rfl (by intro kk; simp) (by rfl) rfl rfl hB1 (fun _ h => h) (by simp) hs1.reads hs1.none (Dq _) (by decide) (Ex.binds_room1 (by omega)) (by decide) .free rfl (fun _ => .inr Aj) ?_; intro B2 c2' hB2; rw [← List.map_append] at hB2 ⊢; refine C2 (l := bd ++ Ex.binds _ _) hB2 (by simp) (by rw [List.length_append]; exact Ex.binds_room0 (by omega)) (hbd1.append hs1) ?_; intro J3 o3 k3 ez hbv hs3; refine Ea (t := 61) rfl hbv ?_
   have e4 := e1.trans ez
   have hf3 := hf.mono e4
   refine Ek (fun w h => h.u1) ?_; refine Dc 13 rfl rfl (ihn (by omega) (hf3.as 3 b.tree (by omega) rfl) hok.2 hs3 (Ex.binds_room (by omega)) _ _ _ (H2 (by omega)) hB _) ?_; rintro _ J4 _ e5 ⟨B, c, rfl, hB, rfl⟩
   have e6 := e4.trans e5
   refine Hx ?_; refine Ek (fun w h => h.w1) ?_
   have hf := hf.mono e6
   have hbd := hbd.mono e6
   have hle := hle.trans e6
   refine Da 14 rfl (Av rfl) ?_; refine Ao (by kernel_rfl) ?_; refine Ak (Ag rfl (Om rfl ?_)); refine Or rfl rfl rfl ?_; refine Oa rfl (Aa ?_); refine Ce ?_; refine Ac (Se rfl (Om rfl (Om rfl (Oc rfl rfl rfl (Aa ?_))))); refine Dj rfl (by first | rfl | decide | (simp; done) | omega) ?_; refine Bx rfl ?_; refine Se rfl (Om rfl (Oa rfl (Aa (Ad (.tmp rfl .nil) ?_))))
   exact ⟨_, _, hle, fun w h => h.drop, B, c, by simp [Ex.occ, Ex.binds, Cp, Cv], by simpa [Ex.occ, Ex.binds, Cp] using hB, by simp [Ex.occ, Ex.binds, Cp]⟩
  ·skip
   have hk : Au (Ex.fn g z s t b).tree.head = (5, 6) := rfl
   rw [hk]
   have hlen : (Ex.fn g z s t b).tree.parts.length = 6 := rfl
   have hki := Lf g z s t b
   simp only [Ex.fn.sizeOf_spec] at hlt
   simp only [Ex.size] at hbl hl
   simp only [Ex.ok, Bool.and_eq_true] at hok
   refine Ag rfl (Om rfl (Oa rfl (Aa (Al ?_)))); refine Eh ?_; refine Ac (Se rfl (Om rfl (Om rfl (Oc rfl rfl rfl (Aa ?_))))); refine Cj rfl (by first | rfl | decide | (simp; done) | omega) ?_; refine Ae (Ac (Al ?_)); refine R9 15 rfl rfl ?_; refine Da 0 rfl (Ah rfl) ?_; refine Dt 1 [15] rfl (Bl rfl) ?_; refine Da 2 rfl (Af rfl) ?_
   first | refine Da 3 rfl (A5 rfl rfl _ rfl) ?_ | refine Da 3 rfl (A6 rfl rfl _ rfl) ?_
   refine Dt 4 [15] rfl (Bb rfl) ?_; refine Da 6 rfl (Af rfl) ?_; refine Dt 8 [15] rfl (Cb rfl) ?_; refine Da 9 rfl (Af rfl) ?_; refine Da 12 rfl (Af rfl) ?_; refine Ii 5 rfl (by kernel_rfl) rfl .free rfl (.inr Aj) ?_; intro b55; refine B0 7 (B := some (b55, [])) (xs := []) (ys := bd.map sv) (m := 0) (c := 0) rfl (by kernel_rfl) rfl (by intro kk; simp) (by rfl) rfl rfl ⟨rfl, Nat.le_refl _, rfl⟩ (fun _ h => h) (by simp) hbd.reads hbd.none (Dq bd) (by decide) (by omega) (by decide) .free rfl (fun _ => .inr Aj) ?_; intro B1 c1' hB1
   refine Dc 10 rfl rfl (Gn hf.rep hok0 hb _ (by rw [hki]; decide) _) ?_; rintro _ J1 _ e1 ⟨o1, k1, rfl, hs1, rfl⟩
   have hbd1 := hbd.mono e1
   refine Hx ?_; refine B0 11 (B := B1) (xs := bd.map sv) (ys := (Ex.binds _ _).map sv) (m := 0 + bd.length) (c := c1') rfl (by kernel_rfl) rfl (by intro kk; simp) (by rfl) rfl rfl hB1 (fun _ h => h) (by simp) hs1.reads hs1.none (Dq _) (by decide) (Ex.binds_room1 (by omega)) (by decide) .free rfl (fun _ => .inr Aj) ?_; intro B2 c2' hB2; rw [← List.map_append] at hB2 ⊢; refine C2 (l := bd ++ Ex.binds _ _) hB2 (by simp) (by rw [List.length_append]; exact Ex.binds_room0 (by omega)) (hbd1.append hs1) ?_; intro J3 o3 k3 ez hbv hs3; refine Ea (t := 61) rfl hbv ?_
   have e4 := e1.trans ez
   have hf3 := hf.mono e4
   refine Ek (fun w h => h.u1) ?_; refine Dc 13 rfl rfl (ihn (by omega) (hf3.as 5 b.tree (by omega) rfl) hok.2 hs3 (Ex.binds_room (by omega)) _ _ _ (by omega) hB _) ?_; rintro _ J4 _ e5 ⟨B, c, rfl, hB, rfl⟩
   have e6 := e4.trans e5
   refine Hx ?_; refine Ek (fun w h => h.w1) ?_
   have hf := hf.mono e6
   have hbd := hbd.mono e6
   have hle := hle.trans e6
   refine Da 14 rfl (Av rfl) ?_; refine Ao (by kernel_rfl) ?_; refine Ak (Ag rfl (Om rfl ?_)); refine Or rfl rfl rfl ?_; refine Oa rfl (Aa ?_); refine Ce ?_; refine Ac (Se rfl (Om rfl (Om rfl (Oc rfl rfl rfl (Aa ?_))))); refine Dj rfl (by first | rfl | decide | (simp; done) | omega) ?_; refine Bx rfl ?_; refine Se rfl (Om rfl (Oa rfl (Aa (Ad (.tmp rfl .nil) ?_))))
   exact ⟨_, _, hle, fun w h => h.drop, B, c, by simp [Ex.occ, Ex.binds, Cp, Cv], by simpa [Ex.occ, Ex.binds, Cp] using hB, by simp [Ex.occ, Ex.binds, Cp]⟩
  ·skip
   have hk : Au (Ex.un o a).tree.head = (1, 2) := by cases o <;> rfl
   rw [hk]
   have hlen : (Ex.un o a).tree.parts.length = 2 := rfl
   have hki := Jb o a
   simp only [Ex.un.sizeOf_spec] at hlt
   simp only [Ex.size] at hbl hl
   simp only [Ex.ok] at hok
   refine Ag rfl (Om rfl (Oa rfl (Aa (Al ?_)))); refine Eh ?_; refine Ac (Se rfl (Om rfl (Om rfl (Oc rfl rfl rfl (Aa ?_))))); refine Cj rfl (by first | rfl | decide | (simp; done) | omega) ?_; refine Ae (Ac (Al ?_)); refine R9 15 rfl rfl ?_; refine Da 0 rfl (Ah rfl) ?_; refine Dt 1 [15] rfl (Bl rfl) ?_; refine Da 2 rfl (Af rfl) ?_
   first | refine Da 3 rfl (A5 rfl rfl _ rfl) ?_ | refine Da 3 rfl (A6 rfl rfl _ rfl) ?_
   refine Dt 4 [15] rfl (Bb rfl) ?_; refine Da 6 rfl (Af rfl) ?_; refine Dt 8 [15] rfl (Cb rfl) ?_; refine Da 9 rfl (Af rfl) ?_; refine Da 12 rfl (Af rfl) ?_; refine Ii 5 rfl (by kernel_rfl) rfl .free rfl (.inr Aj) ?_; intro b55; refine B0 7 (B := some (b55, [])) (xs := []) (ys := bd.map sv) (m := 0) (c := 0) rfl (by kernel_rfl) rfl (by intro kk; simp) (by rfl) rfl rfl ⟨rfl, Nat.le_refl _, rfl⟩ (fun _ h => h) (by simp) hbd.reads hbd.none (Dq bd) (by decide) (by omega) (by decide) .free rfl (fun _ => .inr Aj) ?_; intro B1 c1' hB1
   refine Dc 10 rfl rfl (Gn hf.rep hok0 hb _ (by rw [hki]; decide) _) ?_; rintro _ J1 _ e1 ⟨o1, k1, rfl, hs1, rfl⟩
   have hbd1 := hbd.mono e1
   refine Hx ?_; refine B0 11 (B := B1) (xs := bd.map sv) (ys := (Ex.binds _ _).map sv) (m := 0 + bd.length) (c := c1') rfl (by kernel_rfl) rfl (by intro kk; simp) (by rfl) rfl rfl hB1 (fun _ h => h) (by simp) hs1.reads hs1.none (Dq _) (by decide) (Ex.binds_room1 (by omega)) (by decide) .free rfl (fun _ => .inr Aj) ?_; intro B2 c2' hB2; rw [← List.map_append] at hB2 ⊢; refine C2 (l := bd ++ Ex.binds _ _) hB2 (by simp) (by rw [List.length_append]; exact Ex.binds_room0 (by omega)) (hbd1.append hs1) ?_; intro J3 o3 k3 ez hbv hs3; refine Ea (t := 61) rfl hbv ?_
   have e4 := e1.trans ez
   have hf3 := hf.mono e4
   refine Ek (fun w h => h.u1) ?_; refine Dc 13 rfl rfl (ihn (by omega) (hf3.as 1 a.tree (by omega) rfl) hok hs3 (Ex.binds_room (by omega)) _ _ _ (by omega) hB _) ?_; rintro _ J4 _ e5 ⟨B, c, rfl, hB, rfl⟩
   have e6 := e4.trans e5
   refine Hx ?_; refine Ek (fun w h => h.w1) ?_
   have hf := hf.mono e6
   have hbd := hbd.mono e6
   have hle := hle.trans e6
   refine Da 14 rfl (Av rfl) ?_; refine Ao (by kernel_rfl) ?_; refine Ak (Ag rfl (Om rfl ?_)); refine Or rfl rfl rfl ?_; refine Oa rfl (Aa ?_); refine Ce ?_; refine Ac (Se rfl (Om rfl (Om rfl (Oc rfl rfl rfl (Aa ?_))))); refine Dj rfl (by first | rfl | decide | (simp; done) | omega) ?_; refine Bx rfl ?_; refine Se rfl (Om rfl (Oa rfl (Aa (Ad (.tmp rfl .nil) ?_))))
   exact ⟨_, _, hle, fun w h => h.drop, B, c, by simp [Ex.occ, Ex.binds, Cp, Cv], by simpa [Ex.occ, Ex.binds, Cp] using hB, by simp [Ex.occ, Ex.binds, Cp]⟩

def Hn (s : Aq) : Option (List Aq) := (En s).map Ex.free
def Co (s : Aq) : Option Ex := match En s with
 | some e => if e.closed = true then some e else none
 | none => none
def EF (o : Option (List Aq)) (L : Bf) : C1 := fun v I' L' => ∃ oa c, v = .tuple #[.slice oa (o.getD []).length c, .bool o.isSome] ∧ Strs I' oa (o.getD []) c ∧ L = L'
theorem Yj {e : Ex} (h : e.fine = true) : e.size ≤ 120 := by
 simp only [Ex.fine, Bool.and_eq_true, decide_eq_true_eq] at h; exact h.1.2
theorem Q6 {s : Aq} {e : Ex} (h : En s = some e) : e.size ≤ 120 := Yj (Io h).2.1
theorem Wm (s : Aq) (hs : s.length ≤ Jk) (I : Heap) (L : Bf) : Fun Tryz.prog 68 [.string (str s)] I L (EF (Hn s) L) := by
 refine Ai (by simp) ?_; refine Se rfl (Oa rfl (Oa rfl (Aa (Se rfl (Om rfl ?_))))); refine Ca rfl (L5 s hs _ _) ?_; rintro _ J _ hleJ ⟨t, cs, ok, rfl, hrep, rfl, hpf⟩; obtain ⟨oa, cc, vs, rfl, -⟩ := hrep.open; refine Om rfl (Oe rfl rfl (Oe rfl rfl ?_)); refine A2 .free rfl ?_; intro b4; refine Bt rfl rfl rfl rfl .free ?_; refine Oa rfl (Aa (Ac (Se rfl (Om rfl ?_)))); refine Cw rfl .free rfl ?_; refine Aa ?_; refine Ar rfl ?_ ?_
 ·intro c0
  try simp only [nb] at c0
  refine Se rfl ?_; refine Eo .free rfl ?_; intro b13; refine Oa rfl (Oa rfl (Aa ?_)); refine Ad (.tmp rfl (.tmp rfl .nil)) ?_
  exact ⟨J, L, hleJ, fun w h => h.drop.drop, some ⟨b13, 0, none⟩, 0, by rw [Hn, Xi hpf c0]; rfl, by rw [Hn, Xi hpf c0]; exact Gj _ _, rfl⟩
 intro c0
 try simp only [nb] at c0
 obtain ⟨e, he, rfl, hok, -⟩ := Rz hpf c0
 have hez := Q6 he
 refine Ae (Se rfl ?_); refine Az rfl .free rfl ?_; refine Eo .free rfl ?_; intro b15; refine Eo .free rfl ?_; intro b16; refine Dw (L' := B8 9 (([] : List Aq).map sv) (some (b16, [])) ++ _) (fun w h => h) ?_; refine Ca rfl (Aad _ (Nat.lt_succ_self _) hrep hok (Gj _ _) (by unfold Ap; simp; omega) [] (some (b16, [])) 0 (by simp; omega) ⟨rfl, Nat.le_refl _, rfl⟩ _) ?_; rintro _ J2 _ e2 ⟨B, c, rfl, hB, rfl⟩; refine Oa rfl (Oa rfl (Aa ?_))
 have hll := Gy [] (e.occ [])
 have hol := e.occ_len []
 simp only [List.length_nil, Nat.zero_add] at hll
 have hnm : ∀ z ∈ C4 [] (e.occ []), Bj z = true := fun z hz => Ex.occ_name hok z (by simpa [Ir] using hz)
 refine Gr hB rfl (by unfold Ap; omega) (Py hnm) ?_; intro J3 oz cz ez hbv hst; refine Je (t := 2) rfl hbv ?_; refine Ad (.tmp rfl (.tmp rfl .nil)) ?_
 exact ⟨J3, L, (hleJ.trans e2).trans ez, Ax, oz, cz, by rw [Hn, he]; rfl, by rw [Hn, he]; exact hst, rfl⟩

theorem Ls (s : Aq) : (Co s).isSome = ((Hn s).isSome && decide ((Hn s).getD [] = [])) := by
 unfold Co Hn
 cases En s with
 | none => rfl
 | some e =>
  simp only [Option.map_some, Option.isSome_some, Option.getD_some, Bool.true_and]
  rw [← Ex.closed_free]
  cases e.closed <;> rfl
theorem Jg {s : Aq} {e : Ex} (h : Co s = some e) : En s = some e ∧ e.closed = true := by
 unfold Co at h
 cases hx : En s with
 | none => rw [hx] at h; cases h
 | some e' =>
  rw [hx] at h
  simp only at h
  split at h
  ·rename_i hc; cases h; exact ⟨rfl, hc⟩
  ·cases h
theorem Sq (s : Aq) (hs : s.length ≤ Jk) (I : Heap) (L : Bf) : Fun Tryz.prog 35 [.string (str s)] I L (Ec (.bool (Co s).isSome) I L) := by
 refine Ai (by simp) ?_; refine Se rfl (Oa rfl (Aa (Se rfl (Om rfl ?_)))); refine Ca rfl (Wm s hs _ _) ?_; rintro _ J _ hleJ ⟨oa, c, rfl, hst, rfl⟩; refine Om rfl (Oe rfl rfl (Oe rfl rfl (Oa rfl (Oa rfl (Aa (Se rfl (Om rfl (Om rfl ?_))))))))
 apply D3 11 15 rfl
 ·intro g2_2 hk
  try simp only [nb] at g2_2
  refine Ow rfl ?_; refine G8 rfl (.met rfl rfl) rfl ?_; refine Df rfl rfl rfl (.met rfl rfl) rfl ?_; refine Ot rfl rfl ?_
  exact Ay 3 rfl rfl hk
 ·intro _ hk; refine Ba 3 rfl ?_; refine Of rfl rfl ?_
  exact Ay 3 rfl rfl hk
 refine Oa rfl (Aa (Ad (.tmp rfl .nil) ?_)); refine Iu hleJ Ax ?_; rw [Ls]; refine congrArg Value.bool ?_; rw [Bool.eq_iff_iff]; simp
theorem Yg {I : Heap} {s : Aq} {t : Tree} {cs : List Value} {ok : Bool} (h : Rep I t cs) (hpf : match En s with | some e => ok = true ∧ t = e.tree | none => ok = false) (hok : ok = true) (L : Bf) :
  Fun Tryz.prog 62 [.agg cs.toArray] I L (SS ((Hn s).getD []) L) := by
 obtain ⟨e, he, rfl, h1, _⟩ := Rz hpf hok
 have hez := Q6 he
 rw [Hn, he]; exact M9 h h1 (by omega) L
theorem Mk (s : Aq) (hs : s.length ≤ Ap) (I : Heap) (L : Bf) : Fun Tryz.prog 31 [.string (str s)] I L (RX (Co s) L) := by
 refine Ai (by simp) ?_; refine Se rfl ?_; refine A2 .free rfl ?_; intro b2; refine Oa rfl (Aa (Se rfl (Om rfl ?_))); refine Ca rfl (Pk s hs _ _) ?_; rintro _ J _ hleJ ⟨t, cs, ok, rfl, hrep, rfl, hpf⟩; obtain ⟨oa, cc, vs, rfl, -⟩ := hrep.open; refine Om rfl (Oe rfl rfl (Oe rfl rfl ?_)); refine A2 .free rfl ?_; intro b4; refine Bt rfl rfl rfl rfl .free ?_; refine Oa rfl (Aa (Ac ?_)); refine Cz 10 rfl rfl ?_; refine Dt 0 [8] rfl (Cb rfl) ?_; refine Da 1 rfl (Af rfl) ?_; refine Da 2 rfl (Af rfl) ?_
 apply Ku 13 18 rfl
 ·intro g2_3 hk
  try simp only [nb] at g2_3
  refine Dl 3 [4, 8] rfl (by kernel_rfl) rfl Aj (Cb rfl) (.met rfl rfl) rfl ?_; refine E5 4 rfl (by kernel_rfl) rfl rfl (.met rfl rfl) rfl (Yg hrep hpf g2_3 _) ?_; rintro _ J2 _ e2 ⟨oz, cz, rfl, hst, rfl⟩; refine Hx ?_; refine Dm 5 rfl (Fv rfl) ?_; refine Ek (fun w h => Mem.le e2 h) ?_; refine Dm 6 rfl (Oo rfl rfl rfl) ?_; refine Da 7 rfl (C0 rfl rfl) ?_
  exact Ff 4 rfl rfl hk
 ·intro _ hk; refine Ds 3 rfl rfl rfl ?_; refine Ds 4 rfl rfl rfl ?_; refine Ds 5 rfl rfl rfl ?_; refine Ds 6 rfl rfl rfl ?_; refine Da 7 rfl (Ck rfl rfl) ?_
  exact Ff 4 rfl rfl hk
 refine Dx 8 rfl rfl rfl rfl ?_; refine Db 9 rfl (Av rfl) ?_; refine Ao (by kernel_rfl) ?_; refine Ad (.c rfl (.tmp rfl .nil)) ?_; refine ⟨J, L, hleJ, Ax, t, _, _, rfl, hrep, rfl, ?_⟩
 have hcf := Ls s
 cases hc : Co s with
 | some e =>
  obtain ⟨he, hcl⟩ := Jg hc; rw [he] at hpf; rw [hc] at hcf
  simp only [Option.isSome_some, Bool.true_eq, Bool.and_eq_true, decide_eq_true_eq] at hcf
  exact ⟨by rw [hpf.1, hcf.2]; rfl, hpf.2⟩
 | none =>
  rw [hc] at hcf
  cases ok with
  | false => rfl
  | true =>
   obtain ⟨e, he, _⟩ := Rz hpf rfl
   simp only [Hn, he, Option.map_some, Option.isSome_some, Option.isSome_none, Option.getD_some, Bool.true_and] at hcf ⊢
   have h1 : e.free ≠ [] := by simpa using hcf.symm
   have h2 := List.length_pos_iff.2 h1
   exact decide_eq_false (by omega)
theorem B5.ty_small {o : B5} {s t u : Ty} (hs : s.size ≤ 16) (h : o.ty s t = some u) : u.size ≤ 16 := by
 cases o <;> simp only [B5.ty] at h
 ·split at h <;> cases h; decide
 ·split at h <;> cases h; decide
 ·split at h <;> cases h; decide
 ·cases s with
  | fn a b =>
   simp only at h
   split at h <;> cases h
   simp only [Ty.size] at hs; omega
  | _ => cases h
 ·split at h
  ·cases h; assumption
  ·cases h
theorem U2.ty_small {o : U2} {s u : Ty} (hs : s.size ≤ 16) (h : o.ty s = some u) : u.size ≤ 16 := by
 cases o <;> cases s <;> simp only [U2.ty] at h <;> cases h <;> simp only [Ty.size] at hs <;> omega
def smallL (m : List Ty) : Prop := ∀ t ∈ m, t.size ≤ 16
theorem smallL.add {m : List Ty} {t : Ty} (h : smallL m) (ht : t.size ≤ 16) : smallL (m ++ [t]) := by
 intro u hu
 rcases List.mem_append.1 hu with h1 | h1
 ·exact h u h1
 ·obtain rfl := List.mem_singleton.1 h1; exact ht
theorem smallL.add2 {m : List Ty} {t u : Ty} (h : smallL m) (ht : t.size ≤ 16) (hu : u.size ≤ 16) : smallL (m ++ [t, u]) := by
 have := (h.add ht).add hu
 simpa using this
theorem Km {l : List Aq} {m : List Ty} {s : Aq} {t : Ty} (hm : smallL m) (h : Ew l m s = some t) : t.size ≤ 16 := by
 unfold Ew at h
 cases hi : By l s with
 | none => rw [hi] at h; cases h
 | some i => rw [hi] at h; simp only [Option.bind] at h; exact hm t (List.mem_of_getElem? h)
theorem Ex.chk_small : ∀ {e : Ex} {l : List Aq} {m : List Ty} {t : Ty}, e.ok = true → smallL m → e.chk l m = .ok t → t.size ≤ 16
 | .num _, l, m, t, hok, hm, h => by simp only [Ex.chk] at h; cases h; decide
 | .name s, l, m, t, hok, hm, h => by
  simp only [Ex.chk] at h
  split at h
  ·rename_i t' h1; cases h; exact Km hm h1
  ·cases h
 | .bin o a b, l, m, t, hok, hm, h => by
  simp only [Ex.ok, Bool.and_eq_true] at hok
  simp only [Ex.chk] at h
  split at h
  ·cases h
  ·rename_i s h1
   split at h
   ·cases h
   ·split at h
    ·rename_i h3; cases h; exact B5.ty_small (Ex.chk_small hok.1 hm h1) h3
    ·cases h
 | .ite a b c, l, m, t, hok, hm, h => by
  simp only [Ex.ok, Bool.and_eq_true] at hok
  simp only [Ex.chk] at h
  split at h
  ·cases h
  ·split at h
   ·cases h
   ·rename_i h2
    split at h
    ·cases h
    ·split at h
     ·cases h; exact Ex.chk_small hok.1.2 hm h2
     ·cases h
 | .lt x a b, l, m, t, hok, hm, h => by
  simp only [Ex.ok, Bool.and_eq_true] at hok
  simp only [Ex.chk] at h
  split at h
  ·cases h
  ·rename_i h1
   exact Ex.chk_small hok.2 (hm.add (Ex.chk_small hok.1.2 hm h1)) h
 | .fn f x s t b, l, m, u, hok, hm, h => by
  simp only [Ex.chk] at h
  split at h
  ·rename_i h1
   split at h
   ·cases h
   ·split at h
    ·cases h; exact h1
    ·cases h
  ·cases h
 | .un o a, l, m, t, hok, hm, h => by
  simp only [Ex.ok] at hok
  simp only [Ex.chk] at h
  split at h
  ·cases h
  ·rename_i s h1
   split at h
   ·rename_i h3; cases h; exact U2.ty_small (Ex.chk_small hok hm h1) h3
   ·cases h

/- Texts of types; the empty text for none. -/
def Jf : Option Ty → Aq
 | some t => t.tree.text
 | none => []
theorem Ty.text_ne (t : Ty) : t.tree.text ≠ [] := by
 cases t <;> simp [Ty.tree, Tree.text]
theorem Tm {o : Option Ty} : Jf o = [] ↔ o = none := by
 cases o with
 | none => simp [Jf]
 | some t => simp [Jf, t.text_ne]
theorem Tl {a b : Option Ty} (h : Jf a = Jf b) : a = b := by
 cases a with
 | none => exact (Tm.1 h.symm).symm
 | some a => cases b with
  | none => exact absurd h a.text_ne
  | some b => exact congrArg some (Ty.text_inj h)
theorem Ty.text_i {t : Ty} : t.tree.text = [105] ↔ t = .i := ⟨fun h => Ty.text_inj (b := .i) h, fun h => by rw [h]; rfl⟩
theorem Ty.text_len {t : Ty} (h : t.size ≤ 16) : t.tree.text.length ≤ 80 := by
 have := t.tree_small; rw [Tree.text_len]; omega
def W7 (o : Option Ty) : Prop := ∀ t, o = some t → t.size ≤ 16
theorem Acc {o : Option Ty} (h : W7 o) : (Jf o).length ≤ 80 := by
 cases o with
 | none => simp [Jf]
 | some t => exact Ty.text_len (h t rfl)
def Add (ks : List (Option Ty)) : Prop := ∀ o ∈ ks, W7 o
def Hg (h : Aq) : List (Option Ty) → Option Ty
 | [some a] => (U2.of h).bind fun o => o.ty a
 | [some a, some b] => (B5.of h).bind fun o => o.ty a b
 | [some a, some b, some c] => if a = .i ∧ b = c then some b else none
 | _ => none
theorem Ex.ty_bin (o : B5) (a b : Ex) (l : List Aq) (m : List Ty) : (Ex.bin o a b).ty l m = Hg o.txt [a.ty l m, b.ty l m] := by
 simp only [Ex.ty, Ex.chk]
 cases a.chk l m with
 | error x => cases b.chk l m <;> rfl
 | ok s =>
  cases b.chk l m with
  | error y => rfl
  | ok t =>
   simp only [Hg, B5.of_txt, Option.bind]
   cases o.ty s t <;> rfl
theorem Ex.ty_ite (a b c : Ex) (l : List Aq) (m : List Ty) : (Ex.ite a b c).ty l m = Hg Fo [a.ty l m, b.ty l m, c.ty l m] := by
 simp only [Ex.ty, Ex.chk]
 cases a.chk l m with
 | error x => cases b.chk l m <;> cases c.chk l m <;> rfl
 | ok s =>
  cases b.chk l m with
  | error y => cases c.chk l m <;> rfl
  | ok t =>
   cases c.chk l m with
   | error y => rfl
   | ok u =>
    simp only [Hg]
    by_cases h : s = .i ∧ t = u <;> simp [h]
theorem Ex.ty_un (o : U2) (a : Ex) (l : List Aq) (m : List Ty) : (Ex.un o a).ty l m = Hg o.txt [a.ty l m] := by
 simp only [Ex.ty, Ex.chk]
 cases a.chk l m with
 | error x => rfl
 | ok s =>
  simp only [Hg, U2.of_txt, Option.bind]
  cases o.ty s <;> rfl
theorem Ex.ty_lt (x : Aq) (a b : Ex) (l : List Aq) (m : List Ty) : (Ex.lt x a b).ty l m = match a.ty l m with | some s => b.ty (l ++ [x]) (m ++ [s]) | none => none := by
 simp only [Ex.ty, Ex.chk]
 cases a.chk l m <;> rfl
theorem Ex.ty_fn (f x : Aq) (s t : Ty) (b : Ex) (l : List Aq) (m : List Ty) : (Ex.fn f x s t b).ty l m = if (Ty.fn s t).size ≤ 16 ∧ b.ty (l ++ [f, x]) (m ++ [.fn s t, s]) = some t then some (.fn s t) else none := by
 simp only [Ex.ty, Ex.chk]
 by_cases h : (Ty.fn s t).size ≤ 16
 ·simp only [h, if_true, true_and]
  cases b.chk (l ++ [f, x]) (m ++ [.fn s t, s]) with
  | error x => simp
  | ok u => by_cases hu : u = t <;> simp [hu]
 ·simp [h]
theorem Ex.ty_small {e : Ex} {l : List Aq} {m : List Ty} (hok : e.ok = true) (hm : smallL m) : W7 (e.ty l m) := by
 intro t h
 unfold Ex.ty at h
 split at h
 ·cases h; exact Ex.chk_small hok hm (by assumption)
 ·cases h
theorem Ex.ty_name (s : Aq) (l : List Aq) (m : List Ty) : (Ex.name s).ty l m = Ew l m s := by
 simp only [Ex.ty, Ex.chk]
 cases Ew l m s <;> rfl
theorem Wq {l : List Aq} {m : List Ty} (hl : l.length = m.length) (s : Aq) : Mo l (m.map fun t => t.tree.text) s = Jf (Ew l m s) := by
 unfold Mo Ew
 cases hi : By l s with
 | none => rfl
 | some i =>
  have h1 := (Hq (show Fu l s l.length = some i from hi)).1
  have h2 : i < m.length := by omega
  simp [h2, Jf]
def Ie (s : Aq) : Option Ty := (Dr s).bind Tree.ty
theorem O7 {s : Aq} {t : Tree} (h : Dr s = some t) : ∃ a : Ty, Ie s = some a ∧ t = a.tree ∧ a.size ≤ 16 ∧ s = a.tree.text := by
 obtain ⟨a, rfl, h2, h3⟩ := Vv h
 exact ⟨a, by simp [Ie, h, a.tree_ty], rfl, h2, h3⟩
theorem Oi (s : Aq) : (Ie s).isSome = (Dr s).isSome := by
 cases h : Dr s with
 | none => simp [Ie, h]
 | some t => obtain ⟨a, h1, _⟩ := O7 h; rw [h1]; rfl
theorem Ll {s : Aq} {a : Ty} (h : Ie s = some a) : Dr s = some a.tree ∧ a.size ≤ 16 ∧ s = a.tree.text := by
 cases h1 : Dr s with
 | none => simp [Ie, h1] at h
 | some t =>
  obtain ⟨b, h2, rfl, h3, h4⟩ := O7 h1; rw [h] at h2; cases h2
  exact ⟨rfl, h3, h4⟩
theorem Jx (a : Ty) : Ie a.tree.text = if a.size ≤ 16 then some a else none := by
 unfold Ie
 rw [M3]
 split
 ·exact a.tree_ty
 ·rfl
def H9 (m : List Aq) : List Ty := m.map fun s => (Ie s).getD .i
theorem Zd (m : List Aq) : (H9 m).length = m.length := by simp [H9]
theorem Xs : ∀ {m : List Aq}, (∀ s ∈ m, (Dr s).isSome = true) → m = (H9 m).map (fun t => t.tree.text) ∧ smallL (H9 m) ∧ m.map Dr = ((H9 m).map Ty.tree).map some
 | [], _ => ⟨rfl, (fun t h => by cases h), rfl⟩
 | s :: m, h => by
  obtain ⟨h1, h2, h3⟩ := Xs (m := m) fun x hx => h x (.tail _ hx)
  have h4 := h s (.head _)
  obtain ⟨t, h5⟩ := Option.isSome_iff_exists.1 h4; obtain ⟨a, h6, rfl, h7, h8⟩ := O7 h5; refine ⟨?_, ?_, ?_⟩
  ·simp only [H9, List.map_cons, h6, Option.getD_some]
   rw [← h8]; congr 1
  ·intro t ht
   simp only [H9, List.map_cons, h6, Option.getD_some] at ht
   rcases List.mem_cons.1 ht with rfl | ht
   ·exact h7
   ·exact h2 t ht
  ·simp only [H9, List.map_cons, h6, Option.getD_some, h5]
   congr 1
theorem Yw {l m : List Aq} (h : Gu l m = true) : m = (H9 m).map (fun t => t.tree.text) ∧ smallL (H9 m) ∧ m.map Dr = ((H9 m).map Ty.tree).map some ∧ l.length = (H9 m).length ∧ l.length ≤ 8 ∧ ∀ s ∈ l, Bj s = true := by
 obtain ⟨h1, h2, h3, h4⟩ := Yu h; obtain ⟨h5, h6, h7⟩ := Xs h4
 exact ⟨h5, h6, h7, by rw [Zd]; exact h2, h1, by simpa using h3⟩
def Ua (l m : List Aq) (s : Aq) : Option Aq := if Gu l m = true then (En s).bind fun e => (e.ty l (H9 m)).map fun t => t.tree.text else none
theorem Abu {l m : List Aq} {s : Aq} (h : Gu l m = false ∨ En s = none) : Ua l m s = none := by
 unfold Ua
 rcases h with h | h
 ·simp [h]
 ·simp [h]
theorem Abv {l m : List Aq} {s : Aq} {e : Ex} (h : Gu l m = true) (he : En s = some e) : Ua l m s = (e.ty l (H9 m)).map fun t => t.tree.text := by
 unfold Ua; simp [h, he]
theorem Yv : Gu [] [] = true := by decide
def Ex.sub : Ex → List Ex
 | .num _ => []
 | .name _ => []
 | .bin _ a b => [a, b]
 | .ite a b c => [a, b, c]
 | .lt _ a b => [a, b]
 | .fn _ _ _ _ b => [b]
 | .un _ a => [a]
theorem X2 (e : Ex) : (Ch e.tree).length = e.sub.length := by
 cases e with
 | num s => rfl
 | name s => rfl
 | bin o a b => rw [F6]; rfl
 | un o a => rw [Jb]; rfl
 | _ => rfl
theorem Ade (e : Ex) (j : Nat) (h : j < e.sub.length) : e.tree.pt ((Ch e.tree).getD j 0) = e.sub[j].tree := by
 cases e with
 | num s => simp [Ex.sub] at h
 | name s => simp [Ex.sub] at h
 | bin o a b =>
  simp only [F6]
  match j, h with
  | 0, _ => rfl
  | 1, _ => rfl
 | un o a =>
  simp only [Jb]
  match j, h with
  | 0, _ => rfl
 | ite a b c =>
  match j, h with
  | 0, _ => rfl
  | 1, _ => rfl
  | 2, _ => rfl
 | lt x a b =>
  match j, h with
  | 0, _ => rfl
  | 1, _ => rfl
 | fn f x s t b =>
  match j, h with
  | 0, _ => rfl
theorem Nw {e a : Ex} (h : a ∈ e.sub) : SizeOf.sizeOf a < SizeOf.sizeOf e ∧ a.size + 1 ≤ e.size ∧ (e.ok = true → a.ok = true) := by
 cases e with
 | num s => cases h
 | name s => cases h
 | bin o x y =>
  simp only [Ex.sub, List.mem_cons, List.not_mem_nil, or_false] at h
  simp only [Ex.bin.sizeOf_spec, Ex.size, Ex.ok, Bool.and_eq_true]
  rcases h with rfl | rfl
  ·exact ⟨by omega, by omega, fun h => h.1⟩
  ·exact ⟨by omega, by omega, fun h => h.2⟩
 | un o x =>
  simp only [Ex.sub, List.mem_cons, List.not_mem_nil, or_false] at h
  simp only [Ex.un.sizeOf_spec, Ex.size, Ex.ok]
  subst h
  exact ⟨by omega, by omega, fun h => h⟩
 | ite x y z =>
  simp only [Ex.sub, List.mem_cons, List.not_mem_nil, or_false] at h
  simp only [Ex.ite.sizeOf_spec, Ex.size, Ex.ok, Bool.and_eq_true]
  rcases h with rfl | rfl | rfl
  ·exact ⟨by omega, by omega, fun h => h.1.1⟩
  ·exact ⟨by omega, by omega, fun h => h.1.2⟩
  ·exact ⟨by omega, by omega, fun h => h.2⟩
 | lt x y z =>
  simp only [Ex.sub, List.mem_cons, List.not_mem_nil, or_false] at h
  simp only [Ex.lt.sizeOf_spec, Ex.size, Ex.ok, Bool.and_eq_true]
  rcases h with rfl | rfl
  ·exact ⟨by omega, by omega, fun h => h.1.2⟩
  ·exact ⟨by omega, by omega, fun h => h.2⟩
 | fn f x s t b =>
  simp only [Ex.sub, List.mem_cons, List.not_mem_nil, or_false] at h
  simp only [Ex.fn.sizeOf_spec, Ex.size, Ex.ok, Bool.and_eq_true]
  subst h
  exact ⟨by omega, by omega, fun h => h.2⟩

/- Environments of parts. -/
def Ex.inL (e : Ex) (i : Nat) (l : List Aq) : List Aq := match e with
 | .lt x _ _ => if i = 3 then l ++ [x] else l
 | .fn f x _ _ _ => l ++ [f] ++ [x]
 | _ => l
def Ex.inM (e : Ex) (i : Nat) (s0 : Ty) (m : List Ty) : List Ty := match e with
 | .lt _ _ _ => if i = 3 then m ++ [s0] else m
 | .fn _ _ s t _ => m ++ [.fn s t] ++ [s]
 | _ => m
theorem Ab2 (e : Ex) (i : Nat) (l : List Aq) : (e.inL i l).length ≤ l.length + 2 := by
 cases e with
 | lt x a b => simp only [Ex.inL]; split <;> simp
 | fn f x s t b => simp [Ex.inL]
 | _ => simp [Ex.inL]
theorem Yt {e : Ex} {i : Nat} {s0 : Ty} {m : List Ty} (hm : smallL m) (h0 : s0.size ≤ 16) (hok : e.ok = true) (hfn : ∀ f x s t b, e = .fn f x s t b → (Ty.fn s t).size ≤ 16) : smallL (e.inM i s0 m) := by
 cases e with
 | lt x a b => simp only [Ex.inM]; split; exact hm.add h0; exact hm
 | fn f x s t b =>
  simp only [Ex.ok, Bool.and_eq_true, decide_eq_true_eq] at hok
  exact (hm.add (hfn _ _ _ _ _ rfl)).add hok.1.1.2
 | _ => exact hm
def Ex.raw (e : Ex) (ts : List Ty) (l : List Aq) (m : List Ty) : Option Ty := match e, ts with
 | .num _, _ => some .i
 | .name s, _ => Ew l m s
 | .bin .pair _ _, [a, b] => some (.pr a b)
 | .bin o _ _, [a, b] => o.ty a b
 | .ite _ _ _, [a, b, c] => if a = .i ∧ b = c then some b else none
 | .lt _ _ _, [_, b] => some b
 | .fn _ _ s t _, [b] => if b = t then some (.fn s t) else none
 | .un o _, [a] => o.ty a
 | _, _ => none
def Ex.fin (e : Ex) (r : Option Ty) : Except Ex Ty := match r with
 | some t => if t.size ≤ 16 then .ok t else .error e
 | none => .error e
theorem Jr {e : Ex} {t : Ty} (h : t.size ≤ 16) : e.fin (some t) = .ok t := if_pos h
def Ex.run (e : Ex) (l : List Aq) (m : List Ty) : List Ex → List Nat → List Ty → Except Ex (List Ty)
 | a :: more, k :: ks, ts => match a.chk (e.inL k l) (e.inM k (ts.getD 0 .i) m) with
  | .ok t => e.run l m more ks (ts ++ [t])
  | .error x => .error x
 | _, _, ts => .ok ts
def Ex.runs (e : Ex) (l : List Aq) (m : List Ty) : Except Ex (List Ty) := e.run l m e.sub (Ch e.tree) []
def Ex.funOk : Ex → Bool
 | .fn _ _ s t _ => decide ((Ty.fn s t).size ≤ 16)
 | _ => true
theorem Abf {e : Ex} {l : List Aq} {m : List Ty} {ts : List Ty} {i : Nat} (hi : i < e.sub.length) : e.run l m (e.sub.drop i) ((Ch e.tree).drop i) ts =
  match e.sub[i].chk (e.inL ((Ch e.tree).getD i 0) l) (e.inM ((Ch e.tree).getD i 0) (ts.getD 0 .i) m) with
  | .ok t => e.run l m (e.sub.drop (i + 1)) ((Ch e.tree).drop (i + 1)) (ts ++ [t])
  | .error x => .error x := by
 have h2 : i < (Ch e.tree).length := by rw [X2]; exact hi
 rw [List.drop_eq_getElem_cons hi, List.drop_eq_getElem_cons h2, show (Ch e.tree).getD i 0 = (Ch e.tree)[i] by simp [h2]]
 rfl
theorem Acb {e : Ex} {l : List Aq} {m : List Ty} {ts : List Ty} {i : Nat} (hi : e.sub.length ≤ i) : e.run l m (e.sub.drop i) ((Ch e.tree).drop i) ts = .ok ts := by
 rw [List.drop_eq_nil_of_le hi]; rfl
theorem B5.raw_ty {o : B5} {a b : Ex} {s t : Ty} {l : List Aq} {m : List Ty} (hs : s.size ≤ 16) : (match o.ty s t with | some u => Except.ok u | none => Except.error (Ex.bin o a b)) = (Ex.bin o a b).fin ((Ex.bin o a b).raw [s, t] l m) := by
 have key : ∀ r, o.ty s t = r → (Ex.bin o a b).raw [s, t] l m = r → (match o.ty s t with | some u => Except.ok u | none => .error (.bin o a b)) = (Ex.bin o a b).fin ((Ex.bin o a b).raw [s, t] l m) := by
  intro r h1 h2; rw [h2, h1]
  cases r with
  | none => rfl
  | some u => exact (Jr (B5.ty_small hs h1)).symm
 cases o with
 | pair =>
  simp only [B5.ty, Ex.raw, Ex.fin]
  by_cases h : (Ty.pr s t).size ≤ 16 <;> simp [h]
 | _ => exact key _ rfl rfl
theorem Zv {e : Ex} {l : List Aq} {m : List Ty} (hok : e.ok = true) (hm : smallL m) (hf : e.funOk = true) : e.chk l m = match e.runs l m with | .ok ts => e.fin (e.raw ts l m) | .error x => .error x := by
 cases e with
 | num s => simp [Ex.runs, Ex.sub, Ex.run, Ex.chk, Ex.raw, Ex.fin, Ty.size]
 | name s =>
  simp only [Ex.runs, Ex.sub, Ex.run, Ex.chk, Ex.raw]
  cases ht : Ew l m s with
  | none => rfl
  | some t => exact (Jr (Km hm ht)).symm
 | bin o a b =>
  simp only [Ex.ok, Bool.and_eq_true] at hok
  simp only [Ex.runs, Ex.sub, F6, Ex.run, Ex.chk, Ex.inL, Ex.inM]
  cases ha : a.chk l m with
  | error x => rfl
  | ok s =>
   simp only []
   cases hb : b.chk l m with
   | error x => rfl
   | ok t => exact B5.raw_ty (Ex.chk_small hok.1 hm ha)
 | un o a =>
  simp only [Ex.ok] at hok
  simp only [Ex.runs, Ex.sub, Jb, Ex.run, Ex.chk, Ex.inL, Ex.inM]
  cases ha : a.chk l m with
  | error x => rfl
  | ok s =>
   simp only [List.nil_append, Ex.raw]
   cases h : o.ty s with
   | none => rfl
   | some u => exact (Jr (U2.ty_small (Ex.chk_small hok hm ha) h)).symm
 | ite a b d =>
  simp only [Ex.ok, Bool.and_eq_true] at hok
  simp only [Ex.runs, Ex.sub, Kz, Ex.run, Ex.chk, Ex.inL, Ex.inM]
  cases ha : a.chk l m with
  | error x => rfl
  | ok s =>
   simp only []
   cases hb : b.chk l m with
   | error x => rfl
   | ok t =>
    simp only []
    cases hd : d.chk l m with
    | error x => rfl
    | ok u =>
     simp only [List.nil_append, List.cons_append, Ex.raw]
     by_cases h : s = .i ∧ t = u
     ·rw [if_pos h, if_pos h, Jr (Ex.chk_small hok.1.2 hm hb)]
     ·rw [if_neg h, if_neg h]; rfl
 | lt x a b =>
  simp only [Ex.ok, Bool.and_eq_true] at hok
  simp only [Ex.runs, Ex.sub, K0, Ex.run, Ex.chk, Ex.inL, Ex.inM]
  rw [if_neg (show ¬ (2 : Nat) = 3 by decide), if_neg (show ¬ (2 : Nat) = 3 by decide)]
  cases ha : a.chk l m with
  | error x => rfl
  | ok s =>
   simp only [List.nil_append, if_true, List.getD_cons_zero]
   cases hb : b.chk (l ++ [x]) (m ++ [s]) with
   | error x => rfl
   | ok t => exact (Jr (Ex.chk_small hok.2 (hm.add (Ex.chk_small hok.1.2 hm ha)) hb)).symm
 | fn f x s t b =>
  have hz : (Ty.fn s t).size ≤ 16 := by simpa [Ex.funOk] using hf
  simp only [Ex.runs, Ex.sub, Lf, Ex.run, Ex.chk, Ex.inL, Ex.inM, hz, if_true]
  rw [show l ++ [f] ++ [x] = l ++ [f, x] by simp, show m ++ [Ty.fn s t] ++ [s] = m ++ [Ty.fn s t, s] by simp]
  cases hb : b.chk (l ++ [f, x]) (m ++ [.fn s t, s]) with
  | error x => rfl
  | ok u =>
   simp only [List.nil_append, Ex.raw]
   by_cases h : u = t
   ·rw [if_pos h, if_pos h, Jr hz]
   ·rw [if_neg h, if_neg h]; rfl
theorem Abr {e : Ex} {l : List Aq} {m : List Ty} (hf : e.funOk = false) : e.chk l m = .error e := by
 cases e with
 | fn f x s t b =>
  have hz : ¬ (Ty.fn s t).size ≤ 16 := by simpa [Ex.funOk] using hf
  simp only [Ex.chk, if_neg hz]
 | _ => cases hf
theorem Z8 {e : Ex} (h : e.funOk = true) : ∀ f x s t b, e = .fn f x s t b → (Ty.fn s t).size ≤ 16 := by
 rintro f x s t b rfl; simpa [Ex.funOk] using h
theorem Y7 {e : Ex} {ts : List Ty} {l : List Aq} {m : List Ty} {t : Ty} (hts : smallL ts) (hm : smallL m) (hfn : ∀ f x s t b, e = .fn f x s t b → (Ty.fn s t).size ≤ 16) (h : e.raw ts l m = some t) : t.size ≤ 33 := by
 unfold Ex.raw at h
 split at h
 ·cases h; decide
 ·have := Km hm h; omega
 ·cases h
  have h1 := hts _ (.head _); have h2 := hts _ (.tail _ (.head _))
  simp only [Ty.size]; omega
 ·have := B5.ty_small (hts _ (.head _)) h; omega
 ·split at h
  ·cases h; have := hts _ (.tail _ (.head _)); omega
  ·cases h
 ·cases h; have := hts _ (.tail _ (.head _)); omega
 ·split at h
  ·cases h; have := hfn _ _ _ _ _ rfl; omega
  ·cases h
 ·have := U2.ty_small (hts _ (.head _)) h; omega
 ·cases h
end Go.Proofs.YtfddjcmeejjhiaaGreatDoor
