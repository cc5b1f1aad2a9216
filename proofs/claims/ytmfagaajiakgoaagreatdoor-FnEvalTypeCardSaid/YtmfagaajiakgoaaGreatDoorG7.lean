/- Names that stand free. No conditions. -/
import Derived.Test.YtmfagaajiakgoaaGreatDoorG6

namespace Go.Proofs.YtmfagaajiakgoaaGreatDoor
set_option maxRecDepth 100000
set_option linter.unusedVariables false
set_option linter.unusedSimpArgs false

def Ex.binds : Ex → Nat → List As
 | .lt x _ _, i => if i = 3 then [x] else []
 | .fn f x _ _ _, i => if i = 5 then [f, x] else []
 | _, _ => []
theorem Ex.shapes (e : Ex) (h : e.bare = false) : (∃ o a b, e = .bin o a b) ∨ (∃ a b c, e = .ite a b c) ∨ (∃ x a b, e = .lt x a b) ∨ (∃ f x s t b, e = .fn f x s t b) ∨ (∃ o a, e = .un o a) := by
 cases e with
 | num s => cases h
 | name s => cases h
 | bin o a b => exact .inl ⟨o, a, b, rfl⟩
 | ite a b c => exact .inr (.inl ⟨a, b, c, rfl⟩)
 | lt x a b => exact .inr (.inr (.inl ⟨x, a, b, rfl⟩))
 | fn f x s t b => exact .inr (.inr (.inr (.inl ⟨f, x, s, t, b, rfl⟩)))
 | un o a => exact .inr (.inr (.inr (.inr ⟨o, a, rfl⟩)))
def lbl : List As → Bool := fun l => l.all fun s => decide (s.length ≤ Bb)
theorem Ie {I : Heap} {b : Nat} {x : As} {e : TypeId} (hle : HLe I (I.set b (.cells [.string (str x)].toArray e (0, 0)))) (hx : x.length ≤ Bb) : Strs (I.set b (.cells [.string (str x)].toArray e (0, 0))) (some ⟨b, 0, none⟩) [x] 1 :=
 ⟨fun y hy => by cases hy; exact B0 (xs := [x].map sv) (ys := []), by simp, by simp, by simp [Bb], by simpa using hx⟩
theorem P1 {I : Heap} {b : Nat} {x y : As} {e : TypeId} (hle : HLe I (I.set b (.cells [.string (str x), .string (str y)].toArray e (0, 0)))) (hx : x.length ≤ Bb) (hy : y.length ≤ Bb) : Strs (I.set b (.cells [.string (str x), .string (str y)].toArray e (0, 0))) (some ⟨b, 0, none⟩) [x, y] 2 :=
 ⟨fun z hz => by cases hz; exact B0 (xs := [x, y].map sv) (ys := []), by simp, by simp, by simp [Bb], by simpa using ⟨hx, hy⟩⟩
theorem Xl (I : Heap) : Strs I none [] 0 := ⟨by simp, by simp, by simp, by simp [Bb], by simp⟩
theorem Ex.name_len {x : As} (h : Bn x = true) : x.length ≤ Bb := by have := F3 h; unfold Bb; omega

theorem Fj {I : Heap} {e : Ex} {cs : List Value} (h : Rep I e.tree cs) (hok : e.ok = true) (i : Nat) (L : Bh) : Fun Tryz.prog 133 [.agg cs.toArray, .int .i64 (i : Nat)] I L (SS (e.binds i) L) := by
 obtain ⟨oa, c, oaf, cf, rfl, hf⟩ := h.at'; refine Al Af ?_; refine Se rfl ?_; refine Cc rfl rfl .free rfl ?_; intro b2; refine Oa rfl (Ab (Ah (Ar (Se rfl ?_)))); refine Bq rfl .free rfl ?_; refine Ca rfl (Cj hf.rep _) ?_; rintro _ _ _ _ ⟨rfl, rfl, rfl⟩; refine Od rfl rfl rfl (Om rfl ?_)
 apply Cy 9 12 rfl
 ·intro g1_4 hk
  try simp only [nb] at g1_4
  refine Ow rfl ?_; refine Dp rfl rfl rfl (.met rfl rfl) rfl ?_; refine Ot rfl rfl ?_
  exact Au 2 rfl rfl hk
 ·intro _ hk; refine A2 2 rfl ?_; refine Of rfl rfl ?_
  exact Au 2 rfl rfl hk
 refine Oa rfl (Ab ?_); refine Av rfl ?_ ?_
 ·intro c0
  try simp only [nb] at c0
  obtain ⟨x, a, b, rfl⟩ := Ex.of_let c0.1; obtain rfl : i = 3 := by omega
  simp only [Ex.ok, Bool.and_eq_true] at hok
  have hlen : (Ex.lt x a b).tree.parts.length = 4 := rfl
  have hx : ((Ex.lt x a b).tree.pt 1).atom.length ≤ Bb := Ex.name_len hok.1.1
  refine Se rfl (Oh rfl ?_); refine Bd rfl .free rfl ?_
  first | refine Bk rfl rfl 1 rfl .free rfl ?_ | refine Bl rfl rfl 1 rfl .free rfl ?_
  refine Be rfl .free rfl ?_; refine F5 rfl .free rfl ?_; refine Ol rfl rfl ?_; intro b18; refine Oa rfl (Ab ?_); refine Bv ?_; intro hz; refine Ai (.tmp rfl .nil) ?_
  exact ⟨_, L, hz, Bj, some ⟨b18, 0, none⟩, 1, rfl, Ie hz hx, rfl⟩
 intro c0
 try simp only [nb] at c0
 refine Se rfl ?_; refine Bq rfl .free rfl ?_; refine Ca rfl (Cj hf.rep _) ?_; rintro _ _ _ _ ⟨rfl, rfl, rfl⟩; refine Od rfl rfl rfl (Om rfl ?_)
 apply Cy 23 26 rfl
 ·intro g3_4 hk
  try simp only [nb] at g3_4
  refine Ow rfl ?_; refine Dp rfl rfl rfl (.met rfl rfl) rfl ?_; refine Ot rfl rfl ?_
  exact Au 2 rfl rfl hk
 ·intro _ hk; refine A2 2 rfl ?_; refine Of rfl rfl ?_
  exact Au 2 rfl rfl hk
 refine Oa rfl (Ab ?_); refine Av rfl ?_ ?_
 ·intro c1
  try simp only [nb] at c1
  obtain ⟨f, x, s, t, b, rfl⟩ := Ex.of_fun c1.1; obtain rfl : i = 5 := by omega
  simp only [Ex.ok, Bool.and_eq_true] at hok
  have hlen : (Ex.fn f x s t b).tree.parts.length = 6 := rfl
  have hx1 : ((Ex.fn f x s t b).tree.pt 1).atom.length ≤ Bb := Ex.name_len hok.1.1.1.1.1
  have hx2 : ((Ex.fn f x s t b).tree.pt 2).atom.length ≤ Bb := Ex.name_len hok.1.1.1.1.2
  refine Ah ?_; refine Eb 12 rfl rfl ?_; refine Da 0 rfl (Ap rfl) ?_; refine Dt 1 [12] rfl (Cn rfl) ?_
  first | refine Da 2 rfl (Bw rfl rfl 1 rfl) ?_ | refine Da 2 rfl (Bx rfl rfl 1 rfl) ?_
  refine Da 3 rfl (Bi rfl) ?_; refine Dt 4 [12] rfl (Kj rfl) ?_; refine Da 5 rfl (Ap rfl) ?_; refine Dt 6 [12] rfl (Cn rfl) ?_
  first | refine Da 7 rfl (Bw rfl rfl 2 rfl) ?_ | refine Da 7 rfl (Bx rfl rfl 2 rfl) ?_
  refine Da 8 rfl (Bi rfl) ?_; refine Dt 9 [12] rfl (Kj rfl) ?_; refine E8 10 rfl Ae rfl rfl rfl Ac Ac Ac Ad Ad Ac .free rfl (.inr Ax) ?_; intro b37; refine Da 11 rfl (At rfl) ?_; refine A5 Ae ?_; refine Bv ?_; intro hz; refine Ai (.tmp rfl .nil) ?_
  exact ⟨_, L, hz, Bj, some ⟨b37, 0, none⟩, 2, rfl, P1 hz hx1 hx2, rfl⟩
 intro c1
 try simp only [nb] at c1
 refine Aj (Aq (Se rfl (Oa rfl (Ab (Ai (.tmp rfl .nil) ?_)))))
 have hb : e.binds i = [] := by
  cases e with
  | lt x a b => exact if_neg fun hi => by rcases c0 with h | h; exact h rfl; omega
  | fn f x s t b => exact if_neg fun hi => by rcases c1 with h | h; exact h rfl; omega
  | _ => rfl
 exact ⟨I, L, .refl _, Bj, none, 0, by rw [hb]; rfl, by rw [hb]; exact Xl I, rfl⟩

theorem Ex.binds_le (e : Ex) (i : Nat) : (e.binds i).length ≤ 2 := by
 cases e with
 | lt x a b => simp only [Ex.binds]; split <;> simp
 | fn f x s t b => simp only [Ex.binds]; split <;> simp
 | _ => simp [Ex.binds]
theorem Ex.binds_room {bd : List As} {e : Ex} {i k : Nat} (h : bd.length + 2 + k ≤ 4294967296) : (bd ++ e.binds i).length + k ≤ Bb := by
 have := e.binds_le i; rw [List.length_append]; unfold Bb; omega
theorem Ex.binds_room0 {bd : List As} {e : Ex} {i : Nat} (h : bd.length + 2 ≤ 4294967296) : bd.length + (e.binds i).length ≤ Bb := by
 have := e.binds_le i; unfold Bb; omega
structure Abr (P : Program) (kf : FuncId) (cap : List Value) (X : Type) (own : X → Bh) (R : X → List As → Heap → Prop) : Prop where
 tell : ∀ x seen s I L, R x seen I → Bn s = true → seen.length < 4294967296 → Fun P kf (.string (str s) :: cap) I (own x ++ L) (fun v I' L' => v = .tuple #[] ∧ ∃ y, R y (seen ++ [s]) I' ∧ L' = own y ++ L)
 mono : ∀ x seen I I', HLe I I' → R x seen I → R x seen I'
theorem Mem.w1 {I : Heap} {a : Nat × Obj} {X L : Bh} {w : World} (h : Mem I (X ++ a :: L) w) : Mem I (a :: (X ++ L)) w := h.perm List.perm_middle
theorem Ex.size_pos (e : Ex) : 1 ≤ e.size := by cases e <;> simp [Ex.size] <;> omega
theorem Ex.occ_len : ∀ (e : Ex) (bd : List As), (e.occ bd).length ≤ e.size
 | .num s, bd => Nat.zero_le _
 | .name s, bd => by simp only [Ex.occ]; split <;> simp [Ex.size]
 | .bin o a b, bd => by have := a.occ_len bd; have := b.occ_len bd; simp [Ex.occ, Ex.size]; omega
 | .ite a b c, bd => by have := a.occ_len bd; have := b.occ_len bd; have := c.occ_len bd; simp [Ex.occ, Ex.size]; omega
 | .lt x a b, bd => by have := a.occ_len bd; have := b.occ_len (bd ++ [x]); simp [Ex.occ, Ex.size]; omega
 | .fn f x s t b, bd => by have := b.occ_len (bd ++ [f, x]); simp [Ex.occ, Ex.size]; omega
 | .un o a, bd => by have := a.occ_len bd; simp [Ex.occ, Ex.size]; omega
theorem Ex.occ_room {seen bd : List As} {e : Ex} {k n : Nat} (h : seen.length + (e.size + k) ≤ n) : (seen ++ e.occ bd).length + k ≤ n := by
 have := e.occ_len bd; rw [List.length_append]; omega
theorem Ex.occ_room2 {seen bd bd' : List As} {e e' : Ex} {k n : Nat} (h : seen.length + (e.size + (e'.size + k)) ≤ n) : (seen ++ e.occ bd ++ e'.occ bd').length + k ≤ n := Ex.occ_room (Ex.occ_room h)
def TP {X : Type} (own : X → Bh) (R : X → List As → Heap → Prop) (seen : List As) (L : Bh) : C3 := fun v I' L' => v = .tuple #[] ∧ ∃ y, R y seen I' ∧ L' = own y ++ L
theorem Wg          {kf : FuncId} {cap : List Value} {X : Type} {own : X → Bh } {R : X → List As  → Heap → Prop} {c0 : Code} {m0' : Nat} {rs0 : List ResultVar} [hfi : Bm   Tryz.prog kf c0 m0' rs0] (T : Abr    Tryz.prog kf cap X own R) :
    ∀ (n : Nat) {I : Heap} {e : Ex} {cs : List Value} (_ : SizeOf.sizeOf e < n) (_ : Rep I e.tree cs) (_ : e.ok = true) {bd : List As } {ob : Option Addr} {cb : Nat} (_ : Strs I ob bd cb) (_ : bd.length + 2 * e.size ≤ Bb  ) (x : X) (seen : List As ) (_ : seen.length + e.size ≤ 4294967296) (_ : R x seen I) (L : Bh ),
    Fun Tryz.prog 126 [.agg cs.toArray, .slice ob bd.length cb, .func (.func kf) #[] cap.toArray] I (own x ++ L) (TP own R (seen ++ e.occ bd) L) := by
  intro n
  induction n with
  | zero => intro I e cs h; omega
  | succ n ihn =>
    intro I e cs hlt h hok bd ob cb hbd hbl x seen hsl hx L
    obtain ⟨oa, c, oaf, cf, rfl, hf⟩ := h.at'
    have ha := hf.alen
    unfold Bb   at hbl
    refine Al        (by simp) ?_
    refine Se rfl ?_
    refine Cc    rfl rfl .free rfl ?_
    intro b3
    refine Ab     (Ah    (Se rfl ?_))
    refine Bq    rfl .free rfl ?_
    refine Ca rfl (Cz            hf.rep _) ?_
    rintro _ _ _ _ ⟨rfl, rfl, rfl⟩
    refine Ab     ?_
    refine Av     rfl ?_ ?_
    · intro c0
      try simp only [nb] at c0
      have hb : e.bare = true := by rw [Ex.bare_parts]; exact c0
      refine Ah    (Se rfl (Oh rfl ?_))
      refine Bd    rfl .free rfl ?_
      refine Ca rfl (Ii       e.tree.atom ha _ _) ?_
      rintro _ _ _ _ ⟨rfl, rfl, rfl⟩
      refine Om rfl ?_
      apply Cy    13 19 rfl
      · intro g2_4 hk
        try simp only [nb] at g2_4
        refine Ow rfl ?_
        refine A1          rfl (.met rfl rfl) rfl ?_
        refine Bd    rfl (.met rfl rfl) rfl ?_
        refine Cv     rfl (.met rfl rfl) rfl (Km                (hbd.rd _) cb e.tree.atom) ?_
        rintro _ _ _ _ ⟨rfl, rfl, rfl⟩
        refine Dl    rfl (.met rfl rfl) rfl ?_
        refine Ot rfl rfl ?_
        exact Au    5 rfl rfl hk
      · intro _ hk
        refine A2      5 rfl ?_
        refine Of rfl rfl ?_
        exact Au    5 rfl rfl hk
      refine Ab     ?_
      refine Av     rfl ?_ ?_
      · intro c1
        try simp only [nb] at c1
        have hnm := c1.1
        have hem : e = .name e.tree.atom := by
          cases e with
          | num s => have h1 : Bt    s = true := hok; have h2 := Hi           hnm; rw [show (Ex.num s).tree.atom = s from rfl, h1] at h2; cases h2
          | name s => rfl
          | _ => cases hb
        have hoc : e.occ bd = [e.tree.atom] := by
          have h2 := c1.2
          rw [hem]; simp only [Ex.occ]
          rw [if_neg (by simpa using h2)]
          rfl
        refine Ao      rfl (Om rfl (Oh rfl ?_))
        refine Bd    rfl .free rfl ?_
        refine Fl    (fun w h => h.u1) ?_
        refine Zu      rfl rfl .free rfl (T.tell x seen e.tree.atom _ _ hx hnm (by have := e.size_pos; omega)) ?_
        rintro _ J _ e1 ⟨rfl, y, hy, rfl⟩
        refine Ab     ?_
        refine Ai    .nil ?_
        first
          | exact ⟨J, _, e1, fun w h => h.w1.drop, rfl, y, by rw [hoc]; exact hy, rfl⟩
          | (have hoc : e.occ bd = [] := by
               cases e with
               | num s => rfl
               | name s =>
                 simp only [Ex.occ]
                 rw [if_pos]
                 rcases c1 with h | h
                 · rw [show (Ex.name s).tree.atom = s from rfl, show Bn     s = true from hok] at h; cases h
                 · exact h
               | _ => cases hb
             exact ⟨I, _, .refl _, fun w h => h.drop, rfl, x, by rw [hoc, List.append_nil]; exact hx, rfl⟩)
      intro c1
      try simp only [nb] at c1
      refine Aj     ?_
      refine Ai    .nil ?_
      first
        | exact ⟨J, _, e1, fun w h => h.w1.drop, rfl, y, by rw [hoc]; exact hy, rfl⟩
        | (have hoc : e.occ bd = [] := by
             cases e with
             | num s => rfl
             | name s =>
               simp only [Ex.occ]
               rw [if_pos]
               rcases c1 with h | h
               · rw [show (Ex.name s).tree.atom = s from rfl, show Bn     s = true from hok] at h; cases h
               · exact h
             | _ => cases hb
           exact ⟨I, _, .refl _, fun w h => h.drop, rfl, x, by rw [hoc, List.append_nil]; exact hx, rfl⟩)
    intro c0
    try simp only [nb] at c0
    have hb : e.bare = false := by rw [Ex.bare_parts]; exact c0
    have hsh := e.shapes hb
    refine Aj     (Ah    ?_)
    rcases hsh with ⟨o, a, b, rfl⟩ | ⟨a, b, d, rfl⟩ | ⟨z, a, b, rfl⟩ | ⟨g, z, s, t, b, rfl⟩ | ⟨o, a, rfl⟩
    · skip
      refine Ao      rfl ?_
      refine Bq    rfl .free rfl ?_
      refine Ca rfl (Gg          hf.rep _) ?_
      rintro _ J _ e0 ⟨ok, ck, rfl, hk, rfl⟩
      have hf := hf.mono e0
      have hbd := hbd.mono e0
      have hx := T.mono _ _ _ _ e0 hx
      have hle := e0
      have hok0 := hok
      simp only [Ex.ok, Bool.and_eq_true] at hok
      rw [G7      ] at hk
      rw [G7      ]
      have hlen : (Ex.bin o a b).tree.parts.length = 3 := rfl
      have hkl : [1, 2].length = 2 := rfl
      simp only [Ex.bin.sizeOf_spec] at hlt
      simp only [Ex.size] at hbl hsl
      refine On rfl (Om rfl (Ab     (Ar      ?_)))
      refine F0     ?_
      refine Se rfl (Oc rfl rfl rfl (Ab     (Ah    ?_)))
      refine Dj      rfl (by first | rfl | decide | (simp; done) | omega) ?_
      refine Aj     (Ah    (Ar      (Se rfl ?_)))
      first | refine Bk    rfl rfl _ rfl .free rfl ?_ | refine Bl    rfl rfl _ rfl .free rfl ?_
      refine Gh    rfl .free rfl ?_
      refine Oa rfl (Ab     ?_)
      refine Ug  13 rfl rfl ?_
      refine Da 0 rfl (Ap          rfl) ?_
      refine Dt 1 [13] rfl (Cn    rfl) ?_
      refine Da 2 rfl (Ak     rfl) ?_
      first | refine Da 3 rfl (Bw    rfl rfl _ rfl) ?_ | refine Da 3 rfl (Bx    rfl rfl _ rfl) ?_
      refine Dt 4 [13] rfl (C7    rfl) ?_
      refine Da 5 rfl (Ak     rfl) ?_
      refine Dt 6 [13] rfl (Co    rfl) ?_
      refine Da 7 rfl (Ak     rfl) ?_
      refine Da 11 rfl (Ak     rfl) ?_
      refine Dc 8 rfl rfl (Fj           hf.rep hok0 _ _) ?_
      rintro _ J1 _ e1 ⟨o1, k1, rfl, hs1, rfl⟩
      refine Hx ?_
      refine E8     9 rfl (by kernel_rfl) rfl rfl rfl (by rfl) (by rfl) (by rfl) (by decide) (by decide) (by rfl) .free rfl (.inr Ax   ) ?_
      intro b40
      refine D2       ?_
      intro hz
      have e2 := e1.trans hz
      refine Dc 10 rfl rfl (Eh              (B0        (xs := [.slice ob bd.length cb, .slice o1 (List.length _) k1]) (ys := [])) (hbd.mono e2) (hs1.mono hz) (Ex.binds_room0 (by omega)) _) ?_
      rintro _ J3 _ e3 ⟨o3, k3, rfl, hs3, rfl⟩
      have e4 := e2.trans e3
      have hf3 := hf.mono e4
      have hx3 := T.mono _ _ _ _ e4 hx
      refine Hx ?_
      refine De    (fun w h => h.u1) ?_
      refine Dc 12 rfl rfl (ihn (by omega) (hf3.as 1 a.tree (by omega) rfl) hok.1 hs3 (Ex.binds_room (by omega)) _ _ (by omega) hx3 _) ?_
      rintro _ J4 _ e5 ⟨rfl, x, hx, rfl⟩
      have e6 := e4.trans e5
      refine Hx ?_
      refine De    (fun w h => h.w1) ?_
      have hf := hf.mono e6
      have hbd := hbd.mono e6
      have hle := hle.trans e6
      have hk := hk.mono e6
      refine A5     (by kernel_rfl) ?_
      refine Aq        (Ao      rfl ?_)
      refine Or rfl rfl rfl ?_
      refine Om rfl (Ab     ?_)
      refine Dd      ?_
      refine Se rfl (Oc rfl rfl rfl (Ab     (Ah    ?_)))
      refine Dj      rfl (by first | rfl | decide | (simp; done) | omega) ?_
      refine Aj     (Ah    (Ar      (Se rfl ?_)))
      first | refine Bk    rfl rfl _ rfl .free rfl ?_ | refine Bl    rfl rfl _ rfl .free rfl ?_
      refine Gh    rfl .free rfl ?_
      refine Oa rfl (Ab     ?_)
      refine Ug  13 rfl rfl ?_
      refine Da 0 rfl (Ap          rfl) ?_
      refine Dt 1 [13] rfl (Cn    rfl) ?_
      refine Da 2 rfl (Ak     rfl) ?_
      first | refine Da 3 rfl (Bw    rfl rfl _ rfl) ?_ | refine Da 3 rfl (Bx    rfl rfl _ rfl) ?_
      refine Dt 4 [13] rfl (C7    rfl) ?_
      refine Da 5 rfl (Ak     rfl) ?_
      refine Dt 6 [13] rfl (Co    rfl) ?_
      refine Da 7 rfl (Ak     rfl) ?_
      refine Da 11 rfl (Ak     rfl) ?_
      refine Dc 8 rfl rfl (Fj           hf.rep hok0 _ _) ?_
      rintro _ J1 _ e1 ⟨o1, k1, rfl, hs1, rfl⟩
      refine Hx ?_
      refine E8     9 rfl (by kernel_rfl) rfl rfl rfl (by rfl) (by rfl) (by rfl) (by decide) (by decide) (by rfl) .free rfl (.inr Ax   ) ?_
      intro b40
      refine D2       ?_
      intro hz
      have e2 := e1.trans hz
      refine Dc 10 rfl rfl (Eh              (B0        (xs := [.slice ob bd.length cb, .slice o1 (List.length _) k1]) (ys := [])) (hbd.mono e2) (hs1.mono hz) (Ex.binds_room0 (by omega)) _) ?_
      rintro _ J3 _ e3 ⟨o3, k3, rfl, hs3, rfl⟩
      have e4 := e2.trans e3
      have hf3 := hf.mono e4
      have hx3 := T.mono _ _ _ _ e4 hx
      refine Hx ?_
      refine De    (fun w h => h.u1) ?_
      refine Dc 12 rfl rfl (ihn (by omega) (hf3.as 2 b.tree (by omega) rfl) hok.2 hs3 (Ex.binds_room (by omega)) _ _ (Ex.occ_room (by omega)) hx3 _) ?_
      rintro _ J4 _ e5 ⟨rfl, x, hx, rfl⟩
      have e6 := e4.trans e5
      refine Hx ?_
      refine De    (fun w h => h.w1) ?_
      have hf := hf.mono e6
      have hbd := hbd.mono e6
      have hle := hle.trans e6
      have hk := hk.mono e6
      refine A5     (by kernel_rfl) ?_
      refine Aq        (Ao      rfl ?_)
      refine Or rfl rfl rfl ?_
      refine Om rfl (Ab     ?_)
      refine Dd      ?_
      refine Se rfl (Oc rfl rfl rfl (Ab     (Ah    ?_)))
      refine E6      rfl (by first | rfl | decide | (simp; done) | omega) ?_
      refine Cs     rfl ?_
      refine Ku    .nil ?_
      exact ⟨_, _, hle, fun w h => h.drop, rfl, x, by simpa [Ex.occ, Ex.binds] using hx, rfl⟩
    · skip
      refine Ao      rfl ?_
      refine Bq    rfl .free rfl ?_
      refine Ca rfl (Gg          hf.rep _) ?_
      rintro _ J _ e0 ⟨ok, ck, rfl, hk, rfl⟩
      have hf := hf.mono e0
      have hbd := hbd.mono e0
      have hx := T.mono _ _ _ _ e0 hx
      have hle := e0
      have hok0 := hok
      simp only [Ex.ok, Bool.and_eq_true] at hok
      rw [Ov      ] at hk
      rw [Ov      ]
      have hlen : (Ex.ite a b d).tree.parts.length = 4 := rfl
      have hkl : [1, 2, 3].length = 3 := rfl
      simp only [Ex.ite.sizeOf_spec] at hlt
      simp only [Ex.size] at hbl hsl
      refine On rfl (Om rfl (Ab     (Ar      ?_)))
      refine F0     ?_
      refine Se rfl (Oc rfl rfl rfl (Ab     (Ah    ?_)))
      refine Dj      rfl (by first | rfl | decide | (simp; done) | omega) ?_
      refine Aj     (Ah    (Ar      (Se rfl ?_)))
      first | refine Bk    rfl rfl _ rfl .free rfl ?_ | refine Bl    rfl rfl _ rfl .free rfl ?_
      refine Gh    rfl .free rfl ?_
      refine Oa rfl (Ab     ?_)
      refine Ug  13 rfl rfl ?_
      refine Da 0 rfl (Ap          rfl) ?_
      refine Dt 1 [13] rfl (Cn    rfl) ?_
      refine Da 2 rfl (Ak     rfl) ?_
      first | refine Da 3 rfl (Bw    rfl rfl _ rfl) ?_ | refine Da 3 rfl (Bx    rfl rfl _ rfl) ?_
      refine Dt 4 [13] rfl (C7    rfl) ?_
      refine Da 5 rfl (Ak     rfl) ?_
      refine Dt 6 [13] rfl (Co    rfl) ?_
      refine Da 7 rfl (Ak     rfl) ?_
      refine Da 11 rfl (Ak     rfl) ?_
      refine Dc 8 rfl rfl (Fj           hf.rep hok0 _ _) ?_
      rintro _ J1 _ e1 ⟨o1, k1, rfl, hs1, rfl⟩
      refine Hx ?_
      refine E8     9 rfl (by kernel_rfl) rfl rfl rfl (by rfl) (by rfl) (by rfl) (by decide) (by decide) (by rfl) .free rfl (.inr Ax   ) ?_
      intro b40
      refine D2       ?_
      intro hz
      have e2 := e1.trans hz
      refine Dc 10 rfl rfl (Eh              (B0        (xs := [.slice ob bd.length cb, .slice o1 (List.length _) k1]) (ys := [])) (hbd.mono e2) (hs1.mono hz) (Ex.binds_room0 (by omega)) _) ?_
      rintro _ J3 _ e3 ⟨o3, k3, rfl, hs3, rfl⟩
      have e4 := e2.trans e3
      have hf3 := hf.mono e4
      have hx3 := T.mono _ _ _ _ e4 hx
      refine Hx ?_
      refine De    (fun w h => h.u1) ?_
      refine Dc 12 rfl rfl (ihn (by omega) (hf3.as 1 a.tree (by omega) rfl) hok.1.1 hs3 (Ex.binds_room (by omega)) _ _ (by omega) hx3 _) ?_
      rintro _ J4 _ e5 ⟨rfl, x, hx, rfl⟩
      have e6 := e4.trans e5
      refine Hx ?_
      refine De    (fun w h => h.w1) ?_
      have hf := hf.mono e6
      have hbd := hbd.mono e6
      have hle := hle.trans e6
      have hk := hk.mono e6
      refine A5     (by kernel_rfl) ?_
      refine Aq        (Ao      rfl ?_)
      refine Or rfl rfl rfl ?_
      refine Om rfl (Ab     ?_)
      refine Dd      ?_
      refine Se rfl (Oc rfl rfl rfl (Ab     (Ah    ?_)))
      refine Dj      rfl (by first | rfl | decide | (simp; done) | omega) ?_
      refine Aj     (Ah    (Ar      (Se rfl ?_)))
      first | refine Bk    rfl rfl _ rfl .free rfl ?_ | refine Bl    rfl rfl _ rfl .free rfl ?_
      refine Gh    rfl .free rfl ?_
      refine Oa rfl (Ab     ?_)
      refine Ug  13 rfl rfl ?_
      refine Da 0 rfl (Ap          rfl) ?_
      refine Dt 1 [13] rfl (Cn    rfl) ?_
      refine Da 2 rfl (Ak     rfl) ?_
      first | refine Da 3 rfl (Bw    rfl rfl _ rfl) ?_ | refine Da 3 rfl (Bx    rfl rfl _ rfl) ?_
      refine Dt 4 [13] rfl (C7    rfl) ?_
      refine Da 5 rfl (Ak     rfl) ?_
      refine Dt 6 [13] rfl (Co    rfl) ?_
      refine Da 7 rfl (Ak     rfl) ?_
      refine Da 11 rfl (Ak     rfl) ?_
      refine Dc 8 rfl rfl (Fj           hf.rep hok0 _ _) ?_
      rintro _ J1 _ e1 ⟨o1, k1, rfl, hs1, rfl⟩
      refine Hx ?_
      refine E8     9 rfl (by kernel_rfl) rfl rfl rfl (by rfl) (by rfl) (by rfl) (by decide) (by decide) (by rfl) .free rfl (.inr Ax   ) ?_
      intro b40
      refine D2       ?_
      intro hz
      have e2 := e1.trans hz
      refine Dc 10 rfl rfl (Eh              (B0        (xs := [.slice ob bd.length cb, .slice o1 (List.length _) k1]) (ys := [])) (hbd.mono e2) (hs1.mono hz) (Ex.binds_room0 (by omega)) _) ?_
      rintro _ J3 _ e3 ⟨o3, k3, rfl, hs3, rfl⟩
      have e4 := e2.trans e3
      have hf3 := hf.mono e4
      have hx3 := T.mono _ _ _ _ e4 hx
      refine Hx ?_
      refine De    (fun w h => h.u1) ?_
      refine Dc 12 rfl rfl (ihn (by omega) (hf3.as 2 b.tree (by omega) rfl) hok.1.2 hs3 (Ex.binds_room (by omega)) _ _ (Ex.occ_room (by omega)) hx3 _) ?_
      rintro _ J4 _ e5 ⟨rfl, x, hx, rfl⟩
      have e6 := e4.trans e5
      refine Hx ?_
      refine De    (fun w h => h.w1) ?_
      have hf := hf.mono e6
      have hbd := hbd.mono e6
      have hle := hle.trans e6
      have hk := hk.mono e6
      refine A5     (by kernel_rfl) ?_
      refine Aq        (Ao      rfl ?_)
      refine Or rfl rfl rfl ?_
      refine Om rfl (Ab     ?_)
      refine Dd      ?_
      refine Se rfl (Oc rfl rfl rfl (Ab     (Ah    ?_)))
      refine Dj      rfl (by first | rfl | decide | (simp; done) | omega) ?_
      refine Aj     (Ah    (Ar      (Se rfl ?_)))
      first | refine Bk    rfl rfl _ rfl .free rfl ?_ | refine Bl    rfl rfl _ rfl .free rfl ?_
      refine Gh    rfl .free rfl ?_
      refine Oa rfl (Ab     ?_)
      refine Ug  13 rfl rfl ?_
      refine Da 0 rfl (Ap          rfl) ?_
      refine Dt 1 [13] rfl (Cn    rfl) ?_
      refine Da 2 rfl (Ak     rfl) ?_
      first | refine Da 3 rfl (Bw    rfl rfl _ rfl) ?_ | refine Da 3 rfl (Bx    rfl rfl _ rfl) ?_
      refine Dt 4 [13] rfl (C7    rfl) ?_
      refine Da 5 rfl (Ak     rfl) ?_
      refine Dt 6 [13] rfl (Co    rfl) ?_
      refine Da 7 rfl (Ak     rfl) ?_
      refine Da 11 rfl (Ak     rfl) ?_
      refine Dc 8 rfl rfl (Fj           hf.rep hok0 _ _) ?_
      rintro _ J1 _ e1 ⟨o1, k1, rfl, hs1, rfl⟩
      refine Hx ?_
      refine E8     9 rfl (by kernel_rfl) rfl rfl rfl (by rfl) (by rfl) (by rfl) (by decide) (by decide) (by rfl) .free rfl (.inr Ax   ) ?_
      intro b40
      refine D2       ?_
      intro hz
      have e2 := e1.trans hz
      refine Dc 10 rfl rfl (Eh              (B0        (xs := [.slice ob bd.length cb, .slice o1 (List.length _) k1]) (ys := [])) (hbd.mono e2) (hs1.mono hz) (Ex.binds_room0 (by omega)) _) ?_
      rintro _ J3 _ e3 ⟨o3, k3, rfl, hs3, rfl⟩
      have e4 := e2.trans e3
      have hf3 := hf.mono e4
      have hx3 := T.mono _ _ _ _ e4 hx
      refine Hx ?_
      refine De    (fun w h => h.u1) ?_
      refine Dc 12 rfl rfl (ihn (by omega) (hf3.as 3 d.tree (by omega) rfl) hok.2 hs3 (Ex.binds_room (by omega)) _ _ (Ex.occ_room2 (by omega)) hx3 _) ?_
      rintro _ J4 _ e5 ⟨rfl, x, hx, rfl⟩
      have e6 := e4.trans e5
      refine Hx ?_
      refine De    (fun w h => h.w1) ?_
      have hf := hf.mono e6
      have hbd := hbd.mono e6
      have hle := hle.trans e6
      have hk := hk.mono e6
      refine A5     (by kernel_rfl) ?_
      refine Aq        (Ao      rfl ?_)
      refine Or rfl rfl rfl ?_
      refine Om rfl (Ab     ?_)
      refine Dd      ?_
      refine Se rfl (Oc rfl rfl rfl (Ab     (Ah    ?_)))
      refine E6      rfl (by first | rfl | decide | (simp; done) | omega) ?_
      refine Cs     rfl ?_
      refine Ku    .nil ?_
      exact ⟨_, _, hle, fun w h => h.drop, rfl, x, by simpa [Ex.occ, Ex.binds] using hx, rfl⟩
    · skip
      refine Ao      rfl ?_
      refine Bq    rfl .free rfl ?_
      refine Ca rfl (Gg          hf.rep _) ?_
      rintro _ J _ e0 ⟨ok, ck, rfl, hk, rfl⟩
      have hf := hf.mono e0
      have hbd := hbd.mono e0
      have hx := T.mono _ _ _ _ e0 hx
      have hle := e0
      have hok0 := hok
      simp only [Ex.ok, Bool.and_eq_true] at hok
      rw [Ox      ] at hk
      rw [Ox      ]
      have hlen : (Ex.lt z a b).tree.parts.length = 4 := rfl
      have hkl : [2, 3].length = 2 := rfl
      simp only [Ex.lt.sizeOf_spec] at hlt
      simp only [Ex.size] at hbl hsl
      refine On rfl (Om rfl (Ab     (Ar      ?_)))
      refine F0     ?_
      refine Se rfl (Oc rfl rfl rfl (Ab     (Ah    ?_)))
      refine Dj      rfl (by first | rfl | decide | (simp; done) | omega) ?_
      refine Aj     (Ah    (Ar      (Se rfl ?_)))
      first | refine Bk    rfl rfl _ rfl .free rfl ?_ | refine Bl    rfl rfl _ rfl .free rfl ?_
      refine Gh    rfl .free rfl ?_
      refine Oa rfl (Ab     ?_)
      refine Ug  13 rfl rfl ?_
      refine Da 0 rfl (Ap          rfl) ?_
      refine Dt 1 [13] rfl (Cn    rfl) ?_
      refine Da 2 rfl (Ak     rfl) ?_
      first | refine Da 3 rfl (Bw    rfl rfl _ rfl) ?_ | refine Da 3 rfl (Bx    rfl rfl _ rfl) ?_
      refine Dt 4 [13] rfl (C7    rfl) ?_
      refine Da 5 rfl (Ak     rfl) ?_
      refine Dt 6 [13] rfl (Co    rfl) ?_
      refine Da 7 rfl (Ak     rfl) ?_
      refine Da 11 rfl (Ak     rfl) ?_
      refine Dc 8 rfl rfl (Fj           hf.rep hok0 _ _) ?_
      rintro _ J1 _ e1 ⟨o1, k1, rfl, hs1, rfl⟩
      refine Hx ?_
      refine E8     9 rfl (by kernel_rfl) rfl rfl rfl (by rfl) (by rfl) (by rfl) (by decide) (by decide) (by rfl) .free rfl (.inr Ax   ) ?_
      intro b40
      refine D2       ?_
      intro hz
      have e2 := e1.trans hz
      refine Dc 10 rfl rfl (Eh              (B0        (xs := [.slice ob bd.length cb, .slice o1 (List.length _) k1]) (ys := [])) (hbd.mono e2) (hs1.mono hz) (Ex.binds_room0 (by omega)) _) ?_
      rintro _ J3 _ e3 ⟨o3, k3, rfl, hs3, rfl⟩
      have e4 := e2.trans e3
      have hf3 := hf.mono e4
      have hx3 := T.mono _ _ _ _ e4 hx
      refine Hx ?_
      refine De    (fun w h => h.u1) ?_
      refine Dc 12 rfl rfl (ihn (by omega) (hf3.as 2 a.tree (by omega) rfl) hok.1.2 hs3 (Ex.binds_room (by omega)) _ _ (by omega) hx3 _) ?_
      rintro _ J4 _ e5 ⟨rfl, x, hx, rfl⟩
      have e6 := e4.trans e5
      refine Hx ?_
      refine De    (fun w h => h.w1) ?_
      have hf := hf.mono e6
      have hbd := hbd.mono e6
      have hle := hle.trans e6
      have hk := hk.mono e6
      refine A5     (by kernel_rfl) ?_
      refine Aq        (Ao      rfl ?_)
      refine Or rfl rfl rfl ?_
      refine Om rfl (Ab     ?_)
      refine Dd      ?_
      refine Se rfl (Oc rfl rfl rfl (Ab     (Ah    ?_)))
      refine Dj      rfl (by first | rfl | decide | (simp; done) | omega) ?_
      refine Aj     (Ah    (Ar      (Se rfl ?_)))
      first | refine Bk    rfl rfl _ rfl .free rfl ?_ | refine Bl    rfl rfl _ rfl .free rfl ?_
      refine Gh    rfl .free rfl ?_
      refine Oa rfl (Ab     ?_)
      refine Ug  13 rfl rfl ?_
      refine Da 0 rfl (Ap          rfl) ?_
      refine Dt 1 [13] rfl (Cn    rfl) ?_
      refine Da 2 rfl (Ak     rfl) ?_
      first | refine Da 3 rfl (Bw    rfl rfl _ rfl) ?_ | refine Da 3 rfl (Bx    rfl rfl _ rfl) ?_
      refine Dt 4 [13] rfl (C7    rfl) ?_
      refine Da 5 rfl (Ak     rfl) ?_
      refine Dt 6 [13] rfl (Co    rfl) ?_
      refine Da 7 rfl (Ak     rfl) ?_
      refine Da 11 rfl (Ak     rfl) ?_
      refine Dc 8 rfl rfl (Fj           hf.rep hok0 _ _) ?_
      rintro _ J1 _ e1 ⟨o1, k1, rfl, hs1, rfl⟩
      refine Hx ?_
      refine E8     9 rfl (by kernel_rfl) rfl rfl rfl (by rfl) (by rfl) (by rfl) (by decide) (by decide) (by rfl) .free rfl (.inr Ax   ) ?_
      intro b40
      refine D2       ?_
      intro hz
      have e2 := e1.trans hz
      refine Dc 10 rfl rfl (Eh              (B0        (xs := [.slice ob bd.length cb, .slice o1 (List.length _) k1]) (ys := [])) (hbd.mono e2) (hs1.mono hz) (Ex.binds_room0 (by omega)) _) ?_
      rintro _ J3 _ e3 ⟨o3, k3, rfl, hs3, rfl⟩
      have e4 := e2.trans e3
      have hf3 := hf.mono e4
      have hx3 := T.mono _ _ _ _ e4 hx
      refine Hx ?_
      refine De    (fun w h => h.u1) ?_
      refine Dc 12 rfl rfl (ihn (by omega) (hf3.as 3 b.tree (by omega) rfl) hok.2 hs3 (Ex.binds_room (by omega)) _ _ (Ex.occ_room (by omega)) hx3 _) ?_
      rintro _ J4 _ e5 ⟨rfl, x, hx, rfl⟩
      have e6 := e4.trans e5
      refine Hx ?_
      refine De    (fun w h => h.w1) ?_
      have hf := hf.mono e6
      have hbd := hbd.mono e6
      have hle := hle.trans e6
      have hk := hk.mono e6
      refine A5     (by kernel_rfl) ?_
      refine Aq        (Ao      rfl ?_)
      refine Or rfl rfl rfl ?_
      refine Om rfl (Ab     ?_)
      refine Dd      ?_
      refine Se rfl (Oc rfl rfl rfl (Ab     (Ah    ?_)))
      refine E6      rfl (by first | rfl | decide | (simp; done) | omega) ?_
      refine Cs     rfl ?_
      refine Ku    .nil ?_
      exact ⟨_, _, hle, fun w h => h.drop, rfl, x, by simpa [Ex.occ, Ex.binds] using hx, rfl⟩
    · skip
      refine Ao      rfl ?_
      refine Bq    rfl .free rfl ?_
      refine Ca rfl (Gg          hf.rep _) ?_
      rintro _ J _ e0 ⟨ok, ck, rfl, hk, rfl⟩
      have hf := hf.mono e0
      have hbd := hbd.mono e0
      have hx := T.mono _ _ _ _ e0 hx
      have hle := e0
      have hok0 := hok
      simp only [Ex.ok, Bool.and_eq_true] at hok
      rw [Ou     ] at hk
      rw [Ou     ]
      have hlen : (Ex.fn g z s t b).tree.parts.length = 6 := rfl
      have hkl : [5].length = 1 := rfl
      simp only [Ex.fn.sizeOf_spec] at hlt
      simp only [Ex.size] at hbl hsl
      refine On rfl (Om rfl (Ab     (Ar      ?_)))
      refine F0     ?_
      refine Se rfl (Oc rfl rfl rfl (Ab     (Ah    ?_)))
      refine Dj      rfl (by first | rfl | decide | (simp; done) | omega) ?_
      refine Aj     (Ah    (Ar      (Se rfl ?_)))
      first | refine Bk    rfl rfl _ rfl .free rfl ?_ | refine Bl    rfl rfl _ rfl .free rfl ?_
      refine Gh    rfl .free rfl ?_
      refine Oa rfl (Ab     ?_)
      refine Ug  13 rfl rfl ?_
      refine Da 0 rfl (Ap          rfl) ?_
      refine Dt 1 [13] rfl (Cn    rfl) ?_
      refine Da 2 rfl (Ak     rfl) ?_
      first | refine Da 3 rfl (Bw    rfl rfl _ rfl) ?_ | refine Da 3 rfl (Bx    rfl rfl _ rfl) ?_
      refine Dt 4 [13] rfl (C7    rfl) ?_
      refine Da 5 rfl (Ak     rfl) ?_
      refine Dt 6 [13] rfl (Co    rfl) ?_
      refine Da 7 rfl (Ak     rfl) ?_
      refine Da 11 rfl (Ak     rfl) ?_
      refine Dc 8 rfl rfl (Fj           hf.rep hok0 _ _) ?_
      rintro _ J1 _ e1 ⟨o1, k1, rfl, hs1, rfl⟩
      refine Hx ?_
      refine E8     9 rfl (by kernel_rfl) rfl rfl rfl (by rfl) (by rfl) (by rfl) (by decide) (by decide) (by rfl) .free rfl (.inr Ax   ) ?_
      intro b40
      refine D2       ?_
      intro hz
      have e2 := e1.trans hz
      refine Dc 10 rfl rfl (Eh              (B0        (xs := [.slice ob bd.length cb, .slice o1 (List.length _) k1]) (ys := [])) (hbd.mono e2) (hs1.mono hz) (Ex.binds_room0 (by omega)) _) ?_
      rintro _ J3 _ e3 ⟨o3, k3, rfl, hs3, rfl⟩
      have e4 := e2.trans e3
      have hf3 := hf.mono e4
      have hx3 := T.mono _ _ _ _ e4 hx
      refine Hx ?_
      refine De    (fun w h => h.u1) ?_
      refine Dc 12 rfl rfl (ihn (by omega) (hf3.as 5 b.tree (by omega) rfl) hok.2 hs3 (Ex.binds_room (by omega)) _ _ (by omega) hx3 _) ?_
      rintro _ J4 _ e5 ⟨rfl, x, hx, rfl⟩
      have e6 := e4.trans e5
      refine Hx ?_
      refine De    (fun w h => h.w1) ?_
      have hf := hf.mono e6
      have hbd := hbd.mono e6
      have hle := hle.trans e6
      have hk := hk.mono e6
      refine A5     (by kernel_rfl) ?_
      refine Aq        (Ao      rfl ?_)
      refine Or rfl rfl rfl ?_
      refine Om rfl (Ab     ?_)
      refine Dd      ?_
      refine Se rfl (Oc rfl rfl rfl (Ab     (Ah    ?_)))
      refine E6      rfl (by first | rfl | decide | (simp; done) | omega) ?_
      refine Cs     rfl ?_
      refine Ku    .nil ?_
      exact ⟨_, _, hle, fun w h => h.drop, rfl, x, by simpa [Ex.occ, Ex.binds] using hx, rfl⟩
    · skip
      refine Ao      rfl ?_
      refine Bq    rfl .free rfl ?_
      refine Ca rfl (Gg          hf.rep _) ?_
      rintro _ J _ e0 ⟨ok, ck, rfl, hk, rfl⟩
      have hf := hf.mono e0
      have hbd := hbd.mono e0
      have hx := T.mono _ _ _ _ e0 hx
      have hle := e0
      have hok0 := hok
      simp only [Ex.ok, Bool.and_eq_true] at hok
      rw [Lj     ] at hk
      rw [Lj     ]
      have hlen : (Ex.un o a).tree.parts.length = 2 := rfl
      have hkl : [1].length = 1 := rfl
      simp only [Ex.un.sizeOf_spec] at hlt
      simp only [Ex.size] at hbl hsl
      refine On rfl (Om rfl (Ab     (Ar      ?_)))
      refine F0     ?_
      refine Se rfl (Oc rfl rfl rfl (Ab     (Ah    ?_)))
      refine Dj      rfl (by first | rfl | decide | (simp; done) | omega) ?_
      refine Aj     (Ah    (Ar      (Se rfl ?_)))
      first | refine Bk    rfl rfl _ rfl .free rfl ?_ | refine Bl    rfl rfl _ rfl .free rfl ?_
      refine Gh    rfl .free rfl ?_
      refine Oa rfl (Ab     ?_)
      refine Ug  13 rfl rfl ?_
      refine Da 0 rfl (Ap          rfl) ?_
      refine Dt 1 [13] rfl (Cn    rfl) ?_
      refine Da 2 rfl (Ak     rfl) ?_
      first | refine Da 3 rfl (Bw    rfl rfl _ rfl) ?_ | refine Da 3 rfl (Bx    rfl rfl _ rfl) ?_
      refine Dt 4 [13] rfl (C7    rfl) ?_
      refine Da 5 rfl (Ak     rfl) ?_
      refine Dt 6 [13] rfl (Co    rfl) ?_
      refine Da 7 rfl (Ak     rfl) ?_
      refine Da 11 rfl (Ak     rfl) ?_
      refine Dc 8 rfl rfl (Fj           hf.rep hok0 _ _) ?_
      rintro _ J1 _ e1 ⟨o1, k1, rfl, hs1, rfl⟩
      refine Hx ?_
      refine E8     9 rfl (by kernel_rfl) rfl rfl rfl (by rfl) (by rfl) (by rfl) (by decide) (by decide) (by rfl) .free rfl (.inr Ax   ) ?_
      intro b40
      refine D2       ?_
      intro hz
      have e2 := e1.trans hz
      refine Dc 10 rfl rfl (Eh              (B0        (xs := [.slice ob bd.length cb, .slice o1 (List.length _) k1]) (ys := [])) (hbd.mono e2) (hs1.mono hz) (Ex.binds_room0 (by omega)) _) ?_
      rintro _ J3 _ e3 ⟨o3, k3, rfl, hs3, rfl⟩
      have e4 := e2.trans e3
      have hf3 := hf.mono e4
      have hx3 := T.mono _ _ _ _ e4 hx
      refine Hx ?_
      refine De    (fun w h => h.u1) ?_
      refine Dc 12 rfl rfl (ihn (by omega) (hf3.as 1 a.tree (by omega) rfl) hok hs3 (Ex.binds_room (by omega)) _ _ (by omega) hx3 _) ?_
      rintro _ J4 _ e5 ⟨rfl, x, hx, rfl⟩
      have e6 := e4.trans e5
      refine Hx ?_
      refine De    (fun w h => h.w1) ?_
      have hf := hf.mono e6
      have hbd := hbd.mono e6
      have hle := hle.trans e6
      have hk := hk.mono e6
      refine A5     (by kernel_rfl) ?_
      refine Aq        (Ao      rfl ?_)
      refine Or rfl rfl rfl ?_
      refine Om rfl (Ab     ?_)
      refine Dd      ?_
      refine Se rfl (Oc rfl rfl rfl (Ab     (Ah    ?_)))
      refine E6      rfl (by first | rfl | decide | (simp; done) | omega) ?_
      refine Cs     rfl ?_
      refine Ku    .nil ?_
      exact ⟨_, _, hle, fun w h => h.drop, rfl, x, by simpa [Ex.occ, Ex.binds] using hx, rfl⟩

structure FB where
 l : List As
 B : Kx
 c : Nat
def FB.own (bo : Nat) (x : FB) : Bh := (bo, .cells [B8 x.l.length x.c x.B].toArray 33 (0, 0)) :: Cb 9 (x.l.map sv) x.B
def FB.is (x : FB) (seen : List As) (I : Heap) : Prop := x.l = Dg [] seen ∧ Ep 1 x.l.length x.c (x.l.map sv) x.B ∧ ∀ s ∈ x.l, Bn s = true
theorem H0 (l m : List As) : (Dg l m).length ≤ l.length + m.length := by
 induction m generalizing l with
 | nil => exact Nat.le_refl _
 | cons s m ih =>
  have h1 : (G1 l s).length ≤ l.length + 1 := by unfold G1; split <;> simp
  have h2 := ih (G1 l s)
  simp only [Dg, List.foldl_cons, List.length_cons] at *
  omega
theorem Sl (bo : Nat) (x : FB) (seen : List As) (s : As) (I : Heap) (L : Bh) (hx : x.is seen I) (hs : Bn s = true) (hl : seen.length < 4294967296) :
  Fun Tryz.prog 127 [.string (str s), .pointer (some ⟨bo, 0, none⟩)] I (FB.own bo x ++ L) (fun v I' L' => v = .tuple #[] ∧ ∃ y : FB, y.is (seen ++ [s]) I' ∧ L' = FB.own bo y ++ L) := by
 obtain ⟨l, B, c⟩ := x; obtain ⟨hl1, hB, hn⟩ := hx
 simp only at hl1 hB hn
 have hll := H0 [] seen
 rw [← hl1] at hll
 simp only [List.length_nil, Nat.zero_add] at hll
 obtain ⟨oa, c', hbv, hrd⟩ := Ab0 (I := I) (L := L) (e := 9) hB rfl Bz
 have hcon : Fun Tryz.prog 128 [B8 l.length c B, .string (str s)] I ((bo, .cells [B8 l.length c B].toArray 33 (0, 0)) :: (Cb 9 (l.map sv) B ++ L)) (Ee (.bool (decide (s ∈ l))) I ((bo, .cells [B8 l.length c B].toArray 33 (0, 0)) :: (Cb 9 (l.map sv) B ++ L))) := by
  have := Km (hrd.sub (L' := (bo, .cells [B8 l.length c B].toArray 33 (0, 0)) :: (Cb 9 (l.map sv) B ++ L)) fun w h => h.drop) c' s
  rwa [← hbv] at this
 unfold FB.own
 simp only [List.cons_append]
 refine Al Af ?_; refine Se rfl ?_; refine Br rfl (F4 (cs := [B8 l.length c B]) m0 Ac (by cases B <;> rfl)) .free rfl ?_; refine Om rfl ?_; refine Cv rfl .free rfl hcon ?_; rintro _ _ _ _ ⟨rfl, rfl, rfl⟩; refine Dl rfl .free rfl ?_; refine Ab ?_; refine Av rfl ?_ ?_
 ·intro c0
  try simp only [nb] at c0
  have hadd : Dg [] (seen ++ [s]) = l ++ [s] := by rw [Cu, ← hl1]; simp [Dg, G1, c0]
  refine Ao rfl ?_; refine Br rfl (F4 (cs := [B8 l.length c B]) m0 Ac (by cases B <;> rfl)) .free rfl ?_; refine Om rfl ?_; refine Ol rfl rfl ?_; intro b9; refine D3 (B := B) (xs := l.map sv) (ys := [sv s]) (m := l.length) (c := c) A4 Ac rfl rfl hB (fun _ h => h.u2) Ac (fun a ha => by cases ha; exact Bg (.head _) Ac) Af Ac Ad Ad Aa Ad .free rfl ?_; intro bb sp c2 hB'; refine Vc rfl rfl rfl rfl Ac u2 Ac .free ?_; refine Ab ?_; refine Ku .nil ?_
  first
   | exact ⟨I, _, .refl _, fun w h => h, rfl, ⟨l, B, c⟩, ⟨hadd.symm, hB, hn⟩, rfl⟩
   | exact ⟨I, _, .refl _, fun w h => Mem.sub (L' := (bo, _) :: (bb, _) :: L) Bo h.f2, rfl, ⟨l ++ [s], some (bb, sp), c2⟩, ⟨hadd.symm, by simpa using hB', by intro z hz; rcases List.mem_append.1 hz with h | h; exact hn z h; rw [List.mem_singleton.1 h]; exact hs⟩, by simp [Cb, B8]⟩
 intro c0
 try simp only [nb] at c0
 have hadd : Dg [] (seen ++ [s]) = l := by rw [Cu, ← hl1]; simp [Dg, G1, c0]
 refine Aj ?_; refine Ku .nil ?_
 first
  | exact ⟨I, _, .refl _, fun w h => h, rfl, ⟨l, B, c⟩, ⟨hadd.symm, hB, hn⟩, rfl⟩
  | exact ⟨I, _, .refl _, fun w h => Mem.sub (L' := (bo, _) :: (bb, _) :: L) Bo h.f2, rfl, ⟨l ++ [s], some (bb, sp), c2⟩, ⟨hadd.symm, by simpa using hB', by intro z hz; rcases List.mem_append.1 hz with h | h; exact hn z h; rw [List.mem_singleton.1 h]; exact hs⟩, by simp [Cb, B8]⟩
theorem Pg (bo : Nat) : Abr Tryz.prog 127 [.pointer (some ⟨bo, 0, none⟩)] FB (FB.own bo) FB.is :=
 ⟨fun x seen s I L hx hs hl => Sl bo x seen s I L hx hs hl, fun x seen I I' _ h => h⟩
theorem Rs {l : List As} (h : ∀ s ∈ l, Bn s = true) : ∀ s ∈ l, s.length ≤ Bb := fun s hs => Ex.name_len (h s hs)
theorem Pd {I : Heap} {e : Ex} {cs : List Value} (h : Rep I e.tree cs) (hok : e.ok = true) (hz : 2 * e.size ≤ 4294967295) (L : Bh) : Fun Tryz.prog 74 [.agg cs.toArray] I L (SS e.free L) := by
 obtain ⟨oa, c, oaf, cf, rfl, hf⟩ := h.at'
 have hT := fun bo => Pg bo
 refine Al Af ?_; refine Se rfl ?_; refine Cc rfl rfl .free rfl ?_; intro b1; refine Oa rfl (Ab (Se rfl ?_)); refine A3 .free rfl ?_; intro b3; refine Ab (Se rfl ?_); refine Bq rfl .free rfl ?_; refine Ys rfl rfl .free rfl ?_; refine Fl (L' := FB.own b3 ⟨[], none, 0⟩ ++ _) (fun w h => h) ?_; refine Ca rfl (Wg (hT b3) _ (Nat.lt_succ_self _) hf.rep hok (Xl I) Iq ⟨[], none, 0⟩ [] Ci ⟨rfl, ⟨rfl, rfl, rfl⟩, by simp⟩ _) ?_; rintro _ J _ e1 ⟨rfl, ⟨l, B, c2⟩, ⟨hl, hB, hn⟩, rfl⟩
 simp only at hl hB hn
 simp only [FB.own, List.cons_append]
 refine Ab (Se rfl ?_); refine Br rfl (F4 (cs := [B8 l.length c2 B]) m0 Ac (by cases B <;> rfl)) .free rfl ?_; refine Oa rfl (Ab ?_)
 have hll := H0 [] (e.occ [])
 have hol := e.occ_len []
 simp only [List.nil_append] at hl
 rw [← hl] at hll
 simp only [List.length_nil, Nat.zero_add] at hll
 refine Ck (fun w h => h.u1) (Hk hB rfl Bz (Rs hn) ?_); intro J2 oz cz ez hbv hst; refine Kv (t := 2) rfl hbv ?_; refine Ai (.tmp rfl .nil) ?_
 exact ⟨J2, L, e1.trans ez, fun w h => h.drop.drop, oz, cz, by rw [show e.free = l from hl.symm]; rfl, by rw [show e.free = l from hl.symm]; exact hst, rfl⟩
theorem C9 {P : Program} {f : FuncId} {n : Nat} {I₀ : Heap} {Q : C3} {k : List Item} {ops : Array Oper} {S : World → Prop} {fuel : Nat} {listed : Array Bool} {E : Hw} {I : Heap} {L : Bh} {e : TypeId} {l : List As} {B : Kx} {m c : Nat}
  (hB : Ep 1 m c (l.map sv) B) (hm : m = l.length) (hlen : l.length ≤ Bb) (hs : ∀ s ∈ l, s.length ≤ Bb)
  (h : ∀ I' oa c', HLe I I' → B8 m c B = .slice oa l.length c' → Strs I' oa l c' → Cq P f n I₀ Q ops S fuel listed k E I' L) : Cq P f n I₀ Q ops S fuel listed k E I (Cb e (l.map sv) B ++ L) := by
 cases B with
 | none =>
  obtain ⟨h1, h2, h3⟩ := hB; obtain rfl : l = [] := by simpa using h1
  exact h I .none 0 (.refl _) rfl ⟨by simp, by simp, by simp, hlen, hs⟩
 | some p =>
  obtain ⟨b, sp⟩ := p; refine D2 fun hle => h _ (some ⟨b, 0, .none⟩) c hle (by rw [← hm]; rfl) ⟨fun y hy => ?_, by simp, by have := hB.2.1; omega, hlen, hs⟩
  cases hy; exact B0
theorem Ex.binds_room1 {bd : List As} {e : Ex} {i : Nat} (h : bd.length + 2 ≤ 4294967296) : 0 + bd.length + (e.binds i).length ≤ 4294967296 := by
 have := e.binds_le i; omega
theorem Gq (I : Heap) (oa : Option Addr) : Strs I oa [] 0 := ⟨fun x _ => .inl rfl, fun _ => rfl, by simp, by simp [Bb], by simp⟩
theorem Hh {I : Heap} {e : Ex} {cs : List Value} (h : Rep I e.tree cs) (hok : e.ok = true) (hb : e.bare = false) (i : Nat) (hi : i ∈ Cl e.tree) (L : Bh) : Fun Tryz.prog 184 [.agg cs.toArray, .int .i64 (i : Nat)] I L (SS (e.binds i) L) := by
 obtain ⟨oa, c, oaf, cf, rfl, hf⟩ := h.at'
 have hg := (Ex.tree_good hok).1
 have h0 : 0 < e.tree.parts.length := by
  rw [Ex.bare_parts] at hb
  have : e.tree.parts ≠ [] := by intro hh; rw [hh] at hb; cases hb
  exact List.length_pos_iff.2 this
 have hhd := Mv h0
 refine Al Af ?_; refine Se rfl ?_; refine Cc rfl rfl .free rfl ?_; intro b2; refine Oa rfl (Ab (Ah (Ar (Se rfl (Oh rfl ?_))))); refine Bd rfl .free rfl ?_
 first | refine Bk rfl rfl 0 rfl .free rfl ?_ | refine Bl rfl rfl 0 rfl .free rfl ?_
 refine Be rfl .free rfl ?_; refine F5 rfl .free rfl ?_; refine Od rfl rfl rfl (Om rfl ?_)
 apply Cy 12 15 rfl
 ·intro g1_7 hk
  try simp only [nb] at g1_7
  refine Ow rfl ?_; refine Dp rfl rfl rfl (.met rfl rfl) rfl ?_; refine Ot rfl rfl ?_
  exact Au 2 rfl rfl hk
 ·intro _ hk; refine A2 2 rfl ?_; refine Of rfl rfl ?_
  exact Au 2 rfl rfl hk
 refine Oa rfl (Ab ?_); refine Av rfl ?_ ?_
 ·intro c0
  try simp only [nb] at c0
  obtain ⟨x, a, b, rfl⟩ := Ex.of_let (hhd.trans c0.1); obtain rfl : i = 3 := by omega
  simp only [Ex.ok, Bool.and_eq_true] at hok
  have hlen : (Ex.lt x a b).tree.parts.length = 4 := rfl
  have hx : ((Ex.lt x a b).tree.pt 1).atom.length ≤ Bb := Ex.name_len hok.1.1
  refine Se rfl (Oh rfl ?_); refine Bd rfl .free rfl ?_
  first | refine Bk rfl rfl 1 rfl .free rfl ?_ | refine Bl rfl rfl 1 rfl .free rfl ?_
  refine Be rfl .free rfl ?_; refine F5 rfl .free rfl ?_; refine Ol rfl rfl ?_; intro b21; refine Oa rfl (Ab ?_); refine Bv ?_; intro hz; refine Ai (.tmp rfl .nil) ?_
  exact ⟨_, L, hz, Bj, some ⟨b21, 0, none⟩, 1, rfl, Ie hz hx, rfl⟩
 intro c0
 try simp only [nb] at c0
 refine Se rfl (Oh rfl ?_); refine Bd rfl .free rfl ?_
 first | refine Bk rfl rfl 0 rfl .free rfl ?_ | refine Bl rfl rfl 0 rfl .free rfl ?_
 refine Be rfl .free rfl ?_; refine F5 rfl .free rfl ?_; refine Od rfl rfl rfl (Oa rfl (Ab ?_)); refine Av rfl ?_ ?_
 ·intro c1
  try simp only [nb] at c1
  obtain ⟨f, x, s, t, b, rfl⟩ := Ex.of_fun (hhd.trans c1); obtain rfl : i = 5 := by rw [Ou] at hi; simpa using hi
  simp only [Ex.ok, Bool.and_eq_true] at hok
  have hlen : (Ex.fn f x s t b).tree.parts.length = 6 := rfl
  have hx1 : ((Ex.fn f x s t b).tree.pt 1).atom.length ≤ Bb := Ex.name_len hok.1.1.1.1.1
  have hx2 : ((Ex.fn f x s t b).tree.pt 2).atom.length ≤ Bb := Ex.name_len hok.1.1.1.1.2
  refine Ah ?_; refine Eb 12 rfl rfl ?_; refine Da 0 rfl (Ap rfl) ?_; refine Dt 1 [12] rfl (Cn rfl) ?_
  first | refine Da 2 rfl (Bw rfl rfl 1 rfl) ?_ | refine Da 2 rfl (Bx rfl rfl 1 rfl) ?_
  refine Da 3 rfl (Bi rfl) ?_; refine Dt 4 [12] rfl (Kj rfl) ?_; refine Da 5 rfl (Ap rfl) ?_; refine Dt 6 [12] rfl (Cn rfl) ?_
  first | refine Da 7 rfl (Bw rfl rfl 2 rfl) ?_ | refine Da 7 rfl (Bx rfl rfl 2 rfl) ?_
  refine Da 8 rfl (Bi rfl) ?_; refine Dt 9 [12] rfl (Kj rfl) ?_; refine E8 10 rfl Ae rfl rfl rfl Ac Ac Ac Ad Ad Ac .free rfl (.inr Ax) ?_; intro b39; refine Da 11 rfl (At rfl) ?_; refine A5 Ae ?_; refine Bv ?_; intro hz; refine Ai (.tmp rfl .nil) ?_
  exact ⟨_, L, hz, Bj, some ⟨b39, 0, none⟩, 2, rfl, P1 hz hx1 hx2, rfl⟩
 intro c1
 try simp only [nb] at c1
 refine Aj (Aq (Se rfl ?_)); refine D9 .free rfl ?_; intro b40; refine Oa rfl (Ab (Ai (.tmp rfl .nil) ?_))
 have hbd : e.binds i = [] := by
  cases e with
  | lt x a b => exact if_neg fun hi => by rcases c0 with h | h; exact h rfl; omega
  | fn f x s t b => exact absurd rfl c1
  | _ => rfl
 exact ⟨I, L, .refl _, Bj, some ⟨b40, 0, none⟩, 0, by rw [hbd]; rfl, by rw [hbd]; exact Gq I _, rfl⟩

def LP (l : List As) (L : Bh) : C3 := fun v I' L' => ∃ B c, v = B8 l.length c B ∧ Ep 1 l.length c (l.map sv) B ∧ L' = Cb 9 (l.map sv) B ++ L
theorem Zq {l : List As} {B : Kx} {c : Nat} (hB : Ep 1 l.length c (l.map sv) B) (hl : l.length ≤ Bb) (I : Heap) (p : Nat × Obj) (L : Bh) (s : As) :
  Fun Tryz.prog 170 [B8 l.length c B, .string (str s)] I (p :: (Cb 9 (l.map sv) B ++ L)) (Ee (.bool (decide (s ∈ l))) I (p :: (Cb 9 (l.map sv) B ++ L))) := by
 obtain ⟨oa, c', hbv, hrd⟩ := Ab0 (I := I) (L := L) (e := 9) hB rfl hl; rw [hbv]
 exact Zo (hrd.sub fun w h => h.drop) c' s
theorem Q0 {l : List As} {s : As} (h : s ∉ l) : Dg l [s] = l ++ [s] := by simp [Dg, G1, h]
theorem Sv {l : List As} {s : As} (h : s ∈ l) : Dg l [s] = l := by simp [Dg, G1, h]
theorem I8 {l bd : List As} {e : Ex} {k n : Nat} (h : l.length + (e.size + k) ≤ n) : (Dg l (e.occ bd)).length + k ≤ n := by
 have := H0 l (e.occ bd); have := e.occ_len bd; omega
theorem T6 {l bd bd' : List As} {e e' : Ex} {k n : Nat} (h : l.length + (e.size + (e'.size + k)) ≤ n) : (Dg (Dg l (e.occ bd)) (e'.occ bd')).length + k ≤ n := I8 (I8 h)
theorem Acm : ∀ (n : Nat) {I : Heap} {e : Ex} {cs : List Value} (_ : SizeOf.sizeOf e < n) (_ : Rep I e.tree cs) (_ : e.ok = true) {bd : List As} {ob : Option Addr} {cb : Nat} (_ : Strs I ob bd cb) (_ : bd.length + 2 * e.size ≤ Bb)
   (l : List As) (B : Kx) (c : Nat) (_ : l.length + e.size ≤ 4294967295) (_ : Ep 1 l.length c (l.map sv) B) (L : Bh),
  Fun Tryz.prog 147 [.agg cs.toArray, .slice ob bd.length cb, B8 l.length c B] I (Cb 9 (l.map sv) B ++ L) (LP (Dg l (e.occ bd)) L) := by
 intro n
 induction n with
 | zero => intro I e cs h; omega
 | succ n ihn =>
  intro I e cs hlt h hok bd ob cb hbd hbl l B c hl hB L; obtain ⟨oa, cc, oaf, cf, rfl, hf⟩ := h.at'
  have ha := hf.alen
  have hlN : l.length ≤ Bb := by unfold Bb; omega
  unfold Bb at hbl
  refine Al Af ?_; refine Se rfl ?_; refine Cc rfl rfl .free rfl ?_; intro b3; refine Oa rfl (Ab (Ah (Se rfl (Oh rfl ?_)))); refine Bd rfl .free rfl ?_; refine Od rfl rfl rfl (Ab ?_); refine Av rfl ?_ ?_
  ·intro c0
   try simp only [nb] at c0
   have hb : e.bare = true := by
    cases hb : e.bare with
    | true => rfl
    | false => exact absurd ((Ex.atom_iff hok).2 hb) c0
   refine Ah (Se rfl (Oh rfl ?_)); refine Bd rfl .free rfl ?_; refine Ca rfl (Oi e.tree.atom ha _ _) ?_; rintro _ _ _ _ ⟨rfl, rfl, rfl⟩; refine Dl rfl .free rfl ?_; refine Om rfl ?_
   apply F6 17 22 rfl
   ·intro g2_5 hk
    try simp only [nb] at g2_5
    refine Ow rfl ?_; refine A1 rfl (.met rfl rfl) rfl ?_; refine Bd rfl (.met rfl rfl) rfl ?_; refine Cv rfl (.met rfl rfl) rfl (Zo (hbd.rd _) cb e.tree.atom) ?_; rintro _ _ _ _ ⟨rfl, rfl, rfl⟩; refine Of rfl rfl ?_
    exact Au 4 rfl rfl hk
   ·intro _ hk; refine A2 4 rfl ?_; refine Ot rfl rfl ?_
    exact Au 4 rfl rfl hk
   refine Om rfl ?_
   apply F6 23 28 rfl
   ·intro g2_11 hk
    try simp only [nb] at g2_11
    refine Ow rfl ?_; refine A1 rfl (.met rfl rfl) rfl ?_; refine Bd rfl (.met rfl rfl) rfl ?_; refine Cv rfl (.met rfl rfl) rfl (Zq hB hlN _ _ _ _) ?_; rintro _ _ _ _ ⟨rfl, rfl, rfl⟩; refine Of rfl rfl ?_
    exact Au 4 rfl rfl hk
   ·intro _ hk; refine A2 4 rfl ?_; refine Ot rfl rfl ?_
    exact Au 4 rfl rfl hk
   refine Ab ?_; refine Av rfl ?_ ?_
   ·intro c1
    try simp only [nb] at c1
    refine Se rfl (Om rfl (Oa rfl (Ab (Ai (.tmp rfl .nil) ?_))))
    have hoc : Dg l (e.occ bd) = l := by
     cases e with
     | num s => rfl
     | name s =>
      have c1 : (Bn s = false ∨ s ∈ bd) ∨ s ∈ l := c1
      rcases c1 with (h | h) | h
      ·rw [show Bn s = true from hok] at h; cases h
      ·simp only [Ex.occ]; rw [if_pos h]; rfl
      ·simp only [Ex.occ]
       split
       ·rfl
       ·exact Sv h
     | _ => cases hb
    exact ⟨I, _, .refl _, fun w h => h.drop, B, c, by rw [hoc]; rfl, by rw [hoc]; exact hB, by rw [hoc]⟩
   intro c1
   try simp only [nb] at c1
   refine Aj (Se rfl (Om rfl (Oh rfl ?_))); refine Bd rfl .free rfl ?_; refine Ol rfl rfl ?_; intro b33; refine D3 (B := B) (xs := l.map sv) (ys := [sv e.tree.atom]) (m := l.length) (c := c) A4 Ac rfl rfl hB (fun _ h => h.u2) Ac (fun a ha => by cases ha; exact Bg (.head _) Ac) Af Ac Ad Ad (by have := e.size_pos; omega) Ad .free rfl ?_; intro bb sp c2 hB'; refine Oa rfl (Ab (Ai (.tmp rfl .nil) ?_))
   have hoc : Dg l (e.occ bd) = l ++ [e.tree.atom] := by
    cases e with
    | num s =>
     have h1 : Bn s = true := c1.1.1
     have h2 := Hi h1
     rw [show Bt s = true from hok] at h2; cases h2
    | name s =>
     have c1 : (Bn s = true ∧ ¬ s ∈ bd) ∧ ¬ s ∈ l := c1
     simp only [Ex.occ]; rw [if_neg c1.1.2]; exact Q0 c1.2
    | _ => cases hb
   exact ⟨I, _, .refl _, Ms (L' := (bb, _) :: L), some (bb, sp), c2, by rw [hoc]; simp [C2, B8], by rw [hoc]; simpa using hB', by rw [hoc]; simp [Cb]⟩
  intro c0
  try simp only [nb] at c0
  have hb : e.bare = false := (Ex.atom_iff hok).1 Ey
  have hsh := e.shapes hb
  have h0 : 0 < e.tree.parts.length := by
   rw [Ex.bare_parts] at hb
   have : e.tree.parts ≠ [] := by intro hh; rw [hh] at hb; cases hb
   exact List.length_pos_iff.2 this
  have hhd := Mv h0
  have hok0 := hok
  have hle : HLe I I := .refl _
  refine Aj (Se rfl (Oh rfl ?_)); refine Bd rfl .free rfl ?_
  first | refine Bk rfl rfl 0 rfl .free rfl ?_ | refine Bl rfl rfl 0 rfl .free rfl ?_
  refine Be rfl .free rfl ?_; refine F5 rfl .free rfl ?_; refine Ca rfl (Ws (e.tree.pt 0).atom _ _) ?_; rw [← hhd]; rintro _ _ _ _ ⟨rfl, rfl, rfl⟩; refine Om rfl (Oe rfl rfl (Oe rfl rfl (Oa rfl (Oa rfl (Ab (Ah (Ah ?_)))))))
  rcases hsh with ⟨o, a, b, rfl⟩ | ⟨a, b, d, rfl⟩ | ⟨z, a, b, rfl⟩ | ⟨g, z, s, t, b, rfl⟩ | ⟨o, a, rfl⟩
  ·skip
   have hk : A0 (Ex.bin o a b).tree.head = (1, 3) := by cases o <;> rfl
   rw [hk]
   have hlen : (Ex.bin o a b).tree.parts.length = 3 := rfl
   have hki := G7 o a b
   simp only [Ex.bin.sizeOf_spec] at hlt
   simp only [Ex.size] at hbl hl
   simp only [Ex.ok, Bool.and_eq_true] at hok
   refine Ao rfl (Om rfl (Oa rfl (Ab (Ar ?_)))); refine F0 ?_; refine Ah (Se rfl (Om rfl (Om rfl (Oc rfl rfl rfl (Ab ?_))))); refine Dj rfl By ?_; refine Aj (Ah (Ar ?_)); refine Ug 15 rfl rfl ?_; refine Da 0 rfl (Ap rfl) ?_; refine Dt 1 [15] rfl (Cn rfl) ?_; refine Da 2 rfl (Ak rfl) ?_
   first | refine Da 3 rfl (Bw rfl rfl _ rfl) ?_ | refine Da 3 rfl (Bx rfl rfl _ rfl) ?_
   refine Dt 4 [15] rfl (C7 rfl) ?_; refine Da 6 rfl (Ak rfl) ?_; refine Dt 8 [15] rfl (Co rfl) ?_; refine Da 9 rfl (Ak rfl) ?_; refine Da 12 rfl (Ak rfl) ?_; refine I3 5 rfl Ae rfl .free rfl (.inr Ax) ?_; intro b55; refine B6 7 (B := some (b55, [])) (xs := []) (ys := bd.map sv) (m := 0) (c := 0) rfl Ae rfl A4 Ac rfl rfl ⟨rfl, Nat.le_refl _, rfl⟩ (fun _ h => h) Af hbd.reads hbd.none (D4 bd) Ad Aa Ad .free rfl (fun _ => .inr Ax) ?_; intro B1 c1' hB1; refine Dc 10 rfl rfl (Hh hf.rep hok0 hb _ (by rw [hki]; decide) _) ?_; rintro _ J1 _ e1 ⟨o1, k1, rfl, hs1, rfl⟩
   have hbd1 := hbd.mono e1
   refine Hx ?_; refine B6 11 (B := B1) (xs := bd.map sv) (ys := (Ex.binds _ _).map sv) (m := 0 + bd.length) (c := c1') rfl Ae rfl A4 Ac rfl rfl hB1 (fun _ h => h) Af hs1.reads hs1.none (D4 _) Ad (Ex.binds_room1 Aa) Ad .free rfl (fun _ => .inr Ax) ?_; intro B2 c2' hB2; rw [← List.map_append] at hB2 ⊢; refine C9 (l := bd ++ Ex.binds _ _) hB2 Af Ha (hbd1.append hs1) ?_; intro J3 o3 k3 ez hbv hs3; refine E0 (t := 61) rfl hbv ?_
   have e4 := e1.trans ez
   have hf3 := hf.mono e4
   refine De (fun w h => h.u1) ?_; refine Dc 13 rfl rfl (ihn Aa (hf3.as 1 a.tree Aa rfl) hok.1 hs3 (Ex.binds_room Aa) _ _ _ Aa hB _) ?_; rintro _ J4 _ e5 ⟨B, c, rfl, hB, rfl⟩
   have e6 := e4.trans e5
   refine Hx ?_; refine De (fun w h => h.w1) ?_
   have hf := hf.mono e6
   have hbd := hbd.mono e6
   have hle := hle.trans e6
   refine Da 14 rfl (At rfl) ?_; refine A5 Ae ?_; refine Aq (Ao rfl (Om rfl ?_)); refine Or rfl rfl rfl ?_; refine Oa rfl (Ab ?_); refine Dd ?_; refine Ah (Se rfl (Om rfl (Om rfl (Oc rfl rfl rfl (Ab ?_))))); refine Dj rfl By ?_; refine Aj (Ah (Ar ?_)); refine Ug 15 rfl rfl ?_; refine Da 0 rfl (Ap rfl) ?_; refine Dt 1 [15] rfl (Cn rfl) ?_; refine Da 2 rfl (Ak rfl) ?_
   first | refine Da 3 rfl (Bw rfl rfl _ rfl) ?_ | refine Da 3 rfl (Bx rfl rfl _ rfl) ?_
   refine Dt 4 [15] rfl (C7 rfl) ?_; refine Da 6 rfl (Ak rfl) ?_; refine Dt 8 [15] rfl (Co rfl) ?_; refine Da 9 rfl (Ak rfl) ?_; refine Da 12 rfl (Ak rfl) ?_; refine I3 5 rfl Ae rfl .free rfl (.inr Ax) ?_; intro b55; refine B6 7 (B := some (b55, [])) (xs := []) (ys := bd.map sv) (m := 0) (c := 0) rfl Ae rfl A4 Ac rfl rfl ⟨rfl, Nat.le_refl _, rfl⟩ (fun _ h => h) Af hbd.reads hbd.none (D4 bd) Ad Aa Ad .free rfl (fun _ => .inr Ax) ?_; intro B1 c1' hB1; refine Dc 10 rfl rfl (Hh hf.rep hok0 hb _ (by rw [hki]; decide) _) ?_; rintro _ J1 _ e1 ⟨o1, k1, rfl, hs1, rfl⟩
   have hbd1 := hbd.mono e1
   refine Hx ?_; refine B6 11 (B := B1) (xs := bd.map sv) (ys := (Ex.binds _ _).map sv) (m := 0 + bd.length) (c := c1') rfl Ae rfl A4 Ac rfl rfl hB1 (fun _ h => h) Af hs1.reads hs1.none (D4 _) Ad (Ex.binds_room1 Aa) Ad .free rfl (fun _ => .inr Ax) ?_; intro B2 c2' hB2; rw [← List.map_append] at hB2 ⊢; refine C9 (l := bd ++ Ex.binds _ _) hB2 Af Ha (hbd1.append hs1) ?_; intro J3 o3 k3 ez hbv hs3; refine E0 (t := 61) rfl hbv ?_
   have e4 := e1.trans ez
   have hf3 := hf.mono e4
   refine De (fun w h => h.u1) ?_; refine Dc 13 rfl rfl (ihn Aa (hf3.as 2 b.tree Aa rfl) hok.2 hs3 (Ex.binds_room Aa) _ _ _ (I8 Aa) hB _) ?_; rintro _ J4 _ e5 ⟨B, c, rfl, hB, rfl⟩
   have e6 := e4.trans e5
   refine Hx ?_; refine De (fun w h => h.w1) ?_
   have hf := hf.mono e6
   have hbd := hbd.mono e6
   have hle := hle.trans e6
   refine Da 14 rfl (At rfl) ?_; refine A5 Ae ?_; refine Aq (Ao rfl (Om rfl ?_)); refine Or rfl rfl rfl ?_; refine Oa rfl (Ab ?_); refine Dd ?_; refine Ah (Se rfl (Om rfl (Om rfl (Oc rfl rfl rfl (Ab ?_))))); refine E6 rfl By ?_; refine Cs rfl ?_; refine Se rfl (Om rfl (Oa rfl (Ab (Ai (.tmp rfl .nil) ?_))))
   exact ⟨_, _, hle, fun w h => h.drop, B, c, by simp [Ex.occ, Ex.binds, Cu, C2], by simpa [Ex.occ, Ex.binds, Cu] using hB, by simp [Ex.occ, Ex.binds, Cu]⟩
  ·skip
   have hk : A0 (Ex.ite a b d).tree.head = (1, 4) := rfl
   rw [hk]
   have hlen : (Ex.ite a b d).tree.parts.length = 4 := rfl
   have hki := Ov a b d
   simp only [Ex.ite.sizeOf_spec] at hlt
   simp only [Ex.size] at hbl hl
   simp only [Ex.ok, Bool.and_eq_true] at hok
   refine Ao rfl (Om rfl (Oa rfl (Ab (Ar ?_)))); refine F0 ?_; refine Ah (Se rfl (Om rfl (Om rfl (Oc rfl rfl rfl (Ab ?_))))); refine Dj rfl By ?_; refine Aj (Ah (Ar ?_)); refine Ug 15 rfl rfl ?_; refine Da 0 rfl (Ap rfl) ?_; refine Dt 1 [15] rfl (Cn rfl) ?_; refine Da 2 rfl (Ak rfl) ?_
   first | refine Da 3 rfl (Bw rfl rfl _ rfl) ?_ | refine Da 3 rfl (Bx rfl rfl _ rfl) ?_
   refine Dt 4 [15] rfl (C7 rfl) ?_; refine Da 6 rfl (Ak rfl) ?_; refine Dt 8 [15] rfl (Co rfl) ?_; refine Da 9 rfl (Ak rfl) ?_; refine Da 12 rfl (Ak rfl) ?_; refine I3 5 rfl Ae rfl .free rfl (.inr Ax) ?_; intro b55; refine B6 7 (B := some (b55, [])) (xs := []) (ys := bd.map sv) (m := 0) (c := 0) rfl Ae rfl A4 Ac rfl rfl ⟨rfl, Nat.le_refl _, rfl⟩ (fun _ h => h) Af hbd.reads hbd.none (D4 bd) Ad Aa Ad .free rfl (fun _ => .inr Ax) ?_; intro B1 c1' hB1; refine Dc 10 rfl rfl (Hh hf.rep hok0 hb _ (by rw [hki]; decide) _) ?_; rintro _ J1 _ e1 ⟨o1, k1, rfl, hs1, rfl⟩
   have hbd1 := hbd.mono e1
   refine Hx ?_; refine B6 11 (B := B1) (xs := bd.map sv) (ys := (Ex.binds _ _).map sv) (m := 0 + bd.length) (c := c1') rfl Ae rfl A4 Ac rfl rfl hB1 (fun _ h => h) Af hs1.reads hs1.none (D4 _) Ad (Ex.binds_room1 Aa) Ad .free rfl (fun _ => .inr Ax) ?_; intro B2 c2' hB2; rw [← List.map_append] at hB2 ⊢; refine C9 (l := bd ++ Ex.binds _ _) hB2 Af Ha (hbd1.append hs1) ?_; intro J3 o3 k3 ez hbv hs3; refine E0 (t := 61) rfl hbv ?_
   have e4 := e1.trans ez
   have hf3 := hf.mono e4
   refine De (fun w h => h.u1) ?_; refine Dc 13 rfl rfl (ihn Aa (hf3.as 1 a.tree Aa rfl) hok.1.1 hs3 (Ex.binds_room Aa) _ _ _ Aa hB _) ?_; rintro _ J4 _ e5 ⟨B, c, rfl, hB, rfl⟩
   have e6 := e4.trans e5
   refine Hx ?_; refine De (fun w h => h.w1) ?_
   have hf := hf.mono e6
   have hbd := hbd.mono e6
   have hle := hle.trans e6
   refine Da 14 rfl (At rfl) ?_; refine A5 Ae ?_; refine Aq (Ao rfl (Om rfl ?_)); refine Or rfl rfl rfl ?_; refine Oa rfl (Ab ?_); refine Dd ?_; refine Ah (Se rfl (Om rfl (Om rfl (Oc rfl rfl rfl (Ab ?_))))); refine Dj rfl By ?_; refine Aj (Ah (Ar ?_)); refine Ug 15 rfl rfl ?_; refine Da 0 rfl (Ap rfl) ?_; refine Dt 1 [15] rfl (Cn rfl) ?_; refine Da 2 rfl (Ak rfl) ?_
   first | refine Da 3 rfl (Bw rfl rfl _ rfl) ?_ | refine Da 3 rfl (Bx rfl rfl _ rfl) ?_
   refine Dt 4 [15] rfl (C7 rfl) ?_; refine Da 6 rfl (Ak rfl) ?_; refine Dt 8 [15] rfl (Co rfl) ?_; refine Da 9 rfl (Ak rfl) ?_; refine Da 12 rfl (Ak rfl) ?_; refine I3 5 rfl Ae rfl .free rfl (.inr Ax) ?_; intro b55; refine B6 7 (B := some (b55, [])) (xs := []) (ys := bd.map sv) (m := 0) (c := 0) rfl Ae rfl A4 Ac rfl rfl ⟨rfl, Nat.le_refl _, rfl⟩ (fun _ h => h) Af hbd.reads hbd.none (D4 bd) Ad Aa Ad .free rfl (fun _ => .inr Ax) ?_; intro B1 c1' hB1; refine Dc 10 rfl rfl (Hh hf.rep hok0 hb _ (by rw [hki]; decide) _) ?_; rintro _ J1 _ e1 ⟨o1, k1, rfl, hs1, rfl⟩
   have hbd1 := hbd.mono e1
   refine Hx ?_; refine B6 11 (B := B1) (xs := bd.map sv) (ys := (Ex.binds _ _).map sv) (m := 0 + bd.length) (c := c1') rfl Ae rfl A4 Ac rfl rfl hB1 (fun _ h => h) Af hs1.reads hs1.none (D4 _) Ad (Ex.binds_room1 Aa) Ad .free rfl (fun _ => .inr Ax) ?_; intro B2 c2' hB2; rw [← List.map_append] at hB2 ⊢; refine C9 (l := bd ++ Ex.binds _ _) hB2 Af Ha (hbd1.append hs1) ?_; intro J3 o3 k3 ez hbv hs3; refine E0 (t := 61) rfl hbv ?_
   have e4 := e1.trans ez
   have hf3 := hf.mono e4
   refine De (fun w h => h.u1) ?_; refine Dc 13 rfl rfl (ihn Aa (hf3.as 2 b.tree Aa rfl) hok.1.2 hs3 (Ex.binds_room Aa) _ _ _ (I8 Aa) hB _) ?_; rintro _ J4 _ e5 ⟨B, c, rfl, hB, rfl⟩
   have e6 := e4.trans e5
   refine Hx ?_; refine De (fun w h => h.w1) ?_
   have hf := hf.mono e6
   have hbd := hbd.mono e6
   have hle := hle.trans e6
   refine Da 14 rfl (At rfl) ?_; refine A5 Ae ?_; refine Aq (Ao rfl (Om rfl ?_)); refine Or rfl rfl rfl ?_; refine Oa rfl (Ab ?_); refine Dd ?_; refine Ah (Se rfl (Om rfl (Om rfl (Oc rfl rfl rfl (Ab ?_))))); refine Dj rfl By ?_; refine Aj (Ah (Ar ?_)); refine Ug 15 rfl rfl ?_; refine Da 0 rfl (Ap rfl) ?_; refine Dt 1 [15] rfl (Cn rfl) ?_; refine Da 2 rfl (Ak rfl) ?_
   first | refine Da 3 rfl (Bw rfl rfl _ rfl) ?_ | refine Da 3 rfl (Bx rfl rfl _ rfl) ?_
   refine Dt 4 [15] rfl (C7 rfl) ?_; refine Da 6 rfl (Ak rfl) ?_; refine Dt 8 [15] rfl (Co rfl) ?_; refine Da 9 rfl (Ak rfl) ?_; refine Da 12 rfl (Ak rfl) ?_; refine I3 5 rfl Ae rfl .free rfl (.inr Ax) ?_; intro b55; refine B6 7 (B := some (b55, [])) (xs := []) (ys := bd.map sv) (m := 0) (c := 0) rfl Ae rfl A4 Ac rfl rfl ⟨rfl, Nat.le_refl _, rfl⟩ (fun _ h => h) Af hbd.reads hbd.none (D4 bd) Ad Aa Ad .free rfl (fun _ => .inr Ax) ?_; intro B1 c1' hB1; refine Dc 10 rfl rfl (Hh hf.rep hok0 hb _ (by rw [hki]; decide) _) ?_; rintro _ J1 _ e1 ⟨o1, k1, rfl, hs1, rfl⟩
   have hbd1 := hbd.mono e1
   refine Hx ?_; refine B6 11 (B := B1) (xs := bd.map sv) (ys := (Ex.binds _ _).map sv) (m := 0 + bd.length) (c := c1') rfl Ae rfl A4 Ac rfl rfl hB1 (fun _ h => h) Af hs1.reads hs1.none (D4 _) Ad (Ex.binds_room1 Aa) Ad .free rfl (fun _ => .inr Ax) ?_; intro B2 c2' hB2; rw [← List.map_append] at hB2 ⊢; refine C9 (l := bd ++ Ex.binds _ _) hB2 Af Ha (hbd1.append hs1) ?_; intro J3 o3 k3 ez hbv hs3; refine E0 (t := 61) rfl hbv ?_
   have e4 := e1.trans ez
   have hf3 := hf.mono e4
   refine De (fun w h => h.u1) ?_; refine Dc 13 rfl rfl (ihn Aa (hf3.as 3 d.tree Aa rfl) hok.2 hs3 (Ex.binds_room Aa) _ _ _ (T6 Aa) hB _) ?_; rintro _ J4 _ e5 ⟨B, c, rfl, hB, rfl⟩
   have e6 := e4.trans e5
   refine Hx ?_; refine De (fun w h => h.w1) ?_
   have hf := hf.mono e6
   have hbd := hbd.mono e6
   have hle := hle.trans e6
   refine Da 14 rfl (At rfl) ?_; refine A5 Ae ?_; refine Aq (Ao rfl (Om rfl ?_)); refine Or rfl rfl rfl ?_; refine Oa rfl (Ab ?_); refine Dd ?_; refine Ah (Se rfl (Om rfl (Om rfl (Oc rfl rfl rfl (Ab ?_))))); refine E6 rfl By ?_; refine Cs rfl ?_; refine Se rfl (Om rfl (Oa rfl (Ab (Ai (.tmp rfl .nil) ?_))))
   exact ⟨_, _, hle, fun w h => h.drop, B, c, by simp [Ex.occ, Ex.binds, Cu, C2], by simpa [Ex.occ, Ex.binds, Cu] using hB, by simp [Ex.occ, Ex.binds, Cu]⟩
  ·skip
   have hk : A0 (Ex.lt z a b).tree.head = (2, 4) := rfl
   rw [hk]
   have hlen : (Ex.lt z a b).tree.parts.length = 4 := rfl
   have hki := Ox z a b
   simp only [Ex.lt.sizeOf_spec] at hlt
   simp only [Ex.size] at hbl hl
   simp only [Ex.ok, Bool.and_eq_true] at hok
   refine Ao rfl (Om rfl (Oa rfl (Ab (Ar ?_)))); refine F0 ?_; refine Ah (Se rfl (Om rfl (Om rfl (Oc rfl rfl rfl (Ab ?_))))); refine Dj rfl By ?_; refine Aj (Ah (Ar ?_)); refine Ug 15 rfl rfl ?_; refine Da 0 rfl (Ap rfl) ?_; refine Dt 1 [15] rfl (Cn rfl) ?_; refine Da 2 rfl (Ak rfl) ?_
   first | refine Da 3 rfl (Bw rfl rfl _ rfl) ?_ | refine Da 3 rfl (Bx rfl rfl _ rfl) ?_
   refine Dt 4 [15] rfl (C7 rfl) ?_; refine Da 6 rfl (Ak rfl) ?_; refine Dt 8 [15] rfl (Co rfl) ?_; refine Da 9 rfl (Ak rfl) ?_; refine Da 12 rfl (Ak rfl) ?_; refine I3 5 rfl Ae rfl .free rfl (.inr Ax) ?_; intro b55; refine B6 7 (B := some (b55, [])) (xs := []) (ys := bd.map sv) (m := 0) (c := 0) rfl Ae rfl A4 Ac rfl rfl ⟨rfl, Nat.le_refl _, rfl⟩ (fun _ h => h) Af hbd.reads hbd.none (D4 bd) Ad Aa Ad .free rfl (fun _ => .inr Ax) ?_; intro B1 c1' hB1; refine Dc 10 rfl rfl (Hh hf.rep hok0 hb _ (by rw [hki]; decide) _) ?_; rintro _ J1 _ e1 ⟨o1, k1, rfl, hs1, rfl⟩
   have hbd1 := hbd.mono e1
   refine Hx ?_; refine B6 11 (B := B1) (xs := bd.map sv) (ys := (Ex.binds _ _).map sv) (m := 0 + bd.length) (c := c1') rfl Ae rfl A4 Ac rfl rfl hB1 (fun _ h => h) Af hs1.reads hs1.none (D4 _) Ad (Ex.binds_room1 Aa) Ad .free rfl (fun _ => .inr Ax) ?_; intro B2 c2' hB2; rw [← List.map_append] at hB2 ⊢; refine C9 (l := bd ++ Ex.binds _ _) hB2 Af Ha (hbd1.append hs1) ?_; intro J3 o3 k3 ez hbv hs3; refine E0 (t := 61) rfl hbv ?_
   have e4 := e1.trans ez
   have hf3 := hf.mono e4
   refine De (fun w h => h.u1) ?_; refine Dc 13 rfl rfl (ihn Aa (hf3.as 2 a.tree Aa rfl) hok.1.2 hs3 (Ex.binds_room Aa) _ _ _ Aa hB _) ?_; rintro _ J4 _ e5 ⟨B, c, rfl, hB, rfl⟩
   have e6 := e4.trans e5
   refine Hx ?_; refine De (fun w h => h.w1) ?_
   have hf := hf.mono e6
   have hbd := hbd.mono e6
   have hle := hle.trans e6
   refine Da 14 rfl (At rfl) ?_; refine A5 Ae ?_; refine Aq (Ao rfl (Om rfl ?_)); refine Or rfl rfl rfl ?_; refine Oa rfl (Ab ?_); refine Dd ?_; refine Ah (Se rfl (Om rfl (Om rfl (Oc rfl rfl rfl (Ab ?_))))); refine Dj rfl By ?_; refine Aj (Ah (Ar ?_)); refine Ug 15 rfl rfl ?_; refine Da 0 rfl (Ap rfl) ?_; refine Dt 1 [15] rfl (Cn rfl) ?_; refine Da 2 rfl (Ak rfl) ?_
   first | refine Da 3 rfl (Bw rfl rfl _ rfl) ?_ | refine Da 3 rfl (Bx rfl rfl _ rfl) ?_
   refine Dt 4 [15] rfl (C7 rfl) ?_; refine Da 6 rfl (Ak rfl) ?_; refine Dt 8 [15] rfl (Co rfl) ?_; refine Da 9 rfl (Ak rfl) ?_; refine Da 12 rfl (Ak rfl) ?_; refine I3 5 rfl Ae rfl .free rfl (.inr Ax) ?_; intro b55; refine B6 7 (B := some (b55, [])) (xs := []) (ys := bd.map sv) (m := 0) (c := 0) rfl Ae rfl A4 Ac rfl rfl ⟨rfl, Nat.le_refl _, rfl⟩ (fun _ h => h) Af hbd.reads hbd.none (D4 bd) Ad Aa Ad .free rfl (fun _ => .inr Ax) ?_; intro B1 c1' hB1; refine Dc 10 rfl rfl (Hh hf.rep hok0 hb _ (by rw [hki]; decide) _) ?_; rintro _ J1 _ e1 ⟨o1, k1, rfl, hs1, rfl⟩
   have hbd1 := hbd.mono e1
   refine Hx ?_; refine B6 11 (B := B1) (xs := bd.map sv) (ys := (Ex.binds _ _).map sv) (m := 0 + bd.length) (c := c1') rfl Ae rfl A4 Ac rfl rfl hB1 (fun _ h => h) Af hs1.reads hs1.none (D4 _) Ad (Ex.binds_room1 Aa) Ad .free rfl (fun _ => .inr Ax) ?_; intro B2 c2' hB2; rw [← List.map_append] at hB2 ⊢; refine C9 (l := bd ++ Ex.binds _ _) hB2 Af Ha (hbd1.append hs1) ?_; intro J3 o3 k3 ez hbv hs3; refine E0 (t := 61) rfl hbv ?_
   have e4 := e1.trans ez
   have hf3 := hf.mono e4
   refine De (fun w h => h.u1) ?_; refine Dc 13 rfl rfl (ihn Aa (hf3.as 3 b.tree Aa rfl) hok.2 hs3 (Ex.binds_room Aa) _ _ _ (I8 Aa) hB _) ?_; rintro _ J4 _ e5 ⟨B, c, rfl, hB, rfl⟩
   have e6 := e4.trans e5
   refine Hx ?_; refine De (fun w h => h.w1) ?_
   have hf := hf.mono e6
   have hbd := hbd.mono e6
   have hle := hle.trans e6
   refine Da 14 rfl (At rfl) ?_; refine A5 Ae ?_; refine Aq (Ao rfl (Om rfl ?_)); refine Or rfl rfl rfl ?_; refine Oa rfl (Ab ?_); refine Dd ?_; refine Ah (Se rfl (Om rfl (Om rfl (Oc rfl rfl rfl (Ab ?_))))); refine E6 rfl By ?_; refine Cs rfl ?_; refine Se rfl (Om rfl (Oa rfl (Ab (Ai (.tmp rfl .nil) ?_))))
   exact ⟨_, _, hle, fun w h => h.drop, B, c, by simp [Ex.occ, Ex.binds, Cu, C2], by simpa [Ex.occ, Ex.binds, Cu] using hB, by simp [Ex.occ, Ex.binds, Cu]⟩
  ·skip
   have hk : A0 (Ex.fn g z s t b).tree.head = (5, 6) := rfl
   rw [hk]
   have hlen : (Ex.fn g z s t b).tree.parts.length = 6 := rfl
   have hki := Ou g z s t b
   simp only [Ex.fn.sizeOf_spec] at hlt
   simp only [Ex.size] at hbl hl
   simp only [Ex.ok, Bool.and_eq_true] at hok
   refine Ao rfl (Om rfl (Oa rfl (Ab (Ar ?_)))); refine F0 ?_; refine Ah (Se rfl (Om rfl (Om rfl (Oc rfl rfl rfl (Ab ?_))))); refine Dj rfl By ?_; refine Aj (Ah (Ar ?_)); refine Ug 15 rfl rfl ?_; refine Da 0 rfl (Ap rfl) ?_; refine Dt 1 [15] rfl (Cn rfl) ?_; refine Da 2 rfl (Ak rfl) ?_
   first | refine Da 3 rfl (Bw rfl rfl _ rfl) ?_ | refine Da 3 rfl (Bx rfl rfl _ rfl) ?_
   refine Dt 4 [15] rfl (C7 rfl) ?_; refine Da 6 rfl (Ak rfl) ?_; refine Dt 8 [15] rfl (Co rfl) ?_; refine Da 9 rfl (Ak rfl) ?_; refine Da 12 rfl (Ak rfl) ?_; refine I3 5 rfl Ae rfl .free rfl (.inr Ax) ?_; intro b55; refine B6 7 (B := some (b55, [])) (xs := []) (ys := bd.map sv) (m := 0) (c := 0) rfl Ae rfl A4 Ac rfl rfl ⟨rfl, Nat.le_refl _, rfl⟩ (fun _ h => h) Af hbd.reads hbd.none (D4 bd) Ad Aa Ad .free rfl (fun _ => .inr Ax) ?_; intro B1 c1' hB1; refine Dc 10 rfl rfl (Hh hf.rep hok0 hb _ (by rw [hki]; decide) _) ?_; rintro _ J1 _ e1 ⟨o1, k1, rfl, hs1, rfl⟩
   have hbd1 := hbd.mono e1
   refine Hx ?_; refine B6 11 (B := B1) (xs := bd.map sv) (ys := (Ex.binds _ _).map sv) (m := 0 + bd.length) (c := c1') rfl Ae rfl A4 Ac rfl rfl hB1 (fun _ h => h) Af hs1.reads hs1.none (D4 _) Ad (Ex.binds_room1 Aa) Ad .free rfl (fun _ => .inr Ax) ?_; intro B2 c2' hB2; rw [← List.map_append] at hB2 ⊢; refine C9 (l := bd ++ Ex.binds _ _) hB2 Af Ha (hbd1.append hs1) ?_; intro J3 o3 k3 ez hbv hs3; refine E0 (t := 61) rfl hbv ?_
   have e4 := e1.trans ez
   have hf3 := hf.mono e4
   refine De (fun w h => h.u1) ?_; refine Dc 13 rfl rfl (ihn Aa (hf3.as 5 b.tree Aa rfl) hok.2 hs3 (Ex.binds_room Aa) _ _ _ Aa hB _) ?_; rintro _ J4 _ e5 ⟨B, c, rfl, hB, rfl⟩
   have e6 := e4.trans e5
   refine Hx ?_; refine De (fun w h => h.w1) ?_
   have hf := hf.mono e6
   have hbd := hbd.mono e6
   have hle := hle.trans e6
   refine Da 14 rfl (At rfl) ?_; refine A5 Ae ?_; refine Aq (Ao rfl (Om rfl ?_)); refine Or rfl rfl rfl ?_; refine Oa rfl (Ab ?_); refine Dd ?_; refine Ah (Se rfl (Om rfl (Om rfl (Oc rfl rfl rfl (Ab ?_))))); refine E6 rfl By ?_; refine Cs rfl ?_; refine Se rfl (Om rfl (Oa rfl (Ab (Ai (.tmp rfl .nil) ?_))))
   exact ⟨_, _, hle, fun w h => h.drop, B, c, by simp [Ex.occ, Ex.binds, Cu, C2], by simpa [Ex.occ, Ex.binds, Cu] using hB, by simp [Ex.occ, Ex.binds, Cu]⟩
  ·skip
   have hk : A0 (Ex.un o a).tree.head = (1, 2) := by cases o <;> rfl
   rw [hk]
   have hlen : (Ex.un o a).tree.parts.length = 2 := rfl
   have hki := Lj o a
   simp only [Ex.un.sizeOf_spec] at hlt
   simp only [Ex.size] at hbl hl
   simp only [Ex.ok] at hok
   refine Ao rfl (Om rfl (Oa rfl (Ab (Ar ?_)))); refine F0 ?_; refine Ah (Se rfl (Om rfl (Om rfl (Oc rfl rfl rfl (Ab ?_))))); refine Dj rfl By ?_; refine Aj (Ah (Ar ?_)); refine Ug 15 rfl rfl ?_; refine Da 0 rfl (Ap rfl) ?_; refine Dt 1 [15] rfl (Cn rfl) ?_; refine Da 2 rfl (Ak rfl) ?_
   first | refine Da 3 rfl (Bw rfl rfl _ rfl) ?_ | refine Da 3 rfl (Bx rfl rfl _ rfl) ?_
   refine Dt 4 [15] rfl (C7 rfl) ?_; refine Da 6 rfl (Ak rfl) ?_; refine Dt 8 [15] rfl (Co rfl) ?_; refine Da 9 rfl (Ak rfl) ?_; refine Da 12 rfl (Ak rfl) ?_; refine I3 5 rfl Ae rfl .free rfl (.inr Ax) ?_; intro b55; refine B6 7 (B := some (b55, [])) (xs := []) (ys := bd.map sv) (m := 0) (c := 0) rfl Ae rfl A4 Ac rfl rfl ⟨rfl, Nat.le_refl _, rfl⟩ (fun _ h => h) Af hbd.reads hbd.none (D4 bd) Ad Aa Ad .free rfl (fun _ => .inr Ax) ?_; intro B1 c1' hB1; refine Dc 10 rfl rfl (Hh hf.rep hok0 hb _ (by rw [hki]; decide) _) ?_; rintro _ J1 _ e1 ⟨o1, k1, rfl, hs1, rfl⟩
   have hbd1 := hbd.mono e1
   refine Hx ?_; refine B6 11 (B := B1) (xs := bd.map sv) (ys := (Ex.binds _ _).map sv) (m := 0 + bd.length) (c := c1') rfl Ae rfl A4 Ac rfl rfl hB1 (fun _ h => h) Af hs1.reads hs1.none (D4 _) Ad (Ex.binds_room1 Aa) Ad .free rfl (fun _ => .inr Ax) ?_; intro B2 c2' hB2; rw [← List.map_append] at hB2 ⊢; refine C9 (l := bd ++ Ex.binds _ _) hB2 Af Ha (hbd1.append hs1) ?_; intro J3 o3 k3 ez hbv hs3; refine E0 (t := 61) rfl hbv ?_
   have e4 := e1.trans ez
   have hf3 := hf.mono e4
   refine De (fun w h => h.u1) ?_; refine Dc 13 rfl rfl (ihn Aa (hf3.as 1 a.tree Aa rfl) hok hs3 (Ex.binds_room Aa) _ _ _ Aa hB _) ?_; rintro _ J4 _ e5 ⟨B, c, rfl, hB, rfl⟩
   have e6 := e4.trans e5
   refine Hx ?_; refine De (fun w h => h.w1) ?_
   have hf := hf.mono e6
   have hbd := hbd.mono e6
   have hle := hle.trans e6
   refine Da 14 rfl (At rfl) ?_; refine A5 Ae ?_; refine Aq (Ao rfl (Om rfl ?_)); refine Or rfl rfl rfl ?_; refine Oa rfl (Ab ?_); refine Dd ?_; refine Ah (Se rfl (Om rfl (Om rfl (Oc rfl rfl rfl (Ab ?_))))); refine E6 rfl By ?_; refine Cs rfl ?_; refine Se rfl (Om rfl (Oa rfl (Ab (Ai (.tmp rfl .nil) ?_))))
   exact ⟨_, _, hle, fun w h => h.drop, B, c, by simp [Ex.occ, Ex.binds, Cu, C2], by simpa [Ex.occ, Ex.binds, Cu] using hB, by simp [Ex.occ, Ex.binds, Cu]⟩

def Hp (s : As) : Option (List As) := (Ei s).map Ex.free
def Cm (s : As) : Option Ex := match Ei s with
 | some e => if e.closed = true then some e else none
 | none => none
def EF (o : Option (List As)) (L : Bh) : C3 := fun v I' L' => ∃ oa c, v = .tuple #[.slice oa (o.getD []).length c, .bool o.isSome] ∧ Strs I' oa (o.getD []) c ∧ L = L'
theorem Aak {e : Ex} (h : e.fine = true) : e.size ≤ 120 := by
 simp only [Ex.fine, Bool.and_eq_true, decide_eq_true_eq] at h; exact h.1.2
theorem S3 {s : As} {e : Ex} (h : Ei s = some e) : e.size ≤ 120 := Aak (It h).2.1
theorem Yg (s : As) (hs : s.length ≤ Ld) (I : Heap) (L : Bh) : Fun Tryz.prog 97 [.string (str s)] I L (EF (Hp s) L) := by
 refine Al Af ?_; refine Se rfl (Oa rfl (Oa rfl (Ab (Se rfl (Om rfl ?_))))); refine Ca rfl (Nm s hs _ _) ?_; rintro _ J _ hleJ ⟨t, cs, ok, rfl, hrep, rfl, hpf⟩; obtain ⟨oa, cc, vs, rfl, -⟩ := hrep.open; refine Om rfl (Oe rfl rfl (Oe rfl rfl ?_)); refine A3 .free rfl ?_; intro b4; refine Bu rfl rfl rfl rfl .free ?_; refine Oa rfl (Ab (Ah (Se rfl (Om rfl ?_)))); refine Dl rfl .free rfl ?_; refine Ab ?_; refine Av rfl ?_ ?_
 ·intro c0
  try simp only [nb] at c0
  refine Se rfl ?_; refine D9 .free rfl ?_; intro b13; refine Oa rfl (Oa rfl (Ab ?_)); refine Ai (.tmp rfl (.tmp rfl .nil)) ?_
  exact ⟨J, L, hleJ, fun w h => h.drop.drop, some ⟨b13, 0, none⟩, 0, by rw [Hp, Ze hpf c0]; rfl, by rw [Hp, Ze hpf c0]; exact Gq _ _, rfl⟩
 intro c0
 try simp only [nb] at c0
 obtain ⟨e, he, rfl, hok, -⟩ := T4 hpf c0
 have hez := S3 he
 refine Aj (Se rfl ?_); refine Bq rfl .free rfl ?_; refine D9 .free rfl ?_; intro b15; refine D9 .free rfl ?_; intro b16; refine Fl (L' := Cb 9 (([] : List As).map sv) (some (b16, [])) ++ _) (fun w h => h) ?_; refine Ca rfl (Acm _ (Nat.lt_succ_self _) hrep hok (Gq _ _) Iq [] (some (b16, [])) 0 Ci ⟨rfl, Nat.le_refl _, rfl⟩ _) ?_; rintro _ J2 _ e2 ⟨B, c, rfl, hB, rfl⟩; refine Oa rfl (Oa rfl (Ab ?_))
 have hll := H0 [] (e.occ [])
 have hol := e.occ_len []
 simp only [List.length_nil, Nat.zero_add] at hll
 have hnm : ∀ z ∈ Dg [] (e.occ []), Bn z = true := fun z hz => Ex.occ_name hok z (by simpa [Jx] using hz)
 refine Hk hB rfl Bz (Rs hnm) ?_; intro J3 oz cz ez hbv hst; refine Kv (t := 2) rfl hbv ?_; refine Ai (.tmp rfl (.tmp rfl .nil)) ?_
 exact ⟨J3, L, (hleJ.trans e2).trans ez, Bj, oz, cz, by rw [Hp, he]; rfl, by rw [Hp, he]; exact hst, rfl⟩

theorem Na (s : As) : (Cm s).isSome = ((Hp s).isSome && decide ((Hp s).getD [] = [])) := by
 unfold Cm Hp
 cases Ei s with
 | none => rfl
 | some e =>
  simp only [Option.map_some, Option.isSome_some, Option.getD_some, Bool.true_and]
  rw [← Ex.closed_free]
  cases e.closed <;> rfl
theorem Hq {s : As} {e : Ex} (h : Cm s = some e) : Ei s = some e ∧ e.closed = true := by
 unfold Cm at h
 cases hx : Ei s with
 | none => rw [hx] at h; cases h
 | some e' =>
  rw [hx] at h
  simp only at h
  split at h
  ·rename_i hc; cases h; exact ⟨rfl, hc⟩
  ·cases h
theorem Og (s : As) (hs : s.length ≤ Ld) (I : Heap) (L : Bh) : Fun Tryz.prog 52 [.string (str s)] I L (Ee (.bool (Cm s).isSome) I L) := by
 refine Al Af ?_; refine Se rfl (Oa rfl (Ab (Se rfl (Om rfl ?_)))); refine Ca rfl (Yg s hs _ _) ?_; rintro _ J _ hleJ ⟨oa, c, rfl, hst, rfl⟩; refine Om rfl (Oe rfl rfl (Oe rfl rfl (Oa rfl (Oa rfl (Ab (Se rfl (Om rfl (Om rfl ?_))))))))
 apply Cy 11 15 rfl
 ·intro g2_2 hk
  try simp only [nb] at g2_2
  refine Ow rfl ?_; refine Ic rfl (.met rfl rfl) rfl ?_; refine Dp rfl rfl rfl (.met rfl rfl) rfl ?_; refine Ot rfl rfl ?_
  exact Au 3 rfl rfl hk
 ·intro _ hk; refine A2 3 rfl ?_; refine Of rfl rfl ?_
  exact Au 3 rfl rfl hk
 refine Oa rfl (Ab (Ai (.tmp rfl .nil) ?_)); refine J8 hleJ Bj ?_; rw [Na]; refine congrArg Value.bool ?_; rw [Bool.eq_iff_iff]; simp
theorem Aah {I : Heap} {s : As} {t : Tree} {cs : List Value} {ok : Bool} (h : Rep I t cs) (hpf : match Ei s with | some e => ok = true ∧ t = e.tree | none => ok = false) (hok : ok = true) (L : Bh) :
  Fun Tryz.prog 74 [.agg cs.toArray] I L (SS ((Hp s).getD []) L) := by
 obtain ⟨e, he, rfl, h1, _⟩ := T4 hpf hok
 have hez := S3 he
 rw [Hp, he]; exact Pd h h1 Aa L
theorem Us (s : As) (hs : s.length ≤ Bb) (I : Heap) (L : Bh) : Fun Tryz.prog 41 [.string (str s)] I L (RX (Cm s) L) := by
 refine Al Af ?_; refine Se rfl ?_; refine A3 .free rfl ?_; intro b2; refine Oa rfl (Ab (Se rfl (Om rfl ?_))); refine Ca rfl (Rc s hs _ _) ?_; rintro _ J _ hleJ ⟨t, cs, ok, rfl, hrep, rfl, hpf⟩; obtain ⟨oa, cc, vs, rfl, -⟩ := hrep.open; refine Om rfl (Oe rfl rfl (Oe rfl rfl ?_)); refine A3 .free rfl ?_; intro b4; refine Bu rfl rfl rfl rfl .free ?_; refine Oa rfl (Ab (Ah ?_)); refine Eb 10 rfl rfl ?_; refine Dt 0 [8] rfl (Co rfl) ?_; refine Da 1 rfl (Ak rfl) ?_; refine Da 2 rfl (Ak rfl) ?_
 apply N3 13 18 rfl
 ·intro g2_3 hk
  try simp only [nb] at g2_3
  refine E1 3 [4, 8] rfl Ae rfl Ax (Co rfl) (.met rfl rfl) rfl ?_; refine G3 4 rfl Ae rfl rfl (.met rfl rfl) rfl (Aah hrep hpf g2_3 _) ?_; rintro _ J2 _ e2 ⟨oz, cz, rfl, hst, rfl⟩; refine Hx ?_; refine Dm 5 rfl (Gj rfl) ?_; refine De (fun w h => Mem.le e2 h) ?_; refine Dm 6 rfl (Qm rfl rfl rfl) ?_; refine Da 7 rfl (Dq rfl rfl) ?_
  exact Gf 4 rfl rfl hk
 ·intro _ hk; refine Ds 3 rfl rfl rfl ?_; refine Ds 4 rfl rfl rfl ?_; refine Ds 5 rfl rfl rfl ?_; refine Ds 6 rfl rfl rfl ?_; refine Da 7 rfl (Do rfl rfl) ?_
  exact Gf 4 rfl rfl hk
 refine Dx 8 rfl rfl rfl rfl ?_; refine Db 9 rfl (At rfl) ?_; refine A5 Ae ?_; refine Ai (.c rfl (.tmp rfl .nil)) ?_; refine ⟨J, L, hleJ, Bj, t, _, _, rfl, hrep, rfl, ?_⟩
 have hcf := Na s
 cases hc : Cm s with
 | some e =>
  obtain ⟨he, hcl⟩ := Hq hc; rw [he] at hpf; rw [hc] at hcf
  simp only [Option.isSome_some, Bool.true_eq, Bool.and_eq_true, decide_eq_true_eq] at hcf
  exact ⟨by rw [hpf.1, hcf.2]; rfl, hpf.2⟩
 | none =>
  rw [hc] at hcf
  cases ok with
  | false => rfl
  | true =>
   obtain ⟨e, he, _⟩ := T4 hpf rfl
   simp only [Hp, he, Option.map_some, Option.isSome_some, Option.isSome_none, Option.getD_some, Bool.true_and] at hcf ⊢
   have h1 : e.free ≠ [] := by simpa using hcf.symm
   have h2 := List.length_pos_iff.2 h1
   exact decide_eq_false Aa
theorem B5.ty_small {o : B5} {s t u : Ty} (hs : s.size ≤ 16) (h : o.ty s t = some u) : u.size ≤ 16 := by
 cases o <;> simp only [B5.ty] at h
 ·split at h <;> cases h; decide
 ·split at h <;> cases h; decide
 ·split at h <;> cases h; decide
 ·cases s with
  | fn a b =>
   simp only at h
   split at h <;> cases h
   simp only [Ty.size] at hs; omega
  | _ => cases h
 ·split at h
  ·cases h; assumption
  ·cases h
theorem U2.ty_small {o : U2} {s u : Ty} (hs : s.size ≤ 16) (h : o.ty s = some u) : u.size ≤ 16 := by
 cases o <;> cases s <;> simp only [U2.ty] at h <;> cases h <;> simp only [Ty.size] at hs <;> omega
def smallL (m : List Ty) : Prop := ∀ t ∈ m, t.size ≤ 16
theorem smallL.add {m : List Ty} {t : Ty} (h : smallL m) (ht : t.size ≤ 16) : smallL (m ++ [t]) := by
 intro u hu
 rcases List.mem_append.1 hu with h1 | h1
 ·exact h u h1
 ·obtain rfl := List.mem_singleton.1 h1; exact ht
theorem Lu {l : List As} {m : List Ty} {s : As} {t : Ty} (hm : smallL m) (h : Fg l m s = some t) : t.size ≤ 16 := by
 unfold Fg at h
 cases hi : B9 l s with
 | none => rw [hi] at h; cases h
 | some i => rw [hi] at h; simp only [Option.bind] at h; exact hm t (List.mem_of_getElem? h)
theorem Ex.chk_small : ∀ {e : Ex} {l : List As} {m : List Ty} {t : Ty}, e.ok = true → smallL m → e.chk l m = .ok t → t.size ≤ 16
 | .num _, l, m, t, hok, hm, h => by simp only [Ex.chk] at h; cases h; decide
 | .name s, l, m, t, hok, hm, h => by
  simp only [Ex.chk] at h
  split at h
  ·rename_i t' h1; cases h; exact Lu hm h1
  ·cases h
 | .bin o a b, l, m, t, hok, hm, h => by
  simp only [Ex.ok, Bool.and_eq_true] at hok
  simp only [Ex.chk] at h
  split at h
  ·cases h
  ·rename_i s h1
   split at h
   ·cases h
   ·split at h
    ·rename_i h3; cases h; exact B5.ty_small (Ex.chk_small hok.1 hm h1) h3
    ·cases h
 | .ite a b c, l, m, t, hok, hm, h => by
  simp only [Ex.ok, Bool.and_eq_true] at hok
  simp only [Ex.chk] at h
  split at h
  ·cases h
  ·split at h
   ·cases h
   ·rename_i h2
    split at h
    ·cases h
    ·split at h
     ·cases h; exact Ex.chk_small hok.1.2 hm h2
     ·cases h
 | .lt x a b, l, m, t, hok, hm, h => by
  simp only [Ex.ok, Bool.and_eq_true] at hok
  simp only [Ex.chk] at h
  split at h
  ·cases h
  ·rename_i h1
   exact Ex.chk_small hok.2 (hm.add (Ex.chk_small hok.1.2 hm h1)) h
 | .fn f x s t b, l, m, u, hok, hm, h => by
  simp only [Ex.chk] at h
  split at h
  ·rename_i h1
   split at h
   ·cases h
   ·split at h
    ·cases h; exact h1
    ·cases h
  ·cases h
 | .un o a, l, m, t, hok, hm, h => by
  simp only [Ex.ok] at hok
  simp only [Ex.chk] at h
  split at h
  ·cases h
  ·rename_i s h1
   split at h
   ·rename_i h3; cases h; exact U2.ty_small (Ex.chk_small hok hm h1) h3
   ·cases h

/- Texts of types; the empty text for none. -/
def tyT : Option Ty → As
 | some t => t.tree.text
 | none => []
theorem Ty.text_len {t : Ty} (h : t.size ≤ 16) : t.tree.text.length ≤ 80 := by
 have := t.tree_small; rw [Tree.text_len]; omega
def Adt (o : Option Ty) : Prop := ∀ t, o = some t → t.size ≤ 16
def Ahi (ks : List (Option Ty)) : Prop := ∀ o ∈ ks, Adt o
def Pm (h : As) : List (Option Ty) → Option Ty
 | [some a] => (U2.of h).bind fun o => o.ty a
 | [some a, some b] => (B5.of h).bind fun o => o.ty a b
 | [some a, some b, some c] => if a = .i ∧ b = c then some b else none
 | _ => none
theorem Ex.ty_bin (o : B5) (a b : Ex) (l : List As) (m : List Ty) : (Ex.bin o a b).ty l m = Pm o.txt [a.ty l m, b.ty l m] := by
 simp only [Ex.ty, Ex.chk]
 cases a.chk l m with
 | error x => cases b.chk l m <;> rfl
 | ok s =>
  cases b.chk l m with
  | error y => rfl
  | ok t =>
   simp only [Pm, B5.of_txt, Option.bind]
   cases o.ty s t <;> rfl
theorem Ex.ty_ite (a b c : Ex) (l : List As) (m : List Ty) : (Ex.ite a b c).ty l m = Pm Hl [a.ty l m, b.ty l m, c.ty l m] := by
 simp only [Ex.ty, Ex.chk]
 cases a.chk l m with
 | error x => cases b.chk l m <;> cases c.chk l m <;> rfl
 | ok s =>
  cases b.chk l m with
  | error y => cases c.chk l m <;> rfl
  | ok t =>
   cases c.chk l m with
   | error y => rfl
   | ok u =>
    simp only [Pm]
    by_cases h : s = .i ∧ t = u <;> simp [h]
theorem Ex.ty_un (o : U2) (a : Ex) (l : List As) (m : List Ty) : (Ex.un o a).ty l m = Pm o.txt [a.ty l m] := by
 simp only [Ex.ty, Ex.chk]
 cases a.chk l m with
 | error x => rfl
 | ok s =>
  simp only [Pm, U2.of_txt, Option.bind]
  cases o.ty s <;> rfl
theorem Ex.ty_lt (x : As) (a b : Ex) (l : List As) (m : List Ty) : (Ex.lt x a b).ty l m = match a.ty l m with | some s => b.ty (l ++ [x]) (m ++ [s]) | none => none := by
 simp only [Ex.ty, Ex.chk]
 cases a.chk l m <;> rfl
theorem Ex.ty_fn (f x : As) (s t : Ty) (b : Ex) (l : List As) (m : List Ty) : (Ex.fn f x s t b).ty l m = if (Ty.fn s t).size ≤ 16 ∧ b.ty (l ++ [f, x]) (m ++ [.fn s t, s]) = some t then some (.fn s t) else none := by
 simp only [Ex.ty, Ex.chk]
 by_cases h : (Ty.fn s t).size ≤ 16
 ·simp only [h, if_true, true_and]
  cases b.chk (l ++ [f, x]) (m ++ [.fn s t, s]) with
  | error x => simp
  | ok u => by_cases hu : u = t <;> simp [hu]
 ·simp [h]
theorem Ex.ty_small {e : Ex} {l : List As} {m : List Ty} (hok : e.ok = true) (hm : smallL m) : Adt (e.ty l m) := by
 intro t h
 unfold Ex.ty at h
 split at h
 ·cases h; exact Ex.chk_small hok hm C8
 ·cases h
theorem Ex.ty_name (s : As) (l : List As) (m : List Ty) : (Ex.name s).ty l m = Fg l m s := by
 simp only [Ex.ty, Ex.chk]
 cases Fg l m s <;> rfl
def I0 (s : As) : Option Ty := (Eg s).bind Tree.ty
theorem M1 {s : As} {t : Tree} (h : Eg s = some t) : ∃ a : Ty, I0 s = some a ∧ t = a.tree ∧ a.size ≤ 16 ∧ s = a.tree.text := by
 obtain ⟨a, rfl, h2, h3⟩ := Xr h
 exact ⟨a, by simp [I0, h, a.tree_ty], rfl, h2, h3⟩
theorem Xq (s : As) : (I0 s).isSome = (Eg s).isSome := by
 cases h : Eg s with
 | none => simp [I0, h]
 | some t => obtain ⟨a, h1, _⟩ := M1 h; rw [h1]; rfl
theorem Tv {s : As} {a : Ty} (h : I0 s = some a) : Eg s = some a.tree ∧ a.size ≤ 16 ∧ s = a.tree.text := by
 cases h1 : Eg s with
 | none => simp [I0, h1] at h
 | some t =>
  obtain ⟨b, h2, rfl, h3, h4⟩ := M1 h1; rw [h] at h2; cases h2
  exact ⟨rfl, h3, h4⟩
theorem P2 (a : Ty) : I0 a.tree.text = if a.size ≤ 16 then some a else none := by
 unfold I0
 rw [Lv]
 split
 ·exact a.tree_ty
 ·rfl
def Gi (m : List As) : List Ty := m.map fun s => (I0 s).getD .i
theorem Tw (m : List As) : (Gi m).length = m.length := by simp [Gi]
theorem Uj : ∀ {m : List As}, (∀ s ∈ m, (Eg s).isSome = true) → m = (Gi m).map (fun t => t.tree.text) ∧ smallL (Gi m) ∧ m.map Eg = ((Gi m).map Ty.tree).map some
 | [], _ => ⟨rfl, (fun t h => by cases h), rfl⟩
 | s :: m, h => by
  obtain ⟨h1, h2, h3⟩ := Uj (m := m) fun x hx => h x (.tail _ hx)
  have h4 := h s (.head _)
  obtain ⟨t, h5⟩ := Option.isSome_iff_exists.1 h4; obtain ⟨a, h6, rfl, h7, h8⟩ := M1 h5; refine ⟨?_, ?_, ?_⟩
  ·simp only [Gi, List.map_cons, h6, Option.getD_some]
   rw [← h8]; congr 1
  ·intro t ht
   simp only [Gi, List.map_cons, h6, Option.getD_some] at ht
   rcases List.mem_cons.1 ht with rfl | ht
   ·exact h7
   ·exact h2 t ht
  ·simp only [Gi, List.map_cons, h6, Option.getD_some, h5]
   congr 1
theorem Aa2 {l m : List As} (h : Gd l m = true) : m = (Gi m).map (fun t => t.tree.text) ∧ smallL (Gi m) ∧ m.map Eg = ((Gi m).map Ty.tree).map some ∧ l.length = (Gi m).length ∧ l.length ≤ 8 ∧ ∀ s ∈ l, Bn s = true := by
 obtain ⟨h1, h2, h3, h4⟩ := Aa0 h; obtain ⟨h5, h6, h7⟩ := Uj h4
 exact ⟨h5, h6, h7, by rw [Tw]; exact h2, h1, by simpa using h3⟩
def N6 (l m : List As) (s : As) : Option As := if Gd l m = true then (Ei s).bind fun e => (e.ty l (Gi m)).map fun t => t.tree.text else none
theorem N7 {l m : List As} {s : As} (h : Gd l m = false ∨ Ei s = none) : N6 l m s = none := by
 unfold N6
 rcases h with h | h
 ·simp [h]
 ·simp [h]
theorem Mq {l m : List As} {s : As} {e : Ex} (h : Gd l m = true) (he : Ei s = some e) : N6 l m s = (e.ty l (Gi m)).map fun t => t.tree.text := by
 unfold N6; simp [h, he]
theorem Aa1 : Gd [] [] = true := by decide
def Ex.sub : Ex → List Ex
 | .num _ => []
 | .name _ => []
 | .bin _ a b => [a, b]
 | .ite a b c => [a, b, c]
 | .lt _ a b => [a, b]
 | .fn _ _ _ _ b => [b]
 | .un _ a => [a]
theorem Zy (e : Ex) : (Cl e.tree).length = e.sub.length := by
 cases e with
 | num s => rfl
 | name s => rfl
 | bin o a b => rw [G7]; rfl
 | un o a => rw [Lj]; rfl
 | _ => rfl
theorem Af8 (e : Ex) (j : Nat) (h : j < e.sub.length) : e.tree.pt ((Cl e.tree).getD j 0) = e.sub[j].tree := by
 cases e with
 | num s => simp [Ex.sub] at h
 | name s => simp [Ex.sub] at h
 | bin o a b =>
  simp only [G7]
  match j, h with
  | 0, _ => rfl
  | 1, _ => rfl
 | un o a =>
  simp only [Lj]
  match j, h with
  | 0, _ => rfl
 | ite a b c =>
  match j, h with
  | 0, _ => rfl
  | 1, _ => rfl
  | 2, _ => rfl
 | lt x a b =>
  match j, h with
  | 0, _ => rfl
  | 1, _ => rfl
 | fn f x s t b =>
  match j, h with
  | 0, _ => rfl
theorem Abg {e a : Ex} (h : a ∈ e.sub) : SizeOf.sizeOf a < SizeOf.sizeOf e ∧ a.size + 1 ≤ e.size ∧ (e.ok = true → a.ok = true) := by
 cases e with
 | num s => cases h
 | name s => cases h
 | bin o x y =>
  simp only [Ex.sub, List.mem_cons, List.not_mem_nil, or_false] at h
  simp only [Ex.bin.sizeOf_spec, Ex.size, Ex.ok, Bool.and_eq_true]
  rcases h with rfl | rfl
  ·exact ⟨by omega, by omega, fun h => h.1⟩
  ·exact ⟨by omega, by omega, fun h => h.2⟩
 | un o x =>
  simp only [Ex.sub, List.mem_cons, List.not_mem_nil, or_false] at h
  simp only [Ex.un.sizeOf_spec, Ex.size, Ex.ok]
  subst h
  exact ⟨by omega, by omega, fun h => h⟩
 | ite x y z =>
  simp only [Ex.sub, List.mem_cons, List.not_mem_nil, or_false] at h
  simp only [Ex.ite.sizeOf_spec, Ex.size, Ex.ok, Bool.and_eq_true]
  rcases h with rfl | rfl | rfl
  ·exact ⟨by omega, by omega, fun h => h.1.1⟩
  ·exact ⟨by omega, by omega, fun h => h.1.2⟩
  ·exact ⟨by omega, by omega, fun h => h.2⟩
 | lt x y z =>
  simp only [Ex.sub, List.mem_cons, List.not_mem_nil, or_false] at h
  simp only [Ex.lt.sizeOf_spec, Ex.size, Ex.ok, Bool.and_eq_true]
  rcases h with rfl | rfl
  ·exact ⟨by omega, by omega, fun h => h.1.2⟩
  ·exact ⟨by omega, by omega, fun h => h.2⟩
 | fn f x s t b =>
  simp only [Ex.sub, List.mem_cons, List.not_mem_nil, or_false] at h
  simp only [Ex.fn.sizeOf_spec, Ex.size, Ex.ok, Bool.and_eq_true]
  subst h
  exact ⟨by omega, by omega, fun h => h.2⟩

/- Environments of parts. -/
def Ex.inL (e : Ex) (i : Nat) (l : List As) : List As := match e with
 | .lt x _ _ => if i = 3 then l ++ [x] else l
 | .fn f x _ _ _ => l ++ [f] ++ [x]
 | _ => l
def Ex.inM (e : Ex) (i : Nat) (s0 : Ty) (m : List Ty) : List Ty := match e with
 | .lt _ _ _ => if i = 3 then m ++ [s0] else m
 | .fn _ _ s t _ => m ++ [.fn s t] ++ [s]
 | _ => m
theorem Aem (e : Ex) (i : Nat) (l : List As) : (e.inL i l).length ≤ l.length + 2 := by
 cases e with
 | lt x a b => simp only [Ex.inL]; split <;> simp
 | fn f x s t b => simp [Ex.inL]
 | _ => simp [Ex.inL]
theorem Aaz {e : Ex} {i : Nat} {s0 : Ty} {m : List Ty} (hm : smallL m) (h0 : s0.size ≤ 16) (hok : e.ok = true) (hfn : ∀ f x s t b, e = .fn f x s t b → (Ty.fn s t).size ≤ 16) : smallL (e.inM i s0 m) := by
 cases e with
 | lt x a b => simp only [Ex.inM]; split; exact hm.add h0; exact hm
 | fn f x s t b =>
  simp only [Ex.ok, Bool.and_eq_true, decide_eq_true_eq] at hok
  exact (hm.add (hfn _ _ _ _ _ rfl)).add hok.1.1.2
 | _ => exact hm
def Ex.raw (e : Ex) (ts : List Ty) (l : List As) (m : List Ty) : Option Ty := match e, ts with
 | .num _, _ => some .i
 | .name s, _ => Fg l m s
 | .bin .pair _ _, [a, b] => some (.pr a b)
 | .bin o _ _, [a, b] => o.ty a b
 | .ite _ _ _, [a, b, c] => if a = .i ∧ b = c then some b else none
 | .lt _ _ _, [_, b] => some b
 | .fn _ _ s t _, [b] => if b = t then some (.fn s t) else none
 | .un o _, [a] => o.ty a
 | _, _ => none
def Ex.fin (e : Ex) (r : Option Ty) : Except Ex Ty := match r with
 | some t => if t.size ≤ 16 then .ok t else .error e
 | none => .error e
theorem K9 {e : Ex} {t : Ty} (h : t.size ≤ 16) : e.fin (some t) = .ok t := if_pos h
def Ex.run (e : Ex) (l : List As) (m : List Ty) : List Ex → List Nat → List Ty → Except Ex (List Ty)
 | a :: more, k :: ks, ts => match a.chk (e.inL k l) (e.inM k (ts.getD 0 .i) m) with
  | .ok t => e.run l m more ks (ts ++ [t])
  | .error x => .error x
 | _, _, ts => .ok ts
def Ex.runs (e : Ex) (l : List As) (m : List Ty) : Except Ex (List Ty) := e.run l m e.sub (Cl e.tree) []
def Ex.funOk : Ex → Bool
 | .fn _ _ s t _ => decide ((Ty.fn s t).size ≤ 16)
 | _ => true
theorem Ads {e : Ex} {l : List As} {m : List Ty} {ts : List Ty} {i : Nat} (hi : i < e.sub.length) : e.run l m (e.sub.drop i) ((Cl e.tree).drop i) ts =
  match e.sub[i].chk (e.inL ((Cl e.tree).getD i 0) l) (e.inM ((Cl e.tree).getD i 0) (ts.getD 0 .i) m) with
  | .ok t => e.run l m (e.sub.drop (i + 1)) ((Cl e.tree).drop (i + 1)) (ts ++ [t])
  | .error x => .error x := by
 have h2 : i < (Cl e.tree).length := by rw [Zy]; exact hi
 rw [List.drop_eq_getElem_cons hi, List.drop_eq_getElem_cons h2, show (Cl e.tree).getD i 0 = (Cl e.tree)[i] by simp [h2]]
 rfl
theorem Aey {e : Ex} {l : List As} {m : List Ty} {ts : List Ty} {i : Nat} (hi : e.sub.length ≤ i) : e.run l m (e.sub.drop i) ((Cl e.tree).drop i) ts = .ok ts := by
 rw [List.drop_eq_nil_of_le hi]; rfl
theorem B5.raw_ty {o : B5} {a b : Ex} {s t : Ty} {l : List As} {m : List Ty} (hs : s.size ≤ 16) : (match o.ty s t with | some u => Except.ok u | none => Except.error (Ex.bin o a b)) = (Ex.bin o a b).fin ((Ex.bin o a b).raw [s, t] l m) := by
 have key : ∀ r, o.ty s t = r → (Ex.bin o a b).raw [s, t] l m = r → (match o.ty s t with | some u => Except.ok u | none => .error (.bin o a b)) = (Ex.bin o a b).fin ((Ex.bin o a b).raw [s, t] l m) := by
  intro r h1 h2; rw [h2, h1]
  cases r with
  | none => rfl
  | some u => exact (K9 (B5.ty_small hs h1)).symm
 cases o with
 | pair =>
  simp only [B5.ty, Ex.raw, Ex.fin]
  by_cases h : (Ty.pr s t).size ≤ 16 <;> simp [h]
 | _ => exact key _ rfl rfl
theorem Ab3 {e : Ex} {l : List As} {m : List Ty} (hok : e.ok = true) (hm : smallL m) (hf : e.funOk = true) : e.chk l m = match e.runs l m with | .ok ts => e.fin (e.raw ts l m) | .error x => .error x := by
 cases e with
 | num s => simp [Ex.runs, Ex.sub, Ex.run, Ex.chk, Ex.raw, Ex.fin, Ty.size]
 | name s =>
  simp only [Ex.runs, Ex.sub, Ex.run, Ex.chk, Ex.raw]
  cases ht : Fg l m s with
  | none => rfl
  | some t => exact (K9 (Lu hm ht)).symm
 | bin o a b =>
  simp only [Ex.ok, Bool.and_eq_true] at hok
  simp only [Ex.runs, Ex.sub, G7, Ex.run, Ex.chk, Ex.inL, Ex.inM]
  cases ha : a.chk l m with
  | error x => rfl
  | ok s =>
   simp only []
   cases hb : b.chk l m with
   | error x => rfl
   | ok t => exact B5.raw_ty (Ex.chk_small hok.1 hm ha)
 | un o a =>
  simp only [Ex.ok] at hok
  simp only [Ex.runs, Ex.sub, Lj, Ex.run, Ex.chk, Ex.inL, Ex.inM]
  cases ha : a.chk l m with
  | error x => rfl
  | ok s =>
   simp only [List.nil_append, Ex.raw]
   cases h : o.ty s with
   | none => rfl
   | some u => exact (K9 (U2.ty_small (Ex.chk_small hok hm ha) h)).symm
 | ite a b d =>
  simp only [Ex.ok, Bool.and_eq_true] at hok
  simp only [Ex.runs, Ex.sub, Ov, Ex.run, Ex.chk, Ex.inL, Ex.inM]
  cases ha : a.chk l m with
  | error x => rfl
  | ok s =>
   simp only []
   cases hb : b.chk l m with
   | error x => rfl
   | ok t =>
    simp only []
    cases hd : d.chk l m with
    | error x => rfl
    | ok u =>
     simp only [List.nil_append, List.cons_append, Ex.raw]
     by_cases h : s = .i ∧ t = u
     ·rw [if_pos h, if_pos h, K9 (Ex.chk_small hok.1.2 hm hb)]
     ·rw [if_neg h, if_neg h]; rfl
 | lt x a b =>
  simp only [Ex.ok, Bool.and_eq_true] at hok
  simp only [Ex.runs, Ex.sub, Ox, Ex.run, Ex.chk, Ex.inL, Ex.inM]
  rw [if_neg (show ¬ (2 : Nat) = 3 by decide), if_neg (show ¬ (2 : Nat) = 3 by decide)]
  cases ha : a.chk l m with
  | error x => rfl
  | ok s =>
   simp only [List.nil_append, if_true, List.getD_cons_zero]
   cases hb : b.chk (l ++ [x]) (m ++ [s]) with
   | error x => rfl
   | ok t => exact (K9 (Ex.chk_small hok.2 (hm.add (Ex.chk_small hok.1.2 hm ha)) hb)).symm
 | fn f x s t b =>
  have hz : (Ty.fn s t).size ≤ 16 := by simpa [Ex.funOk] using hf
  simp only [Ex.runs, Ex.sub, Ou, Ex.run, Ex.chk, Ex.inL, Ex.inM, hz, if_true]
  rw [show l ++ [f] ++ [x] = l ++ [f, x] by simp, show m ++ [Ty.fn s t] ++ [s] = m ++ [Ty.fn s t, s] by simp]
  cases hb : b.chk (l ++ [f, x]) (m ++ [.fn s t, s]) with
  | error x => rfl
  | ok u =>
   simp only [List.nil_append, Ex.raw]
   by_cases h : u = t
   ·rw [if_pos h, if_pos h, K9 hz]
   ·rw [if_neg h, if_neg h]; rfl
theorem Ad5 {e : Ex} {l : List As} {m : List Ty} (hf : e.funOk = false) : e.chk l m = .error e := by
 cases e with
 | fn f x s t b =>
  have hz : ¬ (Ty.fn s t).size ≤ 16 := by simpa [Ex.funOk] using hf
  simp only [Ex.chk, if_neg hz]
 | _ => cases hf
theorem Ach {e : Ex} (h : e.funOk = true) : ∀ f x s t b, e = .fn f x s t b → (Ty.fn s t).size ≤ 16 := by
 rintro f x s t b rfl; simpa [Ex.funOk] using h
theorem Abc {e : Ex} {ts : List Ty} {l : List As} {m : List Ty} {t : Ty} (hts : smallL ts) (hm : smallL m) (hfn : ∀ f x s t b, e = .fn f x s t b → (Ty.fn s t).size ≤ 16) (h : e.raw ts l m = some t) : t.size ≤ 33 := by
 unfold Ex.raw at h
 split at h
 ·cases h; decide
 ·have := Lu hm h; omega
 ·cases h
  have h1 := hts _ (.head _); have h2 := hts _ (.tail _ (.head _))
  simp only [Ty.size]; omega
 ·have := B5.ty_small (hts _ (.head _)) h; omega
 ·split at h
  ·cases h; have := hts _ (.tail _ (.head _)); omega
  ·cases h
 ·cases h; have := hts _ (.tail _ (.head _)); omega
 ·split at h
  ·cases h; have := hfn _ _ _ _ _ rfl; omega
  ·cases h
 ·have := U2.ty_small (hts _ (.head _)) h; omega
 ·cases h
end Go.Proofs.YtmfagaajiakgoaaGreatDoor
