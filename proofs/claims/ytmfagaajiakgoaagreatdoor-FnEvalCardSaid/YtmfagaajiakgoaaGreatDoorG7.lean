/- Names that stand free. No conditions. -/
import Derived.Test.YtmfagaajiakgoaaGreatDoorG6

namespace Go.Proofs.YtmfagaajiakgoaaGreatDoor
set_option maxRecDepth 100000
set_option linter.unusedVariables false
set_option linter.unusedSimpArgs false

def Ex.binds : Ex → Nat → List Au
 | .lt x _ _, i => if i = 3 then [x] else []
 | .fn f x _ _ _, i => if i = 5 then [f, x] else []
 | _, _ => []
theorem Ex.shapes (e : Ex) (h : e.bare = false) : (∃ o a b, e = .bin o a b) ∨ (∃ a b c, e = .ite a b c) ∨ (∃ x a b, e = .lt x a b) ∨ (∃ f x s t b, e = .fn f x s t b) ∨ (∃ o a, e = .un o a) := by
 cases e with
 | num s => cases h
 | name s => cases h
 | bin o a b => exact .inl ⟨o, a, b, rfl⟩
 | ite a b c => exact .inr (.inl ⟨a, b, c, rfl⟩)
 | lt x a b => exact .inr (.inr (.inl ⟨x, a, b, rfl⟩))
 | fn f x s t b => exact .inr (.inr (.inr (.inl ⟨f, x, s, t, b, rfl⟩)))
 | un o a => exact .inr (.inr (.inr (.inr ⟨o, a, rfl⟩)))
def lbl : List Au → Bool := fun l => l.all fun s => decide (s.length ≤ Be)
theorem Hu {I : Heap} {b : Nat} {x : Au} {e : TypeId} (hle : HLe I (I.set b (.cells [.string (str x)].toArray e (0, 0)))) (hx : x.length ≤ Be) : Strs (I.set b (.cells [.string (str x)].toArray e (0, 0))) (some ⟨b, 0, none⟩) [x] 1 :=
 ⟨fun y hy => by cases hy; exact Bi (xs := [x].map sv) (ys := []), by simp, by simp, by simp [Be], by simpa using hx⟩
theorem Pj {I : Heap} {b : Nat} {x y : Au} {e : TypeId} (hle : HLe I (I.set b (.cells [.string (str x), .string (str y)].toArray e (0, 0)))) (hx : x.length ≤ Be) (hy : y.length ≤ Be) : Strs (I.set b (.cells [.string (str x), .string (str y)].toArray e (0, 0))) (some ⟨b, 0, none⟩) [x, y] 2 :=
 ⟨fun z hz => by cases hz; exact Bi (xs := [x, y].map sv) (ys := []), by simp, by simp, by simp [Be], by simpa using ⟨hx, hy⟩⟩
theorem Wa (I : Heap) : Strs I none [] 0 := ⟨by simp, by simp, by simp, by simp [Be], by simp⟩
theorem Ex.name_len {x : Au} (h : Cb x = true) : x.length ≤ Be := by have := Fz h; unfold Be; omega

theorem C4 {I : Heap} {e : Ex} {cs : List Value} (h : Rep I e.tree cs) (hok : e.ok = true) (i : Nat) (L : Bm) : Fun Tryz.prog 133 [.agg cs.toArray, .int .i64 (i : Nat)] I L (SS (e.binds i) L) := by
 obtain ⟨oa, c, oaf, cf, rfl, hf⟩ := h.at'; refine Ap Af ?_; refine Se rfl ?_; refine Cg rfl rfl .free rfl ?_; intro b2; refine Oa rfl (Aa (Ah (Aq (Se rfl ?_)))); refine A8 rfl .free rfl ?_; refine Ca rfl (Bq hf.rep _) ?_; rintro _ _ _ _ ⟨rfl, rfl, rfl⟩; refine Od rfl rfl rfl (Om rfl ?_)
 apply Cp 9 12 rfl
 ·intro g1_4 hk
  try simp only [nb] at g1_4
  refine Ow rfl ?_; refine Dq rfl rfl rfl (.met rfl rfl) rfl ?_; refine Ot rfl rfl ?_
  exact Av 2 rfl rfl hk
 ·intro _ hk; refine A0 2 rfl ?_; refine Of rfl rfl ?_
  exact Av 2 rfl rfl hk
 refine Oa rfl (Aa ?_); refine Ay rfl ?_ ?_
 ·intro c0
  try simp only [nb] at c0
  obtain ⟨x, a, b, rfl⟩ := Ex.of_let c0.1; obtain rfl : i = 3 := by omega
  simp only [Ex.ok, Bool.and_eq_true] at hok
  have hlen : (Ex.lt x a b).tree.parts.length = 4 := rfl
  have hx : ((Ex.lt x a b).tree.pt 1).atom.length ≤ Be := Ex.name_len hok.1.1
  refine Se rfl (Oh rfl ?_); refine A4 rfl .free rfl ?_
  first | refine Ba rfl rfl 1 rfl .free rfl ?_ | refine Bb rfl rfl 1 rfl .free rfl ?_
  refine Bj rfl .free rfl ?_; refine Gj rfl .free rfl ?_; refine Ol rfl rfl ?_; intro b18; refine Oa rfl (Aa ?_); refine Bn ?_; intro hz; refine Ak (.tmp rfl .nil) ?_
  exact ⟨_, L, hz, Bt, some ⟨b18, 0, none⟩, 1, rfl, Hu hz hx, rfl⟩
 intro c0
 try simp only [nb] at c0
 refine Se rfl ?_; refine A8 rfl .free rfl ?_; refine Ca rfl (Bq hf.rep _) ?_; rintro _ _ _ _ ⟨rfl, rfl, rfl⟩; refine Od rfl rfl rfl (Om rfl ?_)
 apply Cp 23 26 rfl
 ·intro g3_4 hk
  try simp only [nb] at g3_4
  refine Ow rfl ?_; refine Dq rfl rfl rfl (.met rfl rfl) rfl ?_; refine Ot rfl rfl ?_
  exact Av 2 rfl rfl hk
 ·intro _ hk; refine A0 2 rfl ?_; refine Of rfl rfl ?_
  exact Av 2 rfl rfl hk
 refine Oa rfl (Aa ?_); refine Ay rfl ?_ ?_
 ·intro c1
  try simp only [nb] at c1
  obtain ⟨f, x, s, t, b, rfl⟩ := Ex.of_fun c1.1; obtain rfl : i = 5 := by omega
  simp only [Ex.ok, Bool.and_eq_true] at hok
  have hlen : (Ex.fn f x s t b).tree.parts.length = 6 := rfl
  have hx1 : ((Ex.fn f x s t b).tree.pt 1).atom.length ≤ Be := Ex.name_len hok.1.1.1.1.1
  have hx2 : ((Ex.fn f x s t b).tree.pt 2).atom.length ≤ Be := Ex.name_len hok.1.1.1.1.2
  refine Ah ?_; refine D6 12 rfl rfl ?_; refine Da 0 rfl (Ao rfl) ?_; refine Dt 1 [12] rfl (By rfl) ?_
  first | refine Da 2 rfl (Br rfl rfl 1 rfl) ?_ | refine Da 2 rfl (Bs rfl rfl 1 rfl) ?_
  refine Da 3 rfl (Bf rfl) ?_; refine Dt 4 [12] rfl (Ki rfl) ?_; refine Da 5 rfl (Ao rfl) ?_; refine Dt 6 [12] rfl (By rfl) ?_
  first | refine Da 7 rfl (Br rfl rfl 2 rfl) ?_ | refine Da 7 rfl (Bs rfl rfl 2 rfl) ?_
  refine Da 8 rfl (Bf rfl) ?_; refine Dt 9 [12] rfl (Ki rfl) ?_; refine Fy 10 rfl Ac rfl rfl rfl Ae Ae Ae Ad Ad Ae .free rfl (.inr At) ?_; intro b37; refine Da 11 rfl (A5 rfl) ?_; refine Aw Ac ?_; refine Bn ?_; intro hz; refine Ak (.tmp rfl .nil) ?_
  exact ⟨_, L, hz, Bt, some ⟨b37, 0, none⟩, 2, rfl, Pj hz hx1 hx2, rfl⟩
 intro c1
 try simp only [nb] at c1
 refine Aj (Ar (Se rfl (Oa rfl (Aa (Ak (.tmp rfl .nil) ?_)))))
 have hb : e.binds i = [] := by
  cases e with
  | lt x a b => exact if_neg fun hi => by rcases c0 with h | h; exact h rfl; omega
  | fn f x s t b => exact if_neg fun hi => by rcases c1 with h | h; exact h rfl; omega
  | _ => rfl
 exact ⟨I, L, .refl _, Bt, none, 0, by rw [hb]; rfl, by rw [hb]; exact Wa I, rfl⟩

theorem Ex.binds_le (e : Ex) (i : Nat) : (e.binds i).length ≤ 2 := by
 cases e with
 | lt x a b => simp only [Ex.binds]; split <;> simp
 | fn f x s t b => simp only [Ex.binds]; split <;> simp
 | _ => simp [Ex.binds]
theorem Ex.binds_room {bd : List Au} {e : Ex} {i k : Nat} (h : bd.length + 2 + k ≤ 4294967296) : (bd ++ e.binds i).length + k ≤ Be := by
 have := e.binds_le i; rw [List.length_append]; unfold Be; omega
theorem Ex.binds_room0 {bd : List Au} {e : Ex} {i : Nat} (h : bd.length + 2 ≤ 4294967296) : bd.length + (e.binds i).length ≤ Be := by
 have := e.binds_le i; unfold Be; omega
structure Z3 (P : Program) (kf : FuncId) (cap : List Value) (X : Type) (own : X → Bm) (R : X → List Au → Heap → Prop) : Prop where
 tell : ∀ x seen s I L, R x seen I → Cb s = true → seen.length < 4294967296 → Fun P kf (.string (str s) :: cap) I (own x ++ L) (fun v I' L' => v = .tuple #[] ∧ ∃ y, R y (seen ++ [s]) I' ∧ L' = own y ++ L)
 mono : ∀ x seen I I', HLe I I' → R x seen I → R x seen I'
theorem Mem.w1 {I : Heap} {a : Nat × Obj} {X L : Bm} {w : World} (h : Mem I (X ++ a :: L) w) : Mem I (a :: (X ++ L)) w := h.perm List.perm_middle
theorem Ex.size_pos (e : Ex) : 1 ≤ e.size := by cases e <;> simp [Ex.size] <;> omega
theorem Ex.occ_len : ∀ (e : Ex) (bd : List Au), (e.occ bd).length ≤ e.size
 | .num s, bd => Nat.zero_le _
 | .name s, bd => by simp only [Ex.occ]; split <;> simp [Ex.size]
 | .bin o a b, bd => by have := a.occ_len bd; have := b.occ_len bd; simp [Ex.occ, Ex.size]; omega
 | .ite a b c, bd => by have := a.occ_len bd; have := b.occ_len bd; have := c.occ_len bd; simp [Ex.occ, Ex.size]; omega
 | .lt x a b, bd => by have := a.occ_len bd; have := b.occ_len (bd ++ [x]); simp [Ex.occ, Ex.size]; omega
 | .fn f x s t b, bd => by have := b.occ_len (bd ++ [f, x]); simp [Ex.occ, Ex.size]; omega
 | .un o a, bd => by have := a.occ_len bd; simp [Ex.occ, Ex.size]; omega
theorem Ex.occ_room {seen bd : List Au} {e : Ex} {k n : Nat} (h : seen.length + (e.size + k) ≤ n) : (seen ++ e.occ bd).length + k ≤ n := by
 have := e.occ_len bd; rw [List.length_append]; omega
theorem Ex.occ_room2 {seen bd bd' : List Au} {e e' : Ex} {k n : Nat} (h : seen.length + (e.size + (e'.size + k)) ≤ n) : (seen ++ e.occ bd ++ e'.occ bd').length + k ≤ n := Ex.occ_room (Ex.occ_room h)
def TP {X : Type} (own : X → Bm) (R : X → List Au → Heap → Prop) (seen : List Au) (L : Bm) : C2 := fun v I' L' => v = .tuple #[] ∧ ∃ y, R y seen I' ∧ L' = own y ++ L
theorem U9          {kf : FuncId} {cap : List Value} {X : Type} {own : X → Bm } {R : X → List Au  → Heap → Prop} {c0 : Code} {m0' : Nat} {rs0 : List ResultVar} [hfi : Bv   Tryz.prog kf c0 m0' rs0] (T : Z3     Tryz.prog kf cap X own R) :
    ∀ (n : Nat) {I : Heap} {e : Ex} {cs : List Value} (_ : SizeOf.sizeOf e < n) (_ : Rep I e.tree cs) (_ : e.ok = true) {bd : List Au } {ob : Option Addr} {cb : Nat} (_ : Strs I ob bd cb) (_ : bd.length + 2 * e.size ≤ Be  ) (x : X) (seen : List Au ) (_ : seen.length + e.size ≤ 4294967296) (_ : R x seen I) (L : Bm ),
    Fun Tryz.prog 126 [.agg cs.toArray, .slice ob bd.length cb, .func (.func kf) #[] cap.toArray] I (own x ++ L) (TP own R (seen ++ e.occ bd) L) := by
  intro n
  induction n with
  | zero => intro I e cs h; omega
  | succ n ihn =>
    intro I e cs hlt h hok bd ob cb hbd hbl x seen hsl hx L
    obtain ⟨oa, c, oaf, cf, rfl, hf⟩ := h.at'
    have ha := hf.alen
    unfold Be   at hbl
    refine Ap        (by simp) ?_
    refine Se rfl ?_
    refine Cg    rfl rfl .free rfl ?_
    intro b3
    refine Aa     (Ah    (Se rfl ?_))
    refine A8    rfl .free rfl ?_
    refine Ca rfl (B8            hf.rep _) ?_
    rintro _ _ _ _ ⟨rfl, rfl, rfl⟩
    refine Aa     ?_
    refine Ay     rfl ?_ ?_
    · intro c0
      try simp only [nb] at c0
      have hb : e.bare = true := by rw [Ex.bare_parts]; exact c0
      refine Ah    (Se rfl (Oh rfl ?_))
      refine A4    rfl .free rfl ?_
      refine Ca rfl (Jq       e.tree.atom ha _ _) ?_
      rintro _ _ _ _ ⟨rfl, rfl, rfl⟩
      refine Om rfl ?_
      apply Cp    13 19 rfl
      · intro g2_4 hk
        try simp only [nb] at g2_4
        refine Ow rfl ?_
        refine A2          rfl (.met rfl rfl) rfl ?_
        refine A4    rfl (.met rfl rfl) rfl ?_
        refine Cq     rfl (.met rfl rfl) rfl (Dd                (hbd.rd _) cb e.tree.atom) ?_
        rintro _ _ _ _ ⟨rfl, rfl, rfl⟩
        refine C6    rfl (.met rfl rfl) rfl ?_
        refine Ot rfl rfl ?_
        exact Av    5 rfl rfl hk
      · intro _ hk
        refine A0      5 rfl ?_
        refine Of rfl rfl ?_
        exact Av    5 rfl rfl hk
      refine Aa     ?_
      refine Ay     rfl ?_ ?_
      · intro c1
        try simp only [nb] at c1
        have hnm := c1.1
        have hem : e = .name e.tree.atom := by
          cases e with
          | num s => have h1 : Cc    s = true := hok; have h2 := Gf           hnm; rw [show (Ex.num s).tree.atom = s from rfl, h1] at h2; cases h2
          | name s => rfl
          | _ => cases hb
        have hoc : e.occ bd = [e.tree.atom] := by
          have h2 := c1.2
          rw [hem]; simp only [Ex.occ]
          rw [if_neg (by simpa using h2)]
          rfl
        refine Al      rfl (Om rfl (Oh rfl ?_))
        refine A4    rfl .free rfl ?_
        refine En    (fun w h => h.u1) ?_
        refine Acz     rfl rfl .free rfl (T.tell x seen e.tree.atom _ _ hx hnm (by have := e.size_pos; omega)) ?_
        rintro _ J _ e1 ⟨rfl, y, hy, rfl⟩
        refine Aa     ?_
        refine Ak    .nil ?_
        first
          | exact ⟨J, _, e1, fun w h => h.w1.drop, rfl, y, by rw [hoc]; exact hy, rfl⟩
          | (have hoc : e.occ bd = [] := by
               cases e with
               | num s => rfl
               | name s =>
                 simp only [Ex.occ]
                 rw [if_pos]
                 rcases c1 with h | h
                 · rw [show (Ex.name s).tree.atom = s from rfl, show Cb     s = true from hok] at h; cases h
                 · exact h
               | _ => cases hb
             exact ⟨I, _, .refl _, fun w h => h.drop, rfl, x, by rw [hoc, List.append_nil]; exact hx, rfl⟩)
      intro c1
      try simp only [nb] at c1
      refine Aj     ?_
      refine Ak    .nil ?_
      first
        | exact ⟨J, _, e1, fun w h => h.w1.drop, rfl, y, by rw [hoc]; exact hy, rfl⟩
        | (have hoc : e.occ bd = [] := by
             cases e with
             | num s => rfl
             | name s =>
               simp only [Ex.occ]
               rw [if_pos]
               rcases c1 with h | h
               · rw [show (Ex.name s).tree.atom = s from rfl, show Cb     s = true from hok] at h; cases h
               · exact h
             | _ => cases hb
           exact ⟨I, _, .refl _, fun w h => h.drop, rfl, x, by rw [hoc, List.append_nil]; exact hx, rfl⟩)
    intro c0
    try simp only [nb] at c0
    have hb : e.bare = false := by rw [Ex.bare_parts]; exact c0
    have hsh := e.shapes hb
    refine Aj     (Ah    ?_)
    rcases hsh with ⟨o, a, b, rfl⟩ | ⟨a, b, d, rfl⟩ | ⟨z, a, b, rfl⟩ | ⟨g, z, s, t, b, rfl⟩ | ⟨o, a, rfl⟩
    · skip
      refine Al      rfl ?_
      refine A8    rfl .free rfl ?_
      refine Ca rfl (E0          hf.rep _) ?_
      rintro _ J _ e0 ⟨ok, ck, rfl, hk, rfl⟩
      have hf := hf.mono e0
      have hbd := hbd.mono e0
      have hx := T.mono _ _ _ _ e0 hx
      have hle := e0
      have hok0 := hok
      simp only [Ex.ok, Bool.and_eq_true] at hok
      rw [Ny      ] at hk
      rw [Ny      ]
      have hlen : (Ex.bin o a b).tree.parts.length = 3 := rfl
      have hkl : [1, 2].length = 2 := rfl
      simp only [Ex.bin.sizeOf_spec] at hlt
      simp only [Ex.size] at hbl hsl
      refine On rfl (Om rfl (Aa     (Aq      ?_)))
      refine Ec     ?_
      refine Se rfl (Oc rfl rfl rfl (Aa     (Ah    ?_)))
      refine Cj      rfl (by first | rfl | decide | (simp; done) | omega) ?_
      refine Aj     (Ah    (Aq      (Se rfl ?_)))
      first | refine Ba    rfl rfl _ rfl .free rfl ?_ | refine Bb    rfl rfl _ rfl .free rfl ?_
      refine Ev    rfl .free rfl ?_
      refine Oa rfl (Aa     ?_)
      refine Tg  13 rfl rfl ?_
      refine Da 0 rfl (Ao          rfl) ?_
      refine Dt 1 [13] rfl (By    rfl) ?_
      refine Da 2 rfl (Am     rfl) ?_
      first | refine Da 3 rfl (Br    rfl rfl _ rfl) ?_ | refine Da 3 rfl (Bs    rfl rfl _ rfl) ?_
      refine Dt 4 [13] rfl (Bx    rfl) ?_
      refine Da 5 rfl (Am     rfl) ?_
      refine Dt 6 [13] rfl (C7    rfl) ?_
      refine Da 7 rfl (Am     rfl) ?_
      refine Da 11 rfl (Am     rfl) ?_
      refine Dc 8 rfl rfl (C4           hf.rep hok0 _ _) ?_
      rintro _ J1 _ e1 ⟨o1, k1, rfl, hs1, rfl⟩
      refine Hx ?_
      refine Fy     9 rfl (by kernel_rfl) rfl rfl rfl (by rfl) (by rfl) (by rfl) (by decide) (by decide) (by rfl) .free rfl (.inr At   ) ?_
      intro b40
      refine Ed       ?_
      intro hz
      have e2 := e1.trans hz
      refine Dc 10 rfl rfl (Ee              (Bi        (xs := [.slice ob bd.length cb, .slice o1 (List.length _) k1]) (ys := [])) (hbd.mono e2) (hs1.mono hz) (Ex.binds_room0 (by omega)) _) ?_
      rintro _ J3 _ e3 ⟨o3, k3, rfl, hs3, rfl⟩
      have e4 := e2.trans e3
      have hf3 := hf.mono e4
      have hx3 := T.mono _ _ _ _ e4 hx
      refine Hx ?_
      refine Df    (fun w h => h.u1) ?_
      refine Dc 12 rfl rfl (ihn (by omega) (hf3.as 1 a.tree (by omega) rfl) hok.1 hs3 (Ex.binds_room (by omega)) _ _ (by omega) hx3 _) ?_
      rintro _ J4 _ e5 ⟨rfl, x, hx, rfl⟩
      have e6 := e4.trans e5
      refine Hx ?_
      refine Df    (fun w h => h.w1) ?_
      have hf := hf.mono e6
      have hbd := hbd.mono e6
      have hle := hle.trans e6
      have hk := hk.mono e6
      refine Aw     (by kernel_rfl) ?_
      refine Ar        (Al      rfl ?_)
      refine Or rfl rfl rfl ?_
      refine Om rfl (Aa     ?_)
      refine Ce      ?_
      refine Se rfl (Oc rfl rfl rfl (Aa     (Ah    ?_)))
      refine Cj      rfl (by first | rfl | decide | (simp; done) | omega) ?_
      refine Aj     (Ah    (Aq      (Se rfl ?_)))
      first | refine Ba    rfl rfl _ rfl .free rfl ?_ | refine Bb    rfl rfl _ rfl .free rfl ?_
      refine Ev    rfl .free rfl ?_
      refine Oa rfl (Aa     ?_)
      refine Tg  13 rfl rfl ?_
      refine Da 0 rfl (Ao          rfl) ?_
      refine Dt 1 [13] rfl (By    rfl) ?_
      refine Da 2 rfl (Am     rfl) ?_
      first | refine Da 3 rfl (Br    rfl rfl _ rfl) ?_ | refine Da 3 rfl (Bs    rfl rfl _ rfl) ?_
      refine Dt 4 [13] rfl (Bx    rfl) ?_
      refine Da 5 rfl (Am     rfl) ?_
      refine Dt 6 [13] rfl (C7    rfl) ?_
      refine Da 7 rfl (Am     rfl) ?_
      refine Da 11 rfl (Am     rfl) ?_
      refine Dc 8 rfl rfl (C4           hf.rep hok0 _ _) ?_
      rintro _ J1 _ e1 ⟨o1, k1, rfl, hs1, rfl⟩
      refine Hx ?_
      refine Fy     9 rfl (by kernel_rfl) rfl rfl rfl (by rfl) (by rfl) (by rfl) (by decide) (by decide) (by rfl) .free rfl (.inr At   ) ?_
      intro b40
      refine Ed       ?_
      intro hz
      have e2 := e1.trans hz
      refine Dc 10 rfl rfl (Ee              (Bi        (xs := [.slice ob bd.length cb, .slice o1 (List.length _) k1]) (ys := [])) (hbd.mono e2) (hs1.mono hz) (Ex.binds_room0 (by omega)) _) ?_
      rintro _ J3 _ e3 ⟨o3, k3, rfl, hs3, rfl⟩
      have e4 := e2.trans e3
      have hf3 := hf.mono e4
      have hx3 := T.mono _ _ _ _ e4 hx
      refine Hx ?_
      refine Df    (fun w h => h.u1) ?_
      refine Dc 12 rfl rfl (ihn (by omega) (hf3.as 2 b.tree (by omega) rfl) hok.2 hs3 (Ex.binds_room (by omega)) _ _ (Ex.occ_room (by omega)) hx3 _) ?_
      rintro _ J4 _ e5 ⟨rfl, x, hx, rfl⟩
      have e6 := e4.trans e5
      refine Hx ?_
      refine Df    (fun w h => h.w1) ?_
      have hf := hf.mono e6
      have hbd := hbd.mono e6
      have hle := hle.trans e6
      have hk := hk.mono e6
      refine Aw     (by kernel_rfl) ?_
      refine Ar        (Al      rfl ?_)
      refine Or rfl rfl rfl ?_
      refine Om rfl (Aa     ?_)
      refine Ce      ?_
      refine Se rfl (Oc rfl rfl rfl (Aa     (Ah    ?_)))
      refine Dh      rfl (by first | rfl | decide | (simp; done) | omega) ?_
      refine Cd     rfl ?_
      refine Kg    .nil ?_
      exact ⟨_, _, hle, fun w h => h.drop, rfl, x, by simpa [Ex.occ, Ex.binds] using hx, rfl⟩
    · skip
      refine Al      rfl ?_
      refine A8    rfl .free rfl ?_
      refine Ca rfl (E0          hf.rep _) ?_
      rintro _ J _ e0 ⟨ok, ck, rfl, hk, rfl⟩
      have hf := hf.mono e0
      have hbd := hbd.mono e0
      have hx := T.mono _ _ _ _ e0 hx
      have hle := e0
      have hok0 := hok
      simp only [Ex.ok, Bool.and_eq_true] at hok
      rw [N0      ] at hk
      rw [N0      ]
      have hlen : (Ex.ite a b d).tree.parts.length = 4 := rfl
      have hkl : [1, 2, 3].length = 3 := rfl
      simp only [Ex.ite.sizeOf_spec] at hlt
      simp only [Ex.size] at hbl hsl
      refine On rfl (Om rfl (Aa     (Aq      ?_)))
      refine Ec     ?_
      refine Se rfl (Oc rfl rfl rfl (Aa     (Ah    ?_)))
      refine Cj      rfl (by first | rfl | decide | (simp; done) | omega) ?_
      refine Aj     (Ah    (Aq      (Se rfl ?_)))
      first | refine Ba    rfl rfl _ rfl .free rfl ?_ | refine Bb    rfl rfl _ rfl .free rfl ?_
      refine Ev    rfl .free rfl ?_
      refine Oa rfl (Aa     ?_)
      refine Tg  13 rfl rfl ?_
      refine Da 0 rfl (Ao          rfl) ?_
      refine Dt 1 [13] rfl (By    rfl) ?_
      refine Da 2 rfl (Am     rfl) ?_
      first | refine Da 3 rfl (Br    rfl rfl _ rfl) ?_ | refine Da 3 rfl (Bs    rfl rfl _ rfl) ?_
      refine Dt 4 [13] rfl (Bx    rfl) ?_
      refine Da 5 rfl (Am     rfl) ?_
      refine Dt 6 [13] rfl (C7    rfl) ?_
      refine Da 7 rfl (Am     rfl) ?_
      refine Da 11 rfl (Am     rfl) ?_
      refine Dc 8 rfl rfl (C4           hf.rep hok0 _ _) ?_
      rintro _ J1 _ e1 ⟨o1, k1, rfl, hs1, rfl⟩
      refine Hx ?_
      refine Fy     9 rfl (by kernel_rfl) rfl rfl rfl (by rfl) (by rfl) (by rfl) (by decide) (by decide) (by rfl) .free rfl (.inr At   ) ?_
      intro b40
      refine Ed       ?_
      intro hz
      have e2 := e1.trans hz
      refine Dc 10 rfl rfl (Ee              (Bi        (xs := [.slice ob bd.length cb, .slice o1 (List.length _) k1]) (ys := [])) (hbd.mono e2) (hs1.mono hz) (Ex.binds_room0 (by omega)) _) ?_
      rintro _ J3 _ e3 ⟨o3, k3, rfl, hs3, rfl⟩
      have e4 := e2.trans e3
      have hf3 := hf.mono e4
      have hx3 := T.mono _ _ _ _ e4 hx
      refine Hx ?_
      refine Df    (fun w h => h.u1) ?_
      refine Dc 12 rfl rfl (ihn (by omega) (hf3.as 1 a.tree (by omega) rfl) hok.1.1 hs3 (Ex.binds_room (by omega)) _ _ (by omega) hx3 _) ?_
      rintro _ J4 _ e5 ⟨rfl, x, hx, rfl⟩
      have e6 := e4.trans e5
      refine Hx ?_
      refine Df    (fun w h => h.w1) ?_
      have hf := hf.mono e6
      have hbd := hbd.mono e6
      have hle := hle.trans e6
      have hk := hk.mono e6
      refine Aw     (by kernel_rfl) ?_
      refine Ar        (Al      rfl ?_)
      refine Or rfl rfl rfl ?_
      refine Om rfl (Aa     ?_)
      refine Ce      ?_
      refine Se rfl (Oc rfl rfl rfl (Aa     (Ah    ?_)))
      refine Cj      rfl (by first | rfl | decide | (simp; done) | omega) ?_
      refine Aj     (Ah    (Aq      (Se rfl ?_)))
      first | refine Ba    rfl rfl _ rfl .free rfl ?_ | refine Bb    rfl rfl _ rfl .free rfl ?_
      refine Ev    rfl .free rfl ?_
      refine Oa rfl (Aa     ?_)
      refine Tg  13 rfl rfl ?_
      refine Da 0 rfl (Ao          rfl) ?_
      refine Dt 1 [13] rfl (By    rfl) ?_
      refine Da 2 rfl (Am     rfl) ?_
      first | refine Da 3 rfl (Br    rfl rfl _ rfl) ?_ | refine Da 3 rfl (Bs    rfl rfl _ rfl) ?_
      refine Dt 4 [13] rfl (Bx    rfl) ?_
      refine Da 5 rfl (Am     rfl) ?_
      refine Dt 6 [13] rfl (C7    rfl) ?_
      refine Da 7 rfl (Am     rfl) ?_
      refine Da 11 rfl (Am     rfl) ?_
      refine Dc 8 rfl rfl (C4           hf.rep hok0 _ _) ?_
      rintro _ J1 _ e1 ⟨o1, k1, rfl, hs1, rfl⟩
      refine Hx ?_
      refine Fy     9 rfl (by kernel_rfl) rfl rfl rfl (by rfl) (by rfl) (by rfl) (by decide) (by decide) (by rfl) .free rfl (.inr At   ) ?_
      intro b40
      refine Ed       ?_
      intro hz
      have e2 := e1.trans hz
      refine Dc 10 rfl rfl (Ee              (Bi        (xs := [.slice ob bd.length cb, .slice o1 (List.length _) k1]) (ys := [])) (hbd.mono e2) (hs1.mono hz) (Ex.binds_room0 (by omega)) _) ?_
      rintro _ J3 _ e3 ⟨o3, k3, rfl, hs3, rfl⟩
      have e4 := e2.trans e3
      have hf3 := hf.mono e4
      have hx3 := T.mono _ _ _ _ e4 hx
      refine Hx ?_
      refine Df    (fun w h => h.u1) ?_
      refine Dc 12 rfl rfl (ihn (by omega) (hf3.as 2 b.tree (by omega) rfl) hok.1.2 hs3 (Ex.binds_room (by omega)) _ _ (Ex.occ_room (by omega)) hx3 _) ?_
      rintro _ J4 _ e5 ⟨rfl, x, hx, rfl⟩
      have e6 := e4.trans e5
      refine Hx ?_
      refine Df    (fun w h => h.w1) ?_
      have hf := hf.mono e6
      have hbd := hbd.mono e6
      have hle := hle.trans e6
      have hk := hk.mono e6
      refine Aw     (by kernel_rfl) ?_
      refine Ar        (Al      rfl ?_)
      refine Or rfl rfl rfl ?_
      refine Om rfl (Aa     ?_)
      refine Ce      ?_
      refine Se rfl (Oc rfl rfl rfl (Aa     (Ah    ?_)))
      refine Cj      rfl (by first | rfl | decide | (simp; done) | omega) ?_
      refine Aj     (Ah    (Aq      (Se rfl ?_)))
      first | refine Ba    rfl rfl _ rfl .free rfl ?_ | refine Bb    rfl rfl _ rfl .free rfl ?_
      refine Ev    rfl .free rfl ?_
      refine Oa rfl (Aa     ?_)
      refine Tg  13 rfl rfl ?_
      refine Da 0 rfl (Ao          rfl) ?_
      refine Dt 1 [13] rfl (By    rfl) ?_
      refine Da 2 rfl (Am     rfl) ?_
      first | refine Da 3 rfl (Br    rfl rfl _ rfl) ?_ | refine Da 3 rfl (Bs    rfl rfl _ rfl) ?_
      refine Dt 4 [13] rfl (Bx    rfl) ?_
      refine Da 5 rfl (Am     rfl) ?_
      refine Dt 6 [13] rfl (C7    rfl) ?_
      refine Da 7 rfl (Am     rfl) ?_
      refine Da 11 rfl (Am     rfl) ?_
      refine Dc 8 rfl rfl (C4           hf.rep hok0 _ _) ?_
      rintro _ J1 _ e1 ⟨o1, k1, rfl, hs1, rfl⟩
      refine Hx ?_
      refine Fy     9 rfl (by kernel_rfl) rfl rfl rfl (by rfl) (by rfl) (by rfl) (by decide) (by decide) (by rfl) .free rfl (.inr At   ) ?_
      intro b40
      refine Ed       ?_
      intro hz
      have e2 := e1.trans hz
      refine Dc 10 rfl rfl (Ee              (Bi        (xs := [.slice ob bd.length cb, .slice o1 (List.length _) k1]) (ys := [])) (hbd.mono e2) (hs1.mono hz) (Ex.binds_room0 (by omega)) _) ?_
      rintro _ J3 _ e3 ⟨o3, k3, rfl, hs3, rfl⟩
      have e4 := e2.trans e3
      have hf3 := hf.mono e4
      have hx3 := T.mono _ _ _ _ e4 hx
      refine Hx ?_
      refine Df    (fun w h => h.u1) ?_
      refine Dc 12 rfl rfl (ihn (by omega) (hf3.as 3 d.tree (by omega) rfl) hok.2 hs3 (Ex.binds_room (by omega)) _ _ (Ex.occ_room2 (by omega)) hx3 _) ?_
      rintro _ J4 _ e5 ⟨rfl, x, hx, rfl⟩
      have e6 := e4.trans e5
      refine Hx ?_
      refine Df    (fun w h => h.w1) ?_
      have hf := hf.mono e6
      have hbd := hbd.mono e6
      have hle := hle.trans e6
      have hk := hk.mono e6
      refine Aw     (by kernel_rfl) ?_
      refine Ar        (Al      rfl ?_)
      refine Or rfl rfl rfl ?_
      refine Om rfl (Aa     ?_)
      refine Ce      ?_
      refine Se rfl (Oc rfl rfl rfl (Aa     (Ah    ?_)))
      refine Dh      rfl (by first | rfl | decide | (simp; done) | omega) ?_
      refine Cd     rfl ?_
      refine Kg    .nil ?_
      exact ⟨_, _, hle, fun w h => h.drop, rfl, x, by simpa [Ex.occ, Ex.binds] using hx, rfl⟩
    · skip
      refine Al      rfl ?_
      refine A8    rfl .free rfl ?_
      refine Ca rfl (E0          hf.rep _) ?_
      rintro _ J _ e0 ⟨ok, ck, rfl, hk, rfl⟩
      have hf := hf.mono e0
      have hbd := hbd.mono e0
      have hx := T.mono _ _ _ _ e0 hx
      have hle := e0
      have hok0 := hok
      simp only [Ex.ok, Bool.and_eq_true] at hok
      rw [N1      ] at hk
      rw [N1      ]
      have hlen : (Ex.lt z a b).tree.parts.length = 4 := rfl
      have hkl : [2, 3].length = 2 := rfl
      simp only [Ex.lt.sizeOf_spec] at hlt
      simp only [Ex.size] at hbl hsl
      refine On rfl (Om rfl (Aa     (Aq      ?_)))
      refine Ec     ?_
      refine Se rfl (Oc rfl rfl rfl (Aa     (Ah    ?_)))
      refine Cj      rfl (by first | rfl | decide | (simp; done) | omega) ?_
      refine Aj     (Ah    (Aq      (Se rfl ?_)))
      first | refine Ba    rfl rfl _ rfl .free rfl ?_ | refine Bb    rfl rfl _ rfl .free rfl ?_
      refine Ev    rfl .free rfl ?_
      refine Oa rfl (Aa     ?_)
      refine Tg  13 rfl rfl ?_
      refine Da 0 rfl (Ao          rfl) ?_
      refine Dt 1 [13] rfl (By    rfl) ?_
      refine Da 2 rfl (Am     rfl) ?_
      first | refine Da 3 rfl (Br    rfl rfl _ rfl) ?_ | refine Da 3 rfl (Bs    rfl rfl _ rfl) ?_
      refine Dt 4 [13] rfl (Bx    rfl) ?_
      refine Da 5 rfl (Am     rfl) ?_
      refine Dt 6 [13] rfl (C7    rfl) ?_
      refine Da 7 rfl (Am     rfl) ?_
      refine Da 11 rfl (Am     rfl) ?_
      refine Dc 8 rfl rfl (C4           hf.rep hok0 _ _) ?_
      rintro _ J1 _ e1 ⟨o1, k1, rfl, hs1, rfl⟩
      refine Hx ?_
      refine Fy     9 rfl (by kernel_rfl) rfl rfl rfl (by rfl) (by rfl) (by rfl) (by decide) (by decide) (by rfl) .free rfl (.inr At   ) ?_
      intro b40
      refine Ed       ?_
      intro hz
      have e2 := e1.trans hz
      refine Dc 10 rfl rfl (Ee              (Bi        (xs := [.slice ob bd.length cb, .slice o1 (List.length _) k1]) (ys := [])) (hbd.mono e2) (hs1.mono hz) (Ex.binds_room0 (by omega)) _) ?_
      rintro _ J3 _ e3 ⟨o3, k3, rfl, hs3, rfl⟩
      have e4 := e2.trans e3
      have hf3 := hf.mono e4
      have hx3 := T.mono _ _ _ _ e4 hx
      refine Hx ?_
      refine Df    (fun w h => h.u1) ?_
      refine Dc 12 rfl rfl (ihn (by omega) (hf3.as 2 a.tree (by omega) rfl) hok.1.2 hs3 (Ex.binds_room (by omega)) _ _ (by omega) hx3 _) ?_
      rintro _ J4 _ e5 ⟨rfl, x, hx, rfl⟩
      have e6 := e4.trans e5
      refine Hx ?_
      refine Df    (fun w h => h.w1) ?_
      have hf := hf.mono e6
      have hbd := hbd.mono e6
      have hle := hle.trans e6
      have hk := hk.mono e6
      refine Aw     (by kernel_rfl) ?_
      refine Ar        (Al      rfl ?_)
      refine Or rfl rfl rfl ?_
      refine Om rfl (Aa     ?_)
      refine Ce      ?_
      refine Se rfl (Oc rfl rfl rfl (Aa     (Ah    ?_)))
      refine Cj      rfl (by first | rfl | decide | (simp; done) | omega) ?_
      refine Aj     (Ah    (Aq      (Se rfl ?_)))
      first | refine Ba    rfl rfl _ rfl .free rfl ?_ | refine Bb    rfl rfl _ rfl .free rfl ?_
      refine Ev    rfl .free rfl ?_
      refine Oa rfl (Aa     ?_)
      refine Tg  13 rfl rfl ?_
      refine Da 0 rfl (Ao          rfl) ?_
      refine Dt 1 [13] rfl (By    rfl) ?_
      refine Da 2 rfl (Am     rfl) ?_
      first | refine Da 3 rfl (Br    rfl rfl _ rfl) ?_ | refine Da 3 rfl (Bs    rfl rfl _ rfl) ?_
      refine Dt 4 [13] rfl (Bx    rfl) ?_
      refine Da 5 rfl (Am     rfl) ?_
      refine Dt 6 [13] rfl (C7    rfl) ?_
      refine Da 7 rfl (Am     rfl) ?_
      refine Da 11 rfl (Am     rfl) ?_
      refine Dc 8 rfl rfl (C4           hf.rep hok0 _ _) ?_
      rintro _ J1 _ e1 ⟨o1, k1, rfl, hs1, rfl⟩
      refine Hx ?_
      refine Fy     9 rfl (by kernel_rfl) rfl rfl rfl (by rfl) (by rfl) (by rfl) (by decide) (by decide) (by rfl) .free rfl (.inr At   ) ?_
      intro b40
      refine Ed       ?_
      intro hz
      have e2 := e1.trans hz
      refine Dc 10 rfl rfl (Ee              (Bi        (xs := [.slice ob bd.length cb, .slice o1 (List.length _) k1]) (ys := [])) (hbd.mono e2) (hs1.mono hz) (Ex.binds_room0 (by omega)) _) ?_
      rintro _ J3 _ e3 ⟨o3, k3, rfl, hs3, rfl⟩
      have e4 := e2.trans e3
      have hf3 := hf.mono e4
      have hx3 := T.mono _ _ _ _ e4 hx
      refine Hx ?_
      refine Df    (fun w h => h.u1) ?_
      refine Dc 12 rfl rfl (ihn (by omega) (hf3.as 3 b.tree (by omega) rfl) hok.2 hs3 (Ex.binds_room (by omega)) _ _ (Ex.occ_room (by omega)) hx3 _) ?_
      rintro _ J4 _ e5 ⟨rfl, x, hx, rfl⟩
      have e6 := e4.trans e5
      refine Hx ?_
      refine Df    (fun w h => h.w1) ?_
      have hf := hf.mono e6
      have hbd := hbd.mono e6
      have hle := hle.trans e6
      have hk := hk.mono e6
      refine Aw     (by kernel_rfl) ?_
      refine Ar        (Al      rfl ?_)
      refine Or rfl rfl rfl ?_
      refine Om rfl (Aa     ?_)
      refine Ce      ?_
      refine Se rfl (Oc rfl rfl rfl (Aa     (Ah    ?_)))
      refine Dh      rfl (by first | rfl | decide | (simp; done) | omega) ?_
      refine Cd     rfl ?_
      refine Kg    .nil ?_
      exact ⟨_, _, hle, fun w h => h.drop, rfl, x, by simpa [Ex.occ, Ex.binds] using hx, rfl⟩
    · skip
      refine Al      rfl ?_
      refine A8    rfl .free rfl ?_
      refine Ca rfl (E0          hf.rep _) ?_
      rintro _ J _ e0 ⟨ok, ck, rfl, hk, rfl⟩
      have hf := hf.mono e0
      have hbd := hbd.mono e0
      have hx := T.mono _ _ _ _ e0 hx
      have hle := e0
      have hok0 := hok
      simp only [Ex.ok, Bool.and_eq_true] at hok
      rw [Nz     ] at hk
      rw [Nz     ]
      have hlen : (Ex.fn g z s t b).tree.parts.length = 6 := rfl
      have hkl : [5].length = 1 := rfl
      simp only [Ex.fn.sizeOf_spec] at hlt
      simp only [Ex.size] at hbl hsl
      refine On rfl (Om rfl (Aa     (Aq      ?_)))
      refine Ec     ?_
      refine Se rfl (Oc rfl rfl rfl (Aa     (Ah    ?_)))
      refine Cj      rfl (by first | rfl | decide | (simp; done) | omega) ?_
      refine Aj     (Ah    (Aq      (Se rfl ?_)))
      first | refine Ba    rfl rfl _ rfl .free rfl ?_ | refine Bb    rfl rfl _ rfl .free rfl ?_
      refine Ev    rfl .free rfl ?_
      refine Oa rfl (Aa     ?_)
      refine Tg  13 rfl rfl ?_
      refine Da 0 rfl (Ao          rfl) ?_
      refine Dt 1 [13] rfl (By    rfl) ?_
      refine Da 2 rfl (Am     rfl) ?_
      first | refine Da 3 rfl (Br    rfl rfl _ rfl) ?_ | refine Da 3 rfl (Bs    rfl rfl _ rfl) ?_
      refine Dt 4 [13] rfl (Bx    rfl) ?_
      refine Da 5 rfl (Am     rfl) ?_
      refine Dt 6 [13] rfl (C7    rfl) ?_
      refine Da 7 rfl (Am     rfl) ?_
      refine Da 11 rfl (Am     rfl) ?_
      refine Dc 8 rfl rfl (C4           hf.rep hok0 _ _) ?_
      rintro _ J1 _ e1 ⟨o1, k1, rfl, hs1, rfl⟩
      refine Hx ?_
      refine Fy     9 rfl (by kernel_rfl) rfl rfl rfl (by rfl) (by rfl) (by rfl) (by decide) (by decide) (by rfl) .free rfl (.inr At   ) ?_
      intro b40
      refine Ed       ?_
      intro hz
      have e2 := e1.trans hz
      refine Dc 10 rfl rfl (Ee              (Bi        (xs := [.slice ob bd.length cb, .slice o1 (List.length _) k1]) (ys := [])) (hbd.mono e2) (hs1.mono hz) (Ex.binds_room0 (by omega)) _) ?_
      rintro _ J3 _ e3 ⟨o3, k3, rfl, hs3, rfl⟩
      have e4 := e2.trans e3
      have hf3 := hf.mono e4
      have hx3 := T.mono _ _ _ _ e4 hx
      refine Hx ?_
      refine Df    (fun w h => h.u1) ?_
      refine Dc 12 rfl rfl (ihn (by omega) (hf3.as 5 b.tree (by omega) rfl) hok.2 hs3 (Ex.binds_room (by omega)) _ _ (by omega) hx3 _) ?_
      rintro _ J4 _ e5 ⟨rfl, x, hx, rfl⟩
      have e6 := e4.trans e5
      refine Hx ?_
      refine Df    (fun w h => h.w1) ?_
      have hf := hf.mono e6
      have hbd := hbd.mono e6
      have hle := hle.trans e6
      have hk := hk.mono e6
      refine Aw     (by kernel_rfl) ?_
      refine Ar        (Al      rfl ?_)
      refine Or rfl rfl rfl ?_
      refine Om rfl (Aa     ?_)
      refine Ce      ?_
      refine Se rfl (Oc rfl rfl rfl (Aa     (Ah    ?_)))
      refine Dh      rfl (by first | rfl | decide | (simp; done) | omega) ?_
      refine Cd     rfl ?_
      refine Kg    .nil ?_
      exact ⟨_, _, hle, fun w h => h.drop, rfl, x, by simpa [Ex.occ, Ex.binds] using hx, rfl⟩
    · skip
      refine Al      rfl ?_
      refine A8    rfl .free rfl ?_
      refine Ca rfl (E0          hf.rep _) ?_
      rintro _ J _ e0 ⟨ok, ck, rfl, hk, rfl⟩
      have hf := hf.mono e0
      have hbd := hbd.mono e0
      have hx := T.mono _ _ _ _ e0 hx
      have hle := e0
      have hok0 := hok
      simp only [Ex.ok, Bool.and_eq_true] at hok
      rw [Qa     ] at hk
      rw [Qa     ]
      have hlen : (Ex.un o a).tree.parts.length = 2 := rfl
      have hkl : [1].length = 1 := rfl
      simp only [Ex.un.sizeOf_spec] at hlt
      simp only [Ex.size] at hbl hsl
      refine On rfl (Om rfl (Aa     (Aq      ?_)))
      refine Ec     ?_
      refine Se rfl (Oc rfl rfl rfl (Aa     (Ah    ?_)))
      refine Cj      rfl (by first | rfl | decide | (simp; done) | omega) ?_
      refine Aj     (Ah    (Aq      (Se rfl ?_)))
      first | refine Ba    rfl rfl _ rfl .free rfl ?_ | refine Bb    rfl rfl _ rfl .free rfl ?_
      refine Ev    rfl .free rfl ?_
      refine Oa rfl (Aa     ?_)
      refine Tg  13 rfl rfl ?_
      refine Da 0 rfl (Ao          rfl) ?_
      refine Dt 1 [13] rfl (By    rfl) ?_
      refine Da 2 rfl (Am     rfl) ?_
      first | refine Da 3 rfl (Br    rfl rfl _ rfl) ?_ | refine Da 3 rfl (Bs    rfl rfl _ rfl) ?_
      refine Dt 4 [13] rfl (Bx    rfl) ?_
      refine Da 5 rfl (Am     rfl) ?_
      refine Dt 6 [13] rfl (C7    rfl) ?_
      refine Da 7 rfl (Am     rfl) ?_
      refine Da 11 rfl (Am     rfl) ?_
      refine Dc 8 rfl rfl (C4           hf.rep hok0 _ _) ?_
      rintro _ J1 _ e1 ⟨o1, k1, rfl, hs1, rfl⟩
      refine Hx ?_
      refine Fy     9 rfl (by kernel_rfl) rfl rfl rfl (by rfl) (by rfl) (by rfl) (by decide) (by decide) (by rfl) .free rfl (.inr At   ) ?_
      intro b40
      refine Ed       ?_
      intro hz
      have e2 := e1.trans hz
      refine Dc 10 rfl rfl (Ee              (Bi        (xs := [.slice ob bd.length cb, .slice o1 (List.length _) k1]) (ys := [])) (hbd.mono e2) (hs1.mono hz) (Ex.binds_room0 (by omega)) _) ?_
      rintro _ J3 _ e3 ⟨o3, k3, rfl, hs3, rfl⟩
      have e4 := e2.trans e3
      have hf3 := hf.mono e4
      have hx3 := T.mono _ _ _ _ e4 hx
      refine Hx ?_
      refine Df    (fun w h => h.u1) ?_
      refine Dc 12 rfl rfl (ihn (by omega) (hf3.as 1 a.tree (by omega) rfl) hok hs3 (Ex.binds_room (by omega)) _ _ (by omega) hx3 _) ?_
      rintro _ J4 _ e5 ⟨rfl, x, hx, rfl⟩
      have e6 := e4.trans e5
      refine Hx ?_
      refine Df    (fun w h => h.w1) ?_
      have hf := hf.mono e6
      have hbd := hbd.mono e6
      have hle := hle.trans e6
      have hk := hk.mono e6
      refine Aw     (by kernel_rfl) ?_
      refine Ar        (Al      rfl ?_)
      refine Or rfl rfl rfl ?_
      refine Om rfl (Aa     ?_)
      refine Ce      ?_
      refine Se rfl (Oc rfl rfl rfl (Aa     (Ah    ?_)))
      refine Dh      rfl (by first | rfl | decide | (simp; done) | omega) ?_
      refine Cd     rfl ?_
      refine Kg    .nil ?_
      exact ⟨_, _, hle, fun w h => h.drop, rfl, x, by simpa [Ex.occ, Ex.binds] using hx, rfl⟩

structure FB where
 l : List Au
 B : K1
 c : Nat
def FB.own (bo : Nat) (x : FB) : Bm := (bo, .cells [Ci x.l.length x.c x.B].toArray 33 (0, 0)) :: Cn 9 (x.l.map sv) x.B
def FB.is (x : FB) (seen : List Au) (I : Heap) : Prop := x.l = Du [] seen ∧ E6 1 x.l.length x.c (x.l.map sv) x.B ∧ ∀ s ∈ x.l, Cb s = true
theorem Hh (l m : List Au) : (Du l m).length ≤ l.length + m.length := by
 induction m generalizing l with
 | nil => exact Nat.le_refl _
 | cons s m ih =>
  have h1 : (Hy l s).length ≤ l.length + 1 := by unfold Hy; split <;> simp
  have h2 := ih (Hy l s)
  simp only [Du, List.foldl_cons, List.length_cons] at *
  omega
theorem Rr (bo : Nat) (x : FB) (seen : List Au) (s : Au) (I : Heap) (L : Bm) (hx : x.is seen I) (hs : Cb s = true) (hl : seen.length < 4294967296) :
  Fun Tryz.prog 127 [.string (str s), .pointer (some ⟨bo, 0, none⟩)] I (FB.own bo x ++ L) (fun v I' L' => v = .tuple #[] ∧ ∃ y : FB, y.is (seen ++ [s]) I' ∧ L' = FB.own bo y ++ L) := by
 obtain ⟨l, B, c⟩ := x; obtain ⟨hl1, hB, hn⟩ := hx
 simp only at hl1 hB hn
 have hll := Hh [] seen
 rw [← hl1] at hll
 simp only [List.length_nil, Nat.zero_add] at hll
 obtain ⟨oa, c', hbv, hrd⟩ := Aab (I := I) (L := L) (e := 9) hB rfl Cu
 have hcon : Fun Tryz.prog 128 [Ci l.length c B, .string (str s)] I ((bo, .cells [Ci l.length c B].toArray 33 (0, 0)) :: (Cn 9 (l.map sv) B ++ L)) (Ef (.bool (decide (s ∈ l))) I ((bo, .cells [Ci l.length c B].toArray 33 (0, 0)) :: (Cn 9 (l.map sv) B ++ L))) := by
  have := Dd (hrd.sub (L' := (bo, .cells [Ci l.length c B].toArray 33 (0, 0)) :: (Cn 9 (l.map sv) B ++ L)) fun w h => h.drop) c' s
  rwa [← hbv] at this
 unfold FB.own
 simp only [List.cons_append]
 refine Ap Af ?_; refine Se rfl ?_; refine B0 rfl (F0 (cs := [Ci l.length c B]) m0 Ae (by cases B <;> rfl)) .free rfl ?_; refine Om rfl ?_; refine Cq rfl .free rfl hcon ?_; rintro _ _ _ _ ⟨rfl, rfl, rfl⟩; refine C6 rfl .free rfl ?_; refine Aa ?_; refine Ay rfl ?_ ?_
 ·intro c0
  try simp only [nb] at c0
  have hadd : Du [] (seen ++ [s]) = l ++ [s] := by rw [Cw, ← hl1]; simp [Du, Hy, c0]
  refine Al rfl ?_; refine B0 rfl (F0 (cs := [Ci l.length c B]) m0 Ae (by cases B <;> rfl)) .free rfl ?_; refine Om rfl ?_; refine Ol rfl rfl ?_; intro b9; refine Ea (B := B) (xs := l.map sv) (ys := [sv s]) (m := l.length) (c := c) Bl Ae rfl rfl hB (fun _ h => h.u2) Ae (fun a ha => by cases ha; exact Cm (.head _) Ae) Af Ae Ad Ad Ab Ad .free rfl ?_; intro bb sp c2 hB'; refine T9 rfl rfl rfl rfl Ae u2 Ae .free ?_; refine Aa ?_; refine Kg .nil ?_
  first
   | exact ⟨I, _, .refl _, fun w h => h, rfl, ⟨l, B, c⟩, ⟨hadd.symm, hB, hn⟩, rfl⟩
   | exact ⟨I, _, .refl _, fun w h => Mem.sub (L' := (bo, _) :: (bb, _) :: L) Bz h.f2, rfl, ⟨l ++ [s], some (bb, sp), c2⟩, ⟨hadd.symm, by simpa using hB', by intro z hz; rcases List.mem_append.1 hz with h | h; exact hn z h; rw [List.mem_singleton.1 h]; exact hs⟩, by simp [Cn, Ci]⟩
 intro c0
 try simp only [nb] at c0
 have hadd : Du [] (seen ++ [s]) = l := by rw [Cw, ← hl1]; simp [Du, Hy, c0]
 refine Aj ?_; refine Kg .nil ?_
 first
  | exact ⟨I, _, .refl _, fun w h => h, rfl, ⟨l, B, c⟩, ⟨hadd.symm, hB, hn⟩, rfl⟩
  | exact ⟨I, _, .refl _, fun w h => Mem.sub (L' := (bo, _) :: (bb, _) :: L) Bz h.f2, rfl, ⟨l ++ [s], some (bb, sp), c2⟩, ⟨hadd.symm, by simpa using hB', by intro z hz; rcases List.mem_append.1 hz with h | h; exact hn z h; rw [List.mem_singleton.1 h]; exact hs⟩, by simp [Cn, Ci]⟩
theorem O0 (bo : Nat) : Z3 Tryz.prog 127 [.pointer (some ⟨bo, 0, none⟩)] FB (FB.own bo) FB.is :=
 ⟨fun x seen s I L hx hs hl => Rr bo x seen s I L hx hs hl, fun x seen I I' _ h => h⟩
theorem Q5 {l : List Au} (h : ∀ s ∈ l, Cb s = true) : ∀ s ∈ l, s.length ≤ Be := fun s hs => Ex.name_len (h s hs)
theorem Oy {I : Heap} {e : Ex} {cs : List Value} (h : Rep I e.tree cs) (hok : e.ok = true) (hz : 2 * e.size ≤ 4294967295) (L : Bm) : Fun Tryz.prog 74 [.agg cs.toArray] I L (SS e.free L) := by
 obtain ⟨oa, c, oaf, cf, rfl, hf⟩ := h.at'
 have hT := fun bo => O0 bo
 refine Ap Af ?_; refine Se rfl ?_; refine Cg rfl rfl .free rfl ?_; intro b1; refine Oa rfl (Aa (Se rfl ?_)); refine A3 .free rfl ?_; intro b3; refine Aa (Se rfl ?_); refine A8 rfl .free rfl ?_; refine Xk rfl rfl .free rfl ?_; refine En (L' := FB.own b3 ⟨[], none, 0⟩ ++ _) (fun w h => h) ?_; refine Ca rfl (U9 (hT b3) _ (Nat.lt_succ_self _) hf.rep hok (Wa I) H8 ⟨[], none, 0⟩ [] D2 ⟨rfl, ⟨rfl, rfl, rfl⟩, by simp⟩ _) ?_; rintro _ J _ e1 ⟨rfl, ⟨l, B, c2⟩, ⟨hl, hB, hn⟩, rfl⟩
 simp only at hl hB hn
 simp only [FB.own, List.cons_append]
 refine Aa (Se rfl ?_); refine B0 rfl (F0 (cs := [Ci l.length c2 B]) m0 Ae (by cases B <;> rfl)) .free rfl ?_; refine Oa rfl (Aa ?_)
 have hll := Hh [] (e.occ [])
 have hol := e.occ_len []
 simp only [List.nil_append] at hl
 rw [← hl] at hll
 simp only [List.length_nil, Nat.zero_add] at hll
 refine Bk (fun w h => h.u1) (G4 hB rfl Cu (Q5 hn) ?_); intro J2 oz cz ez hbv hst; refine Lk (t := 2) rfl hbv ?_; refine Ak (.tmp rfl .nil) ?_
 exact ⟨J2, L, e1.trans ez, fun w h => h.drop.drop, oz, cz, by rw [show e.free = l from hl.symm]; rfl, by rw [show e.free = l from hl.symm]; exact hst, rfl⟩
theorem Fj {P : Program} {f : FuncId} {n : Nat} {I₀ : Heap} {Q : C2} {k : List Item} {ops : Array Oper} {S : World → Prop} {fuel : Nat} {listed : Array Bool} {E : He} {I : Heap} {L : Bm} {e : TypeId} {l : List Au} {B : K1} {m c : Nat}
  (hB : E6 1 m c (l.map sv) B) (hm : m = l.length) (hlen : l.length ≤ Be) (hs : ∀ s ∈ l, s.length ≤ Be)
  (h : ∀ I' oa c', HLe I I' → Ci m c B = .slice oa l.length c' → Strs I' oa l c' → Cy P f n I₀ Q ops S fuel listed k E I' L) : Cy P f n I₀ Q ops S fuel listed k E I (Cn e (l.map sv) B ++ L) := by
 cases B with
 | none =>
  obtain ⟨h1, h2, h3⟩ := hB; obtain rfl : l = [] := by simpa using h1
  exact h I .none 0 (.refl _) rfl ⟨by simp, by simp, by simp, hlen, hs⟩
 | some p =>
  obtain ⟨b, sp⟩ := p; refine Ed fun hle => h _ (some ⟨b, 0, .none⟩) c hle (by rw [← hm]; rfl) ⟨fun y hy => ?_, by simp, by have := hB.2.1; omega, hlen, hs⟩
  cases hy; exact Bi
theorem Ex.binds_room1 {bd : List Au} {e : Ex} {i : Nat} (h : bd.length + 2 ≤ 4294967296) : 0 + bd.length + (e.binds i).length ≤ 4294967296 := by
 have := e.binds_le i; omega
theorem Ho (I : Heap) (oa : Option Addr) : Strs I oa [] 0 := ⟨fun x _ => .inl rfl, fun _ => rfl, by simp, by simp [Be], by simp⟩
theorem G2 {I : Heap} {e : Ex} {cs : List Value} (h : Rep I e.tree cs) (hok : e.ok = true) (hb : e.bare = false) (i : Nat) (hi : i ∈ Dk e.tree) (L : Bm) : Fun Tryz.prog 184 [.agg cs.toArray, .int .i64 (i : Nat)] I L (SS (e.binds i) L) := by
 obtain ⟨oa, c, oaf, cf, rfl, hf⟩ := h.at'
 have hg := (Ex.tree_good hok).1
 have h0 : 0 < e.tree.parts.length := by
  rw [Ex.bare_parts] at hb
  have : e.tree.parts ≠ [] := by intro hh; rw [hh] at hb; cases hb
  exact List.length_pos_iff.2 this
 have hhd := Mh h0
 refine Ap Af ?_; refine Se rfl ?_; refine Cg rfl rfl .free rfl ?_; intro b2; refine Oa rfl (Aa (Ah (Aq (Se rfl (Oh rfl ?_))))); refine A4 rfl .free rfl ?_
 first | refine Ba rfl rfl 0 rfl .free rfl ?_ | refine Bb rfl rfl 0 rfl .free rfl ?_
 refine Bj rfl .free rfl ?_; refine Gj rfl .free rfl ?_; refine Od rfl rfl rfl (Om rfl ?_)
 apply Cp 12 15 rfl
 ·intro g1_7 hk
  try simp only [nb] at g1_7
  refine Ow rfl ?_; refine Dq rfl rfl rfl (.met rfl rfl) rfl ?_; refine Ot rfl rfl ?_
  exact Av 2 rfl rfl hk
 ·intro _ hk; refine A0 2 rfl ?_; refine Of rfl rfl ?_
  exact Av 2 rfl rfl hk
 refine Oa rfl (Aa ?_); refine Ay rfl ?_ ?_
 ·intro c0
  try simp only [nb] at c0
  obtain ⟨x, a, b, rfl⟩ := Ex.of_let (hhd.trans c0.1); obtain rfl : i = 3 := by omega
  simp only [Ex.ok, Bool.and_eq_true] at hok
  have hlen : (Ex.lt x a b).tree.parts.length = 4 := rfl
  have hx : ((Ex.lt x a b).tree.pt 1).atom.length ≤ Be := Ex.name_len hok.1.1
  refine Se rfl (Oh rfl ?_); refine A4 rfl .free rfl ?_
  first | refine Ba rfl rfl 1 rfl .free rfl ?_ | refine Bb rfl rfl 1 rfl .free rfl ?_
  refine Bj rfl .free rfl ?_; refine Gj rfl .free rfl ?_; refine Ol rfl rfl ?_; intro b21; refine Oa rfl (Aa ?_); refine Bn ?_; intro hz; refine Ak (.tmp rfl .nil) ?_
  exact ⟨_, L, hz, Bt, some ⟨b21, 0, none⟩, 1, rfl, Hu hz hx, rfl⟩
 intro c0
 try simp only [nb] at c0
 refine Se rfl (Oh rfl ?_); refine A4 rfl .free rfl ?_
 first | refine Ba rfl rfl 0 rfl .free rfl ?_ | refine Bb rfl rfl 0 rfl .free rfl ?_
 refine Bj rfl .free rfl ?_; refine Gj rfl .free rfl ?_; refine Od rfl rfl rfl (Oa rfl (Aa ?_)); refine Ay rfl ?_ ?_
 ·intro c1
  try simp only [nb] at c1
  obtain ⟨f, x, s, t, b, rfl⟩ := Ex.of_fun (hhd.trans c1); obtain rfl : i = 5 := by rw [Nz] at hi; simpa using hi
  simp only [Ex.ok, Bool.and_eq_true] at hok
  have hlen : (Ex.fn f x s t b).tree.parts.length = 6 := rfl
  have hx1 : ((Ex.fn f x s t b).tree.pt 1).atom.length ≤ Be := Ex.name_len hok.1.1.1.1.1
  have hx2 : ((Ex.fn f x s t b).tree.pt 2).atom.length ≤ Be := Ex.name_len hok.1.1.1.1.2
  refine Ah ?_; refine D6 12 rfl rfl ?_; refine Da 0 rfl (Ao rfl) ?_; refine Dt 1 [12] rfl (By rfl) ?_
  first | refine Da 2 rfl (Br rfl rfl 1 rfl) ?_ | refine Da 2 rfl (Bs rfl rfl 1 rfl) ?_
  refine Da 3 rfl (Bf rfl) ?_; refine Dt 4 [12] rfl (Ki rfl) ?_; refine Da 5 rfl (Ao rfl) ?_; refine Dt 6 [12] rfl (By rfl) ?_
  first | refine Da 7 rfl (Br rfl rfl 2 rfl) ?_ | refine Da 7 rfl (Bs rfl rfl 2 rfl) ?_
  refine Da 8 rfl (Bf rfl) ?_; refine Dt 9 [12] rfl (Ki rfl) ?_; refine Fy 10 rfl Ac rfl rfl rfl Ae Ae Ae Ad Ad Ae .free rfl (.inr At) ?_; intro b39; refine Da 11 rfl (A5 rfl) ?_; refine Aw Ac ?_; refine Bn ?_; intro hz; refine Ak (.tmp rfl .nil) ?_
  exact ⟨_, L, hz, Bt, some ⟨b39, 0, none⟩, 2, rfl, Pj hz hx1 hx2, rfl⟩
 intro c1
 try simp only [nb] at c1
 refine Aj (Ar (Se rfl ?_)); refine El .free rfl ?_; intro b40; refine Oa rfl (Aa (Ak (.tmp rfl .nil) ?_))
 have hbd : e.binds i = [] := by
  cases e with
  | lt x a b => exact if_neg fun hi => by rcases c0 with h | h; exact h rfl; omega
  | fn f x s t b => exact absurd rfl c1
  | _ => rfl
 exact ⟨I, L, .refl _, Bt, some ⟨b40, 0, none⟩, 0, by rw [hbd]; rfl, by rw [hbd]; exact Ho I _, rfl⟩

def LP (l : List Au) (L : Bm) : C2 := fun v I' L' => ∃ B c, v = Ci l.length c B ∧ E6 1 l.length c (l.map sv) B ∧ L' = Cn 9 (l.map sv) B ++ L
theorem X9 {l : List Au} {B : K1} {c : Nat} (hB : E6 1 l.length c (l.map sv) B) (hl : l.length ≤ Be) (I : Heap) (p : Nat × Obj) (L : Bm) (s : Au) :
  Fun Tryz.prog 170 [Ci l.length c B, .string (str s)] I (p :: (Cn 9 (l.map sv) B ++ L)) (Ef (.bool (decide (s ∈ l))) I (p :: (Cn 9 (l.map sv) B ++ L))) := by
 obtain ⟨oa, c', hbv, hrd⟩ := Aab (I := I) (L := L) (e := 9) hB rfl hl; rw [hbv]
 exact X7 (hrd.sub fun w h => h.drop) c' s
theorem Qg {l : List Au} {s : Au} (h : s ∉ l) : Du l [s] = l ++ [s] := by simp [Du, Hy, h]
theorem Ry {l : List Au} {s : Au} (h : s ∈ l) : Du l [s] = l := by simp [Du, Hy, h]
theorem In {l bd : List Au} {e : Ex} {k n : Nat} (h : l.length + (e.size + k) ≤ n) : (Du l (e.occ bd)).length + k ≤ n := by
 have := Hh l (e.occ bd); have := e.occ_len bd; omega
theorem S7 {l bd bd' : List Au} {e e' : Ex} {k n : Nat} (h : l.length + (e.size + (e'.size + k)) ≤ n) : (Du (Du l (e.occ bd)) (e'.occ bd')).length + k ≤ n := In (In h)
theorem Aav : ∀ (n : Nat) {I : Heap} {e : Ex} {cs : List Value} (_ : SizeOf.sizeOf e < n) (_ : Rep I e.tree cs) (_ : e.ok = true) {bd : List Au} {ob : Option Addr} {cb : Nat} (_ : Strs I ob bd cb) (_ : bd.length + 2 * e.size ≤ Be)
   (l : List Au) (B : K1) (c : Nat) (_ : l.length + e.size ≤ 4294967295) (_ : E6 1 l.length c (l.map sv) B) (L : Bm),
  Fun Tryz.prog 147 [.agg cs.toArray, .slice ob bd.length cb, Ci l.length c B] I (Cn 9 (l.map sv) B ++ L) (LP (Du l (e.occ bd)) L) := by
 intro n
 induction n with
 | zero => intro I e cs h; omega
 | succ n ihn =>
  intro I e cs hlt h hok bd ob cb hbd hbl l B c hl hB L; obtain ⟨oa, cc, oaf, cf, rfl, hf⟩ := h.at'
  have ha := hf.alen
  have hlN : l.length ≤ Be := by unfold Be; omega
  unfold Be at hbl
  refine Ap Af ?_; refine Se rfl ?_; refine Cg rfl rfl .free rfl ?_; intro b3; refine Oa rfl (Aa (Ah (Se rfl (Oh rfl ?_)))); refine A4 rfl .free rfl ?_; refine Od rfl rfl rfl (Aa ?_); refine Ay rfl ?_ ?_
  ·intro c0
   try simp only [nb] at c0
   have hb : e.bare = true := by
    cases hb : e.bare with
    | true => rfl
    | false => exact absurd ((Ex.atom_iff hok).2 hb) c0
   refine Ah (Se rfl (Oh rfl ?_)); refine A4 rfl .free rfl ?_; refine Ca rfl (Nw e.tree.atom ha _ _) ?_; rintro _ _ _ _ ⟨rfl, rfl, rfl⟩; refine C6 rfl .free rfl ?_; refine Om rfl ?_
   apply F9 17 22 rfl
   ·intro g2_5 hk
    try simp only [nb] at g2_5
    refine Ow rfl ?_; refine A2 rfl (.met rfl rfl) rfl ?_; refine A4 rfl (.met rfl rfl) rfl ?_; refine Cq rfl (.met rfl rfl) rfl (X7 (hbd.rd _) cb e.tree.atom) ?_; rintro _ _ _ _ ⟨rfl, rfl, rfl⟩; refine Of rfl rfl ?_
    exact Av 4 rfl rfl hk
   ·intro _ hk; refine A0 4 rfl ?_; refine Ot rfl rfl ?_
    exact Av 4 rfl rfl hk
   refine Om rfl ?_
   apply F9 23 28 rfl
   ·intro g2_11 hk
    try simp only [nb] at g2_11
    refine Ow rfl ?_; refine A2 rfl (.met rfl rfl) rfl ?_; refine A4 rfl (.met rfl rfl) rfl ?_; refine Cq rfl (.met rfl rfl) rfl (X9 hB hlN _ _ _ _) ?_; rintro _ _ _ _ ⟨rfl, rfl, rfl⟩; refine Of rfl rfl ?_
    exact Av 4 rfl rfl hk
   ·intro _ hk; refine A0 4 rfl ?_; refine Ot rfl rfl ?_
    exact Av 4 rfl rfl hk
   refine Aa ?_; refine Ay rfl ?_ ?_
   ·intro c1
    try simp only [nb] at c1
    refine Se rfl (Om rfl (Oa rfl (Aa (Ak (.tmp rfl .nil) ?_))))
    have hoc : Du l (e.occ bd) = l := by
     cases e with
     | num s => rfl
     | name s =>
      have c1 : (Cb s = false ∨ s ∈ bd) ∨ s ∈ l := c1
      rcases c1 with (h | h) | h
      ·rw [show Cb s = true from hok] at h; cases h
      ·simp only [Ex.occ]; rw [if_pos h]; rfl
      ·simp only [Ex.occ]
       split
       ·rfl
       ·exact Ry h
     | _ => cases hb
    exact ⟨I, _, .refl _, fun w h => h.drop, B, c, by rw [hoc]; rfl, by rw [hoc]; exact hB, by rw [hoc]⟩
   intro c1
   try simp only [nb] at c1
   refine Aj (Se rfl (Om rfl (Oh rfl ?_))); refine A4 rfl .free rfl ?_; refine Ol rfl rfl ?_; intro b33; refine Ea (B := B) (xs := l.map sv) (ys := [sv e.tree.atom]) (m := l.length) (c := c) Bl Ae rfl rfl hB (fun _ h => h.u2) Ae (fun a ha => by cases ha; exact Cm (.head _) Ae) Af Ae Ad Ad (by have := e.size_pos; omega) Ad .free rfl ?_; intro bb sp c2 hB'; refine Oa rfl (Aa (Ak (.tmp rfl .nil) ?_))
   have hoc : Du l (e.occ bd) = l ++ [e.tree.atom] := by
    cases e with
    | num s =>
     have h1 : Cb s = true := c1.1.1
     have h2 := Gf h1
     rw [show Cc s = true from hok] at h2; cases h2
    | name s =>
     have c1 : (Cb s = true ∧ ¬ s ∈ bd) ∧ ¬ s ∈ l := c1
     simp only [Ex.occ]; rw [if_neg c1.1.2]; exact Qg c1.2
    | _ => cases hb
   exact ⟨I, _, .refl _, Ms (L' := (bb, _) :: L), some (bb, sp), c2, by rw [hoc]; simp [Dl, Ci], by rw [hoc]; simpa using hB', by rw [hoc]; simp [Cn]⟩
  intro c0
  try simp only [nb] at c0
  have hb : e.bare = false := (Ex.atom_iff hok).1 E9
  have hsh := e.shapes hb
  have h0 : 0 < e.tree.parts.length := by
   rw [Ex.bare_parts] at hb
   have : e.tree.parts ≠ [] := by intro hh; rw [hh] at hb; cases hb
   exact List.length_pos_iff.2 this
  have hhd := Mh h0
  have hok0 := hok
  have hle : HLe I I := .refl _
  refine Aj (Se rfl (Oh rfl ?_)); refine A4 rfl .free rfl ?_
  first | refine Ba rfl rfl 0 rfl .free rfl ?_ | refine Bb rfl rfl 0 rfl .free rfl ?_
  refine Bj rfl .free rfl ?_; refine Gj rfl .free rfl ?_; refine Ca rfl (Vj (e.tree.pt 0).atom _ _) ?_; rw [← hhd]; rintro _ _ _ _ ⟨rfl, rfl, rfl⟩; refine Om rfl (Oe rfl rfl (Oe rfl rfl (Oa rfl (Oa rfl (Aa (Ah (Ah ?_)))))))
  rcases hsh with ⟨o, a, b, rfl⟩ | ⟨a, b, d, rfl⟩ | ⟨z, a, b, rfl⟩ | ⟨g, z, s, t, b, rfl⟩ | ⟨o, a, rfl⟩
  ·skip
   have hk : A1 (Ex.bin o a b).tree.head = (1, 3) := by cases o <;> rfl
   rw [hk]
   have hlen : (Ex.bin o a b).tree.parts.length = 3 := rfl
   have hki := Ny o a b
   simp only [Ex.bin.sizeOf_spec] at hlt
   simp only [Ex.size] at hbl hl
   simp only [Ex.ok, Bool.and_eq_true] at hok
   refine Al rfl (Om rfl (Oa rfl (Aa (Aq ?_)))); refine Ec ?_; refine Ah (Se rfl (Om rfl (Om rfl (Oc rfl rfl rfl (Aa ?_))))); refine Cj rfl Bp ?_; refine Aj (Ah (Aq ?_)); refine Tg 15 rfl rfl ?_; refine Da 0 rfl (Ao rfl) ?_; refine Dt 1 [15] rfl (By rfl) ?_; refine Da 2 rfl (Am rfl) ?_
   first | refine Da 3 rfl (Br rfl rfl _ rfl) ?_ | refine Da 3 rfl (Bs rfl rfl _ rfl) ?_
   refine Dt 4 [15] rfl (Bx rfl) ?_; refine Da 6 rfl (Am rfl) ?_; refine Dt 8 [15] rfl (C7 rfl) ?_; refine Da 9 rfl (Am rfl) ?_; refine Da 12 rfl (Am rfl) ?_; refine Ik 5 rfl Ac rfl .free rfl (.inr At) ?_; intro b55; refine Dg 7 (B := some (b55, [])) (xs := []) (ys := bd.map sv) (m := 0) (c := 0) rfl Ac rfl Bl Ae rfl rfl ⟨rfl, Nat.le_refl _, rfl⟩ (fun _ h => h) Af hbd.reads hbd.none (Eb bd) Ad Ab Ad .free rfl (fun _ => .inr At) ?_; intro B1 c1' hB1; refine Dc 10 rfl rfl (G2 hf.rep hok0 hb _ (by rw [hki]; decide) _) ?_; rintro _ J1 _ e1 ⟨o1, k1, rfl, hs1, rfl⟩
   have hbd1 := hbd.mono e1
   refine Hx ?_; refine Dg 11 (B := B1) (xs := bd.map sv) (ys := (Ex.binds _ _).map sv) (m := 0 + bd.length) (c := c1') rfl Ac rfl Bl Ae rfl rfl hB1 (fun _ h => h) Af hs1.reads hs1.none (Eb _) Ad (Ex.binds_room1 Ab) Ad .free rfl (fun _ => .inr At) ?_; intro B2 c2' hB2; rw [← List.map_append] at hB2 ⊢; refine Fj (l := bd ++ Ex.binds _ _) hB2 Af Gz (hbd1.append hs1) ?_; intro J3 o3 k3 ez hbv hs3; refine H5 (t := 61) rfl hbv ?_
   have e4 := e1.trans ez
   have hf3 := hf.mono e4
   refine Df (fun w h => h.u1) ?_; refine Dc 13 rfl rfl (ihn Ab (hf3.as 1 a.tree Ab rfl) hok.1 hs3 (Ex.binds_room Ab) _ _ _ Ab hB _) ?_; rintro _ J4 _ e5 ⟨B, c, rfl, hB, rfl⟩
   have e6 := e4.trans e5
   refine Hx ?_; refine Df (fun w h => h.w1) ?_
   have hf := hf.mono e6
   have hbd := hbd.mono e6
   have hle := hle.trans e6
   refine Da 14 rfl (A5 rfl) ?_; refine Aw Ac ?_; refine Ar (Al rfl (Om rfl ?_)); refine Or rfl rfl rfl ?_; refine Oa rfl (Aa ?_); refine Ce ?_; refine Ah (Se rfl (Om rfl (Om rfl (Oc rfl rfl rfl (Aa ?_))))); refine Cj rfl Bp ?_; refine Aj (Ah (Aq ?_)); refine Tg 15 rfl rfl ?_; refine Da 0 rfl (Ao rfl) ?_; refine Dt 1 [15] rfl (By rfl) ?_; refine Da 2 rfl (Am rfl) ?_
   first | refine Da 3 rfl (Br rfl rfl _ rfl) ?_ | refine Da 3 rfl (Bs rfl rfl _ rfl) ?_
   refine Dt 4 [15] rfl (Bx rfl) ?_; refine Da 6 rfl (Am rfl) ?_; refine Dt 8 [15] rfl (C7 rfl) ?_; refine Da 9 rfl (Am rfl) ?_; refine Da 12 rfl (Am rfl) ?_; refine Ik 5 rfl Ac rfl .free rfl (.inr At) ?_; intro b55; refine Dg 7 (B := some (b55, [])) (xs := []) (ys := bd.map sv) (m := 0) (c := 0) rfl Ac rfl Bl Ae rfl rfl ⟨rfl, Nat.le_refl _, rfl⟩ (fun _ h => h) Af hbd.reads hbd.none (Eb bd) Ad Ab Ad .free rfl (fun _ => .inr At) ?_; intro B1 c1' hB1; refine Dc 10 rfl rfl (G2 hf.rep hok0 hb _ (by rw [hki]; decide) _) ?_; rintro _ J1 _ e1 ⟨o1, k1, rfl, hs1, rfl⟩
   have hbd1 := hbd.mono e1
   refine Hx ?_; refine Dg 11 (B := B1) (xs := bd.map sv) (ys := (Ex.binds _ _).map sv) (m := 0 + bd.length) (c := c1') rfl Ac rfl Bl Ae rfl rfl hB1 (fun _ h => h) Af hs1.reads hs1.none (Eb _) Ad (Ex.binds_room1 Ab) Ad .free rfl (fun _ => .inr At) ?_; intro B2 c2' hB2; rw [← List.map_append] at hB2 ⊢; refine Fj (l := bd ++ Ex.binds _ _) hB2 Af Gz (hbd1.append hs1) ?_; intro J3 o3 k3 ez hbv hs3; refine H5 (t := 61) rfl hbv ?_
   have e4 := e1.trans ez
   have hf3 := hf.mono e4
   refine Df (fun w h => h.u1) ?_; refine Dc 13 rfl rfl (ihn Ab (hf3.as 2 b.tree Ab rfl) hok.2 hs3 (Ex.binds_room Ab) _ _ _ (In Ab) hB _) ?_; rintro _ J4 _ e5 ⟨B, c, rfl, hB, rfl⟩
   have e6 := e4.trans e5
   refine Hx ?_; refine Df (fun w h => h.w1) ?_
   have hf := hf.mono e6
   have hbd := hbd.mono e6
   have hle := hle.trans e6
   refine Da 14 rfl (A5 rfl) ?_; refine Aw Ac ?_; refine Ar (Al rfl (Om rfl ?_)); refine Or rfl rfl rfl ?_; refine Oa rfl (Aa ?_); refine Ce ?_; refine Ah (Se rfl (Om rfl (Om rfl (Oc rfl rfl rfl (Aa ?_))))); refine Dh rfl Bp ?_; refine Cd rfl ?_; refine Se rfl (Om rfl (Oa rfl (Aa (Ak (.tmp rfl .nil) ?_))))
   exact ⟨_, _, hle, fun w h => h.drop, B, c, by simp [Ex.occ, Ex.binds, Cw, Dl], by simpa [Ex.occ, Ex.binds, Cw] using hB, by simp [Ex.occ, Ex.binds, Cw]⟩
  ·skip
   have hk : A1 (Ex.ite a b d).tree.head = (1, 4) := rfl
   rw [hk]
   have hlen : (Ex.ite a b d).tree.parts.length = 4 := rfl
   have hki := N0 a b d
   simp only [Ex.ite.sizeOf_spec] at hlt
   simp only [Ex.size] at hbl hl
   simp only [Ex.ok, Bool.and_eq_true] at hok
   refine Al rfl (Om rfl (Oa rfl (Aa (Aq ?_)))); refine Ec ?_; refine Ah (Se rfl (Om rfl (Om rfl (Oc rfl rfl rfl (Aa ?_))))); refine Cj rfl Bp ?_; refine Aj (Ah (Aq ?_)); refine Tg 15 rfl rfl ?_; refine Da 0 rfl (Ao rfl) ?_; refine Dt 1 [15] rfl (By rfl) ?_; refine Da 2 rfl (Am rfl) ?_
   first | refine Da 3 rfl (Br rfl rfl _ rfl) ?_ | refine Da 3 rfl (Bs rfl rfl _ rfl) ?_
   refine Dt 4 [15] rfl (Bx rfl) ?_; refine Da 6 rfl (Am rfl) ?_; refine Dt 8 [15] rfl (C7 rfl) ?_; refine Da 9 rfl (Am rfl) ?_; refine Da 12 rfl (Am rfl) ?_; refine Ik 5 rfl Ac rfl .free rfl (.inr At) ?_; intro b55; refine Dg 7 (B := some (b55, [])) (xs := []) (ys := bd.map sv) (m := 0) (c := 0) rfl Ac rfl Bl Ae rfl rfl ⟨rfl, Nat.le_refl _, rfl⟩ (fun _ h => h) Af hbd.reads hbd.none (Eb bd) Ad Ab Ad .free rfl (fun _ => .inr At) ?_; intro B1 c1' hB1; refine Dc 10 rfl rfl (G2 hf.rep hok0 hb _ (by rw [hki]; decide) _) ?_; rintro _ J1 _ e1 ⟨o1, k1, rfl, hs1, rfl⟩
   have hbd1 := hbd.mono e1
   refine Hx ?_; refine Dg 11 (B := B1) (xs := bd.map sv) (ys := (Ex.binds _ _).map sv) (m := 0 + bd.length) (c := c1') rfl Ac rfl Bl Ae rfl rfl hB1 (fun _ h => h) Af hs1.reads hs1.none (Eb _) Ad (Ex.binds_room1 Ab) Ad .free rfl (fun _ => .inr At) ?_; intro B2 c2' hB2; rw [← List.map_append] at hB2 ⊢; refine Fj (l := bd ++ Ex.binds _ _) hB2 Af Gz (hbd1.append hs1) ?_; intro J3 o3 k3 ez hbv hs3; refine H5 (t := 61) rfl hbv ?_
   have e4 := e1.trans ez
   have hf3 := hf.mono e4
   refine Df (fun w h => h.u1) ?_; refine Dc 13 rfl rfl (ihn Ab (hf3.as 1 a.tree Ab rfl) hok.1.1 hs3 (Ex.binds_room Ab) _ _ _ Ab hB _) ?_; rintro _ J4 _ e5 ⟨B, c, rfl, hB, rfl⟩
   have e6 := e4.trans e5
   refine Hx ?_; refine Df (fun w h => h.w1) ?_
   have hf := hf.mono e6
   have hbd := hbd.mono e6
   have hle := hle.trans e6
   refine Da 14 rfl (A5 rfl) ?_; refine Aw Ac ?_; refine Ar (Al rfl (Om rfl ?_)); refine Or rfl rfl rfl ?_; refine Oa rfl (Aa ?_); refine Ce ?_; refine Ah (Se rfl (Om rfl (Om rfl (Oc rfl rfl rfl (Aa ?_))))); refine Cj rfl Bp ?_; refine Aj (Ah (Aq ?_)); refine Tg 15 rfl rfl ?_; refine Da 0 rfl (Ao rfl) ?_; refine Dt 1 [15] rfl (By rfl) ?_; refine Da 2 rfl (Am rfl) ?_
   first | refine Da 3 rfl (Br rfl rfl _ rfl) ?_ | refine Da 3 rfl (Bs rfl rfl _ rfl) ?_
   refine Dt 4 [15] rfl (Bx rfl) ?_; refine Da 6 rfl (Am rfl) ?_; refine Dt 8 [15] rfl (C7 rfl) ?_; refine Da 9 rfl (Am rfl) ?_; refine Da 12 rfl (Am rfl) ?_; refine Ik 5 rfl Ac rfl .free rfl (.inr At) ?_; intro b55; refine Dg 7 (B := some (b55, [])) (xs := []) (ys := bd.map sv) (m := 0) (c := 0) rfl Ac rfl Bl Ae rfl rfl ⟨rfl, Nat.le_refl _, rfl⟩ (fun _ h => h) Af hbd.reads hbd.none (Eb bd) Ad Ab Ad .free rfl (fun _ => .inr At) ?_; intro B1 c1' hB1; refine Dc 10 rfl rfl (G2 hf.rep hok0 hb _ (by rw [hki]; decide) _) ?_; rintro _ J1 _ e1 ⟨o1, k1, rfl, hs1, rfl⟩
   have hbd1 := hbd.mono e1
   refine Hx ?_; refine Dg 11 (B := B1) (xs := bd.map sv) (ys := (Ex.binds _ _).map sv) (m := 0 + bd.length) (c := c1') rfl Ac rfl Bl Ae rfl rfl hB1 (fun _ h => h) Af hs1.reads hs1.none (Eb _) Ad (Ex.binds_room1 Ab) Ad .free rfl (fun _ => .inr At) ?_; intro B2 c2' hB2; rw [← List.map_append] at hB2 ⊢; refine Fj (l := bd ++ Ex.binds _ _) hB2 Af Gz (hbd1.append hs1) ?_; intro J3 o3 k3 ez hbv hs3; refine H5 (t := 61) rfl hbv ?_
   have e4 := e1.trans ez
   have hf3 := hf.mono e4
   refine Df (fun w h => h.u1) ?_; refine Dc 13 rfl rfl (ihn Ab (hf3.as 2 b.tree Ab rfl) hok.1.2 hs3 (Ex.binds_room Ab) _ _ _ (In Ab) hB _) ?_; rintro _ J4 _ e5 ⟨B, c, rfl, hB, rfl⟩
   have e6 := e4.trans e5
   refine Hx ?_; refine Df (fun w h => h.w1) ?_
   have hf := hf.mono e6
   have hbd := hbd.mono e6
   have hle := hle.trans e6
   refine Da 14 rfl (A5 rfl) ?_; refine Aw Ac ?_; refine Ar (Al rfl (Om rfl ?_)); refine Or rfl rfl rfl ?_; refine Oa rfl (Aa ?_); refine Ce ?_; refine Ah (Se rfl (Om rfl (Om rfl (Oc rfl rfl rfl (Aa ?_))))); refine Cj rfl Bp ?_; refine Aj (Ah (Aq ?_)); refine Tg 15 rfl rfl ?_; refine Da 0 rfl (Ao rfl) ?_; refine Dt 1 [15] rfl (By rfl) ?_; refine Da 2 rfl (Am rfl) ?_
   first | refine Da 3 rfl (Br rfl rfl _ rfl) ?_ | refine Da 3 rfl (Bs rfl rfl _ rfl) ?_
   refine Dt 4 [15] rfl (Bx rfl) ?_; refine Da 6 rfl (Am rfl) ?_; refine Dt 8 [15] rfl (C7 rfl) ?_; refine Da 9 rfl (Am rfl) ?_; refine Da 12 rfl (Am rfl) ?_; refine Ik 5 rfl Ac rfl .free rfl (.inr At) ?_; intro b55; refine Dg 7 (B := some (b55, [])) (xs := []) (ys := bd.map sv) (m := 0) (c := 0) rfl Ac rfl Bl Ae rfl rfl ⟨rfl, Nat.le_refl _, rfl⟩ (fun _ h => h) Af hbd.reads hbd.none (Eb bd) Ad Ab Ad .free rfl (fun _ => .inr At) ?_; intro B1 c1' hB1; refine Dc 10 rfl rfl (G2 hf.rep hok0 hb _ (by rw [hki]; decide) _) ?_; rintro _ J1 _ e1 ⟨o1, k1, rfl, hs1, rfl⟩
   have hbd1 := hbd.mono e1
   refine Hx ?_; refine Dg 11 (B := B1) (xs := bd.map sv) (ys := (Ex.binds _ _).map sv) (m := 0 + bd.length) (c := c1') rfl Ac rfl Bl Ae rfl rfl hB1 (fun _ h => h) Af hs1.reads hs1.none (Eb _) Ad (Ex.binds_room1 Ab) Ad .free rfl (fun _ => .inr At) ?_; intro B2 c2' hB2; rw [← List.map_append] at hB2 ⊢; refine Fj (l := bd ++ Ex.binds _ _) hB2 Af Gz (hbd1.append hs1) ?_; intro J3 o3 k3 ez hbv hs3; refine H5 (t := 61) rfl hbv ?_
   have e4 := e1.trans ez
   have hf3 := hf.mono e4
   refine Df (fun w h => h.u1) ?_; refine Dc 13 rfl rfl (ihn Ab (hf3.as 3 d.tree Ab rfl) hok.2 hs3 (Ex.binds_room Ab) _ _ _ (S7 Ab) hB _) ?_; rintro _ J4 _ e5 ⟨B, c, rfl, hB, rfl⟩
   have e6 := e4.trans e5
   refine Hx ?_; refine Df (fun w h => h.w1) ?_
   have hf := hf.mono e6
   have hbd := hbd.mono e6
   have hle := hle.trans e6
   refine Da 14 rfl (A5 rfl) ?_; refine Aw Ac ?_; refine Ar (Al rfl (Om rfl ?_)); refine Or rfl rfl rfl ?_; refine Oa rfl (Aa ?_); refine Ce ?_; refine Ah (Se rfl (Om rfl (Om rfl (Oc rfl rfl rfl (Aa ?_))))); refine Dh rfl Bp ?_; refine Cd rfl ?_; refine Se rfl (Om rfl (Oa rfl (Aa (Ak (.tmp rfl .nil) ?_))))
   exact ⟨_, _, hle, fun w h => h.drop, B, c, by simp [Ex.occ, Ex.binds, Cw, Dl], by simpa [Ex.occ, Ex.binds, Cw] using hB, by simp [Ex.occ, Ex.binds, Cw]⟩
  ·skip
   have hk : A1 (Ex.lt z a b).tree.head = (2, 4) := rfl
   rw [hk]
   have hlen : (Ex.lt z a b).tree.parts.length = 4 := rfl
   have hki := N1 z a b
   simp only [Ex.lt.sizeOf_spec] at hlt
   simp only [Ex.size] at hbl hl
   simp only [Ex.ok, Bool.and_eq_true] at hok
   refine Al rfl (Om rfl (Oa rfl (Aa (Aq ?_)))); refine Ec ?_; refine Ah (Se rfl (Om rfl (Om rfl (Oc rfl rfl rfl (Aa ?_))))); refine Cj rfl Bp ?_; refine Aj (Ah (Aq ?_)); refine Tg 15 rfl rfl ?_; refine Da 0 rfl (Ao rfl) ?_; refine Dt 1 [15] rfl (By rfl) ?_; refine Da 2 rfl (Am rfl) ?_
   first | refine Da 3 rfl (Br rfl rfl _ rfl) ?_ | refine Da 3 rfl (Bs rfl rfl _ rfl) ?_
   refine Dt 4 [15] rfl (Bx rfl) ?_; refine Da 6 rfl (Am rfl) ?_; refine Dt 8 [15] rfl (C7 rfl) ?_; refine Da 9 rfl (Am rfl) ?_; refine Da 12 rfl (Am rfl) ?_; refine Ik 5 rfl Ac rfl .free rfl (.inr At) ?_; intro b55; refine Dg 7 (B := some (b55, [])) (xs := []) (ys := bd.map sv) (m := 0) (c := 0) rfl Ac rfl Bl Ae rfl rfl ⟨rfl, Nat.le_refl _, rfl⟩ (fun _ h => h) Af hbd.reads hbd.none (Eb bd) Ad Ab Ad .free rfl (fun _ => .inr At) ?_; intro B1 c1' hB1; refine Dc 10 rfl rfl (G2 hf.rep hok0 hb _ (by rw [hki]; decide) _) ?_; rintro _ J1 _ e1 ⟨o1, k1, rfl, hs1, rfl⟩
   have hbd1 := hbd.mono e1
   refine Hx ?_; refine Dg 11 (B := B1) (xs := bd.map sv) (ys := (Ex.binds _ _).map sv) (m := 0 + bd.length) (c := c1') rfl Ac rfl Bl Ae rfl rfl hB1 (fun _ h => h) Af hs1.reads hs1.none (Eb _) Ad (Ex.binds_room1 Ab) Ad .free rfl (fun _ => .inr At) ?_; intro B2 c2' hB2; rw [← List.map_append] at hB2 ⊢; refine Fj (l := bd ++ Ex.binds _ _) hB2 Af Gz (hbd1.append hs1) ?_; intro J3 o3 k3 ez hbv hs3; refine H5 (t := 61) rfl hbv ?_
   have e4 := e1.trans ez
   have hf3 := hf.mono e4
   refine Df (fun w h => h.u1) ?_; refine Dc 13 rfl rfl (ihn Ab (hf3.as 2 a.tree Ab rfl) hok.1.2 hs3 (Ex.binds_room Ab) _ _ _ Ab hB _) ?_; rintro _ J4 _ e5 ⟨B, c, rfl, hB, rfl⟩
   have e6 := e4.trans e5
   refine Hx ?_; refine Df (fun w h => h.w1) ?_
   have hf := hf.mono e6
   have hbd := hbd.mono e6
   have hle := hle.trans e6
   refine Da 14 rfl (A5 rfl) ?_; refine Aw Ac ?_; refine Ar (Al rfl (Om rfl ?_)); refine Or rfl rfl rfl ?_; refine Oa rfl (Aa ?_); refine Ce ?_; refine Ah (Se rfl (Om rfl (Om rfl (Oc rfl rfl rfl (Aa ?_))))); refine Cj rfl Bp ?_; refine Aj (Ah (Aq ?_)); refine Tg 15 rfl rfl ?_; refine Da 0 rfl (Ao rfl) ?_; refine Dt 1 [15] rfl (By rfl) ?_; refine Da 2 rfl (Am rfl) ?_
   first | refine Da 3 rfl (Br rfl rfl _ rfl) ?_ | refine Da 3 rfl (Bs rfl rfl _ rfl) ?_
   refine Dt 4 [15] rfl (Bx rfl) ?_; refine Da 6 rfl (Am rfl) ?_; refine Dt 8 [15] rfl (C7 rfl) ?_; refine Da 9 rfl (Am rfl) ?_; refine Da 12 rfl (Am rfl) ?_; refine Ik 5 rfl Ac rfl .free rfl (.inr At) ?_; intro b55; refine Dg 7 (B := some (b55, [])) (xs := []) (ys := bd.map sv) (m := 0) (c := 0) rfl Ac rfl Bl Ae rfl rfl ⟨rfl, Nat.le_refl _, rfl⟩ (fun _ h => h) Af hbd.reads hbd.none (Eb bd) Ad Ab Ad .free rfl (fun _ => .inr At) ?_; intro B1 c1' hB1; refine Dc 10 rfl rfl (G2 hf.rep hok0 hb _ (by rw [hki]; decide) _) ?_; rintro _ J1 _ e1 ⟨o1, k1, rfl, hs1, rfl⟩
   have hbd1 := hbd.mono e1
   refine Hx ?_; refine Dg 11 (B := B1) (xs := bd.map sv) (ys := (Ex.binds _ _).map sv) (m := 0 + bd.length) (c := c1') rfl Ac rfl Bl Ae rfl rfl hB1 (fun _ h => h) Af hs1.reads hs1.none (Eb _) Ad (Ex.binds_room1 Ab) Ad .free rfl (fun _ => .inr At) ?_; intro B2 c2' hB2; rw [← List.map_append] at hB2 ⊢; refine Fj (l := bd ++ Ex.binds _ _) hB2 Af Gz (hbd1.append hs1) ?_; intro J3 o3 k3 ez hbv hs3; refine H5 (t := 61) rfl hbv ?_
   have e4 := e1.trans ez
   have hf3 := hf.mono e4
   refine Df (fun w h => h.u1) ?_; refine Dc 13 rfl rfl (ihn Ab (hf3.as 3 b.tree Ab rfl) hok.2 hs3 (Ex.binds_room Ab) _ _ _ (In Ab) hB _) ?_; rintro _ J4 _ e5 ⟨B, c, rfl, hB, rfl⟩
   have e6 := e4.trans e5
   refine Hx ?_; refine Df (fun w h => h.w1) ?_
   have hf := hf.mono e6
   have hbd := hbd.mono e6
   have hle := hle.trans e6
   refine Da 14 rfl (A5 rfl) ?_; refine Aw Ac ?_; refine Ar (Al rfl (Om rfl ?_)); refine Or rfl rfl rfl ?_; refine Oa rfl (Aa ?_); refine Ce ?_; refine Ah (Se rfl (Om rfl (Om rfl (Oc rfl rfl rfl (Aa ?_))))); refine Dh rfl Bp ?_; refine Cd rfl ?_; refine Se rfl (Om rfl (Oa rfl (Aa (Ak (.tmp rfl .nil) ?_))))
   exact ⟨_, _, hle, fun w h => h.drop, B, c, by simp [Ex.occ, Ex.binds, Cw, Dl], by simpa [Ex.occ, Ex.binds, Cw] using hB, by simp [Ex.occ, Ex.binds, Cw]⟩
  ·skip
   have hk : A1 (Ex.fn g z s t b).tree.head = (5, 6) := rfl
   rw [hk]
   have hlen : (Ex.fn g z s t b).tree.parts.length = 6 := rfl
   have hki := Nz g z s t b
   simp only [Ex.fn.sizeOf_spec] at hlt
   simp only [Ex.size] at hbl hl
   simp only [Ex.ok, Bool.and_eq_true] at hok
   refine Al rfl (Om rfl (Oa rfl (Aa (Aq ?_)))); refine Ec ?_; refine Ah (Se rfl (Om rfl (Om rfl (Oc rfl rfl rfl (Aa ?_))))); refine Cj rfl Bp ?_; refine Aj (Ah (Aq ?_)); refine Tg 15 rfl rfl ?_; refine Da 0 rfl (Ao rfl) ?_; refine Dt 1 [15] rfl (By rfl) ?_; refine Da 2 rfl (Am rfl) ?_
   first | refine Da 3 rfl (Br rfl rfl _ rfl) ?_ | refine Da 3 rfl (Bs rfl rfl _ rfl) ?_
   refine Dt 4 [15] rfl (Bx rfl) ?_; refine Da 6 rfl (Am rfl) ?_; refine Dt 8 [15] rfl (C7 rfl) ?_; refine Da 9 rfl (Am rfl) ?_; refine Da 12 rfl (Am rfl) ?_; refine Ik 5 rfl Ac rfl .free rfl (.inr At) ?_; intro b55; refine Dg 7 (B := some (b55, [])) (xs := []) (ys := bd.map sv) (m := 0) (c := 0) rfl Ac rfl Bl Ae rfl rfl ⟨rfl, Nat.le_refl _, rfl⟩ (fun _ h => h) Af hbd.reads hbd.none (Eb bd) Ad Ab Ad .free rfl (fun _ => .inr At) ?_; intro B1 c1' hB1; refine Dc 10 rfl rfl (G2 hf.rep hok0 hb _ (by rw [hki]; decide) _) ?_; rintro _ J1 _ e1 ⟨o1, k1, rfl, hs1, rfl⟩
   have hbd1 := hbd.mono e1
   refine Hx ?_; refine Dg 11 (B := B1) (xs := bd.map sv) (ys := (Ex.binds _ _).map sv) (m := 0 + bd.length) (c := c1') rfl Ac rfl Bl Ae rfl rfl hB1 (fun _ h => h) Af hs1.reads hs1.none (Eb _) Ad (Ex.binds_room1 Ab) Ad .free rfl (fun _ => .inr At) ?_; intro B2 c2' hB2; rw [← List.map_append] at hB2 ⊢; refine Fj (l := bd ++ Ex.binds _ _) hB2 Af Gz (hbd1.append hs1) ?_; intro J3 o3 k3 ez hbv hs3; refine H5 (t := 61) rfl hbv ?_
   have e4 := e1.trans ez
   have hf3 := hf.mono e4
   refine Df (fun w h => h.u1) ?_; refine Dc 13 rfl rfl (ihn Ab (hf3.as 5 b.tree Ab rfl) hok.2 hs3 (Ex.binds_room Ab) _ _ _ Ab hB _) ?_; rintro _ J4 _ e5 ⟨B, c, rfl, hB, rfl⟩
   have e6 := e4.trans e5
   refine Hx ?_; refine Df (fun w h => h.w1) ?_
   have hf := hf.mono e6
   have hbd := hbd.mono e6
   have hle := hle.trans e6
   refine Da 14 rfl (A5 rfl) ?_; refine Aw Ac ?_; refine Ar (Al rfl (Om rfl ?_)); refine Or rfl rfl rfl ?_; refine Oa rfl (Aa ?_); refine Ce ?_; refine Ah (Se rfl (Om rfl (Om rfl (Oc rfl rfl rfl (Aa ?_))))); refine Dh rfl Bp ?_; refine Cd rfl ?_; refine Se rfl (Om rfl (Oa rfl (Aa (Ak (.tmp rfl .nil) ?_))))
   exact ⟨_, _, hle, fun w h => h.drop, B, c, by simp [Ex.occ, Ex.binds, Cw, Dl], by simpa [Ex.occ, Ex.binds, Cw] using hB, by simp [Ex.occ, Ex.binds, Cw]⟩
  ·skip
   have hk : A1 (Ex.un o a).tree.head = (1, 2) := by cases o <;> rfl
   rw [hk]
   have hlen : (Ex.un o a).tree.parts.length = 2 := rfl
   have hki := Qa o a
   simp only [Ex.un.sizeOf_spec] at hlt
   simp only [Ex.size] at hbl hl
   simp only [Ex.ok] at hok
   refine Al rfl (Om rfl (Oa rfl (Aa (Aq ?_)))); refine Ec ?_; refine Ah (Se rfl (Om rfl (Om rfl (Oc rfl rfl rfl (Aa ?_))))); refine Cj rfl Bp ?_; refine Aj (Ah (Aq ?_)); refine Tg 15 rfl rfl ?_; refine Da 0 rfl (Ao rfl) ?_; refine Dt 1 [15] rfl (By rfl) ?_; refine Da 2 rfl (Am rfl) ?_
   first | refine Da 3 rfl (Br rfl rfl _ rfl) ?_ | refine Da 3 rfl (Bs rfl rfl _ rfl) ?_
   refine Dt 4 [15] rfl (Bx rfl) ?_; refine Da 6 rfl (Am rfl) ?_; refine Dt 8 [15] rfl (C7 rfl) ?_; refine Da 9 rfl (Am rfl) ?_; refine Da 12 rfl (Am rfl) ?_; refine Ik 5 rfl Ac rfl .free rfl (.inr At) ?_; intro b55; refine Dg 7 (B := some (b55, [])) (xs := []) (ys := bd.map sv) (m := 0) (c := 0) rfl Ac rfl Bl Ae rfl rfl ⟨rfl, Nat.le_refl _, rfl⟩ (fun _ h => h) Af hbd.reads hbd.none (Eb bd) Ad Ab Ad .free rfl (fun _ => .inr At) ?_; intro B1 c1' hB1; refine Dc 10 rfl rfl (G2 hf.rep hok0 hb _ (by rw [hki]; decide) _) ?_; rintro _ J1 _ e1 ⟨o1, k1, rfl, hs1, rfl⟩
   have hbd1 := hbd.mono e1
   refine Hx ?_; refine Dg 11 (B := B1) (xs := bd.map sv) (ys := (Ex.binds _ _).map sv) (m := 0 + bd.length) (c := c1') rfl Ac rfl Bl Ae rfl rfl hB1 (fun _ h => h) Af hs1.reads hs1.none (Eb _) Ad (Ex.binds_room1 Ab) Ad .free rfl (fun _ => .inr At) ?_; intro B2 c2' hB2; rw [← List.map_append] at hB2 ⊢; refine Fj (l := bd ++ Ex.binds _ _) hB2 Af Gz (hbd1.append hs1) ?_; intro J3 o3 k3 ez hbv hs3; refine H5 (t := 61) rfl hbv ?_
   have e4 := e1.trans ez
   have hf3 := hf.mono e4
   refine Df (fun w h => h.u1) ?_; refine Dc 13 rfl rfl (ihn Ab (hf3.as 1 a.tree Ab rfl) hok hs3 (Ex.binds_room Ab) _ _ _ Ab hB _) ?_; rintro _ J4 _ e5 ⟨B, c, rfl, hB, rfl⟩
   have e6 := e4.trans e5
   refine Hx ?_; refine Df (fun w h => h.w1) ?_
   have hf := hf.mono e6
   have hbd := hbd.mono e6
   have hle := hle.trans e6
   refine Da 14 rfl (A5 rfl) ?_; refine Aw Ac ?_; refine Ar (Al rfl (Om rfl ?_)); refine Or rfl rfl rfl ?_; refine Oa rfl (Aa ?_); refine Ce ?_; refine Ah (Se rfl (Om rfl (Om rfl (Oc rfl rfl rfl (Aa ?_))))); refine Dh rfl Bp ?_; refine Cd rfl ?_; refine Se rfl (Om rfl (Oa rfl (Aa (Ak (.tmp rfl .nil) ?_))))
   exact ⟨_, _, hle, fun w h => h.drop, B, c, by simp [Ex.occ, Ex.binds, Cw, Dl], by simpa [Ex.occ, Ex.binds, Cw] using hB, by simp [Ex.occ, Ex.binds, Cw]⟩

def Ib (s : Au) : Option (List Au) := (Ff s).map Ex.free
def Cf (s : Au) : Option Ex := match Ff s with
 | some e => if e.closed = true then some e else none
 | none => none
def EF (o : Option (List Au)) (L : Bm) : C2 := fun v I' L' => ∃ oa c, v = .tuple #[.slice oa (o.getD []).length c, .bool o.isSome] ∧ Strs I' oa (o.getD []) c ∧ L = L'
theorem Y1 {e : Ex} (h : e.fine = true) : e.size ≤ 120 := by
 simp only [Ex.fine, Bool.and_eq_true, decide_eq_true_eq] at h; exact h.1.2
theorem R5 {s : Au} {e : Ex} (h : Ff s = some e) : e.size ≤ 120 := Y1 (Jc h).2.1
theorem W7 (s : Au) (hs : s.length ≤ Kw) (I : Heap) (L : Bm) : Fun Tryz.prog 97 [.string (str s)] I L (EF (Ib s) L) := by
 refine Ap Af ?_; refine Se rfl (Oa rfl (Oa rfl (Aa (Se rfl (Om rfl ?_))))); refine Ca rfl (M5 s hs _ _) ?_; rintro _ J _ hleJ ⟨t, cs, ok, rfl, hrep, rfl, hpf⟩; obtain ⟨oa, cc, vs, rfl, -⟩ := hrep.open; refine Om rfl (Oe rfl rfl (Oe rfl rfl ?_)); refine A3 .free rfl ?_; intro b4; refine Bu rfl rfl rfl rfl .free ?_; refine Oa rfl (Aa (Ah (Se rfl (Om rfl ?_)))); refine C6 rfl .free rfl ?_; refine Aa ?_; refine Ay rfl ?_ ?_
 ·intro c0
  try simp only [nb] at c0
  refine Se rfl ?_; refine El .free rfl ?_; intro b13; refine Oa rfl (Oa rfl (Aa ?_)); refine Ak (.tmp rfl (.tmp rfl .nil)) ?_
  exact ⟨J, L, hleJ, fun w h => h.drop.drop, some ⟨b13, 0, none⟩, 0, by rw [Ib, Xz hpf c0]; rfl, by rw [Ib, Xz hpf c0]; exact Ho _ _, rfl⟩
 intro c0
 try simp only [nb] at c0
 obtain ⟨e, he, rfl, hok, -⟩ := S5 hpf c0
 have hez := R5 he
 refine Aj (Se rfl ?_); refine A8 rfl .free rfl ?_; refine El .free rfl ?_; intro b15; refine El .free rfl ?_; intro b16; refine En (L' := Cn 9 (([] : List Au).map sv) (some (b16, [])) ++ _) (fun w h => h) ?_; refine Ca rfl (Aav _ (Nat.lt_succ_self _) hrep hok (Ho _ _) H8 [] (some (b16, [])) 0 D2 ⟨rfl, Nat.le_refl _, rfl⟩ _) ?_; rintro _ J2 _ e2 ⟨B, c, rfl, hB, rfl⟩; refine Oa rfl (Oa rfl (Aa ?_))
 have hll := Hh [] (e.occ [])
 have hol := e.occ_len []
 simp only [List.length_nil, Nat.zero_add] at hll
 have hnm : ∀ z ∈ Du [] (e.occ []), Cb z = true := fun z hz => Ex.occ_name hok z (by simpa [K2] using hz)
 refine G4 hB rfl Cu (Q5 hnm) ?_; intro J3 oz cz ez hbv hst; refine Lk (t := 2) rfl hbv ?_; refine Ak (.tmp rfl (.tmp rfl .nil)) ?_
 exact ⟨J3, L, (hleJ.trans e2).trans ez, Bt, oz, cz, by rw [Ib, he]; rfl, by rw [Ib, he]; exact hst, rfl⟩

theorem Mv (s : Au) : (Cf s).isSome = ((Ib s).isSome && decide ((Ib s).getD [] = [])) := by
 unfold Cf Ib
 cases Ff s with
 | none => rfl
 | some e =>
  simp only [Option.map_some, Option.isSome_some, Option.getD_some, Bool.true_and]
  rw [← Ex.closed_free]
  cases e.closed <;> rfl
theorem G9 {s : Au} {e : Ex} (h : Cf s = some e) : Ff s = some e ∧ e.closed = true := by
 unfold Cf at h
 cases hx : Ff s with
 | none => rw [hx] at h; cases h
 | some e' =>
  rw [hx] at h
  simp only at h
  split at h
  ·rename_i hc; cases h; exact ⟨rfl, hc⟩
  ·cases h
theorem Nv (s : Au) (hs : s.length ≤ Kw) (I : Heap) (L : Bm) : Fun Tryz.prog 52 [.string (str s)] I L (Ef (.bool (Cf s).isSome) I L) := by
 refine Ap Af ?_; refine Se rfl (Oa rfl (Aa (Se rfl (Om rfl ?_)))); refine Ca rfl (W7 s hs _ _) ?_; rintro _ J _ hleJ ⟨oa, c, rfl, hst, rfl⟩; refine Om rfl (Oe rfl rfl (Oe rfl rfl (Oa rfl (Oa rfl (Aa (Se rfl (Om rfl (Om rfl ?_))))))))
 apply Cp 11 15 rfl
 ·intro g2_2 hk
  try simp only [nb] at g2_2
  refine Ow rfl ?_; refine Kb rfl (.met rfl rfl) rfl ?_; refine Dq rfl rfl rfl (.met rfl rfl) rfl ?_; refine Ot rfl rfl ?_
  exact Av 3 rfl rfl hk
 ·intro _ hk; refine A0 3 rfl ?_; refine Of rfl rfl ?_
  exact Av 3 rfl rfl hk
 refine Oa rfl (Aa (Ak (.tmp rfl .nil) ?_)); refine Jm hleJ Bt ?_; rw [Mv]; refine congrArg Value.bool ?_; rw [Bool.eq_iff_iff]; simp
theorem Yy {I : Heap} {s : Au} {t : Tree} {cs : List Value} {ok : Bool} (h : Rep I t cs) (hpf : match Ff s with | some e => ok = true ∧ t = e.tree | none => ok = false) (hok : ok = true) (L : Bm) :
  Fun Tryz.prog 74 [.agg cs.toArray] I L (SS ((Ib s).getD []) L) := by
 obtain ⟨e, he, rfl, h1, _⟩ := S5 hpf hok
 have hez := R5 he
 rw [Ib, he]; exact Oy h h1 Ab L
theorem K7 (s : Au) (hs : s.length ≤ Be) (I : Heap) (L : Bm) : Fun Tryz.prog 41 [.string (str s)] I L (RX (Cf s) L) := by
 refine Ap Af ?_; refine Se rfl ?_; refine A3 .free rfl ?_; intro b2; refine Oa rfl (Aa (Se rfl (Om rfl ?_))); refine Ca rfl (W1 s hs _ _) ?_; rintro _ J _ hleJ ⟨t, cs, ok, rfl, hrep, rfl, hpf⟩; obtain ⟨oa, cc, vs, rfl, -⟩ := hrep.open; refine Om rfl (Oe rfl rfl (Oe rfl rfl ?_)); refine A3 .free rfl ?_; intro b4; refine Bu rfl rfl rfl rfl .free ?_; refine Oa rfl (Aa (Ah ?_)); refine D6 10 rfl rfl ?_; refine Dt 0 [8] rfl (C7 rfl) ?_; refine Da 1 rfl (Am rfl) ?_; refine Da 2 rfl (Am rfl) ?_
 apply Uy 13 18 rfl
 ·intro g2_3 hk
  try simp only [nb] at g2_3
  refine G8 3 [4, 8] rfl Ac rfl At (C7 rfl) (.met rfl rfl) rfl ?_; refine K3 4 rfl Ac rfl rfl (.met rfl rfl) rfl (Yy hrep hpf g2_3 _) ?_; rintro _ J2 _ e2 ⟨oz, cz, rfl, hst, rfl⟩; refine Hx ?_; refine Dm 5 rfl (Gb rfl) ?_; refine Df (fun w h => Mem.le e2 h) ?_; refine Dm 6 rfl (P3 rfl rfl rfl) ?_; refine Da 7 rfl (Fn rfl rfl) ?_
  exact I1 4 rfl rfl hk
 ·intro _ hk; refine Ds 3 rfl rfl rfl ?_; refine Ds 4 rfl rfl rfl ?_; refine Ds 5 rfl rfl rfl ?_; refine Ds 6 rfl rfl rfl ?_; refine Da 7 rfl (E5 rfl rfl) ?_
  exact I1 4 rfl rfl hk
 refine Dx 8 rfl rfl rfl rfl ?_; refine Db 9 rfl (A5 rfl) ?_; refine Aw Ac ?_; refine Ak (.c rfl (.tmp rfl .nil)) ?_; refine ⟨J, L, hleJ, Bt, t, _, _, rfl, hrep, rfl, ?_⟩
 have hcf := Mv s
 cases hc : Cf s with
 | some e =>
  obtain ⟨he, hcl⟩ := G9 hc; rw [he] at hpf; rw [hc] at hcf
  simp only [Option.isSome_some, Bool.true_eq, Bool.and_eq_true, decide_eq_true_eq] at hcf
  exact ⟨by rw [hpf.1, hcf.2]; rfl, hpf.2⟩
 | none =>
  rw [hc] at hcf
  cases ok with
  | false => rfl
  | true =>
   obtain ⟨e, he, _⟩ := S5 hpf rfl
   simp only [Ib, he, Option.map_some, Option.isSome_some, Option.isSome_none, Option.getD_some, Bool.true_and] at hcf ⊢
   have h1 : e.free ≠ [] := by simpa using hcf.symm
   have h2 := List.length_pos_iff.2 h1
   exact decide_eq_false Ab
def smallL (m : List Ty) : Prop := ∀ t ∈ m, t.size ≤ 16
theorem smallL.add {m : List Ty} {t : Ty} (h : smallL m) (ht : t.size ≤ 16) : smallL (m ++ [t]) := by
 intro u hu
 rcases List.mem_append.1 hu with h1 | h1
 ·exact h u h1
 ·obtain rfl := List.mem_singleton.1 h1; exact ht
/- Texts of types; the empty text for none. -/
def tyT : Option Ty → Au
 | some t => t.tree.text
 | none => []
theorem Ty.text_len {t : Ty} (h : t.size ≤ 16) : t.tree.text.length ≤ 80 := by
 have := t.tree_small; rw [Tree.text_len]; omega
def Ad6 (o : Option Ty) : Prop := ∀ t, o = some t → t.size ≤ 16
def Afb (ks : List (Option Ty)) : Prop := ∀ o ∈ ks, Ad6 o
def O4 (h : Au) : List (Option Ty) → Option Ty
 | [some a] => (U2.of h).bind fun o => o.ty a
 | [some a, some b] => (B5.of h).bind fun o => o.ty a b
 | [some a, some b, some c] => if a = .i ∧ b = c then some b else none
 | _ => none
theorem Ex.ty_bin (o : B5) (a b : Ex) (l : List Au) (m : List Ty) : (Ex.bin o a b).ty l m = O4 o.txt [a.ty l m, b.ty l m] := by
 simp only [Ex.ty, Ex.chk]
 cases a.chk l m with
 | error x => cases b.chk l m <;> rfl
 | ok s =>
  cases b.chk l m with
  | error y => rfl
  | ok t =>
   simp only [O4, B5.of_txt, Option.bind]
   cases o.ty s t <;> rfl
theorem Ex.ty_ite (a b c : Ex) (l : List Au) (m : List Ty) : (Ex.ite a b c).ty l m = O4 Gs [a.ty l m, b.ty l m, c.ty l m] := by
 simp only [Ex.ty, Ex.chk]
 cases a.chk l m with
 | error x => cases b.chk l m <;> cases c.chk l m <;> rfl
 | ok s =>
  cases b.chk l m with
  | error y => cases c.chk l m <;> rfl
  | ok t =>
   cases c.chk l m with
   | error y => rfl
   | ok u =>
    simp only [O4]
    by_cases h : s = .i ∧ t = u <;> simp [h]
theorem Ex.ty_un (o : U2) (a : Ex) (l : List Au) (m : List Ty) : (Ex.un o a).ty l m = O4 o.txt [a.ty l m] := by
 simp only [Ex.ty, Ex.chk]
 cases a.chk l m with
 | error x => rfl
 | ok s =>
  simp only [O4, U2.of_txt, Option.bind]
  cases o.ty s <;> rfl
theorem Ex.ty_lt (x : Au) (a b : Ex) (l : List Au) (m : List Ty) : (Ex.lt x a b).ty l m = match a.ty l m with | some s => b.ty (l ++ [x]) (m ++ [s]) | none => none := by
 simp only [Ex.ty, Ex.chk]
 cases a.chk l m <;> rfl
theorem Ex.ty_fn (f x : Au) (s t : Ty) (b : Ex) (l : List Au) (m : List Ty) : (Ex.fn f x s t b).ty l m = if (Ty.fn s t).size ≤ 16 ∧ b.ty (l ++ [f, x]) (m ++ [.fn s t, s]) = some t then some (.fn s t) else none := by
 simp only [Ex.ty, Ex.chk]
 by_cases h : (Ty.fn s t).size ≤ 16
 ·simp only [h, if_true, true_and]
  cases b.chk (l ++ [f, x]) (m ++ [.fn s t, s]) with
  | error x => simp
  | ok u => by_cases hu : u = t <;> simp [hu]
 ·simp [h]
theorem Ex.ty_name (s : Au) (l : List Au) (m : List Ty) : (Ex.name s).ty l m = Ga l m s := by
 simp only [Ex.ty, Ex.chk]
 cases Ga l m s <;> rfl
def Lj (s : Au) : Option Ty := (Iz s).bind Tree.ty
theorem Ye {s : Au} {t : Tree} (h : Iz s = some t) : ∃ a : Ty, Lj s = some a ∧ t = a.tree ∧ a.size ≤ 16 ∧ s = a.tree.text := by
 obtain ⟨a, rfl, h2, h3⟩ := Wf h
 exact ⟨a, by simp [Lj, h, a.tree_ty], rfl, h2, h3⟩
theorem S0 {s : Au} {a : Ty} (h : Lj s = some a) : Iz s = some a.tree ∧ a.size ≤ 16 ∧ s = a.tree.text := by
 cases h1 : Iz s with
 | none => simp [Lj, h1] at h
 | some t =>
  obtain ⟨b, h2, rfl, h3, h4⟩ := Ye h1; rw [h] at h2; cases h2
  exact ⟨rfl, h3, h4⟩
def Aek (m : List Au) : List Ty := m.map fun s => (Lj s).getD .i
def Afv (l m : List Au) (s : Au) : Option Au := if Ya l m = true then (Ff s).bind fun e => (e.ty l (Aek m)).map fun t => t.tree.text else none
def Ex.sub : Ex → List Ex
 | .num _ => []
 | .name _ => []
 | .bin _ a b => [a, b]
 | .ite a b c => [a, b, c]
 | .lt _ a b => [a, b]
 | .fn _ _ _ _ b => [b]
 | .un _ a => [a]
/- Environments of parts. -/
def Ex.inL (e : Ex) (i : Nat) (l : List Au) : List Au := match e with
 | .lt x _ _ => if i = 3 then l ++ [x] else l
 | .fn f x _ _ _ => l ++ [f] ++ [x]
 | _ => l
def Ex.inM (e : Ex) (i : Nat) (s0 : Ty) (m : List Ty) : List Ty := match e with
 | .lt _ _ _ => if i = 3 then m ++ [s0] else m
 | .fn _ _ s t _ => m ++ [.fn s t] ++ [s]
 | _ => m
def Ex.raw (e : Ex) (ts : List Ty) (l : List Au) (m : List Ty) : Option Ty := match e, ts with
 | .num _, _ => some .i
 | .name s, _ => Ga l m s
 | .bin .pair _ _, [a, b] => some (.pr a b)
 | .bin o _ _, [a, b] => o.ty a b
 | .ite _ _ _, [a, b, c] => if a = .i ∧ b = c then some b else none
 | .lt _ _ _, [_, b] => some b
 | .fn _ _ s t _, [b] => if b = t then some (.fn s t) else none
 | .un o _, [a] => o.ty a
 | _, _ => none
def Ex.fin (e : Ex) (r : Option Ty) : Except Ex Ty := match r with
 | some t => if t.size ≤ 16 then .ok t else .error e
 | none => .error e
def Ex.run (e : Ex) (l : List Au) (m : List Ty) : List Ex → List Nat → List Ty → Except Ex (List Ty)
 | a :: more, k :: ks, ts => match a.chk (e.inL k l) (e.inM k (ts.getD 0 .i) m) with
  | .ok t => e.run l m more ks (ts ++ [t])
  | .error x => .error x
 | _, _, ts => .ok ts
def Ex.runs (e : Ex) (l : List Au) (m : List Ty) : Except Ex (List Ty) := e.run l m e.sub (Dk e.tree) []
def Ex.funOk : Ex → Bool
 | .fn _ _ s t _ => decide ((Ty.fn s t).size ≤ 16)
 | _ => true
end Go.Proofs.YtmfagaajiakgoaaGreatDoor
