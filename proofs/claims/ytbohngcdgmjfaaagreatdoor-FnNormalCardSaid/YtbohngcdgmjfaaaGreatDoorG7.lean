/- Names that stand free. No conditions. -/
import Derived.Test.YtbohngcdgmjfaaaGreatDoorG6

namespace Go.Proofs.YtbohngcdgmjfaaaGreatDoor
set_option maxRecDepth 100000
set_option linter.unusedVariables false
set_option linter.unusedSimpArgs false

def Ex.binds : Ex → Nat → List Am
 | .lt x _ _, i => if i = 3 then [x] else []
 | .fn f x _ _ _, i => if i = 5 then [f, x] else []
 | _, _ => []
theorem Ex.shapes (e : Ex) (h : e.bare = false) : (∃ o a b, e = .bin o a b) ∨ (∃ a b c, e = .ite a b c) ∨ (∃ x a b, e = .lt x a b) ∨ (∃ f x s t b, e = .fn f x s t b) ∨ (∃ o a, e = .un o a) := by
 cases e with
 | num s => cases h
 | name s => cases h
 | bin o a b => exact .inl ⟨o, a, b, rfl⟩
 | ite a b c => exact .inr (.inl ⟨a, b, c, rfl⟩)
 | lt x a b => exact .inr (.inr (.inl ⟨x, a, b, rfl⟩))
 | fn f x s t b => exact .inr (.inr (.inr (.inl ⟨f, x, s, t, b, rfl⟩)))
 | un o a => exact .inr (.inr (.inr (.inr ⟨o, a, rfl⟩)))
def lbl : List Am → Bool := fun l => l.all fun s => decide (s.length ≤ Ap)
theorem Hi {I : Heap} {b : Nat} {x : Am} {e : TypeId} (hle : HLe I (I.set b (.cells [.string (str x)].toArray e (0, 0)))) (hx : x.length ≤ Ap) : Strs (I.set b (.cells [.string (str x)].toArray e (0, 0))) (some ⟨b, 0, none⟩) [x] 1 :=
 ⟨fun y hy => by cases hy; exact Ax (xs := [x].map sv) (ys := []), by simp, by simp, by simp [Ap], by simpa using hx⟩
theorem Rk {I : Heap} {b : Nat} {x y : Am} {e : TypeId} (hle : HLe I (I.set b (.cells [.string (str x), .string (str y)].toArray e (0, 0)))) (hx : x.length ≤ Ap) (hy : y.length ≤ Ap) : Strs (I.set b (.cells [.string (str x), .string (str y)].toArray e (0, 0))) (some ⟨b, 0, none⟩) [x, y] 2 :=
 ⟨fun z hz => by cases hz; exact Ax (xs := [x, y].map sv) (ys := []), by simp, by simp, by simp [Ap], by simpa using ⟨hx, hy⟩⟩
theorem Jj (I : Heap) : Strs I none [] 0 := ⟨by simp, by simp, by simp, by simp [Ap], by simp⟩
theorem Ex.name_len {x : Am} (h : Bs x = true) : x.length ≤ Ap := by have := H9 h; unfold Ap; omega

theorem Bb {I : Heap} {e : Ex} {cs : List Value} (h : Rep I e.tree cs) (hok : e.ok = true) (i : Nat) (L : Bc) : Fun Tryz.prog 44 [.agg cs.toArray, .int .i64 (i : Nat)] I L (SS (e.binds i) L) := by
 obtain ⟨oa, c, oaf, cf, rfl, hf⟩ := h.at'; refine Aj (by simp) ?_; refine Se rfl ?_; refine Cc rfl rfl .free rfl ?_; intro b2; refine Oa rfl (Aa (Ab (Ai (Se rfl ?_)))); refine Aw rfl .free rfl ?_; refine Ca rfl (Bk hf.rep _) ?_; rintro _ _ _ _ ⟨rfl, rfl, rfl⟩; refine Od rfl rfl rfl (Om rfl ?_)
 apply D4 9 12 rfl
 ·intro g1_4 hk
  try simp only [nb] at g1_4
  refine Ow rfl ?_; refine C7 rfl rfl rfl (.met rfl rfl) rfl ?_; refine Ot rfl rfl ?_
  exact A0 2 rfl rfl hk
 ·intro _ hk; refine A9 2 rfl ?_; refine Of rfl rfl ?_
  exact A0 2 rfl rfl hk
 refine Oa rfl (Aa ?_); refine Av rfl ?_ ?_
 ·intro c0
  try simp only [nb] at c0
  obtain ⟨x, a, b, rfl⟩ := Ex.of_let c0.1; obtain rfl : i = 3 := by omega
  simp only [Ex.ok, Bool.and_eq_true] at hok
  have hlen : (Ex.lt x a b).tree.parts.length = 4 := rfl
  have hx : ((Ex.lt x a b).tree.pt 1).atom.length ≤ Ap := Ex.name_len hok.1.1
  refine Se rfl (Oh rfl ?_); refine Bg rfl .free rfl ?_
  first | refine Bi rfl rfl 1 rfl .free rfl ?_ | refine Bj rfl rfl 1 rfl .free rfl ?_
  refine A3 rfl .free rfl ?_; refine Es rfl .free rfl ?_; refine Ol rfl rfl ?_; intro b18; refine Oa rfl (Aa ?_); refine Bx ?_; intro hz; refine Ag (.tmp rfl .nil) ?_
  exact ⟨_, L, hz, Bt, some ⟨b18, 0, none⟩, 1, rfl, Hi hz hx, rfl⟩
 intro c0
 try simp only [nb] at c0
 refine Se rfl ?_; refine Aw rfl .free rfl ?_; refine Ca rfl (Bk hf.rep _) ?_; rintro _ _ _ _ ⟨rfl, rfl, rfl⟩; refine Od rfl rfl rfl (Om rfl ?_)
 apply D4 23 26 rfl
 ·intro g3_4 hk
  try simp only [nb] at g3_4
  refine Ow rfl ?_; refine C7 rfl rfl rfl (.met rfl rfl) rfl ?_; refine Ot rfl rfl ?_
  exact A0 2 rfl rfl hk
 ·intro _ hk; refine A9 2 rfl ?_; refine Of rfl rfl ?_
  exact A0 2 rfl rfl hk
 refine Oa rfl (Aa ?_); refine Av rfl ?_ ?_
 ·intro c1
  try simp only [nb] at c1
  obtain ⟨f, x, s, t, b, rfl⟩ := Ex.of_fun c1.1; obtain rfl : i = 5 := by omega
  simp only [Ex.ok, Bool.and_eq_true] at hok
  have hlen : (Ex.fn f x s t b).tree.parts.length = 6 := rfl
  have hx1 : ((Ex.fn f x s t b).tree.pt 1).atom.length ≤ Ap := Ex.name_len hok.1.1.1.1.1
  have hx2 : ((Ex.fn f x s t b).tree.pt 2).atom.length ≤ Ap := Ex.name_len hok.1.1.1.1.2
  refine Ab ?_; refine Do 12 rfl rfl ?_; refine Da 0 rfl (Ae rfl) ?_; refine Dt 1 [12] rfl (A7 rfl) ?_
  first | refine Da 2 rfl (A4 rfl rfl 1 rfl) ?_ | refine Da 2 rfl (A5 rfl rfl 1 rfl) ?_
  refine Da 3 rfl (Ba rfl) ?_; refine Dt 4 [12] rfl (Ii rfl) ?_; refine Da 5 rfl (Ae rfl) ?_; refine Dt 6 [12] rfl (A7 rfl) ?_
  first | refine Da 7 rfl (A4 rfl rfl 2 rfl) ?_ | refine Da 7 rfl (A5 rfl rfl 2 rfl) ?_
  refine Da 8 rfl (Ba rfl) ?_; refine Dt 9 [12] rfl (Ii rfl) ?_; refine C6 10 rfl (by kernel_rfl) rfl rfl rfl (by rfl) (by rfl) (by rfl) (by decide) (by decide) (by rfl) .free rfl (.inr Al) ?_; intro b37; refine Da 11 rfl (Bh rfl) ?_; refine Au (by kernel_rfl) ?_; refine Bx ?_; intro hz; refine Ag (.tmp rfl .nil) ?_
  exact ⟨_, L, hz, Bt, some ⟨b37, 0, none⟩, 2, rfl, Rk hz hx1 hx2, rfl⟩
 intro c1
 try simp only [nb] at c1
 refine Af (Ak (Se rfl (Oa rfl (Aa (Ag (.tmp rfl .nil) ?_)))))
 have hb : e.binds i = [] := by
  cases e with
  | lt x a b => exact if_neg fun hi => by rcases c0 with h | h; exact h rfl; omega
  | fn f x s t b => exact if_neg fun hi => by rcases c1 with h | h; exact h rfl; omega
  | _ => rfl
 exact ⟨I, L, .refl _, Bt, none, 0, by rw [hb]; rfl, by rw [hb]; exact Jj I, rfl⟩

theorem Ex.binds_le (e : Ex) (i : Nat) : (e.binds i).length ≤ 2 := by
 cases e with
 | lt x a b => simp only [Ex.binds]; split <;> simp
 | fn f x s t b => simp only [Ex.binds]; split <;> simp
 | _ => simp [Ex.binds]
theorem Ex.binds_room {bd : List Am} {e : Ex} {i k : Nat} (h : bd.length + 2 + k ≤ 4294967296) : (bd ++ e.binds i).length + k ≤ Ap := by
 have := e.binds_le i; rw [List.length_append]; unfold Ap; omega
theorem Ex.binds_room0 {bd : List Am} {e : Ex} {i : Nat} (h : bd.length + 2 ≤ 4294967296) : bd.length + (e.binds i).length ≤ Ap := by
 have := e.binds_le i; unfold Ap; omega
structure Xx (P : Program) (kf : FuncId) (cap : List Value) (X : Type) (own : X → Bc) (R : X → List Am → Heap → Prop) : Prop where
 tell : ∀ x seen s I L, R x seen I → Bs s = true → seen.length < 4294967296 → Fun P kf (.string (str s) :: cap) I (own x ++ L) (fun v I' L' => v = .tuple #[] ∧ ∃ y, R y (seen ++ [s]) I' ∧ L' = own y ++ L)
 mono : ∀ x seen I I', HLe I I' → R x seen I → R x seen I'
theorem Mem.w1 {I : Heap} {a : Nat × Obj} {X L : Bc} {w : World} (h : Mem I (X ++ a :: L) w) : Mem I (a :: (X ++ L)) w := h.perm List.perm_middle
theorem Ex.size_pos (e : Ex) : 1 ≤ e.size := by cases e <;> simp [Ex.size] <;> omega
theorem Ex.occ_len : ∀ (e : Ex) (bd : List Am), (e.occ bd).length ≤ e.size
 | .num s, bd => Nat.zero_le _
 | .name s, bd => by simp only [Ex.occ]; split <;> simp [Ex.size]
 | .bin o a b, bd => by have := a.occ_len bd; have := b.occ_len bd; simp [Ex.occ, Ex.size]; omega
 | .ite a b c, bd => by have := a.occ_len bd; have := b.occ_len bd; have := c.occ_len bd; simp [Ex.occ, Ex.size]; omega
 | .lt x a b, bd => by have := a.occ_len bd; have := b.occ_len (bd ++ [x]); simp [Ex.occ, Ex.size]; omega
 | .fn f x s t b, bd => by have := b.occ_len (bd ++ [f, x]); simp [Ex.occ, Ex.size]; omega
 | .un o a, bd => by have := a.occ_len bd; simp [Ex.occ, Ex.size]; omega
theorem Ex.occ_room {seen bd : List Am} {e : Ex} {k n : Nat} (h : seen.length + (e.size + k) ≤ n) : (seen ++ e.occ bd).length + k ≤ n := by
 have := e.occ_len bd; rw [List.length_append]; omega
theorem Ex.occ_room2 {seen bd bd' : List Am} {e e' : Ex} {k n : Nat} (h : seen.length + (e.size + (e'.size + k)) ≤ n) : (seen ++ e.occ bd ++ e'.occ bd').length + k ≤ n := Ex.occ_room (Ex.occ_room h)
def TP {X : Type} (own : X → Bc) (R : X → List Am → Heap → Prop) (seen : List Am) (L : Bc) : C3 := fun v I' L' => v = .tuple #[] ∧ ∃ y, R y seen I' ∧ L' = own y ++ L
theorem Tq          {kf : FuncId} {cap : List Value} {X : Type} {own : X → Bc } {R : X → List Am  → Heap → Prop} {c0 : Code} {m0' : Nat} {rs0 : List ResultVar} [hfi : Bw   Tryz.prog kf c0 m0' rs0] (T : Xx     Tryz.prog kf cap X own R) :
    ∀ (n : Nat) {I : Heap} {e : Ex} {cs : List Value} (_ : SizeOf.sizeOf e < n) (_ : Rep I e.tree cs) (_ : e.ok = true) {bd : List Am } {ob : Option Addr} {cb : Nat} (_ : Strs I ob bd cb) (_ : bd.length + 2 * e.size ≤ Ap  ) (x : X) (seen : List Am ) (_ : seen.length + e.size ≤ 4294967296) (_ : R x seen I) (L : Bc ),
    Fun Tryz.prog 87 [.agg cs.toArray, .slice ob bd.length cb, .func (.func kf) #[] cap.toArray] I (own x ++ L) (TP own R (seen ++ e.occ bd) L) := by
  intro n
  induction n with
  | zero => intro I e cs h; omega
  | succ n ihn =>
    intro I e cs hlt h hok bd ob cb hbd hbl x seen hsl hx L
    obtain ⟨oa, c, oaf, cf, rfl, hf⟩ := h.at'
    have ha := hf.alen
    unfold Ap   at hbl
    refine Aj        (by simp) ?_
    refine Se rfl ?_
    refine Cc    rfl rfl .free rfl ?_
    intro b3
    refine Aa     (Ab    (Se rfl ?_))
    refine Aw    rfl .free rfl ?_
    refine Ca rfl (B7            hf.rep _) ?_
    rintro _ _ _ _ ⟨rfl, rfl, rfl⟩
    refine Aa     ?_
    refine Av     rfl ?_ ?_
    · intro c0
      try simp only [nb] at c0
      have hb : e.bare = true := by rw [Ex.bare_parts]; exact c0
      refine Ab    (Se rfl (Oh rfl ?_))
      refine Bg    rfl .free rfl ?_
      refine Ca rfl (Kj       e.tree.atom ha _ _) ?_
      rintro _ _ _ _ ⟨rfl, rfl, rfl⟩
      refine Om rfl ?_
      apply D4    13 19 rfl
      · intro g2_4 hk
        try simp only [nb] at g2_4
        refine Ow rfl ?_
        refine Bv          rfl (.met rfl rfl) rfl ?_
        refine Bg    rfl (.met rfl rfl) rfl ?_
        refine B6     rfl (.met rfl rfl) rfl (G4                (hbd.rd _) cb e.tree.atom) ?_
        rintro _ _ _ _ ⟨rfl, rfl, rfl⟩
        refine Dy    rfl (.met rfl rfl) rfl ?_
        refine Ot rfl rfl ?_
        exact A0    5 rfl rfl hk
      · intro _ hk
        refine A9      5 rfl ?_
        refine Of rfl rfl ?_
        exact A0    5 rfl rfl hk
      refine Aa     ?_
      refine Av     rfl ?_ ?_
      · intro c1
        try simp only [nb] at c1
        have hnm := c1.1
        have hem : e = .name e.tree.atom := by
          cases e with
          | num s => have h1 : Cr    s = true := hok; have h2 := Fe           hnm; rw [show (Ex.num s).tree.atom = s from rfl, h1] at h2; cases h2
          | name s => rfl
          | _ => cases hb
        have hoc : e.occ bd = [e.tree.atom] := by
          have h2 := c1.2
          rw [hem]; simp only [Ex.occ]
          rw [if_neg (by simpa using h2)]
          rfl
        refine Ah      rfl (Om rfl (Oh rfl ?_))
        refine Bg    rfl .free rfl ?_
        refine Cz    (fun w h => h.u1) ?_
        refine Ss      rfl rfl .free rfl (T.tell x seen e.tree.atom _ _ hx hnm (by have := e.size_pos; omega)) ?_
        rintro _ J _ e1 ⟨rfl, y, hy, rfl⟩
        refine Aa     ?_
        refine Ag    .nil ?_
        first
          | exact ⟨J, _, e1, fun w h => h.w1.drop, rfl, y, by rw [hoc]; exact hy, rfl⟩
          | (have hoc : e.occ bd = [] := by
               cases e with
               | num s => rfl
               | name s =>
                 simp only [Ex.occ]
                 rw [if_pos]
                 rcases c1 with h | h
                 · rw [show (Ex.name s).tree.atom = s from rfl, show Bs     s = true from hok] at h; cases h
                 · exact h
               | _ => cases hb
             exact ⟨I, _, .refl _, fun w h => h.drop, rfl, x, by rw [hoc, List.append_nil]; exact hx, rfl⟩)
      intro c1
      try simp only [nb] at c1
      refine Af     ?_
      refine Ag    .nil ?_
      first
        | exact ⟨J, _, e1, fun w h => h.w1.drop, rfl, y, by rw [hoc]; exact hy, rfl⟩
        | (have hoc : e.occ bd = [] := by
             cases e with
             | num s => rfl
             | name s =>
               simp only [Ex.occ]
               rw [if_pos]
               rcases c1 with h | h
               · rw [show (Ex.name s).tree.atom = s from rfl, show Bs     s = true from hok] at h; cases h
               · exact h
             | _ => cases hb
           exact ⟨I, _, .refl _, fun w h => h.drop, rfl, x, by rw [hoc, List.append_nil]; exact hx, rfl⟩)
    intro c0
    try simp only [nb] at c0
    have hb : e.bare = false := by rw [Ex.bare_parts]; exact c0
    have hsh := e.shapes hb
    refine Af     (Ab    ?_)
    rcases hsh with ⟨o, a, b, rfl⟩ | ⟨a, b, d, rfl⟩ | ⟨z, a, b, rfl⟩ | ⟨g, z, s, t, b, rfl⟩ | ⟨o, a, rfl⟩
    · skip
      refine Ah      rfl ?_
      refine Aw    rfl .free rfl ?_
      refine Ca rfl (B9          hf.rep _) ?_
      rintro _ J _ e0 ⟨ok, ck, rfl, hk, rfl⟩
      have hf := hf.mono e0
      have hbd := hbd.mono e0
      have hx := T.mono _ _ _ _ e0 hx
      have hle := e0
      have hok0 := hok
      simp only [Ex.ok, Bool.and_eq_true] at hok
      rw [Gb      ] at hk
      rw [Gb      ]
      have hlen : (Ex.bin o a b).tree.parts.length = 3 := rfl
      have hkl : [1, 2].length = 2 := rfl
      simp only [Ex.bin.sizeOf_spec] at hlt
      simp only [Ex.size] at hbl hsl
      refine On rfl (Om rfl (Aa     (Ai      ?_)))
      refine Dd     ?_
      refine Se rfl (Oc rfl rfl rfl (Aa     (Ab    ?_)))
      refine Bn      rfl (by first | rfl | decide | (simp; done) | omega) ?_
      refine Af     (Ab    (Ai      (Se rfl ?_)))
      first | refine Bi    rfl rfl _ rfl .free rfl ?_ | refine Bj    rfl rfl _ rfl .free rfl ?_
      refine Dl    rfl .free rfl ?_
      refine Oa rfl (Aa     ?_)
      refine R4  13 rfl rfl ?_
      refine Da 0 rfl (Ae          rfl) ?_
      refine Dt 1 [13] rfl (A7    rfl) ?_
      refine Da 2 rfl (Ac     rfl) ?_
      first | refine Da 3 rfl (A4    rfl rfl _ rfl) ?_ | refine Da 3 rfl (A5    rfl rfl _ rfl) ?_
      refine Dt 4 [13] rfl (Bz    rfl) ?_
      refine Da 5 rfl (Ac     rfl) ?_
      refine Dt 6 [13] rfl (Cd    rfl) ?_
      refine Da 7 rfl (Ac     rfl) ?_
      refine Da 11 rfl (Ac     rfl) ?_
      refine Dc 8 rfl rfl (Bb           hf.rep hok0 _ _) ?_
      rintro _ J1 _ e1 ⟨o1, k1, rfl, hs1, rfl⟩
      refine Hx ?_
      refine C6     9 rfl (by kernel_rfl) rfl rfl rfl (by rfl) (by rfl) (by rfl) (by decide) (by decide) (by rfl) .free rfl (.inr Al   ) ?_
      intro b40
      refine Ce       ?_
      intro hz
      have e2 := e1.trans hz
      refine Dc 10 rfl rfl (A1              (Ax        (xs := [.slice ob bd.length cb, .slice o1 (List.length _) k1]) (ys := [])) (hbd.mono e2) (hs1.mono hz) (Ex.binds_room0 (by omega)) _) ?_
      rintro _ J3 _ e3 ⟨o3, k3, rfl, hs3, rfl⟩
      have e4 := e2.trans e3
      have hf3 := hf.mono e4
      have hx3 := T.mono _ _ _ _ e4 hx
      refine Hx ?_
      refine Be    (fun w h => h.u1) ?_
      refine Dc 12 rfl rfl (ihn (by omega) (hf3.as 1 a.tree (by omega) rfl) hok.1 hs3 (Ex.binds_room (by omega)) _ _ (by omega) hx3 _) ?_
      rintro _ J4 _ e5 ⟨rfl, x, hx, rfl⟩
      have e6 := e4.trans e5
      refine Hx ?_
      refine Be    (fun w h => h.w1) ?_
      have hf := hf.mono e6
      have hbd := hbd.mono e6
      have hle := hle.trans e6
      have hk := hk.mono e6
      refine Au     (by kernel_rfl) ?_
      refine Ak        (Ah      rfl ?_)
      refine Or rfl rfl rfl ?_
      refine Om rfl (Aa     ?_)
      refine Bm      ?_
      refine Se rfl (Oc rfl rfl rfl (Aa     (Ab    ?_)))
      refine Bn      rfl (by first | rfl | decide | (simp; done) | omega) ?_
      refine Af     (Ab    (Ai      (Se rfl ?_)))
      first | refine Bi    rfl rfl _ rfl .free rfl ?_ | refine Bj    rfl rfl _ rfl .free rfl ?_
      refine Dl    rfl .free rfl ?_
      refine Oa rfl (Aa     ?_)
      refine R4  13 rfl rfl ?_
      refine Da 0 rfl (Ae          rfl) ?_
      refine Dt 1 [13] rfl (A7    rfl) ?_
      refine Da 2 rfl (Ac     rfl) ?_
      first | refine Da 3 rfl (A4    rfl rfl _ rfl) ?_ | refine Da 3 rfl (A5    rfl rfl _ rfl) ?_
      refine Dt 4 [13] rfl (Bz    rfl) ?_
      refine Da 5 rfl (Ac     rfl) ?_
      refine Dt 6 [13] rfl (Cd    rfl) ?_
      refine Da 7 rfl (Ac     rfl) ?_
      refine Da 11 rfl (Ac     rfl) ?_
      refine Dc 8 rfl rfl (Bb           hf.rep hok0 _ _) ?_
      rintro _ J1 _ e1 ⟨o1, k1, rfl, hs1, rfl⟩
      refine Hx ?_
      refine C6     9 rfl (by kernel_rfl) rfl rfl rfl (by rfl) (by rfl) (by rfl) (by decide) (by decide) (by rfl) .free rfl (.inr Al   ) ?_
      intro b40
      refine Ce       ?_
      intro hz
      have e2 := e1.trans hz
      refine Dc 10 rfl rfl (A1              (Ax        (xs := [.slice ob bd.length cb, .slice o1 (List.length _) k1]) (ys := [])) (hbd.mono e2) (hs1.mono hz) (Ex.binds_room0 (by omega)) _) ?_
      rintro _ J3 _ e3 ⟨o3, k3, rfl, hs3, rfl⟩
      have e4 := e2.trans e3
      have hf3 := hf.mono e4
      have hx3 := T.mono _ _ _ _ e4 hx
      refine Hx ?_
      refine Be    (fun w h => h.u1) ?_
      refine Dc 12 rfl rfl (ihn (by omega) (hf3.as 2 b.tree (by omega) rfl) hok.2 hs3 (Ex.binds_room (by omega)) _ _ (Ex.occ_room (by omega)) hx3 _) ?_
      rintro _ J4 _ e5 ⟨rfl, x, hx, rfl⟩
      have e6 := e4.trans e5
      refine Hx ?_
      refine Be    (fun w h => h.w1) ?_
      have hf := hf.mono e6
      have hbd := hbd.mono e6
      have hle := hle.trans e6
      have hk := hk.mono e6
      refine Au     (by kernel_rfl) ?_
      refine Ak        (Ah      rfl ?_)
      refine Or rfl rfl rfl ?_
      refine Om rfl (Aa     ?_)
      refine Bm      ?_
      refine Se rfl (Oc rfl rfl rfl (Aa     (Ab    ?_)))
      refine Co      rfl (by first | rfl | decide | (simp; done) | omega) ?_
      refine Bq     rfl ?_
      refine Jg    .nil ?_
      exact ⟨_, _, hle, fun w h => h.drop, rfl, x, by simpa [Ex.occ, Ex.binds] using hx, rfl⟩
    · skip
      refine Ah      rfl ?_
      refine Aw    rfl .free rfl ?_
      refine Ca rfl (B9          hf.rep _) ?_
      rintro _ J _ e0 ⟨ok, ck, rfl, hk, rfl⟩
      have hf := hf.mono e0
      have hbd := hbd.mono e0
      have hx := T.mono _ _ _ _ e0 hx
      have hle := e0
      have hok0 := hok
      simp only [Ex.ok, Bool.and_eq_true] at hok
      rw [Ia      ] at hk
      rw [Ia      ]
      have hlen : (Ex.ite a b d).tree.parts.length = 4 := rfl
      have hkl : [1, 2, 3].length = 3 := rfl
      simp only [Ex.ite.sizeOf_spec] at hlt
      simp only [Ex.size] at hbl hsl
      refine On rfl (Om rfl (Aa     (Ai      ?_)))
      refine Dd     ?_
      refine Se rfl (Oc rfl rfl rfl (Aa     (Ab    ?_)))
      refine Bn      rfl (by first | rfl | decide | (simp; done) | omega) ?_
      refine Af     (Ab    (Ai      (Se rfl ?_)))
      first | refine Bi    rfl rfl _ rfl .free rfl ?_ | refine Bj    rfl rfl _ rfl .free rfl ?_
      refine Dl    rfl .free rfl ?_
      refine Oa rfl (Aa     ?_)
      refine R4  13 rfl rfl ?_
      refine Da 0 rfl (Ae          rfl) ?_
      refine Dt 1 [13] rfl (A7    rfl) ?_
      refine Da 2 rfl (Ac     rfl) ?_
      first | refine Da 3 rfl (A4    rfl rfl _ rfl) ?_ | refine Da 3 rfl (A5    rfl rfl _ rfl) ?_
      refine Dt 4 [13] rfl (Bz    rfl) ?_
      refine Da 5 rfl (Ac     rfl) ?_
      refine Dt 6 [13] rfl (Cd    rfl) ?_
      refine Da 7 rfl (Ac     rfl) ?_
      refine Da 11 rfl (Ac     rfl) ?_
      refine Dc 8 rfl rfl (Bb           hf.rep hok0 _ _) ?_
      rintro _ J1 _ e1 ⟨o1, k1, rfl, hs1, rfl⟩
      refine Hx ?_
      refine C6     9 rfl (by kernel_rfl) rfl rfl rfl (by rfl) (by rfl) (by rfl) (by decide) (by decide) (by rfl) .free rfl (.inr Al   ) ?_
      intro b40
      refine Ce       ?_
      intro hz
      have e2 := e1.trans hz
      refine Dc 10 rfl rfl (A1              (Ax        (xs := [.slice ob bd.length cb, .slice o1 (List.length _) k1]) (ys := [])) (hbd.mono e2) (hs1.mono hz) (Ex.binds_room0 (by omega)) _) ?_
      rintro _ J3 _ e3 ⟨o3, k3, rfl, hs3, rfl⟩
      have e4 := e2.trans e3
      have hf3 := hf.mono e4
      have hx3 := T.mono _ _ _ _ e4 hx
      refine Hx ?_
      refine Be    (fun w h => h.u1) ?_
      refine Dc 12 rfl rfl (ihn (by omega) (hf3.as 1 a.tree (by omega) rfl) hok.1.1 hs3 (Ex.binds_room (by omega)) _ _ (by omega) hx3 _) ?_
      rintro _ J4 _ e5 ⟨rfl, x, hx, rfl⟩
      have e6 := e4.trans e5
      refine Hx ?_
      refine Be    (fun w h => h.w1) ?_
      have hf := hf.mono e6
      have hbd := hbd.mono e6
      have hle := hle.trans e6
      have hk := hk.mono e6
      refine Au     (by kernel_rfl) ?_
      refine Ak        (Ah      rfl ?_)
      refine Or rfl rfl rfl ?_
      refine Om rfl (Aa     ?_)
      refine Bm      ?_
      refine Se rfl (Oc rfl rfl rfl (Aa     (Ab    ?_)))
      refine Bn      rfl (by first | rfl | decide | (simp; done) | omega) ?_
      refine Af     (Ab    (Ai      (Se rfl ?_)))
      first | refine Bi    rfl rfl _ rfl .free rfl ?_ | refine Bj    rfl rfl _ rfl .free rfl ?_
      refine Dl    rfl .free rfl ?_
      refine Oa rfl (Aa     ?_)
      refine R4  13 rfl rfl ?_
      refine Da 0 rfl (Ae          rfl) ?_
      refine Dt 1 [13] rfl (A7    rfl) ?_
      refine Da 2 rfl (Ac     rfl) ?_
      first | refine Da 3 rfl (A4    rfl rfl _ rfl) ?_ | refine Da 3 rfl (A5    rfl rfl _ rfl) ?_
      refine Dt 4 [13] rfl (Bz    rfl) ?_
      refine Da 5 rfl (Ac     rfl) ?_
      refine Dt 6 [13] rfl (Cd    rfl) ?_
      refine Da 7 rfl (Ac     rfl) ?_
      refine Da 11 rfl (Ac     rfl) ?_
      refine Dc 8 rfl rfl (Bb           hf.rep hok0 _ _) ?_
      rintro _ J1 _ e1 ⟨o1, k1, rfl, hs1, rfl⟩
      refine Hx ?_
      refine C6     9 rfl (by kernel_rfl) rfl rfl rfl (by rfl) (by rfl) (by rfl) (by decide) (by decide) (by rfl) .free rfl (.inr Al   ) ?_
      intro b40
      refine Ce       ?_
      intro hz
      have e2 := e1.trans hz
      refine Dc 10 rfl rfl (A1              (Ax        (xs := [.slice ob bd.length cb, .slice o1 (List.length _) k1]) (ys := [])) (hbd.mono e2) (hs1.mono hz) (Ex.binds_room0 (by omega)) _) ?_
      rintro _ J3 _ e3 ⟨o3, k3, rfl, hs3, rfl⟩
      have e4 := e2.trans e3
      have hf3 := hf.mono e4
      have hx3 := T.mono _ _ _ _ e4 hx
      refine Hx ?_
      refine Be    (fun w h => h.u1) ?_
      refine Dc 12 rfl rfl (ihn (by omega) (hf3.as 2 b.tree (by omega) rfl) hok.1.2 hs3 (Ex.binds_room (by omega)) _ _ (Ex.occ_room (by omega)) hx3 _) ?_
      rintro _ J4 _ e5 ⟨rfl, x, hx, rfl⟩
      have e6 := e4.trans e5
      refine Hx ?_
      refine Be    (fun w h => h.w1) ?_
      have hf := hf.mono e6
      have hbd := hbd.mono e6
      have hle := hle.trans e6
      have hk := hk.mono e6
      refine Au     (by kernel_rfl) ?_
      refine Ak        (Ah      rfl ?_)
      refine Or rfl rfl rfl ?_
      refine Om rfl (Aa     ?_)
      refine Bm      ?_
      refine Se rfl (Oc rfl rfl rfl (Aa     (Ab    ?_)))
      refine Bn      rfl (by first | rfl | decide | (simp; done) | omega) ?_
      refine Af     (Ab    (Ai      (Se rfl ?_)))
      first | refine Bi    rfl rfl _ rfl .free rfl ?_ | refine Bj    rfl rfl _ rfl .free rfl ?_
      refine Dl    rfl .free rfl ?_
      refine Oa rfl (Aa     ?_)
      refine R4  13 rfl rfl ?_
      refine Da 0 rfl (Ae          rfl) ?_
      refine Dt 1 [13] rfl (A7    rfl) ?_
      refine Da 2 rfl (Ac     rfl) ?_
      first | refine Da 3 rfl (A4    rfl rfl _ rfl) ?_ | refine Da 3 rfl (A5    rfl rfl _ rfl) ?_
      refine Dt 4 [13] rfl (Bz    rfl) ?_
      refine Da 5 rfl (Ac     rfl) ?_
      refine Dt 6 [13] rfl (Cd    rfl) ?_
      refine Da 7 rfl (Ac     rfl) ?_
      refine Da 11 rfl (Ac     rfl) ?_
      refine Dc 8 rfl rfl (Bb           hf.rep hok0 _ _) ?_
      rintro _ J1 _ e1 ⟨o1, k1, rfl, hs1, rfl⟩
      refine Hx ?_
      refine C6     9 rfl (by kernel_rfl) rfl rfl rfl (by rfl) (by rfl) (by rfl) (by decide) (by decide) (by rfl) .free rfl (.inr Al   ) ?_
      intro b40
      refine Ce       ?_
      intro hz
      have e2 := e1.trans hz
      refine Dc 10 rfl rfl (A1              (Ax        (xs := [.slice ob bd.length cb, .slice o1 (List.length _) k1]) (ys := [])) (hbd.mono e2) (hs1.mono hz) (Ex.binds_room0 (by omega)) _) ?_
      rintro _ J3 _ e3 ⟨o3, k3, rfl, hs3, rfl⟩
      have e4 := e2.trans e3
      have hf3 := hf.mono e4
      have hx3 := T.mono _ _ _ _ e4 hx
      refine Hx ?_
      refine Be    (fun w h => h.u1) ?_
      refine Dc 12 rfl rfl (ihn (by omega) (hf3.as 3 d.tree (by omega) rfl) hok.2 hs3 (Ex.binds_room (by omega)) _ _ (Ex.occ_room2 (by omega)) hx3 _) ?_
      rintro _ J4 _ e5 ⟨rfl, x, hx, rfl⟩
      have e6 := e4.trans e5
      refine Hx ?_
      refine Be    (fun w h => h.w1) ?_
      have hf := hf.mono e6
      have hbd := hbd.mono e6
      have hle := hle.trans e6
      have hk := hk.mono e6
      refine Au     (by kernel_rfl) ?_
      refine Ak        (Ah      rfl ?_)
      refine Or rfl rfl rfl ?_
      refine Om rfl (Aa     ?_)
      refine Bm      ?_
      refine Se rfl (Oc rfl rfl rfl (Aa     (Ab    ?_)))
      refine Co      rfl (by first | rfl | decide | (simp; done) | omega) ?_
      refine Bq     rfl ?_
      refine Jg    .nil ?_
      exact ⟨_, _, hle, fun w h => h.drop, rfl, x, by simpa [Ex.occ, Ex.binds] using hx, rfl⟩
    · skip
      refine Ah      rfl ?_
      refine Aw    rfl .free rfl ?_
      refine Ca rfl (B9          hf.rep _) ?_
      rintro _ J _ e0 ⟨ok, ck, rfl, hk, rfl⟩
      have hf := hf.mono e0
      have hbd := hbd.mono e0
      have hx := T.mono _ _ _ _ e0 hx
      have hle := e0
      have hok0 := hok
      simp only [Ex.ok, Bool.and_eq_true] at hok
      rw [Ib      ] at hk
      rw [Ib      ]
      have hlen : (Ex.lt z a b).tree.parts.length = 4 := rfl
      have hkl : [2, 3].length = 2 := rfl
      simp only [Ex.lt.sizeOf_spec] at hlt
      simp only [Ex.size] at hbl hsl
      refine On rfl (Om rfl (Aa     (Ai      ?_)))
      refine Dd     ?_
      refine Se rfl (Oc rfl rfl rfl (Aa     (Ab    ?_)))
      refine Bn      rfl (by first | rfl | decide | (simp; done) | omega) ?_
      refine Af     (Ab    (Ai      (Se rfl ?_)))
      first | refine Bi    rfl rfl _ rfl .free rfl ?_ | refine Bj    rfl rfl _ rfl .free rfl ?_
      refine Dl    rfl .free rfl ?_
      refine Oa rfl (Aa     ?_)
      refine R4  13 rfl rfl ?_
      refine Da 0 rfl (Ae          rfl) ?_
      refine Dt 1 [13] rfl (A7    rfl) ?_
      refine Da 2 rfl (Ac     rfl) ?_
      first | refine Da 3 rfl (A4    rfl rfl _ rfl) ?_ | refine Da 3 rfl (A5    rfl rfl _ rfl) ?_
      refine Dt 4 [13] rfl (Bz    rfl) ?_
      refine Da 5 rfl (Ac     rfl) ?_
      refine Dt 6 [13] rfl (Cd    rfl) ?_
      refine Da 7 rfl (Ac     rfl) ?_
      refine Da 11 rfl (Ac     rfl) ?_
      refine Dc 8 rfl rfl (Bb           hf.rep hok0 _ _) ?_
      rintro _ J1 _ e1 ⟨o1, k1, rfl, hs1, rfl⟩
      refine Hx ?_
      refine C6     9 rfl (by kernel_rfl) rfl rfl rfl (by rfl) (by rfl) (by rfl) (by decide) (by decide) (by rfl) .free rfl (.inr Al   ) ?_
      intro b40
      refine Ce       ?_
      intro hz
      have e2 := e1.trans hz
      refine Dc 10 rfl rfl (A1              (Ax        (xs := [.slice ob bd.length cb, .slice o1 (List.length _) k1]) (ys := [])) (hbd.mono e2) (hs1.mono hz) (Ex.binds_room0 (by omega)) _) ?_
      rintro _ J3 _ e3 ⟨o3, k3, rfl, hs3, rfl⟩
      have e4 := e2.trans e3
      have hf3 := hf.mono e4
      have hx3 := T.mono _ _ _ _ e4 hx
      refine Hx ?_
      refine Be    (fun w h => h.u1) ?_
      refine Dc 12 rfl rfl (ihn (by omega) (hf3.as 2 a.tree (by omega) rfl) hok.1.2 hs3 (Ex.binds_room (by omega)) _ _ (by omega) hx3 _) ?_
      rintro _ J4 _ e5 ⟨rfl, x, hx, rfl⟩
      have e6 := e4.trans e5
      refine Hx ?_
      refine Be    (fun w h => h.w1) ?_
      have hf := hf.mono e6
      have hbd := hbd.mono e6
      have hle := hle.trans e6
      have hk := hk.mono e6
      refine Au     (by kernel_rfl) ?_
      refine Ak        (Ah      rfl ?_)
      refine Or rfl rfl rfl ?_
      refine Om rfl (Aa     ?_)
      refine Bm      ?_
      refine Se rfl (Oc rfl rfl rfl (Aa     (Ab    ?_)))
      refine Bn      rfl (by first | rfl | decide | (simp; done) | omega) ?_
      refine Af     (Ab    (Ai      (Se rfl ?_)))
      first | refine Bi    rfl rfl _ rfl .free rfl ?_ | refine Bj    rfl rfl _ rfl .free rfl ?_
      refine Dl    rfl .free rfl ?_
      refine Oa rfl (Aa     ?_)
      refine R4  13 rfl rfl ?_
      refine Da 0 rfl (Ae          rfl) ?_
      refine Dt 1 [13] rfl (A7    rfl) ?_
      refine Da 2 rfl (Ac     rfl) ?_
      first | refine Da 3 rfl (A4    rfl rfl _ rfl) ?_ | refine Da 3 rfl (A5    rfl rfl _ rfl) ?_
      refine Dt 4 [13] rfl (Bz    rfl) ?_
      refine Da 5 rfl (Ac     rfl) ?_
      refine Dt 6 [13] rfl (Cd    rfl) ?_
      refine Da 7 rfl (Ac     rfl) ?_
      refine Da 11 rfl (Ac     rfl) ?_
      refine Dc 8 rfl rfl (Bb           hf.rep hok0 _ _) ?_
      rintro _ J1 _ e1 ⟨o1, k1, rfl, hs1, rfl⟩
      refine Hx ?_
      refine C6     9 rfl (by kernel_rfl) rfl rfl rfl (by rfl) (by rfl) (by rfl) (by decide) (by decide) (by rfl) .free rfl (.inr Al   ) ?_
      intro b40
      refine Ce       ?_
      intro hz
      have e2 := e1.trans hz
      refine Dc 10 rfl rfl (A1              (Ax        (xs := [.slice ob bd.length cb, .slice o1 (List.length _) k1]) (ys := [])) (hbd.mono e2) (hs1.mono hz) (Ex.binds_room0 (by omega)) _) ?_
      rintro _ J3 _ e3 ⟨o3, k3, rfl, hs3, rfl⟩
      have e4 := e2.trans e3
      have hf3 := hf.mono e4
      have hx3 := T.mono _ _ _ _ e4 hx
      refine Hx ?_
      refine Be    (fun w h => h.u1) ?_
      refine Dc 12 rfl rfl (ihn (by omega) (hf3.as 3 b.tree (by omega) rfl) hok.2 hs3 (Ex.binds_room (by omega)) _ _ (Ex.occ_room (by omega)) hx3 _) ?_
      rintro _ J4 _ e5 ⟨rfl, x, hx, rfl⟩
      have e6 := e4.trans e5
      refine Hx ?_
      refine Be    (fun w h => h.w1) ?_
      have hf := hf.mono e6
      have hbd := hbd.mono e6
      have hle := hle.trans e6
      have hk := hk.mono e6
      refine Au     (by kernel_rfl) ?_
      refine Ak        (Ah      rfl ?_)
      refine Or rfl rfl rfl ?_
      refine Om rfl (Aa     ?_)
      refine Bm      ?_
      refine Se rfl (Oc rfl rfl rfl (Aa     (Ab    ?_)))
      refine Co      rfl (by first | rfl | decide | (simp; done) | omega) ?_
      refine Bq     rfl ?_
      refine Jg    .nil ?_
      exact ⟨_, _, hle, fun w h => h.drop, rfl, x, by simpa [Ex.occ, Ex.binds] using hx, rfl⟩
    · skip
      refine Ah      rfl ?_
      refine Aw    rfl .free rfl ?_
      refine Ca rfl (B9          hf.rep _) ?_
      rintro _ J _ e0 ⟨ok, ck, rfl, hk, rfl⟩
      have hf := hf.mono e0
      have hbd := hbd.mono e0
      have hx := T.mono _ _ _ _ e0 hx
      have hle := e0
      have hok0 := hok
      simp only [Ex.ok, Bool.and_eq_true] at hok
      rw [Ip     ] at hk
      rw [Ip     ]
      have hlen : (Ex.fn g z s t b).tree.parts.length = 6 := rfl
      have hkl : [5].length = 1 := rfl
      simp only [Ex.fn.sizeOf_spec] at hlt
      simp only [Ex.size] at hbl hsl
      refine On rfl (Om rfl (Aa     (Ai      ?_)))
      refine Dd     ?_
      refine Se rfl (Oc rfl rfl rfl (Aa     (Ab    ?_)))
      refine Bn      rfl (by first | rfl | decide | (simp; done) | omega) ?_
      refine Af     (Ab    (Ai      (Se rfl ?_)))
      first | refine Bi    rfl rfl _ rfl .free rfl ?_ | refine Bj    rfl rfl _ rfl .free rfl ?_
      refine Dl    rfl .free rfl ?_
      refine Oa rfl (Aa     ?_)
      refine R4  13 rfl rfl ?_
      refine Da 0 rfl (Ae          rfl) ?_
      refine Dt 1 [13] rfl (A7    rfl) ?_
      refine Da 2 rfl (Ac     rfl) ?_
      first | refine Da 3 rfl (A4    rfl rfl _ rfl) ?_ | refine Da 3 rfl (A5    rfl rfl _ rfl) ?_
      refine Dt 4 [13] rfl (Bz    rfl) ?_
      refine Da 5 rfl (Ac     rfl) ?_
      refine Dt 6 [13] rfl (Cd    rfl) ?_
      refine Da 7 rfl (Ac     rfl) ?_
      refine Da 11 rfl (Ac     rfl) ?_
      refine Dc 8 rfl rfl (Bb           hf.rep hok0 _ _) ?_
      rintro _ J1 _ e1 ⟨o1, k1, rfl, hs1, rfl⟩
      refine Hx ?_
      refine C6     9 rfl (by kernel_rfl) rfl rfl rfl (by rfl) (by rfl) (by rfl) (by decide) (by decide) (by rfl) .free rfl (.inr Al   ) ?_
      intro b40
      refine Ce       ?_
      intro hz
      have e2 := e1.trans hz
      refine Dc 10 rfl rfl (A1              (Ax        (xs := [.slice ob bd.length cb, .slice o1 (List.length _) k1]) (ys := [])) (hbd.mono e2) (hs1.mono hz) (Ex.binds_room0 (by omega)) _) ?_
      rintro _ J3 _ e3 ⟨o3, k3, rfl, hs3, rfl⟩
      have e4 := e2.trans e3
      have hf3 := hf.mono e4
      have hx3 := T.mono _ _ _ _ e4 hx
      refine Hx ?_
      refine Be    (fun w h => h.u1) ?_
      refine Dc 12 rfl rfl (ihn (by omega) (hf3.as 5 b.tree (by omega) rfl) hok.2 hs3 (Ex.binds_room (by omega)) _ _ (by omega) hx3 _) ?_
      rintro _ J4 _ e5 ⟨rfl, x, hx, rfl⟩
      have e6 := e4.trans e5
      refine Hx ?_
      refine Be    (fun w h => h.w1) ?_
      have hf := hf.mono e6
      have hbd := hbd.mono e6
      have hle := hle.trans e6
      have hk := hk.mono e6
      refine Au     (by kernel_rfl) ?_
      refine Ak        (Ah      rfl ?_)
      refine Or rfl rfl rfl ?_
      refine Om rfl (Aa     ?_)
      refine Bm      ?_
      refine Se rfl (Oc rfl rfl rfl (Aa     (Ab    ?_)))
      refine Co      rfl (by first | rfl | decide | (simp; done) | omega) ?_
      refine Bq     rfl ?_
      refine Jg    .nil ?_
      exact ⟨_, _, hle, fun w h => h.drop, rfl, x, by simpa [Ex.occ, Ex.binds] using hx, rfl⟩
    · skip
      refine Ah      rfl ?_
      refine Aw    rfl .free rfl ?_
      refine Ca rfl (B9          hf.rep _) ?_
      rintro _ J _ e0 ⟨ok, ck, rfl, hk, rfl⟩
      have hf := hf.mono e0
      have hbd := hbd.mono e0
      have hx := T.mono _ _ _ _ e0 hx
      have hle := e0
      have hok0 := hok
      simp only [Ex.ok, Bool.and_eq_true] at hok
      rw [G5     ] at hk
      rw [G5     ]
      have hlen : (Ex.un o a).tree.parts.length = 2 := rfl
      have hkl : [1].length = 1 := rfl
      simp only [Ex.un.sizeOf_spec] at hlt
      simp only [Ex.size] at hbl hsl
      refine On rfl (Om rfl (Aa     (Ai      ?_)))
      refine Dd     ?_
      refine Se rfl (Oc rfl rfl rfl (Aa     (Ab    ?_)))
      refine Bn      rfl (by first | rfl | decide | (simp; done) | omega) ?_
      refine Af     (Ab    (Ai      (Se rfl ?_)))
      first | refine Bi    rfl rfl _ rfl .free rfl ?_ | refine Bj    rfl rfl _ rfl .free rfl ?_
      refine Dl    rfl .free rfl ?_
      refine Oa rfl (Aa     ?_)
      refine R4  13 rfl rfl ?_
      refine Da 0 rfl (Ae          rfl) ?_
      refine Dt 1 [13] rfl (A7    rfl) ?_
      refine Da 2 rfl (Ac     rfl) ?_
      first | refine Da 3 rfl (A4    rfl rfl _ rfl) ?_ | refine Da 3 rfl (A5    rfl rfl _ rfl) ?_
      refine Dt 4 [13] rfl (Bz    rfl) ?_
      refine Da 5 rfl (Ac     rfl) ?_
      refine Dt 6 [13] rfl (Cd    rfl) ?_
      refine Da 7 rfl (Ac     rfl) ?_
      refine Da 11 rfl (Ac     rfl) ?_
      refine Dc 8 rfl rfl (Bb           hf.rep hok0 _ _) ?_
      rintro _ J1 _ e1 ⟨o1, k1, rfl, hs1, rfl⟩
      refine Hx ?_
      refine C6     9 rfl (by kernel_rfl) rfl rfl rfl (by rfl) (by rfl) (by rfl) (by decide) (by decide) (by rfl) .free rfl (.inr Al   ) ?_
      intro b40
      refine Ce       ?_
      intro hz
      have e2 := e1.trans hz
      refine Dc 10 rfl rfl (A1              (Ax        (xs := [.slice ob bd.length cb, .slice o1 (List.length _) k1]) (ys := [])) (hbd.mono e2) (hs1.mono hz) (Ex.binds_room0 (by omega)) _) ?_
      rintro _ J3 _ e3 ⟨o3, k3, rfl, hs3, rfl⟩
      have e4 := e2.trans e3
      have hf3 := hf.mono e4
      have hx3 := T.mono _ _ _ _ e4 hx
      refine Hx ?_
      refine Be    (fun w h => h.u1) ?_
      refine Dc 12 rfl rfl (ihn (by omega) (hf3.as 1 a.tree (by omega) rfl) hok hs3 (Ex.binds_room (by omega)) _ _ (by omega) hx3 _) ?_
      rintro _ J4 _ e5 ⟨rfl, x, hx, rfl⟩
      have e6 := e4.trans e5
      refine Hx ?_
      refine Be    (fun w h => h.w1) ?_
      have hf := hf.mono e6
      have hbd := hbd.mono e6
      have hle := hle.trans e6
      have hk := hk.mono e6
      refine Au     (by kernel_rfl) ?_
      refine Ak        (Ah      rfl ?_)
      refine Or rfl rfl rfl ?_
      refine Om rfl (Aa     ?_)
      refine Bm      ?_
      refine Se rfl (Oc rfl rfl rfl (Aa     (Ab    ?_)))
      refine Co      rfl (by first | rfl | decide | (simp; done) | omega) ?_
      refine Bq     rfl ?_
      refine Jg    .nil ?_
      exact ⟨_, _, hle, fun w h => h.drop, rfl, x, by simpa [Ex.occ, Ex.binds] using hx, rfl⟩

structure FB where
 l : List Am
 B : H3
 c : Nat
def FB.own (bo : Nat) (x : FB) : Bc := (bo, .cells [Bd x.l.length x.c x.B].toArray 65 (0, 0)) :: A2 9 (x.l.map sv) x.B
def FB.is (x : FB) (seen : List Am) (I : Heap) : Prop := x.l = Cx [] seen ∧ Cy 1 x.l.length x.c (x.l.map sv) x.B ∧ ∀ s ∈ x.l, Bs s = true
theorem Gp (l m : List Am) : (Cx l m).length ≤ l.length + m.length := by
 induction m generalizing l with
 | nil => exact Nat.le_refl _
 | cons s m ih =>
  have h1 : (En l s).length ≤ l.length + 1 := by unfold En; split <;> simp
  have h2 := ih (En l s)
  simp only [Cx, List.foldl_cons, List.length_cons] at *
  omega
theorem Qj (bo : Nat) (x : FB) (seen : List Am) (s : Am) (I : Heap) (L : Bc) (hx : x.is seen I) (hs : Bs s = true) (hl : seen.length < 4294967296) :
  Fun Tryz.prog 88 [.string (str s), .pointer (some ⟨bo, 0, none⟩)] I (FB.own bo x ++ L) (fun v I' L' => v = .tuple #[] ∧ ∃ y : FB, y.is (seen ++ [s]) I' ∧ L' = FB.own bo y ++ L) := by
 obtain ⟨l, B, c⟩ := x; obtain ⟨hl1, hB, hn⟩ := hx
 simp only at hl1 hB hn
 have hll := Gp [] seen
 rw [← hl1] at hll
 simp only [List.length_nil, Nat.zero_add] at hll
 obtain ⟨oa, c', hbv, hrd⟩ := X0 (I := I) (L := L) (e := 9) hB rfl (by unfold Ap; omega)
 have hcon : Fun Tryz.prog 89 [Bd l.length c B, .string (str s)] I ((bo, .cells [Bd l.length c B].toArray 65 (0, 0)) :: (A2 9 (l.map sv) B ++ L)) (D1 (.bool (decide (s ∈ l))) I ((bo, .cells [Bd l.length c B].toArray 65 (0, 0)) :: (A2 9 (l.map sv) B ++ L))) := by
  have := G4 (hrd.sub (L' := (bo, .cells [Bd l.length c B].toArray 65 (0, 0)) :: (A2 9 (l.map sv) B ++ L)) fun w h => h.drop) c' s
  rwa [← hbv] at this
 unfold FB.own
 simp only [List.cons_append]
 refine Aj (by simp) ?_; refine Se rfl ?_; refine Hf rfl (Dv (cs := [Bd l.length c B]) m0 (by rfl) (by cases B <;> rfl)) .free rfl ?_; refine Om rfl ?_; refine B6 rfl .free rfl hcon ?_; rintro _ _ _ _ ⟨rfl, rfl, rfl⟩; refine Dy rfl .free rfl ?_; refine Aa ?_; refine Av rfl ?_ ?_
 ·intro c0
  try simp only [nb] at c0
  have hadd : Cx [] (seen ++ [s]) = l ++ [s] := by rw [Ci, ← hl1]; simp [Cx, En, c0]
  refine Ah rfl ?_; refine Hf rfl (Dv (cs := [Bd l.length c B]) m0 (by rfl) (by cases B <;> rfl)) .free rfl ?_; refine Om rfl ?_; refine Ol rfl rfl ?_; intro b9; refine D5 (B := B) (xs := l.map sv) (ys := [sv s]) (m := l.length) (c := c) (by intro kk; simp) (by rfl) rfl rfl hB (fun _ h => h.u2) (by rfl) (fun a ha => by cases ha; exact B0 (.head _) (by rfl)) (by simp) (by rfl) (by decide) (by decide) (by omega) (by decide) .free rfl ?_; intro bb sp c2 hB'; refine Sy rfl rfl rfl rfl (by rfl) u2 (by rfl) .free ?_; refine Aa ?_; refine Jg .nil ?_
  first
   | exact ⟨I, _, .refl _, fun w h => h, rfl, ⟨l, B, c⟩, ⟨hadd.symm, hB, hn⟩, rfl⟩
   | exact ⟨I, _, .refl _, fun w h => Mem.sub (L' := (bo, _) :: (bb, _) :: L) (by repeat (first | exact List.Sublist.refl _ | apply List.Sublist.cons_cons | apply List.Sublist.cons)) h.f2, rfl, ⟨l ++ [s], some (bb, sp), c2⟩, ⟨hadd.symm, by simpa using hB', by intro z hz; rcases List.mem_append.1 hz with h | h; exact hn z h; rw [List.mem_singleton.1 h]; exact hs⟩, by simp [A2, Bd]⟩
 intro c0
 try simp only [nb] at c0
 have hadd : Cx [] (seen ++ [s]) = l := by rw [Ci, ← hl1]; simp [Cx, En, c0]
 refine Af ?_; refine Jg .nil ?_
 first
  | exact ⟨I, _, .refl _, fun w h => h, rfl, ⟨l, B, c⟩, ⟨hadd.symm, hB, hn⟩, rfl⟩
  | exact ⟨I, _, .refl _, fun w h => Mem.sub (L' := (bo, _) :: (bb, _) :: L) (by repeat (first | exact List.Sublist.refl _ | apply List.Sublist.cons_cons | apply List.Sublist.cons)) h.f2, rfl, ⟨l ++ [s], some (bb, sp), c2⟩, ⟨hadd.symm, by simpa using hB', by intro z hz; rcases List.mem_append.1 hz with h | h; exact hn z h; rw [List.mem_singleton.1 h]; exact hs⟩, by simp [A2, Bd]⟩
theorem M0 (bo : Nat) : Xx Tryz.prog 88 [.pointer (some ⟨bo, 0, none⟩)] FB (FB.own bo) FB.is :=
 ⟨fun x seen s I L hx hs hl => Qj bo x seen s I L hx hs hl, fun x seen I I' _ h => h⟩
theorem Pt {l : List Am} (h : ∀ s ∈ l, Bs s = true) : ∀ s ∈ l, s.length ≤ Ap := fun s hs => Ex.name_len (h s hs)
theorem My {I : Heap} {e : Ex} {cs : List Value} (h : Rep I e.tree cs) (hok : e.ok = true) (hz : 2 * e.size ≤ 4294967295) (L : Bc) : Fun Tryz.prog 62 [.agg cs.toArray] I L (SS e.free L) := by
 obtain ⟨oa, c, oaf, cf, rfl, hf⟩ := h.at'
 have hT := fun bo => M0 bo
 refine Aj (by simp) ?_; refine Se rfl ?_; refine Cc rfl rfl .free rfl ?_; intro b1; refine Oa rfl (Aa (Se rfl ?_)); refine At .free rfl ?_; intro b3; refine Aa (Se rfl ?_); refine Aw rfl .free rfl ?_; refine Pw rfl rfl .free rfl ?_; refine Cz (L' := FB.own b3 ⟨[], none, 0⟩ ++ _) (fun w h => h) ?_; refine Ca rfl (Tq (hT b3) _ (Nat.lt_succ_self _) hf.rep hok (Jj I) (by unfold Ap; simp; omega) ⟨[], none, 0⟩ [] (by simp; omega) ⟨rfl, ⟨rfl, rfl, rfl⟩, by simp⟩ _) ?_; rintro _ J _ e1 ⟨rfl, ⟨l, B, c2⟩, ⟨hl, hB, hn⟩, rfl⟩
 simp only at hl hB hn
 simp only [FB.own, List.cons_append]
 refine Aa (Se rfl ?_); refine Hf rfl (Dv (cs := [Bd l.length c2 B]) m0 (by rfl) (by cases B <;> rfl)) .free rfl ?_; refine Oa rfl (Aa ?_)
 have hll := Gp [] (e.occ [])
 have hol := e.occ_len []
 simp only [List.nil_append] at hl
 rw [← hl] at hll
 simp only [List.length_nil, Nat.zero_add] at hll
 refine C4 (fun w h => h.u1) (Ff hB rfl (by unfold Ap; omega) (Pt hn) ?_); intro J2 oz cz ez hbv hst; refine Hp (t := 2) rfl hbv ?_; refine Ag (.tmp rfl .nil) ?_
 exact ⟨J2, L, e1.trans ez, fun w h => h.drop.drop, oz, cz, by rw [show e.free = l from hl.symm]; rfl, by rw [show e.free = l from hl.symm]; exact hst, rfl⟩
theorem Dp {P : Program} {f : FuncId} {n : Nat} {I₀ : Heap} {Q : C3} {k : List Item} {ops : Array Oper} {S : World → Prop} {fuel : Nat} {listed : Array Bool} {E : Gj} {I : Heap} {L : Bc} {e : TypeId} {l : List Am} {B : H3} {m c : Nat}
  (hB : Cy 1 m c (l.map sv) B) (hm : m = l.length) (hlen : l.length ≤ Ap) (hs : ∀ s ∈ l, s.length ≤ Ap)
  (h : ∀ I' oa c', HLe I I' → Bd m c B = .slice oa l.length c' → Strs I' oa l c' → Cn P f n I₀ Q ops S fuel listed k E I' L) : Cn P f n I₀ Q ops S fuel listed k E I (A2 e (l.map sv) B ++ L) := by
 cases B with
 | none =>
  obtain ⟨h1, h2, h3⟩ := hB; obtain rfl : l = [] := by simpa using h1
  exact h I .none 0 (.refl _) rfl ⟨by simp, by simp, by simp, hlen, hs⟩
 | some p =>
  obtain ⟨b, sp⟩ := p; refine Ce fun hle => h _ (some ⟨b, 0, .none⟩) c hle (by rw [← hm]; rfl) ⟨fun y hy => ?_, by simp, by have := hB.2.1; omega, hlen, hs⟩
  cases hy; exact Ax
theorem Ex.binds_room1 {bd : List Am} {e : Ex} {i : Nat} (h : bd.length + 2 ≤ 4294967296) : 0 + bd.length + (e.binds i).length ≤ 4294967296 := by
 have := e.binds_le i; omega
theorem Gv (I : Heap) (oa : Option Addr) : Strs I oa [] 0 := ⟨fun x _ => .inl rfl, fun _ => rfl, by simp, by simp [Ap], by simp⟩
theorem Gf {I : Heap} {e : Ex} {cs : List Value} (h : Rep I e.tree cs) (hok : e.ok = true) (hb : e.bare = false) (i : Nat) (hi : i ∈ Cv e.tree) (L : Bc) : Fun Tryz.prog 121 [.agg cs.toArray, .int .i64 (i : Nat)] I L (SS (e.binds i) L) := by
 obtain ⟨oa, c, oaf, cf, rfl, hf⟩ := h.at'
 have hg := (Ex.tree_good hok).1
 have h0 : 0 < e.tree.parts.length := by
  rw [Ex.bare_parts] at hb
  have : e.tree.parts ≠ [] := by intro hh; rw [hh] at hb; cases hb
  exact List.length_pos_iff.2 this
 have hhd := Gg h0
 refine Aj (by simp) ?_; refine Se rfl ?_; refine Cc rfl rfl .free rfl ?_; intro b2; refine Oa rfl (Aa (Ab (Ai (Se rfl (Oh rfl ?_))))); refine Bg rfl .free rfl ?_
 first | refine Bi rfl rfl 0 rfl .free rfl ?_ | refine Bj rfl rfl 0 rfl .free rfl ?_
 refine A3 rfl .free rfl ?_; refine Es rfl .free rfl ?_; refine Od rfl rfl rfl (Om rfl ?_)
 apply D4 12 15 rfl
 ·intro g1_7 hk
  try simp only [nb] at g1_7
  refine Ow rfl ?_; refine C7 rfl rfl rfl (.met rfl rfl) rfl ?_; refine Ot rfl rfl ?_
  exact A0 2 rfl rfl hk
 ·intro _ hk; refine A9 2 rfl ?_; refine Of rfl rfl ?_
  exact A0 2 rfl rfl hk
 refine Oa rfl (Aa ?_); refine Av rfl ?_ ?_
 ·intro c0
  try simp only [nb] at c0
  obtain ⟨x, a, b, rfl⟩ := Ex.of_let (hhd.trans c0.1); obtain rfl : i = 3 := by omega
  simp only [Ex.ok, Bool.and_eq_true] at hok
  have hlen : (Ex.lt x a b).tree.parts.length = 4 := rfl
  have hx : ((Ex.lt x a b).tree.pt 1).atom.length ≤ Ap := Ex.name_len hok.1.1
  refine Se rfl (Oh rfl ?_); refine Bg rfl .free rfl ?_
  first | refine Bi rfl rfl 1 rfl .free rfl ?_ | refine Bj rfl rfl 1 rfl .free rfl ?_
  refine A3 rfl .free rfl ?_; refine Es rfl .free rfl ?_; refine Ol rfl rfl ?_; intro b21; refine Oa rfl (Aa ?_); refine Bx ?_; intro hz; refine Ag (.tmp rfl .nil) ?_
  exact ⟨_, L, hz, Bt, some ⟨b21, 0, none⟩, 1, rfl, Hi hz hx, rfl⟩
 intro c0
 try simp only [nb] at c0
 refine Se rfl (Oh rfl ?_); refine Bg rfl .free rfl ?_
 first | refine Bi rfl rfl 0 rfl .free rfl ?_ | refine Bj rfl rfl 0 rfl .free rfl ?_
 refine A3 rfl .free rfl ?_; refine Es rfl .free rfl ?_; refine Od rfl rfl rfl (Oa rfl (Aa ?_)); refine Av rfl ?_ ?_
 ·intro c1
  try simp only [nb] at c1
  obtain ⟨f, x, s, t, b, rfl⟩ := Ex.of_fun (hhd.trans c1); obtain rfl : i = 5 := by rw [Ip] at hi; simpa using hi
  simp only [Ex.ok, Bool.and_eq_true] at hok
  have hlen : (Ex.fn f x s t b).tree.parts.length = 6 := rfl
  have hx1 : ((Ex.fn f x s t b).tree.pt 1).atom.length ≤ Ap := Ex.name_len hok.1.1.1.1.1
  have hx2 : ((Ex.fn f x s t b).tree.pt 2).atom.length ≤ Ap := Ex.name_len hok.1.1.1.1.2
  refine Ab ?_; refine Do 12 rfl rfl ?_; refine Da 0 rfl (Ae rfl) ?_; refine Dt 1 [12] rfl (A7 rfl) ?_
  first | refine Da 2 rfl (A4 rfl rfl 1 rfl) ?_ | refine Da 2 rfl (A5 rfl rfl 1 rfl) ?_
  refine Da 3 rfl (Ba rfl) ?_; refine Dt 4 [12] rfl (Ii rfl) ?_; refine Da 5 rfl (Ae rfl) ?_; refine Dt 6 [12] rfl (A7 rfl) ?_
  first | refine Da 7 rfl (A4 rfl rfl 2 rfl) ?_ | refine Da 7 rfl (A5 rfl rfl 2 rfl) ?_
  refine Da 8 rfl (Ba rfl) ?_; refine Dt 9 [12] rfl (Ii rfl) ?_; refine C6 10 rfl (by kernel_rfl) rfl rfl rfl (by rfl) (by rfl) (by rfl) (by decide) (by decide) (by rfl) .free rfl (.inr Al) ?_; intro b39; refine Da 11 rfl (Bh rfl) ?_; refine Au (by kernel_rfl) ?_; refine Bx ?_; intro hz; refine Ag (.tmp rfl .nil) ?_
  exact ⟨_, L, hz, Bt, some ⟨b39, 0, none⟩, 2, rfl, Rk hz hx1 hx2, rfl⟩
 intro c1
 try simp only [nb] at c1
 refine Af (Ak (Se rfl ?_)); refine C5 .free rfl ?_; intro b40; refine Oa rfl (Aa (Ag (.tmp rfl .nil) ?_))
 have hbd : e.binds i = [] := by
  cases e with
  | lt x a b => exact if_neg fun hi => by rcases c0 with h | h; exact h rfl; omega
  | fn f x s t b => exact absurd rfl c1
  | _ => rfl
 exact ⟨I, L, .refl _, Bt, some ⟨b40, 0, none⟩, 0, by rw [hbd]; rfl, by rw [hbd]; exact Gv I _, rfl⟩

def LP (l : List Am) (L : Bc) : C3 := fun v I' L' => ∃ B c, v = Bd l.length c B ∧ Cy 1 l.length c (l.map sv) B ∧ L' = A2 9 (l.map sv) B ++ L
theorem Wd {l : List Am} {B : H3} {c : Nat} (hB : Cy 1 l.length c (l.map sv) B) (hl : l.length ≤ Ap) (I : Heap) (p : Nat × Obj) (L : Bc) (s : Am) :
  Fun Tryz.prog 100 [Bd l.length c B, .string (str s)] I (p :: (A2 9 (l.map sv) B ++ L)) (D1 (.bool (decide (s ∈ l))) I (p :: (A2 9 (l.map sv) B ++ L))) := by
 obtain ⟨oa, c', hbv, hrd⟩ := X0 (I := I) (L := L) (e := 9) hB rfl hl; rw [hbv]
 exact Ox (hrd.sub fun w h => h.drop) c' s
theorem O4 {l : List Am} {s : Am} (h : s ∉ l) : Cx l [s] = l ++ [s] := by simp [Cx, En, h]
theorem Qt {l : List Am} {s : Am} (h : s ∈ l) : Cx l [s] = l := by simp [Cx, En, h]
theorem Hl {l bd : List Am} {e : Ex} {k n : Nat} (h : l.length + (e.size + k) ≤ n) : (Cx l (e.occ bd)).length + k ≤ n := by
 have := Gp l (e.occ bd); have := e.occ_len bd; omega
theorem Ry {l bd bd' : List Am} {e e' : Ex} {k n : Nat} (h : l.length + (e.size + (e'.size + k)) ≤ n) : (Cx (Cx l (e.occ bd)) (e'.occ bd')).length + k ≤ n := Hl (Hl h)
theorem Yh : ∀ (n : Nat) {I : Heap} {e : Ex} {cs : List Value} (_ : SizeOf.sizeOf e < n) (_ : Rep I e.tree cs) (_ : e.ok = true) {bd : List Am} {ob : Option Addr} {cb : Nat} (_ : Strs I ob bd cb) (_ : bd.length + 2 * e.size ≤ Ap)
   (l : List Am) (B : H3) (c : Nat) (_ : l.length + e.size ≤ 4294967295) (_ : Cy 1 l.length c (l.map sv) B) (L : Bc),
  Fun Tryz.prog 101 [.agg cs.toArray, .slice ob bd.length cb, Bd l.length c B] I (A2 9 (l.map sv) B ++ L) (LP (Cx l (e.occ bd)) L) := by
 intro n
 induction n with
 | zero => intro I e cs h; omega
 | succ n ihn =>
  intro I e cs hlt h hok bd ob cb hbd hbl l B c hl hB L; obtain ⟨oa, cc, oaf, cf, rfl, hf⟩ := h.at'
  have ha := hf.alen
  have hlN : l.length ≤ Ap := by unfold Ap; omega
  unfold Ap at hbl
  refine Aj (by simp) ?_; refine Se rfl ?_; refine Cc rfl rfl .free rfl ?_; intro b3; refine Oa rfl (Aa (Ab (Se rfl (Oh rfl ?_)))); refine Bg rfl .free rfl ?_; refine Od rfl rfl rfl (Aa ?_); refine Av rfl ?_ ?_
  ·intro c0
   try simp only [nb] at c0
   have hb : e.bare = true := by
    cases hb : e.bare with
    | true => rfl
    | false => exact absurd ((Ex.atom_iff hok).2 hb) c0
   refine Ab (Se rfl (Oh rfl ?_)); refine Bg rfl .free rfl ?_; refine Ca rfl (Kn e.tree.atom ha _ _) ?_; rintro _ _ _ _ ⟨rfl, rfl, rfl⟩; refine Dy rfl .free rfl ?_; refine Om rfl ?_
   apply Fw 17 22 rfl
   ·intro g2_5 hk
    try simp only [nb] at g2_5
    refine Ow rfl ?_; refine Bv rfl (.met rfl rfl) rfl ?_; refine Bg rfl (.met rfl rfl) rfl ?_; refine B6 rfl (.met rfl rfl) rfl (Ox (hbd.rd _) cb e.tree.atom) ?_; rintro _ _ _ _ ⟨rfl, rfl, rfl⟩; refine Of rfl rfl ?_
    exact A0 4 rfl rfl hk
   ·intro _ hk; refine A9 4 rfl ?_; refine Ot rfl rfl ?_
    exact A0 4 rfl rfl hk
   refine Om rfl ?_
   apply Fw 23 28 rfl
   ·intro g2_11 hk
    try simp only [nb] at g2_11
    refine Ow rfl ?_; refine Bv rfl (.met rfl rfl) rfl ?_; refine Bg rfl (.met rfl rfl) rfl ?_; refine B6 rfl (.met rfl rfl) rfl (Wd hB hlN _ _ _ _) ?_; rintro _ _ _ _ ⟨rfl, rfl, rfl⟩; refine Of rfl rfl ?_
    exact A0 4 rfl rfl hk
   ·intro _ hk; refine A9 4 rfl ?_; refine Ot rfl rfl ?_
    exact A0 4 rfl rfl hk
   refine Aa ?_; refine Av rfl ?_ ?_
   ·intro c1
    try simp only [nb] at c1
    refine Se rfl (Om rfl (Oa rfl (Aa (Ag (.tmp rfl .nil) ?_))))
    have hoc : Cx l (e.occ bd) = l := by
     cases e with
     | num s => rfl
     | name s =>
      have c1 : (Bs s = false ∨ s ∈ bd) ∨ s ∈ l := c1
      rcases c1 with (h | h) | h
      ·rw [show Bs s = true from hok] at h; cases h
      ·simp only [Ex.occ]; rw [if_pos h]; rfl
      ·simp only [Ex.occ]
       split
       ·rfl
       ·exact Qt h
     | _ => cases hb
    exact ⟨I, _, .refl _, fun w h => h.drop, B, c, by rw [hoc]; rfl, by rw [hoc]; exact hB, by rw [hoc]⟩
   intro c1
   try simp only [nb] at c1
   refine Af (Se rfl (Om rfl (Oh rfl ?_))); refine Bg rfl .free rfl ?_; refine Ol rfl rfl ?_; intro b33; refine D5 (B := B) (xs := l.map sv) (ys := [sv e.tree.atom]) (m := l.length) (c := c) (by intro kk; simp) (by rfl) rfl rfl hB (fun _ h => h.u2) (by rfl) (fun a ha => by cases ha; exact B0 (.head _) (by rfl)) (by simp) (by rfl) (by decide) (by decide) (by have := e.size_pos; omega) (by decide) .free rfl ?_; intro bb sp c2 hB'; refine Oa rfl (Aa (Ag (.tmp rfl .nil) ?_))
   have hoc : Cx l (e.occ bd) = l ++ [e.tree.atom] := by
    cases e with
    | num s =>
     have h1 : Bs s = true := c1.1.1
     have h2 := Fe h1
     rw [show Cr s = true from hok] at h2; cases h2
    | name s =>
     have c1 : (Bs s = true ∧ ¬ s ∈ bd) ∧ ¬ s ∈ l := c1
     simp only [Ex.occ]; rw [if_neg c1.1.2]; exact O4 c1.2
    | _ => cases hb
   exact ⟨I, _, .refl _, Ms (L' := (bb, _) :: L), some (bb, sp), c2, by rw [hoc]; simp [By, Bd], by rw [hoc]; simpa using hB', by rw [hoc]; simp [A2]⟩
  intro c0
  try simp only [nb] at c0
  have hb : e.bare = false := (Ex.atom_iff hok).1 (by simpa using c0)
  have hsh := e.shapes hb
  have h0 : 0 < e.tree.parts.length := by
   rw [Ex.bare_parts] at hb
   have : e.tree.parts ≠ [] := by intro hh; rw [hh] at hb; cases hb
   exact List.length_pos_iff.2 this
  have hhd := Gg h0
  have hok0 := hok
  have hle : HLe I I := .refl _
  refine Af (Se rfl (Oh rfl ?_)); refine Bg rfl .free rfl ?_
  first | refine Bi rfl rfl 0 rfl .free rfl ?_ | refine Bj rfl rfl 0 rfl .free rfl ?_
  refine A3 rfl .free rfl ?_; refine Es rfl .free rfl ?_; refine Ca rfl (H8 (e.tree.pt 0).atom _ _) ?_; rw [← hhd]; rintro _ _ _ _ ⟨rfl, rfl, rfl⟩; refine Om rfl (Oe rfl rfl (Oe rfl rfl (Oa rfl (Oa rfl (Aa (Ab (Ab ?_)))))))
  rcases hsh with ⟨o, a, b, rfl⟩ | ⟨a, b, d, rfl⟩ | ⟨z, a, b, rfl⟩ | ⟨g, z, s, t, b, rfl⟩ | ⟨o, a, rfl⟩
  ·skip
   have hk : Ar (Ex.bin o a b).tree.head = (1, 3) := by cases o <;> rfl
   rw [hk]
   have hlen : (Ex.bin o a b).tree.parts.length = 3 := rfl
   have hki := Gb o a b
   simp only [Ex.bin.sizeOf_spec] at hlt
   simp only [Ex.size] at hbl hl
   simp only [Ex.ok, Bool.and_eq_true] at hok
   refine Ah rfl (Om rfl (Oa rfl (Aa (Ai ?_)))); refine Dd ?_; refine Ab (Se rfl (Om rfl (Om rfl (Oc rfl rfl rfl (Aa ?_))))); refine Bn rfl (by first | rfl | decide | (simp; done) | omega) ?_; refine Af (Ab (Ai ?_)); refine R4 15 rfl rfl ?_; refine Da 0 rfl (Ae rfl) ?_; refine Dt 1 [15] rfl (A7 rfl) ?_; refine Da 2 rfl (Ac rfl) ?_
   first | refine Da 3 rfl (A4 rfl rfl _ rfl) ?_ | refine Da 3 rfl (A5 rfl rfl _ rfl) ?_
   refine Dt 4 [15] rfl (Bz rfl) ?_; refine Da 6 rfl (Ac rfl) ?_; refine Dt 8 [15] rfl (Cd rfl) ?_; refine Da 9 rfl (Ac rfl) ?_; refine Da 12 rfl (Ac rfl) ?_; refine Gn 5 rfl (by kernel_rfl) rfl .free rfl (.inr Al) ?_; intro b55; refine B8 7 (B := some (b55, [])) (xs := []) (ys := bd.map sv) (m := 0) (c := 0) rfl (by kernel_rfl) rfl (by intro kk; simp) (by rfl) rfl rfl ⟨rfl, Nat.le_refl _, rfl⟩ (fun _ h => h) (by simp) hbd.reads hbd.none (Cg bd) (by decide) (by omega) (by decide) .free rfl (fun _ => .inr Al) ?_; intro B1 c1' hB1
   refine Dc 10 rfl rfl (Gf hf.rep hok0 hb _ (by rw [hki]; decide) _) ?_; rintro _ J1 _ e1 ⟨o1, k1, rfl, hs1, rfl⟩
   have hbd1 := hbd.mono e1
   refine Hx ?_; refine B8 11 (B := B1) (xs := bd.map sv) (ys := (Ex.binds _ _).map sv) (m := 0 + bd.length) (c := c1') rfl (by kernel_rfl) rfl (by intro kk; simp) (by rfl) rfl rfl hB1 (fun _ h => h) (by simp) hs1.reads hs1.none (Cg _) (by decide) (Ex.binds_room1 (by omega)) (by decide) .free rfl (fun _ => .inr Al) ?_; intro B2 c2' hB2; rw [← List.map_append] at hB2 ⊢; refine Dp (l := bd ++ Ex.binds _ _) hB2 (by simp) (by rw [List.length_append]; exact Ex.binds_room0 (by omega)) (hbd1.append hs1) ?_; intro J3 o3 k3 ez hbv hs3; refine E6 (t := 61) rfl hbv ?_
   have e4 := e1.trans ez
   have hf3 := hf.mono e4
   refine Be (fun w h => h.u1) ?_; refine Dc 13 rfl rfl (ihn (by omega) (hf3.as 1 a.tree (by omega) rfl) hok.1 hs3 (Ex.binds_room (by omega)) _ _ _ (by omega) hB _) ?_; rintro _ J4 _ e5 ⟨B, c, rfl, hB, rfl⟩
   have e6 := e4.trans e5
   refine Hx ?_; refine Be (fun w h => h.w1) ?_
   have hf := hf.mono e6
   have hbd := hbd.mono e6
   have hle := hle.trans e6
   refine Da 14 rfl (Bh rfl) ?_; refine Au (by kernel_rfl) ?_; refine Ak (Ah rfl (Om rfl ?_)); refine Or rfl rfl rfl ?_; refine Oa rfl (Aa ?_); refine Bm ?_; refine Ab (Se rfl (Om rfl (Om rfl (Oc rfl rfl rfl (Aa ?_))))); refine Bn rfl (by first | rfl | decide | (simp; done) | omega) ?_; refine Af (Ab (Ai ?_)); refine R4 15 rfl rfl ?_; refine Da 0 rfl (Ae rfl) ?_; refine Dt 1 [15] rfl (A7 rfl) ?_; refine Da 2 rfl (Ac rfl) ?_
   first | refine Da 3 rfl (A4 rfl rfl _ rfl) ?_ | refine Da 3 rfl (A5 rfl rfl _ rfl) ?_
   refine Dt 4 [15] rfl (Bz rfl) ?_; refine Da 6 rfl (Ac rfl) ?_; refine Dt 8 [15] rfl (Cd rfl) ?_; refine Da 9 rfl (Ac rfl) ?_; refine Da 12 rfl (Ac rfl) ?_; refine Gn 5 rfl (by kernel_rfl) rfl .free rfl (.inr Al) ?_; intro b55; refine B8 7 (B := some (b55, [])) (xs := []) (ys := bd.map sv) (m := 0) (c := 0) rfl (by kernel_rfl) rfl (by intro kk; simp) (by rfl) rfl rfl ⟨rfl, Nat.le_refl _, rfl⟩ (fun _ h => h) (by simp) hbd.reads hbd.none (Cg bd) (by decide) (by omega) (by decide) .free rfl (fun _ => .inr Al) ?_; intro B1 c1' hB1
   refine Dc 10 rfl rfl (Gf hf.rep hok0 hb _ (by rw [hki]; decide) _) ?_; rintro _ J1 _ e1 ⟨o1, k1, rfl, hs1, rfl⟩
   have hbd1 := hbd.mono e1
   refine Hx ?_; refine B8 11 (B := B1) (xs := bd.map sv) (ys := (Ex.binds _ _).map sv) (m := 0 + bd.length) (c := c1') rfl (by kernel_rfl) rfl (by intro kk; simp) (by rfl) rfl rfl hB1 (fun _ h => h) (by simp) hs1.reads hs1.none (Cg _) (by decide) (Ex.binds_room1 (by omega)) (by decide) .free rfl (fun _ => .inr Al) ?_; intro B2 c2' hB2; rw [← List.map_append] at hB2 ⊢; refine Dp (l := bd ++ Ex.binds _ _) hB2 (by simp) (by rw [List.length_append]; exact Ex.binds_room0 (by omega)) (hbd1.append hs1) ?_; intro J3 o3 k3 ez hbv hs3; refine E6 (t := 61) rfl hbv ?_
   have e4 := e1.trans ez
   have hf3 := hf.mono e4
   refine Be (fun w h => h.u1) ?_; refine Dc 13 rfl rfl (ihn (by omega) (hf3.as 2 b.tree (by omega) rfl) hok.2 hs3 (Ex.binds_room (by omega)) _ _ _ (Hl (by omega)) hB _) ?_; rintro _ J4 _ e5 ⟨B, c, rfl, hB, rfl⟩
   have e6 := e4.trans e5
   refine Hx ?_; refine Be (fun w h => h.w1) ?_
   have hf := hf.mono e6
   have hbd := hbd.mono e6
   have hle := hle.trans e6
   refine Da 14 rfl (Bh rfl) ?_; refine Au (by kernel_rfl) ?_; refine Ak (Ah rfl (Om rfl ?_)); refine Or rfl rfl rfl ?_; refine Oa rfl (Aa ?_); refine Bm ?_; refine Ab (Se rfl (Om rfl (Om rfl (Oc rfl rfl rfl (Aa ?_))))); refine Co rfl (by first | rfl | decide | (simp; done) | omega) ?_; refine Bq rfl ?_; refine Se rfl (Om rfl (Oa rfl (Aa (Ag (.tmp rfl .nil) ?_))))
   exact ⟨_, _, hle, fun w h => h.drop, B, c, by simp [Ex.occ, Ex.binds, Ci, By], by simpa [Ex.occ, Ex.binds, Ci] using hB, by simp [Ex.occ, Ex.binds, Ci]⟩
  ·skip
   have hk : Ar (Ex.ite a b d).tree.head = (1, 4) := rfl
   rw [hk]
   have hlen : (Ex.ite a b d).tree.parts.length = 4 := rfl
   have hki := Ia a b d
   simp only [Ex.ite.sizeOf_spec] at hlt
   simp only [Ex.size] at hbl hl
   simp only [Ex.ok, Bool.and_eq_true] at hok
   refine Ah rfl (Om rfl (Oa rfl (Aa (Ai ?_)))); refine Dd ?_; refine Ab (Se rfl (Om rfl (Om rfl (Oc rfl rfl rfl (Aa ?_))))); refine Bn rfl (by first | rfl | decide | (simp; done) | omega) ?_; refine Af (Ab (Ai ?_)); refine R4 15 rfl rfl ?_; refine Da 0 rfl (Ae rfl) ?_; refine Dt 1 [15] rfl (A7 rfl) ?_; refine Da 2 rfl (Ac rfl) ?_
   first | refine Da 3 rfl (A4 rfl rfl _ rfl) ?_ | refine Da 3 rfl (A5 rfl rfl _ rfl) ?_
   refine Dt 4 [15] rfl (Bz rfl) ?_; refine Da 6 rfl (Ac rfl) ?_; refine Dt 8 [15] rfl (Cd rfl) ?_; refine Da 9 rfl (Ac rfl) ?_; refine Da 12 rfl (Ac rfl) ?_; refine Gn 5 rfl (by kernel_rfl) rfl .free rfl (.inr Al) ?_; intro b55; refine B8 7 (B := some (b55, [])) (xs := []) (ys := bd.map sv) (m := 0) (c := 0) rfl (by kernel_rfl) rfl (by intro kk; simp) (by rfl) rfl rfl ⟨rfl, Nat.le_refl _, rfl⟩ (fun _ h => h) (by simp) hbd.reads hbd.none (Cg bd) (by decide) (by omega) (by decide) .free rfl (fun _ => .inr Al) ?_; intro B1 c1' hB1
   refine Dc 10 rfl rfl (Gf hf.rep hok0 hb _ (by rw [hki]; decide) _) ?_; rintro _ J1 _ e1 ⟨o1, k1, rfl, hs1, rfl⟩
   have hbd1 := hbd.mono e1
   refine Hx ?_; refine B8 11 (B := B1) (xs := bd.map sv) (ys := (Ex.binds _ _).map sv) (m := 0 + bd.length) (c := c1') rfl (by kernel_rfl) rfl (by intro kk; simp) (by rfl) rfl rfl hB1 (fun _ h => h) (by simp) hs1.reads hs1.none (Cg _) (by decide) (Ex.binds_room1 (by omega)) (by decide) .free rfl (fun _ => .inr Al) ?_; intro B2 c2' hB2; rw [← List.map_append] at hB2 ⊢; refine Dp (l := bd ++ Ex.binds _ _) hB2 (by simp) (by rw [List.length_append]; exact Ex.binds_room0 (by omega)) (hbd1.append hs1) ?_; intro J3 o3 k3 ez hbv hs3; refine E6 (t := 61) rfl hbv ?_
   have e4 := e1.trans ez
   have hf3 := hf.mono e4
   refine Be (fun w h => h.u1) ?_; refine Dc 13 rfl rfl (ihn (by omega) (hf3.as 1 a.tree (by omega) rfl) hok.1.1 hs3 (Ex.binds_room (by omega)) _ _ _ (by omega) hB _) ?_; rintro _ J4 _ e5 ⟨B, c, rfl, hB, rfl⟩
   have e6 := e4.trans e5
   refine Hx ?_; refine Be (fun w h => h.w1) ?_
   have hf := hf.mono e6
   have hbd := hbd.mono e6
   have hle := hle.trans e6
   refine Da 14 rfl (Bh rfl) ?_; refine Au (by kernel_rfl) ?_; refine Ak (Ah rfl (Om rfl ?_)); refine Or rfl rfl rfl ?_; refine Oa rfl (Aa ?_); refine Bm ?_; refine Ab (Se rfl (Om rfl (Om rfl (Oc rfl rfl rfl (Aa ?_))))); refine Bn rfl (by first | rfl | decide | (simp; done) | omega) ?_; refine Af (Ab (Ai ?_)); refine R4 15 rfl rfl ?_; refine Da 0 rfl (Ae rfl) ?_; refine Dt 1 [15] rfl (A7 rfl) ?_; refine Da 2 rfl (Ac rfl) ?_
   first | refine Da 3 rfl (A4 rfl rfl _ rfl) ?_ | refine Da 3 rfl (A5 rfl rfl _ rfl) ?_
   refine Dt 4 [15] rfl (Bz rfl) ?_; refine Da 6 rfl (Ac rfl) ?_; refine Dt 8 [15] rfl (Cd rfl) ?_; refine Da 9 rfl (Ac rfl) ?_; refine Da 12 rfl (Ac rfl) ?_; refine Gn 5 rfl (by kernel_rfl) rfl .free rfl (.inr Al) ?_; intro b55; refine B8 7 (B := some (b55, [])) (xs := []) (ys := bd.map sv) (m := 0) (c := 0) rfl (by kernel_rfl) rfl (by intro kk; simp) (by rfl) rfl rfl ⟨rfl, Nat.le_refl _, rfl⟩ (fun _ h => h) (by simp) hbd.reads hbd.none (Cg bd) (by decide) (by omega) (by decide) .free rfl (fun _ => .inr Al) ?_; intro B1 c1' hB1
   refine Dc 10 rfl rfl (Gf hf.rep hok0 hb _ (by rw [hki]; decide) _) ?_; rintro _ J1 _ e1 ⟨o1, k1, rfl, hs1, rfl⟩
   have hbd1 := hbd.mono e1
   refine Hx ?_; refine B8 11 (B := B1) (xs := bd.map sv) (ys := (Ex.binds _ _).map sv) (m := 0 + bd.length) (c := c1') rfl (by kernel_rfl) rfl (by intro kk; simp) (by rfl) rfl rfl hB1 (fun _ h => h) (by simp) hs1.reads hs1.none (Cg _) (by decide) (Ex.binds_room1 (by omega)) (by decide) .free rfl (fun _ => .inr Al) ?_; intro B2 c2' hB2; rw [← List.map_append] at hB2 ⊢; refine Dp (l := bd ++ Ex.binds _ _) hB2 (by simp) (by rw [List.length_append]; exact Ex.binds_room0 (by omega)) (hbd1.append hs1) ?_; intro J3 o3 k3 ez hbv hs3; refine E6 (t := 61) rfl hbv ?_
   have e4 := e1.trans ez
   have hf3 := hf.mono e4
   refine Be (fun w h => h.u1) ?_; refine Dc 13 rfl rfl (ihn (by omega) (hf3.as 2 b.tree (by omega) rfl) hok.1.2 hs3 (Ex.binds_room (by omega)) _ _ _ (Hl (by omega)) hB _) ?_; rintro _ J4 _ e5 ⟨B, c, rfl, hB, rfl⟩
   have e6 := e4.trans e5
   refine Hx ?_; refine Be (fun w h => h.w1) ?_
   have hf := hf.mono e6
   have hbd := hbd.mono e6
   have hle := hle.trans e6
   refine Da 14 rfl (Bh rfl) ?_; refine Au (by kernel_rfl) ?_; refine Ak (Ah rfl (Om rfl ?_)); refine Or rfl rfl rfl ?_; refine Oa rfl (Aa ?_); refine Bm ?_; refine Ab (Se rfl (Om rfl (Om rfl (Oc rfl rfl rfl (Aa ?_))))); refine Bn rfl (by first | rfl | decide | (simp; done) | omega) ?_; refine Af (Ab (Ai ?_)); refine R4 15 rfl rfl ?_; refine Da 0 rfl (Ae rfl) ?_; refine Dt 1 [15] rfl (A7 rfl) ?_; refine Da 2 rfl (Ac rfl) ?_
   first | refine Da 3 rfl (A4 rfl rfl _ rfl) ?_ | refine Da 3 rfl (A5 rfl rfl _ rfl) ?_
   refine Dt 4 [15] rfl (Bz rfl) ?_; refine Da 6 rfl (Ac rfl) ?_; refine Dt 8 [15] rfl (Cd rfl) ?_; refine Da 9 rfl (Ac rfl) ?_; refine Da 12 rfl (Ac rfl) ?_; refine Gn 5 rfl (by kernel_rfl) rfl .free rfl (.inr Al) ?_; intro b55; refine B8 7 (B := some (b55, [])) (xs := []) (ys := bd.map sv) (m := 0) (c := 0) rfl (by kernel_rfl) rfl (by intro kk; simp) (by rfl) rfl rfl ⟨rfl, Nat.le_refl _, rfl⟩ (fun _ h => h) (by simp) hbd.reads hbd.none (Cg bd) (by decide) (by omega) (by decide) .free rfl (fun _ => .inr Al) ?_; intro B1 c1' hB1
   refine Dc 10 rfl rfl (Gf hf.rep hok0 hb _ (by rw [hki]; decide) _) ?_; rintro _ J1 _ e1 ⟨o1, k1, rfl, hs1, rfl⟩
   have hbd1 := hbd.mono e1
   refine Hx ?_; refine B8 11 (B := B1) (xs := bd.map sv) (ys := (Ex.binds _ _).map sv) (m := 0 + bd.length) (c := c1') rfl (by kernel_rfl) rfl (by intro kk; simp) (by rfl) rfl rfl hB1 (fun _ h => h) (by simp) hs1.reads hs1.none (Cg _) (by decide) (Ex.binds_room1 (by omega)) (by decide) .free rfl (fun _ => .inr Al) ?_; intro B2 c2' hB2; rw [← List.map_append] at hB2 ⊢; refine Dp (l := bd ++ Ex.binds _ _) hB2 (by simp) (by rw [List.length_append]; exact Ex.binds_room0 (by omega)) (hbd1.append hs1) ?_; intro J3 o3 k3 ez hbv hs3; refine E6 (t := 61) rfl hbv ?_
   have e4 := e1.trans ez
   have hf3 := hf.mono e4
   refine Be (fun w h => h.u1) ?_; refine Dc 13 rfl rfl (ihn (by omega) (hf3.as 3 d.tree (by omega) rfl) hok.2 hs3 (Ex.binds_room (by omega)) _ _ _ (Ry (by omega)) hB _) ?_; rintro _ J4 _ e5 ⟨B, c, rfl, hB, rfl⟩
   have e6 := e4.trans e5
   refine Hx ?_; refine Be (fun w h => h.w1) ?_
   have hf := hf.mono e6
   have hbd := hbd.mono e6
   have hle := hle.trans e6
   refine Da 14 rfl (Bh rfl) ?_; refine Au (by kernel_rfl) ?_; refine Ak (Ah rfl (Om rfl ?_)); refine Or rfl rfl rfl ?_; refine Oa rfl (Aa ?_); refine Bm ?_; refine Ab (Se rfl (Om rfl (Om rfl (Oc rfl rfl rfl (Aa ?_))))); refine Co rfl (by first | rfl | decide | (simp; done) | omega) ?_; refine Bq rfl ?_; refine Se rfl (Om rfl (Oa rfl (Aa (Ag (.tmp rfl .nil) ?_))))
   exact ⟨_, _, hle, fun w h => h.drop, B, c, by simp [Ex.occ, Ex.binds, Ci, By], by simpa [Ex.occ, Ex.binds, Ci] using hB, by simp [Ex.occ, Ex.binds, Ci]⟩
  ·skip
   have hk : Ar (Ex.lt z a b).tree.head = (2, 4) := rfl
   rw [hk]
   have hlen : (Ex.lt z a b).tree.parts.length = 4 := rfl
   have hki := Ib z a b
   simp only [Ex.lt.sizeOf_spec] at hlt
   simp only [Ex.size] at hbl hl
   simp only [Ex.ok, Bool.and_eq_true] at hok
   refine Ah rfl (Om rfl (Oa rfl (Aa (Ai ?_)))); refine Dd ?_; refine Ab (Se rfl (Om rfl (Om rfl (Oc rfl rfl rfl (Aa ?_))))); refine Bn rfl (by first | rfl | decide | (simp; done) | omega) ?_; refine Af (Ab (Ai ?_)); refine R4 15 rfl rfl ?_; refine Da 0 rfl (Ae rfl) ?_; refine Dt 1 [15] rfl (A7 rfl) ?_; refine Da 2 rfl (Ac rfl) ?_
   first | refine Da 3 rfl (A4 rfl rfl _ rfl) ?_ | refine Da 3 rfl (A5 rfl rfl _ rfl) ?_
   refine Dt 4 [15] rfl (Bz rfl) ?_; refine Da 6 rfl (Ac rfl) ?_; refine Dt 8 [15] rfl (Cd rfl) ?_; refine Da 9 rfl (Ac rfl) ?_; refine Da 12 rfl (Ac rfl) ?_; refine Gn 5 rfl (by kernel_rfl) rfl .free rfl (.inr Al) ?_; intro b55; refine B8 7 (B := some (b55, [])) (xs := []) (ys := bd.map sv) (m := 0) (c := 0) rfl (by kernel_rfl) rfl (by intro kk; simp) (by rfl) rfl rfl ⟨rfl, Nat.le_refl _, rfl⟩ (fun _ h => h) (by simp) hbd.reads hbd.none (Cg bd) (by decide) (by omega) (by decide) .free rfl (fun _ => .inr Al) ?_; intro B1 c1' hB1
   refine Dc 10 rfl rfl (Gf hf.rep hok0 hb _ (by rw [hki]; decide) _) ?_; rintro _ J1 _ e1 ⟨o1, k1, rfl, hs1, rfl⟩
   have hbd1 := hbd.mono e1
   refine Hx ?_; refine B8 11 (B := B1) (xs := bd.map sv) (ys := (Ex.binds _ _).map sv) (m := 0 + bd.length) (c := c1') rfl (by kernel_rfl) rfl (by intro kk; simp) (by rfl) rfl rfl hB1 (fun _ h => h) (by simp) hs1.reads hs1.none (Cg _) (by decide) (Ex.binds_room1 (by omega)) (by decide) .free rfl (fun _ => .inr Al) ?_; intro B2 c2' hB2; rw [← List.map_append] at hB2 ⊢; refine Dp (l := bd ++ Ex.binds _ _) hB2 (by simp) (by rw [List.length_append]; exact Ex.binds_room0 (by omega)) (hbd1.append hs1) ?_; intro J3 o3 k3 ez hbv hs3; refine E6 (t := 61) rfl hbv ?_
   have e4 := e1.trans ez
   have hf3 := hf.mono e4
   refine Be (fun w h => h.u1) ?_; refine Dc 13 rfl rfl (ihn (by omega) (hf3.as 2 a.tree (by omega) rfl) hok.1.2 hs3 (Ex.binds_room (by omega)) _ _ _ (by omega) hB _) ?_; rintro _ J4 _ e5 ⟨B, c, rfl, hB, rfl⟩
   have e6 := e4.trans e5
   refine Hx ?_; refine Be (fun w h => h.w1) ?_
   have hf := hf.mono e6
   have hbd := hbd.mono e6
   have hle := hle.trans e6
   refine Da 14 rfl (Bh rfl) ?_; refine Au (by kernel_rfl) ?_; refine Ak (Ah rfl (Om rfl ?_)); refine Or rfl rfl rfl ?_; refine Oa rfl (Aa ?_); refine Bm ?_; refine Ab (Se rfl (Om rfl (Om rfl (Oc rfl rfl rfl (Aa ?_))))); refine Bn rfl (by first | rfl | decide | (simp; done) | omega) ?_; refine Af (Ab (Ai ?_)); refine R4 15 rfl rfl ?_; refine Da 0 rfl (Ae rfl) ?_; refine Dt 1 [15] rfl (A7 rfl) ?_; refine Da 2 rfl (Ac rfl) ?_
   first | refine Da 3 rfl (A4 rfl rfl _ rfl) ?_ | refine Da 3 rfl (A5 rfl rfl _ rfl) ?_
   refine Dt 4 [15] rfl (Bz rfl) ?_; refine Da 6 rfl (Ac rfl) ?_; refine Dt 8 [15] rfl (Cd rfl) ?_; refine Da 9 rfl (Ac rfl) ?_; refine Da 12 rfl (Ac rfl) ?_; refine Gn 5 rfl (by kernel_rfl) rfl .free rfl (.inr Al) ?_; intro b55; refine B8 7 (B := some (b55, [])) (xs := []) (ys := bd.map sv) (m := 0) (c := 0) rfl (by kernel_rfl) rfl (by intro kk; simp) (by rfl) rfl rfl ⟨rfl, Nat.le_refl _, rfl⟩ (fun _ h => h) (by simp) hbd.reads hbd.none (Cg bd) (by decide) (by omega) (by decide) .free rfl (fun _ => .inr Al) ?_; intro B1 c1' hB1
   refine Dc 10 rfl rfl (Gf hf.rep hok0 hb _ (by rw [hki]; decide) _) ?_; rintro _ J1 _ e1 ⟨o1, k1, rfl, hs1, rfl⟩
   have hbd1 := hbd.mono e1
   refine Hx ?_; refine B8 11 (B := B1) (xs := bd.map sv) (ys := (Ex.binds _ _).map sv) (m := 0 + bd.length) (c := c1') rfl (by kernel_rfl) rfl (by intro kk; simp) (by rfl) rfl rfl hB1 (fun _ h => h) (by simp) hs1.reads hs1.none (Cg _) (by decide) (Ex.binds_room1 (by omega)) (by decide) .free rfl (fun _ => .inr Al) ?_; intro B2 c2' hB2; rw [← List.map_append] at hB2 ⊢; refine Dp (l := bd ++ Ex.binds _ _) hB2 (by simp) (by rw [List.length_append]; exact Ex.binds_room0 (by omega)) (hbd1.append hs1) ?_; intro J3 o3 k3 ez hbv hs3; refine E6 (t := 61) rfl hbv ?_
   have e4 := e1.trans ez
   have hf3 := hf.mono e4
   refine Be (fun w h => h.u1) ?_; refine Dc 13 rfl rfl (ihn (by omega) (hf3.as 3 b.tree (by omega) rfl) hok.2 hs3 (Ex.binds_room (by omega)) _ _ _ (Hl (by omega)) hB _) ?_; rintro _ J4 _ e5 ⟨B, c, rfl, hB, rfl⟩
   have e6 := e4.trans e5
   refine Hx ?_; refine Be (fun w h => h.w1) ?_
   have hf := hf.mono e6
   have hbd := hbd.mono e6
   have hle := hle.trans e6
   refine Da 14 rfl (Bh rfl) ?_; refine Au (by kernel_rfl) ?_; refine Ak (Ah rfl (Om rfl ?_)); refine Or rfl rfl rfl ?_; refine Oa rfl (Aa ?_); refine Bm ?_; refine Ab (Se rfl (Om rfl (Om rfl (Oc rfl rfl rfl (Aa ?_))))); refine Co rfl (by first | rfl | decide | (simp; done) | omega) ?_; refine Bq rfl ?_; refine Se rfl (Om rfl (Oa rfl (Aa (Ag (.tmp rfl .nil) ?_))))
   exact ⟨_, _, hle, fun w h => h.drop, B, c, by simp [Ex.occ, Ex.binds, Ci, By], by simpa [Ex.occ, Ex.binds, Ci] using hB, by simp [Ex.occ, Ex.binds, Ci]⟩
  ·skip
   have hk : Ar (Ex.fn g z s t b).tree.head = (5, 6) := rfl
   rw [hk]
   have hlen : (Ex.fn g z s t b).tree.parts.length = 6 := rfl
   have hki := Ip g z s t b
   simp only [Ex.fn.sizeOf_spec] at hlt
   simp only [Ex.size] at hbl hl
   simp only [Ex.ok, Bool.and_eq_true] at hok
   refine Ah rfl (Om rfl (Oa rfl (Aa (Ai ?_)))); refine Dd ?_; refine Ab (Se rfl (Om rfl (Om rfl (Oc rfl rfl rfl (Aa ?_))))); refine Bn rfl (by first | rfl | decide | (simp; done) | omega) ?_; refine Af (Ab (Ai ?_)); refine R4 15 rfl rfl ?_; refine Da 0 rfl (Ae rfl) ?_; refine Dt 1 [15] rfl (A7 rfl) ?_; refine Da 2 rfl (Ac rfl) ?_
   first | refine Da 3 rfl (A4 rfl rfl _ rfl) ?_ | refine Da 3 rfl (A5 rfl rfl _ rfl) ?_
   refine Dt 4 [15] rfl (Bz rfl) ?_; refine Da 6 rfl (Ac rfl) ?_; refine Dt 8 [15] rfl (Cd rfl) ?_; refine Da 9 rfl (Ac rfl) ?_; refine Da 12 rfl (Ac rfl) ?_; refine Gn 5 rfl (by kernel_rfl) rfl .free rfl (.inr Al) ?_; intro b55; refine B8 7 (B := some (b55, [])) (xs := []) (ys := bd.map sv) (m := 0) (c := 0) rfl (by kernel_rfl) rfl (by intro kk; simp) (by rfl) rfl rfl ⟨rfl, Nat.le_refl _, rfl⟩ (fun _ h => h) (by simp) hbd.reads hbd.none (Cg bd) (by decide) (by omega) (by decide) .free rfl (fun _ => .inr Al) ?_; intro B1 c1' hB1
   refine Dc 10 rfl rfl (Gf hf.rep hok0 hb _ (by rw [hki]; decide) _) ?_; rintro _ J1 _ e1 ⟨o1, k1, rfl, hs1, rfl⟩
   have hbd1 := hbd.mono e1
   refine Hx ?_; refine B8 11 (B := B1) (xs := bd.map sv) (ys := (Ex.binds _ _).map sv) (m := 0 + bd.length) (c := c1') rfl (by kernel_rfl) rfl (by intro kk; simp) (by rfl) rfl rfl hB1 (fun _ h => h) (by simp) hs1.reads hs1.none (Cg _) (by decide) (Ex.binds_room1 (by omega)) (by decide) .free rfl (fun _ => .inr Al) ?_; intro B2 c2' hB2; rw [← List.map_append] at hB2 ⊢; refine Dp (l := bd ++ Ex.binds _ _) hB2 (by simp) (by rw [List.length_append]; exact Ex.binds_room0 (by omega)) (hbd1.append hs1) ?_; intro J3 o3 k3 ez hbv hs3; refine E6 (t := 61) rfl hbv ?_
   have e4 := e1.trans ez
   have hf3 := hf.mono e4
   refine Be (fun w h => h.u1) ?_; refine Dc 13 rfl rfl (ihn (by omega) (hf3.as 5 b.tree (by omega) rfl) hok.2 hs3 (Ex.binds_room (by omega)) _ _ _ (by omega) hB _) ?_; rintro _ J4 _ e5 ⟨B, c, rfl, hB, rfl⟩
   have e6 := e4.trans e5
   refine Hx ?_; refine Be (fun w h => h.w1) ?_
   have hf := hf.mono e6
   have hbd := hbd.mono e6
   have hle := hle.trans e6
   refine Da 14 rfl (Bh rfl) ?_; refine Au (by kernel_rfl) ?_; refine Ak (Ah rfl (Om rfl ?_)); refine Or rfl rfl rfl ?_; refine Oa rfl (Aa ?_); refine Bm ?_; refine Ab (Se rfl (Om rfl (Om rfl (Oc rfl rfl rfl (Aa ?_))))); refine Co rfl (by first | rfl | decide | (simp; done) | omega) ?_; refine Bq rfl ?_; refine Se rfl (Om rfl (Oa rfl (Aa (Ag (.tmp rfl .nil) ?_))))
   exact ⟨_, _, hle, fun w h => h.drop, B, c, by simp [Ex.occ, Ex.binds, Ci, By], by simpa [Ex.occ, Ex.binds, Ci] using hB, by simp [Ex.occ, Ex.binds, Ci]⟩
  ·skip
   have hk : Ar (Ex.un o a).tree.head = (1, 2) := by cases o <;> rfl
   rw [hk]
   have hlen : (Ex.un o a).tree.parts.length = 2 := rfl
   have hki := G5 o a
   simp only [Ex.un.sizeOf_spec] at hlt
   simp only [Ex.size] at hbl hl
   simp only [Ex.ok] at hok
   refine Ah rfl (Om rfl (Oa rfl (Aa (Ai ?_)))); refine Dd ?_; refine Ab (Se rfl (Om rfl (Om rfl (Oc rfl rfl rfl (Aa ?_))))); refine Bn rfl (by first | rfl | decide | (simp; done) | omega) ?_; refine Af (Ab (Ai ?_)); refine R4 15 rfl rfl ?_; refine Da 0 rfl (Ae rfl) ?_; refine Dt 1 [15] rfl (A7 rfl) ?_; refine Da 2 rfl (Ac rfl) ?_
   first | refine Da 3 rfl (A4 rfl rfl _ rfl) ?_ | refine Da 3 rfl (A5 rfl rfl _ rfl) ?_
   refine Dt 4 [15] rfl (Bz rfl) ?_; refine Da 6 rfl (Ac rfl) ?_; refine Dt 8 [15] rfl (Cd rfl) ?_; refine Da 9 rfl (Ac rfl) ?_; refine Da 12 rfl (Ac rfl) ?_; refine Gn 5 rfl (by kernel_rfl) rfl .free rfl (.inr Al) ?_; intro b55; refine B8 7 (B := some (b55, [])) (xs := []) (ys := bd.map sv) (m := 0) (c := 0) rfl (by kernel_rfl) rfl (by intro kk; simp) (by rfl) rfl rfl ⟨rfl, Nat.le_refl _, rfl⟩ (fun _ h => h) (by simp) hbd.reads hbd.none (Cg bd) (by decide) (by omega) (by decide) .free rfl (fun _ => .inr Al) ?_; intro B1 c1' hB1
   refine Dc 10 rfl rfl (Gf hf.rep hok0 hb _ (by rw [hki]; decide) _) ?_; rintro _ J1 _ e1 ⟨o1, k1, rfl, hs1, rfl⟩
   have hbd1 := hbd.mono e1
   refine Hx ?_; refine B8 11 (B := B1) (xs := bd.map sv) (ys := (Ex.binds _ _).map sv) (m := 0 + bd.length) (c := c1') rfl (by kernel_rfl) rfl (by intro kk; simp) (by rfl) rfl rfl hB1 (fun _ h => h) (by simp) hs1.reads hs1.none (Cg _) (by decide) (Ex.binds_room1 (by omega)) (by decide) .free rfl (fun _ => .inr Al) ?_; intro B2 c2' hB2; rw [← List.map_append] at hB2 ⊢; refine Dp (l := bd ++ Ex.binds _ _) hB2 (by simp) (by rw [List.length_append]; exact Ex.binds_room0 (by omega)) (hbd1.append hs1) ?_; intro J3 o3 k3 ez hbv hs3; refine E6 (t := 61) rfl hbv ?_
   have e4 := e1.trans ez
   have hf3 := hf.mono e4
   refine Be (fun w h => h.u1) ?_; refine Dc 13 rfl rfl (ihn (by omega) (hf3.as 1 a.tree (by omega) rfl) hok hs3 (Ex.binds_room (by omega)) _ _ _ (by omega) hB _) ?_; rintro _ J4 _ e5 ⟨B, c, rfl, hB, rfl⟩
   have e6 := e4.trans e5
   refine Hx ?_; refine Be (fun w h => h.w1) ?_
   have hf := hf.mono e6
   have hbd := hbd.mono e6
   have hle := hle.trans e6
   refine Da 14 rfl (Bh rfl) ?_; refine Au (by kernel_rfl) ?_; refine Ak (Ah rfl (Om rfl ?_)); refine Or rfl rfl rfl ?_; refine Oa rfl (Aa ?_); refine Bm ?_; refine Ab (Se rfl (Om rfl (Om rfl (Oc rfl rfl rfl (Aa ?_))))); refine Co rfl (by first | rfl | decide | (simp; done) | omega) ?_; refine Bq rfl ?_; refine Se rfl (Om rfl (Oa rfl (Aa (Ag (.tmp rfl .nil) ?_))))
   exact ⟨_, _, hle, fun w h => h.drop, B, c, by simp [Ex.occ, Ex.binds, Ci, By], by simpa [Ex.occ, Ex.binds, Ci] using hB, by simp [Ex.occ, Ex.binds, Ci]⟩

def Ab9 (s : Am) : Option (List Am) := (Ea s).map Ex.free
def I8 (s : Am) : Option Ex := match Ea s with
 | some e => if e.closed = true then some e else none
 | none => none
def EF (o : Option (List Am)) (L : Bc) : C3 := fun v I' L' => ∃ oa c, v = .tuple #[.slice oa (o.getD []).length c, .bool o.isSome] ∧ Strs I' oa (o.getD []) c ∧ L = L'
def smallL (m : List Ty) : Prop := ∀ t ∈ m, t.size ≤ 16
theorem smallL.add {m : List Ty} {t : Ty} (h : smallL m) (ht : t.size ≤ 16) : smallL (m ++ [t]) := by
 intro u hu
 rcases List.mem_append.1 hu with h1 | h1
 ·exact h u h1
 ·obtain rfl := List.mem_singleton.1 h1; exact ht
/- Texts of types; the empty text for none. -/
def tyT : Option Ty → Am
 | some t => t.tree.text
 | none => []
theorem Ty.text_len {t : Ty} (h : t.size ≤ 16) : t.tree.text.length ≤ 80 := by
 have := t.tree_small; rw [Tree.text_len]; omega
def Abe (o : Option Ty) : Prop := ∀ t, o = some t → t.size ≤ 16
def Ach (ks : List (Option Ty)) : Prop := ∀ o ∈ ks, Abe o
def M5 (h : Am) : List (Option Ty) → Option Ty
 | [some a] => (U2.of h).bind fun o => o.ty a
 | [some a, some b] => (B5.of h).bind fun o => o.ty a b
 | [some a, some b, some c] => if a = .i ∧ b = c then some b else none
 | _ => none
theorem Ex.ty_bin (o : B5) (a b : Ex) (l : List Am) (m : List Ty) : (Ex.bin o a b).ty l m = M5 o.txt [a.ty l m, b.ty l m] := by
 simp only [Ex.ty, Ex.chk]
 cases a.chk l m with
 | error x => cases b.chk l m <;> rfl
 | ok s =>
  cases b.chk l m with
  | error y => rfl
  | ok t =>
   simp only [M5, B5.of_txt, Option.bind]
   cases o.ty s t <;> rfl
theorem Ex.ty_ite (a b c : Ex) (l : List Am) (m : List Ty) : (Ex.ite a b c).ty l m = M5 E9 [a.ty l m, b.ty l m, c.ty l m] := by
 simp only [Ex.ty, Ex.chk]
 cases a.chk l m with
 | error x => cases b.chk l m <;> cases c.chk l m <;> rfl
 | ok s =>
  cases b.chk l m with
  | error y => cases c.chk l m <;> rfl
  | ok t =>
   cases c.chk l m with
   | error y => rfl
   | ok u =>
    simp only [M5]
    by_cases h : s = .i ∧ t = u <;> simp [h]
theorem Ex.ty_un (o : U2) (a : Ex) (l : List Am) (m : List Ty) : (Ex.un o a).ty l m = M5 o.txt [a.ty l m] := by
 simp only [Ex.ty, Ex.chk]
 cases a.chk l m with
 | error x => rfl
 | ok s =>
  simp only [M5, U2.of_txt, Option.bind]
  cases o.ty s <;> rfl
theorem Ex.ty_lt (x : Am) (a b : Ex) (l : List Am) (m : List Ty) : (Ex.lt x a b).ty l m = match a.ty l m with | some s => b.ty (l ++ [x]) (m ++ [s]) | none => none := by
 simp only [Ex.ty, Ex.chk]
 cases a.chk l m <;> rfl
theorem Ex.ty_fn (f x : Am) (s t : Ty) (b : Ex) (l : List Am) (m : List Ty) : (Ex.fn f x s t b).ty l m = if (Ty.fn s t).size ≤ 16 ∧ b.ty (l ++ [f, x]) (m ++ [.fn s t, s]) = some t then some (.fn s t) else none := by
 simp only [Ex.ty, Ex.chk]
 by_cases h : (Ty.fn s t).size ≤ 16
 ·simp only [h, if_true, true_and]
  cases b.chk (l ++ [f, x]) (m ++ [.fn s t, s]) with
  | error x => simp
  | ok u => by_cases hu : u = t <;> simp [hu]
 ·simp [h]
theorem Ex.ty_name (s : Am) (l : List Am) (m : List Ty) : (Ex.name s).ty l m = Ih l m s := by
 simp only [Ex.ty, Ex.chk]
 cases Ih l m s <;> rfl
def J7 (s : Am) : Option Ty := (Ht s).bind Tree.ty
theorem Wl {s : Am} {t : Tree} (h : Ht s = some t) : ∃ a : Ty, J7 s = some a ∧ t = a.tree ∧ a.size ≤ 16 ∧ s = a.tree.text := by
 obtain ⟨a, rfl, h2, h3⟩ := Ux h
 exact ⟨a, by simp [J7, h, a.tree_ty], rfl, h2, h3⟩
theorem Rp {s : Am} {a : Ty} (h : J7 s = some a) : Ht s = some a.tree ∧ a.size ≤ 16 ∧ s = a.tree.text := by
 cases h1 : Ht s with
 | none => simp [J7, h1] at h
 | some t =>
  obtain ⟨b, h2, rfl, h3, h4⟩ := Wl h1; rw [h] at h2; cases h2
  exact ⟨rfl, h3, h4⟩
def Abv (m : List Am) : List Ty := m.map fun s => (J7 s).getD .i
def Acv (l m : List Am) (s : Am) : Option Am := if We l m = true then (Ea s).bind fun e => (e.ty l (Abv m)).map fun t => t.tree.text else none
def Ex.sub : Ex → List Ex
 | .num _ => []
 | .name _ => []
 | .bin _ a b => [a, b]
 | .ite a b c => [a, b, c]
 | .lt _ a b => [a, b]
 | .fn _ _ _ _ b => [b]
 | .un _ a => [a]
theorem Wk (e : Ex) : (Cv e.tree).length = e.sub.length := by
 cases e with
 | num s => rfl
 | name s => rfl
 | bin o a b => rw [Gb]; rfl
 | un o a => rw [G5]; rfl
 | _ => rfl
theorem Zw (e : Ex) (j : Nat) (h : j < e.sub.length) : e.tree.pt ((Cv e.tree).getD j 0) = e.sub[j].tree := by
 cases e with
 | num s => simp [Ex.sub] at h
 | name s => simp [Ex.sub] at h
 | bin o a b =>
  simp only [Gb]
  match j, h with
  | 0, _ => rfl
  | 1, _ => rfl
 | un o a =>
  simp only [G5]
  match j, h with
  | 0, _ => rfl
 | ite a b c =>
  match j, h with
  | 0, _ => rfl
  | 1, _ => rfl
  | 2, _ => rfl
 | lt x a b =>
  match j, h with
  | 0, _ => rfl
  | 1, _ => rfl
 | fn f x s t b =>
  match j, h with
  | 0, _ => rfl
theorem Rl {e a : Ex} (h : a ∈ e.sub) : SizeOf.sizeOf a < SizeOf.sizeOf e ∧ a.size + 1 ≤ e.size ∧ (e.ok = true → a.ok = true) := by
 cases e with
 | num s => cases h
 | name s => cases h
 | bin o x y =>
  simp only [Ex.sub, List.mem_cons, List.not_mem_nil, or_false] at h
  simp only [Ex.bin.sizeOf_spec, Ex.size, Ex.ok, Bool.and_eq_true]
  rcases h with rfl | rfl
  ·exact ⟨by omega, by omega, fun h => h.1⟩
  ·exact ⟨by omega, by omega, fun h => h.2⟩
 | un o x =>
  simp only [Ex.sub, List.mem_cons, List.not_mem_nil, or_false] at h
  simp only [Ex.un.sizeOf_spec, Ex.size, Ex.ok]
  subst h
  exact ⟨by omega, by omega, fun h => h⟩
 | ite x y z =>
  simp only [Ex.sub, List.mem_cons, List.not_mem_nil, or_false] at h
  simp only [Ex.ite.sizeOf_spec, Ex.size, Ex.ok, Bool.and_eq_true]
  rcases h with rfl | rfl | rfl
  ·exact ⟨by omega, by omega, fun h => h.1.1⟩
  ·exact ⟨by omega, by omega, fun h => h.1.2⟩
  ·exact ⟨by omega, by omega, fun h => h.2⟩
 | lt x y z =>
  simp only [Ex.sub, List.mem_cons, List.not_mem_nil, or_false] at h
  simp only [Ex.lt.sizeOf_spec, Ex.size, Ex.ok, Bool.and_eq_true]
  rcases h with rfl | rfl
  ·exact ⟨by omega, by omega, fun h => h.1.2⟩
  ·exact ⟨by omega, by omega, fun h => h.2⟩
 | fn f x s t b =>
  simp only [Ex.sub, List.mem_cons, List.not_mem_nil, or_false] at h
  simp only [Ex.fn.sizeOf_spec, Ex.size, Ex.ok, Bool.and_eq_true]
  subst h
  exact ⟨by omega, by omega, fun h => h.2⟩

/- Environments of parts. -/
def Ex.inL (e : Ex) (i : Nat) (l : List Am) : List Am := match e with
 | .lt x _ _ => if i = 3 then l ++ [x] else l
 | .fn f x _ _ _ => l ++ [f] ++ [x]
 | _ => l
def Ex.inM (e : Ex) (i : Nat) (s0 : Ty) (m : List Ty) : List Ty := match e with
 | .lt _ _ _ => if i = 3 then m ++ [s0] else m
 | .fn _ _ s t _ => m ++ [.fn s t] ++ [s]
 | _ => m
def Ex.raw (e : Ex) (ts : List Ty) (l : List Am) (m : List Ty) : Option Ty := match e, ts with
 | .num _, _ => some .i
 | .name s, _ => Ih l m s
 | .bin .pair _ _, [a, b] => some (.pr a b)
 | .bin o _ _, [a, b] => o.ty a b
 | .ite _ _ _, [a, b, c] => if a = .i ∧ b = c then some b else none
 | .lt _ _ _, [_, b] => some b
 | .fn _ _ s t _, [b] => if b = t then some (.fn s t) else none
 | .un o _, [a] => o.ty a
 | _, _ => none
def Ex.fin (e : Ex) (r : Option Ty) : Except Ex Ty := match r with
 | some t => if t.size ≤ 16 then .ok t else .error e
 | none => .error e
def Ex.run (e : Ex) (l : List Am) (m : List Ty) : List Ex → List Nat → List Ty → Except Ex (List Ty)
 | a :: more, k :: ks, ts => match a.chk (e.inL k l) (e.inM k (ts.getD 0 .i) m) with
  | .ok t => e.run l m more ks (ts ++ [t])
  | .error x => .error x
 | _, _, ts => .ok ts
def Ex.runs (e : Ex) (l : List Am) (m : List Ty) : Except Ex (List Ty) := e.run l m e.sub (Cv e.tree) []
def Ex.funOk : Ex → Bool
 | .fn _ _ s t _ => decide ((Ty.fn s t).size ≤ 16)
 | _ => true
end Go.Proofs.YtbohngcdgmjfaaaGreatDoor
