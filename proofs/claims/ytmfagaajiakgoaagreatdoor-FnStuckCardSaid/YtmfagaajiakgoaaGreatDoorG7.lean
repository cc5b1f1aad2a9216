/- Names that stand free. No conditions. -/
import Derived.Test.YtmfagaajiakgoaaGreatDoorG6

namespace Go.Proofs.YtmfagaajiakgoaaGreatDoor
set_option maxRecDepth 100000
set_option linter.unusedVariables false
set_option linter.unusedSimpArgs false

def Ex.binds : Ex → Nat → List Au
 | .lt x _ _, i => if i = 3 then [x] else []
 | .fn f x _ _ _, i => if i = 5 then [f, x] else []
 | _, _ => []
theorem Ex.shapes (e : Ex) (h : e.bare = false) : (∃ o a b, e = .bin o a b) ∨ (∃ a b c, e = .ite a b c) ∨ (∃ x a b, e = .lt x a b) ∨ (∃ f x s t b, e = .fn f x s t b) ∨ (∃ o a, e = .un o a) := by
 cases e with
 | num s => cases h
 | name s => cases h
 | bin o a b => exact .inl ⟨o, a, b, rfl⟩
 | ite a b c => exact .inr (.inl ⟨a, b, c, rfl⟩)
 | lt x a b => exact .inr (.inr (.inl ⟨x, a, b, rfl⟩))
 | fn f x s t b => exact .inr (.inr (.inr (.inl ⟨f, x, s, t, b, rfl⟩)))
 | un o a => exact .inr (.inr (.inr (.inr ⟨o, a, rfl⟩)))
def lbl : List Au → Bool := fun l => l.all fun s => decide (s.length ≤ As)
theorem H2 {I : Heap} {b : Nat} {x : Au} {e : TypeId} (hle : HLe I (I.set b (.cells [.string (str x)].toArray e (0, 0)))) (hx : x.length ≤ As) : Strs (I.set b (.cells [.string (str x)].toArray e (0, 0))) (some ⟨b, 0, none⟩) [x] 1 :=
 ⟨fun y hy => by cases hy; exact A5 (xs := [x].map sv) (ys := []), by simp, by simp, by simp [As], by simpa using hx⟩
theorem R2 {I : Heap} {b : Nat} {x y : Au} {e : TypeId} (hle : HLe I (I.set b (.cells [.string (str x), .string (str y)].toArray e (0, 0)))) (hx : x.length ≤ As) (hy : y.length ≤ As) : Strs (I.set b (.cells [.string (str x), .string (str y)].toArray e (0, 0))) (some ⟨b, 0, none⟩) [x, y] 2 :=
 ⟨fun z hz => by cases hz; exact A5 (xs := [x, y].map sv) (ys := []), by simp, by simp, by simp [As], by simpa using ⟨hx, hy⟩⟩
theorem Na (I : Heap) : Strs I none [] 0 := ⟨by simp, by simp, by simp, by simp [As], by simp⟩
theorem Ex.name_len {x : Au} (h : Bs x = true) : x.length ≤ As := by have := Hu h; unfold As; omega

theorem Cy {I : Heap} {e : Ex} {cs : List Value} (h : Rep I e.tree cs) (hok : e.ok = true) (i : Nat) (L : Bl) : Fun Tryz.prog 133 [.agg cs.toArray, .int .i64 (i : Nat)] I L (SS (e.binds i) L) := by
 obtain ⟨oa, c, oaf, cf, rfl, hf⟩ := h.at'; refine Ai (by simp) ?_; refine Se rfl ?_; refine Cd rfl rfl .free rfl ?_; intro b2; refine Oa rfl (Aa (Ab (Aj (Se rfl ?_)))); refine Az rfl .free rfl ?_; refine Ca rfl (Bi hf.rep _) ?_; rintro _ _ _ _ ⟨rfl, rfl, rfl⟩; refine Od rfl rfl rfl (Om rfl ?_)
 apply Ee 9 12 rfl
 ·intro g1_4 hk
  try simp only [nb] at g1_4
  refine Ow rfl ?_; refine Dr rfl rfl rfl (.met rfl rfl) rfl ?_; refine Ot rfl rfl ?_
  exact Bb 2 rfl rfl hk
 ·intro _ hk; refine Bm 2 rfl ?_; refine Of rfl rfl ?_
  exact Bb 2 rfl rfl hk
 refine Oa rfl (Aa ?_); refine Ar rfl ?_ ?_
 ·intro c0
  try simp only [nb] at c0
  obtain ⟨x, a, b, rfl⟩ := Ex.of_let c0.1; obtain rfl : i = 3 := by omega
  simp only [Ex.ok, Bool.and_eq_true] at hok
  have hlen : (Ex.lt x a b).tree.parts.length = 4 := rfl
  have hx : ((Ex.lt x a b).tree.pt 1).atom.length ≤ As := Ex.name_len hok.1.1
  refine Se rfl (Oh rfl ?_); refine A6 rfl .free rfl ?_
  first | refine A3 rfl rfl 1 rfl .free rfl ?_ | refine A4 rfl rfl 1 rfl .free rfl ?_
  refine Av rfl .free rfl ?_; refine Dk rfl .free rfl ?_; refine Ol rfl rfl ?_; intro b18; refine Oa rfl (Aa ?_); refine Be ?_; intro hz; refine Ad (.tmp rfl .nil) ?_
  exact ⟨_, L, hz, Ay, some ⟨b18, 0, none⟩, 1, rfl, H2 hz hx, rfl⟩
 intro c0
 try simp only [nb] at c0
 refine Se rfl ?_; refine Az rfl .free rfl ?_; refine Ca rfl (Bi hf.rep _) ?_; rintro _ _ _ _ ⟨rfl, rfl, rfl⟩; refine Od rfl rfl rfl (Om rfl ?_)
 apply Ee 23 26 rfl
 ·intro g3_4 hk
  try simp only [nb] at g3_4
  refine Ow rfl ?_; refine Dr rfl rfl rfl (.met rfl rfl) rfl ?_; refine Ot rfl rfl ?_
  exact Bb 2 rfl rfl hk
 ·intro _ hk; refine Bm 2 rfl ?_; refine Of rfl rfl ?_
  exact Bb 2 rfl rfl hk
 refine Oa rfl (Aa ?_); refine Ar rfl ?_ ?_
 ·intro c1
  try simp only [nb] at c1
  obtain ⟨f, x, s, t, b, rfl⟩ := Ex.of_fun c1.1; obtain rfl : i = 5 := by omega
  simp only [Ex.ok, Bool.and_eq_true] at hok
  have hlen : (Ex.fn f x s t b).tree.parts.length = 6 := rfl
  have hx1 : ((Ex.fn f x s t b).tree.pt 1).atom.length ≤ As := Ex.name_len hok.1.1.1.1.1
  have hx2 : ((Ex.fn f x s t b).tree.pt 2).atom.length ≤ As := Ex.name_len hok.1.1.1.1.2
  refine Ab ?_; refine B8 12 rfl rfl ?_; refine Da 0 rfl (Ag rfl) ?_; refine Dt 1 [12] rfl (Bd rfl) ?_
  first | refine Da 2 rfl (A1 rfl rfl 1 rfl) ?_ | refine Da 2 rfl (A2 rfl rfl 1 rfl) ?_
  refine Da 3 rfl (A9 rfl) ?_; refine Dt 4 [12] rfl (Hd rfl) ?_; refine Da 5 rfl (Ag rfl) ?_; refine Dt 6 [12] rfl (Bd rfl) ?_
  first | refine Da 7 rfl (A1 rfl rfl 2 rfl) ?_ | refine Da 7 rfl (A2 rfl rfl 2 rfl) ?_
  refine Da 8 rfl (A9 rfl) ?_; refine Dt 9 [12] rfl (Hd rfl) ?_; refine Fj 10 rfl (by kernel_rfl) rfl rfl rfl (by rfl) (by rfl) (by rfl) (by decide) (by decide) (by rfl) .free rfl (.inr Am) ?_; intro b37; refine Da 11 rfl (Aw rfl) ?_; refine Ao (by kernel_rfl) ?_; refine Be ?_; intro hz; refine Ad (.tmp rfl .nil) ?_
  exact ⟨_, L, hz, Ay, some ⟨b37, 0, none⟩, 2, rfl, R2 hz hx1 hx2, rfl⟩
 intro c1
 try simp only [nb] at c1
 refine Af (Al (Se rfl (Oa rfl (Aa (Ad (.tmp rfl .nil) ?_)))))
 have hb : e.binds i = [] := by
  cases e with
  | lt x a b => exact if_neg fun hi => by rcases c0 with h | h; exact h rfl; omega
  | fn f x s t b => exact if_neg fun hi => by rcases c1 with h | h; exact h rfl; omega
  | _ => rfl
 exact ⟨I, L, .refl _, Ay, none, 0, by rw [hb]; rfl, by rw [hb]; exact Na I, rfl⟩

theorem Ex.binds_le (e : Ex) (i : Nat) : (e.binds i).length ≤ 2 := by
 cases e with
 | lt x a b => simp only [Ex.binds]; split <;> simp
 | fn f x s t b => simp only [Ex.binds]; split <;> simp
 | _ => simp [Ex.binds]
theorem Ex.binds_room {bd : List Au} {e : Ex} {i k : Nat} (h : bd.length + 2 + k ≤ 4294967296) : (bd ++ e.binds i).length + k ≤ As := by
 have := e.binds_le i; rw [List.length_append]; unfold As; omega
theorem Ex.binds_room0 {bd : List Au} {e : Ex} {i : Nat} (h : bd.length + 2 ≤ 4294967296) : bd.length + (e.binds i).length ≤ As := by
 have := e.binds_le i; unfold As; omega
structure Zn (P : Program) (kf : FuncId) (cap : List Value) (X : Type) (own : X → Bl) (R : X → List Au → Heap → Prop) : Prop where
 tell : ∀ x seen s I L, R x seen I → Bs s = true → seen.length < 4294967296 → Fun P kf (.string (str s) :: cap) I (own x ++ L) (fun v I' L' => v = .tuple #[] ∧ ∃ y, R y (seen ++ [s]) I' ∧ L' = own y ++ L)
 mono : ∀ x seen I I', HLe I I' → R x seen I → R x seen I'
theorem Mem.w1 {I : Heap} {a : Nat × Obj} {X L : Bl} {w : World} (h : Mem I (X ++ a :: L) w) : Mem I (a :: (X ++ L)) w := h.perm List.perm_middle
theorem Ex.size_pos (e : Ex) : 1 ≤ e.size := by cases e <;> simp [Ex.size] <;> omega
theorem Ex.occ_len : ∀ (e : Ex) (bd : List Au), (e.occ bd).length ≤ e.size
 | .num s, bd => Nat.zero_le _
 | .name s, bd => by simp only [Ex.occ]; split <;> simp [Ex.size]
 | .bin o a b, bd => by have := a.occ_len bd; have := b.occ_len bd; simp [Ex.occ, Ex.size]; omega
 | .ite a b c, bd => by have := a.occ_len bd; have := b.occ_len bd; have := c.occ_len bd; simp [Ex.occ, Ex.size]; omega
 | .lt x a b, bd => by have := a.occ_len bd; have := b.occ_len (bd ++ [x]); simp [Ex.occ, Ex.size]; omega
 | .fn f x s t b, bd => by have := b.occ_len (bd ++ [f, x]); simp [Ex.occ, Ex.size]; omega
 | .un o a, bd => by have := a.occ_len bd; simp [Ex.occ, Ex.size]; omega
theorem Ex.occ_room {seen bd : List Au} {e : Ex} {k n : Nat} (h : seen.length + (e.size + k) ≤ n) : (seen ++ e.occ bd).length + k ≤ n := by
 have := e.occ_len bd; rw [List.length_append]; omega
theorem Ex.occ_room2 {seen bd bd' : List Au} {e e' : Ex} {k n : Nat} (h : seen.length + (e.size + (e'.size + k)) ≤ n) : (seen ++ e.occ bd ++ e'.occ bd').length + k ≤ n := Ex.occ_room (Ex.occ_room h)
def TP {X : Type} (own : X → Bl) (R : X → List Au → Heap → Prop) (seen : List Au) (L : Bl) : C1 := fun v I' L' => v = .tuple #[] ∧ ∃ y, R y seen I' ∧ L' = own y ++ L
theorem Ug          {kf : FuncId} {cap : List Value} {X : Type} {own : X → Bl } {R : X → List Au  → Heap → Prop} {c0 : Code} {m0' : Nat} {rs0 : List ResultVar} [hfi : Bq   Tryz.prog kf c0 m0' rs0] (T : Zn     Tryz.prog kf cap X own R) :
    ∀ (n : Nat) {I : Heap} {e : Ex} {cs : List Value} (_ : SizeOf.sizeOf e < n) (_ : Rep I e.tree cs) (_ : e.ok = true) {bd : List Au } {ob : Option Addr} {cb : Nat} (_ : Strs I ob bd cb) (_ : bd.length + 2 * e.size ≤ As  ) (x : X) (seen : List Au ) (_ : seen.length + e.size ≤ 4294967296) (_ : R x seen I) (L : Bl ),
    Fun Tryz.prog 126 [.agg cs.toArray, .slice ob bd.length cb, .func (.func kf) #[] cap.toArray] I (own x ++ L) (TP own R (seen ++ e.occ bd) L) := by
  intro n
  induction n with
  | zero => intro I e cs h; omega
  | succ n ihn =>
    intro I e cs hlt h hok bd ob cb hbd hbl x seen hsl hx L
    obtain ⟨oa, c, oaf, cf, rfl, hf⟩ := h.at'
    have ha := hf.alen
    unfold As   at hbl
    refine Ai        (by simp) ?_
    refine Se rfl ?_
    refine Cd    rfl rfl .free rfl ?_
    intro b3
    refine Aa     (Ab    (Se rfl ?_))
    refine Az    rfl .free rfl ?_
    refine Ca rfl (By            hf.rep _) ?_
    rintro _ _ _ _ ⟨rfl, rfl, rfl⟩
    refine Aa     ?_
    refine Ar     rfl ?_ ?_
    · intro c0
      try simp only [nb] at c0
      have hb : e.bare = true := by rw [Ex.bare_parts]; exact c0
      refine Ab    (Se rfl (Oh rfl ?_))
      refine A6    rfl .free rfl ?_
      refine Ca rfl (Hi       e.tree.atom ha _ _) ?_
      rintro _ _ _ _ ⟨rfl, rfl, rfl⟩
      refine Om rfl ?_
      apply Ee    13 19 rfl
      · intro g2_4 hk
        try simp only [nb] at g2_4
        refine Ow rfl ?_
        refine Bz          rfl (.met rfl rfl) rfl ?_
        refine A6    rfl (.met rfl rfl) rfl ?_
        refine Ce     rfl (.met rfl rfl) rfl (C6                (hbd.rd _) cb e.tree.atom) ?_
        rintro _ _ _ _ ⟨rfl, rfl, rfl⟩
        refine Ck    rfl (.met rfl rfl) rfl ?_
        refine Ot rfl rfl ?_
        exact Bb    5 rfl rfl hk
      · intro _ hk
        refine Bm      5 rfl ?_
        refine Of rfl rfl ?_
        exact Bb    5 rfl rfl hk
      refine Aa     ?_
      refine Ar     rfl ?_ ?_
      · intro c1
        try simp only [nb] at c1
        have hnm := c1.1
        have hem : e = .name e.tree.atom := by
          cases e with
          | num s => have h1 : Bt    s = true := hok; have h2 := E3           hnm; rw [show (Ex.num s).tree.atom = s from rfl, h1] at h2; cases h2
          | name s => rfl
          | _ => cases hb
        have hoc : e.occ bd = [e.tree.atom] := by
          have h2 := c1.2
          rw [hem]; simp only [Ex.occ]
          rw [if_neg (by simpa using h2)]
          rfl
        refine Ah      rfl (Om rfl (Oh rfl ?_))
        refine A6    rfl .free rfl ?_
        refine Dv    (fun w h => h.u1) ?_
        refine Xq      rfl rfl .free rfl (T.tell x seen e.tree.atom _ _ hx hnm (by have := e.size_pos; omega)) ?_
        rintro _ J _ e1 ⟨rfl, y, hy, rfl⟩
        refine Aa     ?_
        refine Ad    .nil ?_
        first
          | exact ⟨J, _, e1, fun w h => h.w1.drop, rfl, y, by rw [hoc]; exact hy, rfl⟩
          | (have hoc : e.occ bd = [] := by
               cases e with
               | num s => rfl
               | name s =>
                 simp only [Ex.occ]
                 rw [if_pos]
                 rcases c1 with h | h
                 · rw [show (Ex.name s).tree.atom = s from rfl, show Bs     s = true from hok] at h; cases h
                 · exact h
               | _ => cases hb
             exact ⟨I, _, .refl _, fun w h => h.drop, rfl, x, by rw [hoc, List.append_nil]; exact hx, rfl⟩)
      intro c1
      try simp only [nb] at c1
      refine Af     ?_
      refine Ad    .nil ?_
      first
        | exact ⟨J, _, e1, fun w h => h.w1.drop, rfl, y, by rw [hoc]; exact hy, rfl⟩
        | (have hoc : e.occ bd = [] := by
             cases e with
             | num s => rfl
             | name s =>
               simp only [Ex.occ]
               rw [if_pos]
               rcases c1 with h | h
               · rw [show (Ex.name s).tree.atom = s from rfl, show Bs     s = true from hok] at h; cases h
               · exact h
             | _ => cases hb
           exact ⟨I, _, .refl _, fun w h => h.drop, rfl, x, by rw [hoc, List.append_nil]; exact hx, rfl⟩)
    intro c0
    try simp only [nb] at c0
    have hb : e.bare = false := by rw [Ex.bare_parts]; exact c0
    have hsh := e.shapes hb
    refine Af     (Ab    ?_)
    rcases hsh with ⟨o, a, b, rfl⟩ | ⟨a, b, d, rfl⟩ | ⟨z, a, b, rfl⟩ | ⟨g, z, s, t, b, rfl⟩ | ⟨o, a, rfl⟩
    · skip
      refine Ah      rfl ?_
      refine Az    rfl .free rfl ?_
      refine Ca rfl (Ec          hf.rep _) ?_
      rintro _ J _ e0 ⟨ok, ck, rfl, hk, rfl⟩
      have hf := hf.mono e0
      have hbd := hbd.mono e0
      have hx := T.mono _ _ _ _ e0 hx
      have hle := e0
      have hok0 := hok
      simp only [Ex.ok, Bool.and_eq_true] at hok
      rw [Fw      ] at hk
      rw [Fw      ]
      have hlen : (Ex.bin o a b).tree.parts.length = 3 := rfl
      have hkl : [1, 2].length = 2 := rfl
      simp only [Ex.bin.sizeOf_spec] at hlt
      simp only [Ex.size] at hbl hsl
      refine On rfl (Om rfl (Aa     (Aj      ?_)))
      refine Dq     ?_
      refine Se rfl (Oc rfl rfl rfl (Aa     (Ab    ?_)))
      refine B6      rfl (by first | rfl | decide | (simp; done) | omega) ?_
      refine Af     (Ab    (Aj      (Se rfl ?_)))
      first | refine A3    rfl rfl _ rfl .free rfl ?_ | refine A4    rfl rfl _ rfl .free rfl ?_
      refine Ej    rfl .free rfl ?_
      refine Oa rfl (Aa     ?_)
      refine Sn  13 rfl rfl ?_
      refine Da 0 rfl (Ag          rfl) ?_
      refine Dt 1 [13] rfl (Bd    rfl) ?_
      refine Da 2 rfl (Ae     rfl) ?_
      first | refine Da 3 rfl (A1    rfl rfl _ rfl) ?_ | refine Da 3 rfl (A2    rfl rfl _ rfl) ?_
      refine Dt 4 [13] rfl (A8    rfl) ?_
      refine Da 5 rfl (Ae     rfl) ?_
      refine Dt 6 [13] rfl (Bx    rfl) ?_
      refine Da 7 rfl (Ae     rfl) ?_
      refine Da 11 rfl (Ae     rfl) ?_
      refine Dc 8 rfl rfl (Cy           hf.rep hok0 _ _) ?_
      rintro _ J1 _ e1 ⟨o1, k1, rfl, hs1, rfl⟩
      refine Hx ?_
      refine Fj     9 rfl (by kernel_rfl) rfl rfl rfl (by rfl) (by rfl) (by rfl) (by decide) (by decide) (by rfl) .free rfl (.inr Am   ) ?_
      intro b40
      refine D8       ?_
      intro hz
      have e2 := e1.trans hz
      refine Dc 10 rfl rfl (D9              (A5        (xs := [.slice ob bd.length cb, .slice o1 (List.length _) k1]) (ys := [])) (hbd.mono e2) (hs1.mono hz) (Ex.binds_room0 (by omega)) _) ?_
      rintro _ J3 _ e3 ⟨o3, k3, rfl, hs3, rfl⟩
      have e4 := e2.trans e3
      have hf3 := hf.mono e4
      have hx3 := T.mono _ _ _ _ e4 hx
      refine Hx ?_
      refine Et    (fun w h => h.u1) ?_
      refine Dc 12 rfl rfl (ihn (by omega) (hf3.as 1 a.tree (by omega) rfl) hok.1 hs3 (Ex.binds_room (by omega)) _ _ (by omega) hx3 _) ?_
      rintro _ J4 _ e5 ⟨rfl, x, hx, rfl⟩
      have e6 := e4.trans e5
      refine Hx ?_
      refine Et    (fun w h => h.w1) ?_
      have hf := hf.mono e6
      have hbd := hbd.mono e6
      have hle := hle.trans e6
      have hk := hk.mono e6
      refine Ao     (by kernel_rfl) ?_
      refine Al        (Ah      rfl ?_)
      refine Or rfl rfl rfl ?_
      refine Om rfl (Aa     ?_)
      refine Bu      ?_
      refine Se rfl (Oc rfl rfl rfl (Aa     (Ab    ?_)))
      refine B6      rfl (by first | rfl | decide | (simp; done) | omega) ?_
      refine Af     (Ab    (Aj      (Se rfl ?_)))
      first | refine A3    rfl rfl _ rfl .free rfl ?_ | refine A4    rfl rfl _ rfl .free rfl ?_
      refine Ej    rfl .free rfl ?_
      refine Oa rfl (Aa     ?_)
      refine Sn  13 rfl rfl ?_
      refine Da 0 rfl (Ag          rfl) ?_
      refine Dt 1 [13] rfl (Bd    rfl) ?_
      refine Da 2 rfl (Ae     rfl) ?_
      first | refine Da 3 rfl (A1    rfl rfl _ rfl) ?_ | refine Da 3 rfl (A2    rfl rfl _ rfl) ?_
      refine Dt 4 [13] rfl (A8    rfl) ?_
      refine Da 5 rfl (Ae     rfl) ?_
      refine Dt 6 [13] rfl (Bx    rfl) ?_
      refine Da 7 rfl (Ae     rfl) ?_
      refine Da 11 rfl (Ae     rfl) ?_
      refine Dc 8 rfl rfl (Cy           hf.rep hok0 _ _) ?_
      rintro _ J1 _ e1 ⟨o1, k1, rfl, hs1, rfl⟩
      refine Hx ?_
      refine Fj     9 rfl (by kernel_rfl) rfl rfl rfl (by rfl) (by rfl) (by rfl) (by decide) (by decide) (by rfl) .free rfl (.inr Am   ) ?_
      intro b40
      refine D8       ?_
      intro hz
      have e2 := e1.trans hz
      refine Dc 10 rfl rfl (D9              (A5        (xs := [.slice ob bd.length cb, .slice o1 (List.length _) k1]) (ys := [])) (hbd.mono e2) (hs1.mono hz) (Ex.binds_room0 (by omega)) _) ?_
      rintro _ J3 _ e3 ⟨o3, k3, rfl, hs3, rfl⟩
      have e4 := e2.trans e3
      have hf3 := hf.mono e4
      have hx3 := T.mono _ _ _ _ e4 hx
      refine Hx ?_
      refine Et    (fun w h => h.u1) ?_
      refine Dc 12 rfl rfl (ihn (by omega) (hf3.as 2 b.tree (by omega) rfl) hok.2 hs3 (Ex.binds_room (by omega)) _ _ (Ex.occ_room (by omega)) hx3 _) ?_
      rintro _ J4 _ e5 ⟨rfl, x, hx, rfl⟩
      have e6 := e4.trans e5
      refine Hx ?_
      refine Et    (fun w h => h.w1) ?_
      have hf := hf.mono e6
      have hbd := hbd.mono e6
      have hle := hle.trans e6
      have hk := hk.mono e6
      refine Ao     (by kernel_rfl) ?_
      refine Al        (Ah      rfl ?_)
      refine Or rfl rfl rfl ?_
      refine Om rfl (Aa     ?_)
      refine Bu      ?_
      refine Se rfl (Oc rfl rfl rfl (Aa     (Ab    ?_)))
      refine Cr      rfl (by first | rfl | decide | (simp; done) | omega) ?_
      refine Bw     rfl ?_
      refine L9    .nil ?_
      exact ⟨_, _, hle, fun w h => h.drop, rfl, x, by simpa [Ex.occ, Ex.binds] using hx, rfl⟩
    · skip
      refine Ah      rfl ?_
      refine Az    rfl .free rfl ?_
      refine Ca rfl (Ec          hf.rep _) ?_
      rintro _ J _ e0 ⟨ok, ck, rfl, hk, rfl⟩
      have hf := hf.mono e0
      have hbd := hbd.mono e0
      have hx := T.mono _ _ _ _ e0 hx
      have hle := e0
      have hok0 := hok
      simp only [Ex.ok, Bool.and_eq_true] at hok
      rw [Jy      ] at hk
      rw [Jy      ]
      have hlen : (Ex.ite a b d).tree.parts.length = 4 := rfl
      have hkl : [1, 2, 3].length = 3 := rfl
      simp only [Ex.ite.sizeOf_spec] at hlt
      simp only [Ex.size] at hbl hsl
      refine On rfl (Om rfl (Aa     (Aj      ?_)))
      refine Dq     ?_
      refine Se rfl (Oc rfl rfl rfl (Aa     (Ab    ?_)))
      refine B6      rfl (by first | rfl | decide | (simp; done) | omega) ?_
      refine Af     (Ab    (Aj      (Se rfl ?_)))
      first | refine A3    rfl rfl _ rfl .free rfl ?_ | refine A4    rfl rfl _ rfl .free rfl ?_
      refine Ej    rfl .free rfl ?_
      refine Oa rfl (Aa     ?_)
      refine Sn  13 rfl rfl ?_
      refine Da 0 rfl (Ag          rfl) ?_
      refine Dt 1 [13] rfl (Bd    rfl) ?_
      refine Da 2 rfl (Ae     rfl) ?_
      first | refine Da 3 rfl (A1    rfl rfl _ rfl) ?_ | refine Da 3 rfl (A2    rfl rfl _ rfl) ?_
      refine Dt 4 [13] rfl (A8    rfl) ?_
      refine Da 5 rfl (Ae     rfl) ?_
      refine Dt 6 [13] rfl (Bx    rfl) ?_
      refine Da 7 rfl (Ae     rfl) ?_
      refine Da 11 rfl (Ae     rfl) ?_
      refine Dc 8 rfl rfl (Cy           hf.rep hok0 _ _) ?_
      rintro _ J1 _ e1 ⟨o1, k1, rfl, hs1, rfl⟩
      refine Hx ?_
      refine Fj     9 rfl (by kernel_rfl) rfl rfl rfl (by rfl) (by rfl) (by rfl) (by decide) (by decide) (by rfl) .free rfl (.inr Am   ) ?_
      intro b40
      refine D8       ?_
      intro hz
      have e2 := e1.trans hz
      refine Dc 10 rfl rfl (D9              (A5        (xs := [.slice ob bd.length cb, .slice o1 (List.length _) k1]) (ys := [])) (hbd.mono e2) (hs1.mono hz) (Ex.binds_room0 (by omega)) _) ?_
      rintro _ J3 _ e3 ⟨o3, k3, rfl, hs3, rfl⟩
      have e4 := e2.trans e3
      have hf3 := hf.mono e4
      have hx3 := T.mono _ _ _ _ e4 hx
      refine Hx ?_
      refine Et    (fun w h => h.u1) ?_
      refine Dc 12 rfl rfl (ihn (by omega) (hf3.as 1 a.tree (by omega) rfl) hok.1.1 hs3 (Ex.binds_room (by omega)) _ _ (by omega) hx3 _) ?_
      rintro _ J4 _ e5 ⟨rfl, x, hx, rfl⟩
      have e6 := e4.trans e5
      refine Hx ?_
      refine Et    (fun w h => h.w1) ?_
      have hf := hf.mono e6
      have hbd := hbd.mono e6
      have hle := hle.trans e6
      have hk := hk.mono e6
      refine Ao     (by kernel_rfl) ?_
      refine Al        (Ah      rfl ?_)
      refine Or rfl rfl rfl ?_
      refine Om rfl (Aa     ?_)
      refine Bu      ?_
      refine Se rfl (Oc rfl rfl rfl (Aa     (Ab    ?_)))
      refine B6      rfl (by first | rfl | decide | (simp; done) | omega) ?_
      refine Af     (Ab    (Aj      (Se rfl ?_)))
      first | refine A3    rfl rfl _ rfl .free rfl ?_ | refine A4    rfl rfl _ rfl .free rfl ?_
      refine Ej    rfl .free rfl ?_
      refine Oa rfl (Aa     ?_)
      refine Sn  13 rfl rfl ?_
      refine Da 0 rfl (Ag          rfl) ?_
      refine Dt 1 [13] rfl (Bd    rfl) ?_
      refine Da 2 rfl (Ae     rfl) ?_
      first | refine Da 3 rfl (A1    rfl rfl _ rfl) ?_ | refine Da 3 rfl (A2    rfl rfl _ rfl) ?_
      refine Dt 4 [13] rfl (A8    rfl) ?_
      refine Da 5 rfl (Ae     rfl) ?_
      refine Dt 6 [13] rfl (Bx    rfl) ?_
      refine Da 7 rfl (Ae     rfl) ?_
      refine Da 11 rfl (Ae     rfl) ?_
      refine Dc 8 rfl rfl (Cy           hf.rep hok0 _ _) ?_
      rintro _ J1 _ e1 ⟨o1, k1, rfl, hs1, rfl⟩
      refine Hx ?_
      refine Fj     9 rfl (by kernel_rfl) rfl rfl rfl (by rfl) (by rfl) (by rfl) (by decide) (by decide) (by rfl) .free rfl (.inr Am   ) ?_
      intro b40
      refine D8       ?_
      intro hz
      have e2 := e1.trans hz
      refine Dc 10 rfl rfl (D9              (A5        (xs := [.slice ob bd.length cb, .slice o1 (List.length _) k1]) (ys := [])) (hbd.mono e2) (hs1.mono hz) (Ex.binds_room0 (by omega)) _) ?_
      rintro _ J3 _ e3 ⟨o3, k3, rfl, hs3, rfl⟩
      have e4 := e2.trans e3
      have hf3 := hf.mono e4
      have hx3 := T.mono _ _ _ _ e4 hx
      refine Hx ?_
      refine Et    (fun w h => h.u1) ?_
      refine Dc 12 rfl rfl (ihn (by omega) (hf3.as 2 b.tree (by omega) rfl) hok.1.2 hs3 (Ex.binds_room (by omega)) _ _ (Ex.occ_room (by omega)) hx3 _) ?_
      rintro _ J4 _ e5 ⟨rfl, x, hx, rfl⟩
      have e6 := e4.trans e5
      refine Hx ?_
      refine Et    (fun w h => h.w1) ?_
      have hf := hf.mono e6
      have hbd := hbd.mono e6
      have hle := hle.trans e6
      have hk := hk.mono e6
      refine Ao     (by kernel_rfl) ?_
      refine Al        (Ah      rfl ?_)
      refine Or rfl rfl rfl ?_
      refine Om rfl (Aa     ?_)
      refine Bu      ?_
      refine Se rfl (Oc rfl rfl rfl (Aa     (Ab    ?_)))
      refine B6      rfl (by first | rfl | decide | (simp; done) | omega) ?_
      refine Af     (Ab    (Aj      (Se rfl ?_)))
      first | refine A3    rfl rfl _ rfl .free rfl ?_ | refine A4    rfl rfl _ rfl .free rfl ?_
      refine Ej    rfl .free rfl ?_
      refine Oa rfl (Aa     ?_)
      refine Sn  13 rfl rfl ?_
      refine Da 0 rfl (Ag          rfl) ?_
      refine Dt 1 [13] rfl (Bd    rfl) ?_
      refine Da 2 rfl (Ae     rfl) ?_
      first | refine Da 3 rfl (A1    rfl rfl _ rfl) ?_ | refine Da 3 rfl (A2    rfl rfl _ rfl) ?_
      refine Dt 4 [13] rfl (A8    rfl) ?_
      refine Da 5 rfl (Ae     rfl) ?_
      refine Dt 6 [13] rfl (Bx    rfl) ?_
      refine Da 7 rfl (Ae     rfl) ?_
      refine Da 11 rfl (Ae     rfl) ?_
      refine Dc 8 rfl rfl (Cy           hf.rep hok0 _ _) ?_
      rintro _ J1 _ e1 ⟨o1, k1, rfl, hs1, rfl⟩
      refine Hx ?_
      refine Fj     9 rfl (by kernel_rfl) rfl rfl rfl (by rfl) (by rfl) (by rfl) (by decide) (by decide) (by rfl) .free rfl (.inr Am   ) ?_
      intro b40
      refine D8       ?_
      intro hz
      have e2 := e1.trans hz
      refine Dc 10 rfl rfl (D9              (A5        (xs := [.slice ob bd.length cb, .slice o1 (List.length _) k1]) (ys := [])) (hbd.mono e2) (hs1.mono hz) (Ex.binds_room0 (by omega)) _) ?_
      rintro _ J3 _ e3 ⟨o3, k3, rfl, hs3, rfl⟩
      have e4 := e2.trans e3
      have hf3 := hf.mono e4
      have hx3 := T.mono _ _ _ _ e4 hx
      refine Hx ?_
      refine Et    (fun w h => h.u1) ?_
      refine Dc 12 rfl rfl (ihn (by omega) (hf3.as 3 d.tree (by omega) rfl) hok.2 hs3 (Ex.binds_room (by omega)) _ _ (Ex.occ_room2 (by omega)) hx3 _) ?_
      rintro _ J4 _ e5 ⟨rfl, x, hx, rfl⟩
      have e6 := e4.trans e5
      refine Hx ?_
      refine Et    (fun w h => h.w1) ?_
      have hf := hf.mono e6
      have hbd := hbd.mono e6
      have hle := hle.trans e6
      have hk := hk.mono e6
      refine Ao     (by kernel_rfl) ?_
      refine Al        (Ah      rfl ?_)
      refine Or rfl rfl rfl ?_
      refine Om rfl (Aa     ?_)
      refine Bu      ?_
      refine Se rfl (Oc rfl rfl rfl (Aa     (Ab    ?_)))
      refine Cr      rfl (by first | rfl | decide | (simp; done) | omega) ?_
      refine Bw     rfl ?_
      refine L9    .nil ?_
      exact ⟨_, _, hle, fun w h => h.drop, rfl, x, by simpa [Ex.occ, Ex.binds] using hx, rfl⟩
    · skip
      refine Ah      rfl ?_
      refine Az    rfl .free rfl ?_
      refine Ca rfl (Ec          hf.rep _) ?_
      rintro _ J _ e0 ⟨ok, ck, rfl, hk, rfl⟩
      have hf := hf.mono e0
      have hbd := hbd.mono e0
      have hx := T.mono _ _ _ _ e0 hx
      have hle := e0
      have hok0 := hok
      simp only [Ex.ok, Bool.and_eq_true] at hok
      rw [Jz      ] at hk
      rw [Jz      ]
      have hlen : (Ex.lt z a b).tree.parts.length = 4 := rfl
      have hkl : [2, 3].length = 2 := rfl
      simp only [Ex.lt.sizeOf_spec] at hlt
      simp only [Ex.size] at hbl hsl
      refine On rfl (Om rfl (Aa     (Aj      ?_)))
      refine Dq     ?_
      refine Se rfl (Oc rfl rfl rfl (Aa     (Ab    ?_)))
      refine B6      rfl (by first | rfl | decide | (simp; done) | omega) ?_
      refine Af     (Ab    (Aj      (Se rfl ?_)))
      first | refine A3    rfl rfl _ rfl .free rfl ?_ | refine A4    rfl rfl _ rfl .free rfl ?_
      refine Ej    rfl .free rfl ?_
      refine Oa rfl (Aa     ?_)
      refine Sn  13 rfl rfl ?_
      refine Da 0 rfl (Ag          rfl) ?_
      refine Dt 1 [13] rfl (Bd    rfl) ?_
      refine Da 2 rfl (Ae     rfl) ?_
      first | refine Da 3 rfl (A1    rfl rfl _ rfl) ?_ | refine Da 3 rfl (A2    rfl rfl _ rfl) ?_
      refine Dt 4 [13] rfl (A8    rfl) ?_
      refine Da 5 rfl (Ae     rfl) ?_
      refine Dt 6 [13] rfl (Bx    rfl) ?_
      refine Da 7 rfl (Ae     rfl) ?_
      refine Da 11 rfl (Ae     rfl) ?_
      refine Dc 8 rfl rfl (Cy           hf.rep hok0 _ _) ?_
      rintro _ J1 _ e1 ⟨o1, k1, rfl, hs1, rfl⟩
      refine Hx ?_
      refine Fj     9 rfl (by kernel_rfl) rfl rfl rfl (by rfl) (by rfl) (by rfl) (by decide) (by decide) (by rfl) .free rfl (.inr Am   ) ?_
      intro b40
      refine D8       ?_
      intro hz
      have e2 := e1.trans hz
      refine Dc 10 rfl rfl (D9              (A5        (xs := [.slice ob bd.length cb, .slice o1 (List.length _) k1]) (ys := [])) (hbd.mono e2) (hs1.mono hz) (Ex.binds_room0 (by omega)) _) ?_
      rintro _ J3 _ e3 ⟨o3, k3, rfl, hs3, rfl⟩
      have e4 := e2.trans e3
      have hf3 := hf.mono e4
      have hx3 := T.mono _ _ _ _ e4 hx
      refine Hx ?_
      refine Et    (fun w h => h.u1) ?_
      refine Dc 12 rfl rfl (ihn (by omega) (hf3.as 2 a.tree (by omega) rfl) hok.1.2 hs3 (Ex.binds_room (by omega)) _ _ (by omega) hx3 _) ?_
      rintro _ J4 _ e5 ⟨rfl, x, hx, rfl⟩
      have e6 := e4.trans e5
      refine Hx ?_
      refine Et    (fun w h => h.w1) ?_
      have hf := hf.mono e6
      have hbd := hbd.mono e6
      have hle := hle.trans e6
      have hk := hk.mono e6
      refine Ao     (by kernel_rfl) ?_
      refine Al        (Ah      rfl ?_)
      refine Or rfl rfl rfl ?_
      refine Om rfl (Aa     ?_)
      refine Bu      ?_
      refine Se rfl (Oc rfl rfl rfl (Aa     (Ab    ?_)))
      refine B6      rfl (by first | rfl | decide | (simp; done) | omega) ?_
      refine Af     (Ab    (Aj      (Se rfl ?_)))
      first | refine A3    rfl rfl _ rfl .free rfl ?_ | refine A4    rfl rfl _ rfl .free rfl ?_
      refine Ej    rfl .free rfl ?_
      refine Oa rfl (Aa     ?_)
      refine Sn  13 rfl rfl ?_
      refine Da 0 rfl (Ag          rfl) ?_
      refine Dt 1 [13] rfl (Bd    rfl) ?_
      refine Da 2 rfl (Ae     rfl) ?_
      first | refine Da 3 rfl (A1    rfl rfl _ rfl) ?_ | refine Da 3 rfl (A2    rfl rfl _ rfl) ?_
      refine Dt 4 [13] rfl (A8    rfl) ?_
      refine Da 5 rfl (Ae     rfl) ?_
      refine Dt 6 [13] rfl (Bx    rfl) ?_
      refine Da 7 rfl (Ae     rfl) ?_
      refine Da 11 rfl (Ae     rfl) ?_
      refine Dc 8 rfl rfl (Cy           hf.rep hok0 _ _) ?_
      rintro _ J1 _ e1 ⟨o1, k1, rfl, hs1, rfl⟩
      refine Hx ?_
      refine Fj     9 rfl (by kernel_rfl) rfl rfl rfl (by rfl) (by rfl) (by rfl) (by decide) (by decide) (by rfl) .free rfl (.inr Am   ) ?_
      intro b40
      refine D8       ?_
      intro hz
      have e2 := e1.trans hz
      refine Dc 10 rfl rfl (D9              (A5        (xs := [.slice ob bd.length cb, .slice o1 (List.length _) k1]) (ys := [])) (hbd.mono e2) (hs1.mono hz) (Ex.binds_room0 (by omega)) _) ?_
      rintro _ J3 _ e3 ⟨o3, k3, rfl, hs3, rfl⟩
      have e4 := e2.trans e3
      have hf3 := hf.mono e4
      have hx3 := T.mono _ _ _ _ e4 hx
      refine Hx ?_
      refine Et    (fun w h => h.u1) ?_
      refine Dc 12 rfl rfl (ihn (by omega) (hf3.as 3 b.tree (by omega) rfl) hok.2 hs3 (Ex.binds_room (by omega)) _ _ (Ex.occ_room (by omega)) hx3 _) ?_
      rintro _ J4 _ e5 ⟨rfl, x, hx, rfl⟩
      have e6 := e4.trans e5
      refine Hx ?_
      refine Et    (fun w h => h.w1) ?_
      have hf := hf.mono e6
      have hbd := hbd.mono e6
      have hle := hle.trans e6
      have hk := hk.mono e6
      refine Ao     (by kernel_rfl) ?_
      refine Al        (Ah      rfl ?_)
      refine Or rfl rfl rfl ?_
      refine Om rfl (Aa     ?_)
      refine Bu      ?_
      refine Se rfl (Oc rfl rfl rfl (Aa     (Ab    ?_)))
      refine Cr      rfl (by first | rfl | decide | (simp; done) | omega) ?_
      refine Bw     rfl ?_
      refine L9    .nil ?_
      exact ⟨_, _, hle, fun w h => h.drop, rfl, x, by simpa [Ex.occ, Ex.binds] using hx, rfl⟩
    · skip
      refine Ah      rfl ?_
      refine Az    rfl .free rfl ?_
      refine Ca rfl (Ec          hf.rep _) ?_
      rintro _ J _ e0 ⟨ok, ck, rfl, hk, rfl⟩
      have hf := hf.mono e0
      have hbd := hbd.mono e0
      have hx := T.mono _ _ _ _ e0 hx
      have hle := e0
      have hok0 := hok
      simp only [Ex.ok, Bool.and_eq_true] at hok
      rw [Ki     ] at hk
      rw [Ki     ]
      have hlen : (Ex.fn g z s t b).tree.parts.length = 6 := rfl
      have hkl : [5].length = 1 := rfl
      simp only [Ex.fn.sizeOf_spec] at hlt
      simp only [Ex.size] at hbl hsl
      refine On rfl (Om rfl (Aa     (Aj      ?_)))
      refine Dq     ?_
      refine Se rfl (Oc rfl rfl rfl (Aa     (Ab    ?_)))
      refine B6      rfl (by first | rfl | decide | (simp; done) | omega) ?_
      refine Af     (Ab    (Aj      (Se rfl ?_)))
      first | refine A3    rfl rfl _ rfl .free rfl ?_ | refine A4    rfl rfl _ rfl .free rfl ?_
      refine Ej    rfl .free rfl ?_
      refine Oa rfl (Aa     ?_)
      refine Sn  13 rfl rfl ?_
      refine Da 0 rfl (Ag          rfl) ?_
      refine Dt 1 [13] rfl (Bd    rfl) ?_
      refine Da 2 rfl (Ae     rfl) ?_
      first | refine Da 3 rfl (A1    rfl rfl _ rfl) ?_ | refine Da 3 rfl (A2    rfl rfl _ rfl) ?_
      refine Dt 4 [13] rfl (A8    rfl) ?_
      refine Da 5 rfl (Ae     rfl) ?_
      refine Dt 6 [13] rfl (Bx    rfl) ?_
      refine Da 7 rfl (Ae     rfl) ?_
      refine Da 11 rfl (Ae     rfl) ?_
      refine Dc 8 rfl rfl (Cy           hf.rep hok0 _ _) ?_
      rintro _ J1 _ e1 ⟨o1, k1, rfl, hs1, rfl⟩
      refine Hx ?_
      refine Fj     9 rfl (by kernel_rfl) rfl rfl rfl (by rfl) (by rfl) (by rfl) (by decide) (by decide) (by rfl) .free rfl (.inr Am   ) ?_
      intro b40
      refine D8       ?_
      intro hz
      have e2 := e1.trans hz
      refine Dc 10 rfl rfl (D9              (A5        (xs := [.slice ob bd.length cb, .slice o1 (List.length _) k1]) (ys := [])) (hbd.mono e2) (hs1.mono hz) (Ex.binds_room0 (by omega)) _) ?_
      rintro _ J3 _ e3 ⟨o3, k3, rfl, hs3, rfl⟩
      have e4 := e2.trans e3
      have hf3 := hf.mono e4
      have hx3 := T.mono _ _ _ _ e4 hx
      refine Hx ?_
      refine Et    (fun w h => h.u1) ?_
      refine Dc 12 rfl rfl (ihn (by omega) (hf3.as 5 b.tree (by omega) rfl) hok.2 hs3 (Ex.binds_room (by omega)) _ _ (by omega) hx3 _) ?_
      rintro _ J4 _ e5 ⟨rfl, x, hx, rfl⟩
      have e6 := e4.trans e5
      refine Hx ?_
      refine Et    (fun w h => h.w1) ?_
      have hf := hf.mono e6
      have hbd := hbd.mono e6
      have hle := hle.trans e6
      have hk := hk.mono e6
      refine Ao     (by kernel_rfl) ?_
      refine Al        (Ah      rfl ?_)
      refine Or rfl rfl rfl ?_
      refine Om rfl (Aa     ?_)
      refine Bu      ?_
      refine Se rfl (Oc rfl rfl rfl (Aa     (Ab    ?_)))
      refine Cr      rfl (by first | rfl | decide | (simp; done) | omega) ?_
      refine Bw     rfl ?_
      refine L9    .nil ?_
      exact ⟨_, _, hle, fun w h => h.drop, rfl, x, by simpa [Ex.occ, Ex.binds] using hx, rfl⟩
    · skip
      refine Ah      rfl ?_
      refine Az    rfl .free rfl ?_
      refine Ca rfl (Ec          hf.rep _) ?_
      rintro _ J _ e0 ⟨ok, ck, rfl, hk, rfl⟩
      have hf := hf.mono e0
      have hbd := hbd.mono e0
      have hx := T.mono _ _ _ _ e0 hx
      have hle := e0
      have hok0 := hok
      simp only [Ex.ok, Bool.and_eq_true] at hok
      rw [In     ] at hk
      rw [In     ]
      have hlen : (Ex.un o a).tree.parts.length = 2 := rfl
      have hkl : [1].length = 1 := rfl
      simp only [Ex.un.sizeOf_spec] at hlt
      simp only [Ex.size] at hbl hsl
      refine On rfl (Om rfl (Aa     (Aj      ?_)))
      refine Dq     ?_
      refine Se rfl (Oc rfl rfl rfl (Aa     (Ab    ?_)))
      refine B6      rfl (by first | rfl | decide | (simp; done) | omega) ?_
      refine Af     (Ab    (Aj      (Se rfl ?_)))
      first | refine A3    rfl rfl _ rfl .free rfl ?_ | refine A4    rfl rfl _ rfl .free rfl ?_
      refine Ej    rfl .free rfl ?_
      refine Oa rfl (Aa     ?_)
      refine Sn  13 rfl rfl ?_
      refine Da 0 rfl (Ag          rfl) ?_
      refine Dt 1 [13] rfl (Bd    rfl) ?_
      refine Da 2 rfl (Ae     rfl) ?_
      first | refine Da 3 rfl (A1    rfl rfl _ rfl) ?_ | refine Da 3 rfl (A2    rfl rfl _ rfl) ?_
      refine Dt 4 [13] rfl (A8    rfl) ?_
      refine Da 5 rfl (Ae     rfl) ?_
      refine Dt 6 [13] rfl (Bx    rfl) ?_
      refine Da 7 rfl (Ae     rfl) ?_
      refine Da 11 rfl (Ae     rfl) ?_
      refine Dc 8 rfl rfl (Cy           hf.rep hok0 _ _) ?_
      rintro _ J1 _ e1 ⟨o1, k1, rfl, hs1, rfl⟩
      refine Hx ?_
      refine Fj     9 rfl (by kernel_rfl) rfl rfl rfl (by rfl) (by rfl) (by rfl) (by decide) (by decide) (by rfl) .free rfl (.inr Am   ) ?_
      intro b40
      refine D8       ?_
      intro hz
      have e2 := e1.trans hz
      refine Dc 10 rfl rfl (D9              (A5        (xs := [.slice ob bd.length cb, .slice o1 (List.length _) k1]) (ys := [])) (hbd.mono e2) (hs1.mono hz) (Ex.binds_room0 (by omega)) _) ?_
      rintro _ J3 _ e3 ⟨o3, k3, rfl, hs3, rfl⟩
      have e4 := e2.trans e3
      have hf3 := hf.mono e4
      have hx3 := T.mono _ _ _ _ e4 hx
      refine Hx ?_
      refine Et    (fun w h => h.u1) ?_
      refine Dc 12 rfl rfl (ihn (by omega) (hf3.as 1 a.tree (by omega) rfl) hok hs3 (Ex.binds_room (by omega)) _ _ (by omega) hx3 _) ?_
      rintro _ J4 _ e5 ⟨rfl, x, hx, rfl⟩
      have e6 := e4.trans e5
      refine Hx ?_
      refine Et    (fun w h => h.w1) ?_
      have hf := hf.mono e6
      have hbd := hbd.mono e6
      have hle := hle.trans e6
      have hk := hk.mono e6
      refine Ao     (by kernel_rfl) ?_
      refine Al        (Ah      rfl ?_)
      refine Or rfl rfl rfl ?_
      refine Om rfl (Aa     ?_)
      refine Bu      ?_
      refine Se rfl (Oc rfl rfl rfl (Aa     (Ab    ?_)))
      refine Cr      rfl (by first | rfl | decide | (simp; done) | omega) ?_
      refine Bw     rfl ?_
      refine L9    .nil ?_
      exact ⟨_, _, hle, fun w h => h.drop, rfl, x, by simpa [Ex.occ, Ex.binds] using hx, rfl⟩

structure FB where
 l : List Au
 B : Kd
 c : Nat
def FB.own (bo : Nat) (x : FB) : Bl := (bo, .cells [Cb x.l.length x.c x.B].toArray 33 (0, 0)) :: Ch 9 (x.l.map sv) x.B
def FB.is (x : FB) (seen : List Au) (I : Heap) : Prop := x.l = Do [] seen ∧ Em 1 x.l.length x.c (x.l.map sv) x.B ∧ ∀ s ∈ x.l, Bs s = true
theorem G0 (l m : List Au) : (Do l m).length ≤ l.length + m.length := by
 induction m generalizing l with
 | nil => exact Nat.le_refl _
 | cons s m ih =>
  have h1 : (Hf l s).length ≤ l.length + 1 := by unfold Hf; split <;> simp
  have h2 := ih (Hf l s)
  simp only [Do, List.foldl_cons, List.length_cons] at *
  omega
theorem Qx (bo : Nat) (x : FB) (seen : List Au) (s : Au) (I : Heap) (L : Bl) (hx : x.is seen I) (hs : Bs s = true) (hl : seen.length < 4294967296) :
  Fun Tryz.prog 127 [.string (str s), .pointer (some ⟨bo, 0, none⟩)] I (FB.own bo x ++ L) (fun v I' L' => v = .tuple #[] ∧ ∃ y : FB, y.is (seen ++ [s]) I' ∧ L' = FB.own bo y ++ L) := by
 obtain ⟨l, B, c⟩ := x; obtain ⟨hl1, hB, hn⟩ := hx
 simp only at hl1 hB hn
 have hll := G0 [] seen
 rw [← hl1] at hll
 simp only [List.length_nil, Nat.zero_add] at hll
 obtain ⟨oa, c', hbv, hrd⟩ := Zu (I := I) (L := L) (e := 9) hB rfl (by unfold As; omega)
 have hcon : Fun Tryz.prog 128 [Cb l.length c B, .string (str s)] I ((bo, .cells [Cb l.length c B].toArray 33 (0, 0)) :: (Ch 9 (l.map sv) B ++ L)) (D2 (.bool (decide (s ∈ l))) I ((bo, .cells [Cb l.length c B].toArray 33 (0, 0)) :: (Ch 9 (l.map sv) B ++ L))) := by
  have := C6 (hrd.sub (L' := (bo, .cells [Cb l.length c B].toArray 33 (0, 0)) :: (Ch 9 (l.map sv) B ++ L)) fun w h => h.drop) c' s
  rwa [← hbv] at this
 unfold FB.own
 simp only [List.cons_append]
 refine Ai (by simp) ?_; refine Se rfl ?_; refine Dd rfl (Fq (cs := [Cb l.length c B]) m0 (by rfl) (by cases B <;> rfl)) .free rfl ?_; refine Om rfl ?_; refine Ce rfl .free rfl hcon ?_; rintro _ _ _ _ ⟨rfl, rfl, rfl⟩; refine Ck rfl .free rfl ?_; refine Aa ?_; refine Ar rfl ?_ ?_
 ·intro c0
  try simp only [nb] at c0
  have hadd : Do [] (seen ++ [s]) = l ++ [s] := by rw [Cv, ← hl1]; simp [Do, Hf, c0]
  refine Ah rfl ?_; refine Dd rfl (Fq (cs := [Cb l.length c B]) m0 (by rfl) (by cases B <;> rfl)) .free rfl ?_; refine Om rfl ?_; refine Ol rfl rfl ?_; intro b9; refine C2 (B := B) (xs := l.map sv) (ys := [sv s]) (m := l.length) (c := c) (by intro kk; simp) (by rfl) rfl rfl hB (fun _ h => h.u2) (by rfl) (fun a ha => by cases ha; exact Br (.head _) (by rfl)) (by simp) (by rfl) (by decide) (by decide) (by omega) (by decide) .free rfl ?_; intro bb sp c2 hB'; refine Tg rfl rfl rfl rfl (by rfl) u2 (by rfl) .free ?_; refine Aa ?_; refine L9 .nil ?_
  first
   | exact ⟨I, _, .refl _, fun w h => h, rfl, ⟨l, B, c⟩, ⟨hadd.symm, hB, hn⟩, rfl⟩
   | exact ⟨I, _, .refl _, fun w h => Mem.sub (L' := (bo, _) :: (bb, _) :: L) (by repeat (first | exact List.Sublist.refl _ | apply List.Sublist.cons_cons | apply List.Sublist.cons)) h.f2, rfl, ⟨l ++ [s], some (bb, sp), c2⟩, ⟨hadd.symm, by simpa using hB', by intro z hz; rcases List.mem_append.1 hz with h | h; exact hn z h; rw [List.mem_singleton.1 h]; exact hs⟩, by simp [Ch, Cb]⟩
 intro c0
 try simp only [nb] at c0
 have hadd : Do [] (seen ++ [s]) = l := by rw [Cv, ← hl1]; simp [Do, Hf, c0]
 refine Af ?_; refine L9 .nil ?_
 first
  | exact ⟨I, _, .refl _, fun w h => h, rfl, ⟨l, B, c⟩, ⟨hadd.symm, hB, hn⟩, rfl⟩
  | exact ⟨I, _, .refl _, fun w h => Mem.sub (L' := (bo, _) :: (bb, _) :: L) (by repeat (first | exact List.Sublist.refl _ | apply List.Sublist.cons_cons | apply List.Sublist.cons)) h.f2, rfl, ⟨l ++ [s], some (bb, sp), c2⟩, ⟨hadd.symm, by simpa using hB', by intro z hz; rcases List.mem_append.1 hz with h | h; exact hn z h; rw [List.mem_singleton.1 h]; exact hs⟩, by simp [Ch, Cb]⟩
theorem Nl (bo : Nat) : Zn Tryz.prog 127 [.pointer (some ⟨bo, 0, none⟩)] FB (FB.own bo) FB.is :=
 ⟨fun x seen s I L hx hs hl => Qx bo x seen s I L hx hs hl, fun x seen I I' _ h => h⟩
theorem Qa {l : List Au} (h : ∀ s ∈ l, Bs s = true) : ∀ s ∈ l, s.length ≤ As := fun s hs => Ex.name_len (h s hs)
theorem Ni {I : Heap} {e : Ex} {cs : List Value} (h : Rep I e.tree cs) (hok : e.ok = true) (hz : 2 * e.size ≤ 4294967295) (L : Bl) : Fun Tryz.prog 74 [.agg cs.toArray] I L (SS e.free L) := by
 obtain ⟨oa, c, oaf, cf, rfl, hf⟩ := h.at'
 have hT := fun bo => Nl bo
 refine Ai (by simp) ?_; refine Se rfl ?_; refine Cd rfl rfl .free rfl ?_; intro b1; refine Oa rfl (Aa (Se rfl ?_)); refine Ax .free rfl ?_; intro b3; refine Aa (Se rfl ?_); refine Az rfl .free rfl ?_; refine Wq rfl rfl .free rfl ?_; refine Dv (L' := FB.own b3 ⟨[], none, 0⟩ ++ _) (fun w h => h) ?_; refine Ca rfl (Ug (hT b3) _ (Nat.lt_succ_self _) hf.rep hok (Na I) (by unfold As; simp; omega) ⟨[], none, 0⟩ [] (by simp; omega) ⟨rfl, ⟨rfl, rfl, rfl⟩, by simp⟩ _) ?_; rintro _ J _ e1 ⟨rfl, ⟨l, B, c2⟩, ⟨hl, hB, hn⟩, rfl⟩
 simp only at hl hB hn
 simp only [FB.own, List.cons_append]
 refine Aa (Se rfl ?_); refine Dd rfl (Fq (cs := [Cb l.length c2 B]) m0 (by rfl) (by cases B <;> rfl)) .free rfl ?_; refine Oa rfl (Aa ?_)
 have hll := G0 [] (e.occ [])
 have hol := e.occ_len []
 simp only [List.nil_append] at hl
 rw [← hl] at hll
 simp only [List.length_nil, Nat.zero_add] at hll
 refine Bg (fun w h => h.u1) (Gq hB rfl (by unfold As; omega) (Qa hn) ?_); intro J2 oz cz ez hbv hst; refine Kc (t := 2) rfl hbv ?_; refine Ad (.tmp rfl .nil) ?_
 exact ⟨J2, L, e1.trans ez, fun w h => h.drop.drop, oz, cz, by rw [show e.free = l from hl.symm]; rfl, by rw [show e.free = l from hl.symm]; exact hst, rfl⟩
theorem C5 {P : Program} {f : FuncId} {n : Nat} {I₀ : Heap} {Q : C1} {k : List Item} {ops : Array Oper} {S : World → Prop} {fuel : Nat} {listed : Array Bool} {E : G7} {I : Heap} {L : Bl} {e : TypeId} {l : List Au} {B : Kd} {m c : Nat}
  (hB : Em 1 m c (l.map sv) B) (hm : m = l.length) (hlen : l.length ≤ As) (hs : ∀ s ∈ l, s.length ≤ As)
  (h : ∀ I' oa c', HLe I I' → Cb m c B = .slice oa l.length c' → Strs I' oa l c' → Ct P f n I₀ Q ops S fuel listed k E I' L) : Ct P f n I₀ Q ops S fuel listed k E I (Ch e (l.map sv) B ++ L) := by
 cases B with
 | none =>
  obtain ⟨h1, h2, h3⟩ := hB; obtain rfl : l = [] := by simpa using h1
  exact h I .none 0 (.refl _) rfl ⟨by simp, by simp, by simp, hlen, hs⟩
 | some p =>
  obtain ⟨b, sp⟩ := p; refine D8 fun hle => h _ (some ⟨b, 0, .none⟩) c hle (by rw [← hm]; rfl) ⟨fun y hy => ?_, by simp, by have := hB.2.1; omega, hlen, hs⟩
  cases hy; exact A5
theorem Ex.binds_room1 {bd : List Au} {e : Ex} {i : Nat} (h : bd.length + 2 ≤ 4294967296) : 0 + bd.length + (e.binds i).length ≤ 4294967296 := by
 have := e.binds_le i; omega
theorem H1 (I : Heap) (oa : Option Addr) : Strs I oa [] 0 := ⟨fun x _ => .inl rfl, fun _ => rfl, by simp, by simp [As], by simp⟩
theorem D7 {I : Heap} {e : Ex} {cs : List Value} (h : Rep I e.tree cs) (hok : e.ok = true) (hb : e.bare = false) (i : Nat) (hi : i ∈ Cn e.tree) (L : Bl) : Fun Tryz.prog 184 [.agg cs.toArray, .int .i64 (i : Nat)] I L (SS (e.binds i) L) := by
 obtain ⟨oa, c, oaf, cf, rfl, hf⟩ := h.at'
 have hg := (Ex.tree_good hok).1
 have h0 : 0 < e.tree.parts.length := by
  rw [Ex.bare_parts] at hb
  have : e.tree.parts ≠ [] := by intro hh; rw [hh] at hb; cases hb
  exact List.length_pos_iff.2 this
 have hhd := Il h0
 refine Ai (by simp) ?_; refine Se rfl ?_; refine Cd rfl rfl .free rfl ?_; intro b2; refine Oa rfl (Aa (Ab (Aj (Se rfl (Oh rfl ?_))))); refine A6 rfl .free rfl ?_
 first | refine A3 rfl rfl 0 rfl .free rfl ?_ | refine A4 rfl rfl 0 rfl .free rfl ?_
 refine Av rfl .free rfl ?_; refine Dk rfl .free rfl ?_; refine Od rfl rfl rfl (Om rfl ?_)
 apply Ee 12 15 rfl
 ·intro g1_7 hk
  try simp only [nb] at g1_7
  refine Ow rfl ?_; refine Dr rfl rfl rfl (.met rfl rfl) rfl ?_; refine Ot rfl rfl ?_
  exact Bb 2 rfl rfl hk
 ·intro _ hk; refine Bm 2 rfl ?_; refine Of rfl rfl ?_
  exact Bb 2 rfl rfl hk
 refine Oa rfl (Aa ?_); refine Ar rfl ?_ ?_
 ·intro c0
  try simp only [nb] at c0
  obtain ⟨x, a, b, rfl⟩ := Ex.of_let (hhd.trans c0.1); obtain rfl : i = 3 := by omega
  simp only [Ex.ok, Bool.and_eq_true] at hok
  have hlen : (Ex.lt x a b).tree.parts.length = 4 := rfl
  have hx : ((Ex.lt x a b).tree.pt 1).atom.length ≤ As := Ex.name_len hok.1.1
  refine Se rfl (Oh rfl ?_); refine A6 rfl .free rfl ?_
  first | refine A3 rfl rfl 1 rfl .free rfl ?_ | refine A4 rfl rfl 1 rfl .free rfl ?_
  refine Av rfl .free rfl ?_; refine Dk rfl .free rfl ?_; refine Ol rfl rfl ?_; intro b21; refine Oa rfl (Aa ?_); refine Be ?_; intro hz; refine Ad (.tmp rfl .nil) ?_
  exact ⟨_, L, hz, Ay, some ⟨b21, 0, none⟩, 1, rfl, H2 hz hx, rfl⟩
 intro c0
 try simp only [nb] at c0
 refine Se rfl (Oh rfl ?_); refine A6 rfl .free rfl ?_
 first | refine A3 rfl rfl 0 rfl .free rfl ?_ | refine A4 rfl rfl 0 rfl .free rfl ?_
 refine Av rfl .free rfl ?_; refine Dk rfl .free rfl ?_; refine Od rfl rfl rfl (Oa rfl (Aa ?_)); refine Ar rfl ?_ ?_
 ·intro c1
  try simp only [nb] at c1
  obtain ⟨f, x, s, t, b, rfl⟩ := Ex.of_fun (hhd.trans c1); obtain rfl : i = 5 := by rw [Ki] at hi; simpa using hi
  simp only [Ex.ok, Bool.and_eq_true] at hok
  have hlen : (Ex.fn f x s t b).tree.parts.length = 6 := rfl
  have hx1 : ((Ex.fn f x s t b).tree.pt 1).atom.length ≤ As := Ex.name_len hok.1.1.1.1.1
  have hx2 : ((Ex.fn f x s t b).tree.pt 2).atom.length ≤ As := Ex.name_len hok.1.1.1.1.2
  refine Ab ?_; refine B8 12 rfl rfl ?_; refine Da 0 rfl (Ag rfl) ?_; refine Dt 1 [12] rfl (Bd rfl) ?_
  first | refine Da 2 rfl (A1 rfl rfl 1 rfl) ?_ | refine Da 2 rfl (A2 rfl rfl 1 rfl) ?_
  refine Da 3 rfl (A9 rfl) ?_; refine Dt 4 [12] rfl (Hd rfl) ?_; refine Da 5 rfl (Ag rfl) ?_; refine Dt 6 [12] rfl (Bd rfl) ?_
  first | refine Da 7 rfl (A1 rfl rfl 2 rfl) ?_ | refine Da 7 rfl (A2 rfl rfl 2 rfl) ?_
  refine Da 8 rfl (A9 rfl) ?_; refine Dt 9 [12] rfl (Hd rfl) ?_; refine Fj 10 rfl (by kernel_rfl) rfl rfl rfl (by rfl) (by rfl) (by rfl) (by decide) (by decide) (by rfl) .free rfl (.inr Am) ?_; intro b39; refine Da 11 rfl (Aw rfl) ?_; refine Ao (by kernel_rfl) ?_; refine Be ?_; intro hz; refine Ad (.tmp rfl .nil) ?_
  exact ⟨_, L, hz, Ay, some ⟨b39, 0, none⟩, 2, rfl, R2 hz hx1 hx2, rfl⟩
 intro c1
 try simp only [nb] at c1
 refine Af (Al (Se rfl ?_)); refine Dp .free rfl ?_; intro b40; refine Oa rfl (Aa (Ad (.tmp rfl .nil) ?_))
 have hbd : e.binds i = [] := by
  cases e with
  | lt x a b => exact if_neg fun hi => by rcases c0 with h | h; exact h rfl; omega
  | fn f x s t b => exact absurd rfl c1
  | _ => rfl
 exact ⟨I, L, .refl _, Ay, some ⟨b40, 0, none⟩, 0, by rw [hbd]; rfl, by rw [hbd]; exact H1 I _, rfl⟩

def LP (l : List Au) (L : Bl) : C1 := fun v I' L' => ∃ B c, v = Cb l.length c B ∧ Em 1 l.length c (l.map sv) B ∧ L' = Ch 9 (l.map sv) B ++ L
theorem Xn {l : List Au} {B : Kd} {c : Nat} (hB : Em 1 l.length c (l.map sv) B) (hl : l.length ≤ As) (I : Heap) (p : Nat × Obj) (L : Bl) (s : Au) :
  Fun Tryz.prog 170 [Cb l.length c B, .string (str s)] I (p :: (Ch 9 (l.map sv) B ++ L)) (D2 (.bool (decide (s ∈ l))) I (p :: (Ch 9 (l.map sv) B ++ L))) := by
 obtain ⟨oa, c', hbv, hrd⟩ := Zu (I := I) (L := L) (e := 9) hB rfl hl; rw [hbv]
 exact Hj (hrd.sub fun w h => h.drop) c' s
theorem Pl {l : List Au} {s : Au} (h : s ∉ l) : Do l [s] = l ++ [s] := by simp [Do, Hf, h]
theorem Q6 {l : List Au} {s : Au} (h : s ∈ l) : Do l [s] = l := by simp [Do, Hf, h]
theorem H5 {l bd : List Au} {e : Ex} {k n : Nat} (h : l.length + (e.size + k) ≤ n) : (Do l (e.occ bd)).length + k ≤ n := by
 have := G0 l (e.occ bd); have := e.occ_len bd; omega
theorem Sc {l bd bd' : List Au} {e e' : Ex} {k n : Nat} (h : l.length + (e.size + (e'.size + k)) ≤ n) : (Do (Do l (e.occ bd)) (e'.occ bd')).length + k ≤ n := H5 (H5 h)
theorem Aaf : ∀ (n : Nat) {I : Heap} {e : Ex} {cs : List Value} (_ : SizeOf.sizeOf e < n) (_ : Rep I e.tree cs) (_ : e.ok = true) {bd : List Au} {ob : Option Addr} {cb : Nat} (_ : Strs I ob bd cb) (_ : bd.length + 2 * e.size ≤ As)
   (l : List Au) (B : Kd) (c : Nat) (_ : l.length + e.size ≤ 4294967295) (_ : Em 1 l.length c (l.map sv) B) (L : Bl),
  Fun Tryz.prog 147 [.agg cs.toArray, .slice ob bd.length cb, Cb l.length c B] I (Ch 9 (l.map sv) B ++ L) (LP (Do l (e.occ bd)) L) := by
 intro n
 induction n with
 | zero => intro I e cs h; omega
 | succ n ihn =>
  intro I e cs hlt h hok bd ob cb hbd hbl l B c hl hB L; obtain ⟨oa, cc, oaf, cf, rfl, hf⟩ := h.at'
  have ha := hf.alen
  have hlN : l.length ≤ As := by unfold As; omega
  unfold As at hbl
  refine Ai (by simp) ?_; refine Se rfl ?_; refine Cd rfl rfl .free rfl ?_; intro b3; refine Oa rfl (Aa (Ab (Se rfl (Oh rfl ?_)))); refine A6 rfl .free rfl ?_; refine Od rfl rfl rfl (Aa ?_); refine Ar rfl ?_ ?_
  ·intro c0
   try simp only [nb] at c0
   have hb : e.bare = true := by
    cases hb : e.bare with
    | true => rfl
    | false => exact absurd ((Ex.atom_iff hok).2 hb) c0
   refine Ab (Se rfl (Oh rfl ?_)); refine A6 rfl .free rfl ?_; refine Ca rfl (Lb e.tree.atom ha _ _) ?_; rintro _ _ _ _ ⟨rfl, rfl, rfl⟩; refine Ck rfl .free rfl ?_; refine Om rfl ?_
   apply G4 17 22 rfl
   ·intro g2_5 hk
    try simp only [nb] at g2_5
    refine Ow rfl ?_; refine Bz rfl (.met rfl rfl) rfl ?_; refine A6 rfl (.met rfl rfl) rfl ?_; refine Ce rfl (.met rfl rfl) rfl (Hj (hbd.rd _) cb e.tree.atom) ?_; rintro _ _ _ _ ⟨rfl, rfl, rfl⟩; refine Of rfl rfl ?_
    exact Bb 4 rfl rfl hk
   ·intro _ hk; refine Bm 4 rfl ?_; refine Ot rfl rfl ?_
    exact Bb 4 rfl rfl hk
   refine Om rfl ?_
   apply G4 23 28 rfl
   ·intro g2_11 hk
    try simp only [nb] at g2_11
    refine Ow rfl ?_; refine Bz rfl (.met rfl rfl) rfl ?_; refine A6 rfl (.met rfl rfl) rfl ?_; refine Ce rfl (.met rfl rfl) rfl (Xn hB hlN _ _ _ _) ?_; rintro _ _ _ _ ⟨rfl, rfl, rfl⟩; refine Of rfl rfl ?_
    exact Bb 4 rfl rfl hk
   ·intro _ hk; refine Bm 4 rfl ?_; refine Ot rfl rfl ?_
    exact Bb 4 rfl rfl hk
   refine Aa ?_; refine Ar rfl ?_ ?_
   ·intro c1
    try simp only [nb] at c1
    refine Se rfl (Om rfl (Oa rfl (Aa (Ad (.tmp rfl .nil) ?_))))
    have hoc : Do l (e.occ bd) = l := by
     cases e with
     | num s => rfl
     | name s =>
      have c1 : (Bs s = false ∨ s ∈ bd) ∨ s ∈ l := c1
      rcases c1 with (h | h) | h
      ·rw [show Bs s = true from hok] at h; cases h
      ·simp only [Ex.occ]; rw [if_pos h]; rfl
      ·simp only [Ex.occ]
       split
       ·rfl
       ·exact Q6 h
     | _ => cases hb
    exact ⟨I, _, .refl _, fun w h => h.drop, B, c, by rw [hoc]; rfl, by rw [hoc]; exact hB, by rw [hoc]⟩
   intro c1
   try simp only [nb] at c1
   refine Af (Se rfl (Om rfl (Oh rfl ?_))); refine A6 rfl .free rfl ?_; refine Ol rfl rfl ?_; intro b33; refine C2 (B := B) (xs := l.map sv) (ys := [sv e.tree.atom]) (m := l.length) (c := c) (by intro kk; simp) (by rfl) rfl rfl hB (fun _ h => h.u2) (by rfl) (fun a ha => by cases ha; exact Br (.head _) (by rfl)) (by simp) (by rfl) (by decide) (by decide) (by have := e.size_pos; omega) (by decide) .free rfl ?_; intro bb sp c2 hB'; refine Oa rfl (Aa (Ad (.tmp rfl .nil) ?_))
   have hoc : Do l (e.occ bd) = l ++ [e.tree.atom] := by
    cases e with
    | num s =>
     have h1 : Bs s = true := c1.1.1
     have h2 := E3 h1
     rw [show Bt s = true from hok] at h2; cases h2
    | name s =>
     have c1 : (Bs s = true ∧ ¬ s ∈ bd) ∧ ¬ s ∈ l := c1
     simp only [Ex.occ]; rw [if_neg c1.1.2]; exact Pl c1.2
    | _ => cases hb
   exact ⟨I, _, .refl _, Ms (L' := (bb, _) :: L), some (bb, sp), c2, by rw [hoc]; simp [Cw, Cb], by rw [hoc]; simpa using hB', by rw [hoc]; simp [Ch]⟩
  intro c0
  try simp only [nb] at c0
  have hb : e.bare = false := (Ex.atom_iff hok).1 (by simpa using c0)
  have hsh := e.shapes hb
  have h0 : 0 < e.tree.parts.length := by
   rw [Ex.bare_parts] at hb
   have : e.tree.parts ≠ [] := by intro hh; rw [hh] at hb; cases hb
   exact List.length_pos_iff.2 this
  have hhd := Il h0
  have hok0 := hok
  have hle : HLe I I := .refl _
  refine Af (Se rfl (Oh rfl ?_)); refine A6 rfl .free rfl ?_
  first | refine A3 rfl rfl 0 rfl .free rfl ?_ | refine A4 rfl rfl 0 rfl .free rfl ?_
  refine Av rfl .free rfl ?_; refine Dk rfl .free rfl ?_; refine Ca rfl (P4 (e.tree.pt 0).atom _ _) ?_; rw [← hhd]; rintro _ _ _ _ ⟨rfl, rfl, rfl⟩; refine Om rfl (Oe rfl rfl (Oe rfl rfl (Oa rfl (Oa rfl (Aa (Ab (Ab ?_)))))))
  rcases hsh with ⟨o, a, b, rfl⟩ | ⟨a, b, d, rfl⟩ | ⟨z, a, b, rfl⟩ | ⟨g, z, s, t, b, rfl⟩ | ⟨o, a, rfl⟩
  ·skip
   have hk : A0 (Ex.bin o a b).tree.head = (1, 3) := by cases o <;> rfl
   rw [hk]
   have hlen : (Ex.bin o a b).tree.parts.length = 3 := rfl
   have hki := Fw o a b
   simp only [Ex.bin.sizeOf_spec] at hlt
   simp only [Ex.size] at hbl hl
   simp only [Ex.ok, Bool.and_eq_true] at hok
   refine Ah rfl (Om rfl (Oa rfl (Aa (Aj ?_)))); refine Dq ?_; refine Ab (Se rfl (Om rfl (Om rfl (Oc rfl rfl rfl (Aa ?_))))); refine B6 rfl (by first | rfl | decide | (simp; done) | omega) ?_; refine Af (Ab (Aj ?_)); refine Sn 15 rfl rfl ?_; refine Da 0 rfl (Ag rfl) ?_; refine Dt 1 [15] rfl (Bd rfl) ?_; refine Da 2 rfl (Ae rfl) ?_
   first | refine Da 3 rfl (A1 rfl rfl _ rfl) ?_ | refine Da 3 rfl (A2 rfl rfl _ rfl) ?_
   refine Dt 4 [15] rfl (A8 rfl) ?_; refine Da 6 rfl (Ae rfl) ?_; refine Dt 8 [15] rfl (Bx rfl) ?_; refine Da 9 rfl (Ae rfl) ?_; refine Da 12 rfl (Ae rfl) ?_; refine Ii 5 rfl (by kernel_rfl) rfl .free rfl (.inr Am) ?_; intro b55; refine Cf 7 (B := some (b55, [])) (xs := []) (ys := bd.map sv) (m := 0) (c := 0) rfl (by kernel_rfl) rfl (by intro kk; simp) (by rfl) rfl rfl ⟨rfl, Nat.le_refl _, rfl⟩ (fun _ h => h) (by simp) hbd.reads hbd.none (D0 bd) (by decide) (by omega) (by decide) .free rfl (fun _ => .inr Am) ?_; intro B1 c1' hB1
   refine Dc 10 rfl rfl (D7 hf.rep hok0 hb _ (by rw [hki]; decide) _) ?_; rintro _ J1 _ e1 ⟨o1, k1, rfl, hs1, rfl⟩
   have hbd1 := hbd.mono e1
   refine Hx ?_; refine Cf 11 (B := B1) (xs := bd.map sv) (ys := (Ex.binds _ _).map sv) (m := 0 + bd.length) (c := c1') rfl (by kernel_rfl) rfl (by intro kk; simp) (by rfl) rfl rfl hB1 (fun _ h => h) (by simp) hs1.reads hs1.none (D0 _) (by decide) (Ex.binds_room1 (by omega)) (by decide) .free rfl (fun _ => .inr Am) ?_; intro B2 c2' hB2; rw [← List.map_append] at hB2 ⊢; refine C5 (l := bd ++ Ex.binds _ _) hB2 (by simp) (by rw [List.length_append]; exact Ex.binds_room0 (by omega)) (hbd1.append hs1) ?_; intro J3 o3 k3 ez hbv hs3; refine Ei (t := 61) rfl hbv ?_
   have e4 := e1.trans ez
   have hf3 := hf.mono e4
   refine Et (fun w h => h.u1) ?_; refine Dc 13 rfl rfl (ihn (by omega) (hf3.as 1 a.tree (by omega) rfl) hok.1 hs3 (Ex.binds_room (by omega)) _ _ _ (by omega) hB _) ?_; rintro _ J4 _ e5 ⟨B, c, rfl, hB, rfl⟩
   have e6 := e4.trans e5
   refine Hx ?_; refine Et (fun w h => h.w1) ?_
   have hf := hf.mono e6
   have hbd := hbd.mono e6
   have hle := hle.trans e6
   refine Da 14 rfl (Aw rfl) ?_; refine Ao (by kernel_rfl) ?_; refine Al (Ah rfl (Om rfl ?_)); refine Or rfl rfl rfl ?_; refine Oa rfl (Aa ?_); refine Bu ?_; refine Ab (Se rfl (Om rfl (Om rfl (Oc rfl rfl rfl (Aa ?_))))); refine B6 rfl (by first | rfl | decide | (simp; done) | omega) ?_; refine Af (Ab (Aj ?_)); refine Sn 15 rfl rfl ?_; refine Da 0 rfl (Ag rfl) ?_; refine Dt 1 [15] rfl (Bd rfl) ?_; refine Da 2 rfl (Ae rfl) ?_
   first | refine Da 3 rfl (A1 rfl rfl _ rfl) ?_ | refine Da 3 rfl (A2 rfl rfl _ rfl) ?_
   refine Dt 4 [15] rfl (A8 rfl) ?_; refine Da 6 rfl (Ae rfl) ?_; refine Dt 8 [15] rfl (Bx rfl) ?_; refine Da 9 rfl (Ae rfl) ?_; refine Da 12 rfl (Ae rfl) ?_; refine Ii 5 rfl (by kernel_rfl) rfl .free rfl (.inr Am) ?_; intro b55; refine Cf 7 (B := some (b55, [])) (xs := []) (ys := bd.map sv) (m := 0) (c := 0) rfl (by kernel_rfl) rfl (by intro kk; simp) (by rfl) rfl rfl ⟨rfl, Nat.le_refl _, rfl⟩ (fun _ h => h) (by simp) hbd.reads hbd.none (D0 bd) (by decide) (by omega) (by decide) .free rfl (fun _ => .inr Am) ?_; intro B1 c1' hB1
   refine Dc 10 rfl rfl (D7 hf.rep hok0 hb _ (by rw [hki]; decide) _) ?_; rintro _ J1 _ e1 ⟨o1, k1, rfl, hs1, rfl⟩
   have hbd1 := hbd.mono e1
   refine Hx ?_; refine Cf 11 (B := B1) (xs := bd.map sv) (ys := (Ex.binds _ _).map sv) (m := 0 + bd.length) (c := c1') rfl (by kernel_rfl) rfl (by intro kk; simp) (by rfl) rfl rfl hB1 (fun _ h => h) (by simp) hs1.reads hs1.none (D0 _) (by decide) (Ex.binds_room1 (by omega)) (by decide) .free rfl (fun _ => .inr Am) ?_; intro B2 c2' hB2; rw [← List.map_append] at hB2 ⊢; refine C5 (l := bd ++ Ex.binds _ _) hB2 (by simp) (by rw [List.length_append]; exact Ex.binds_room0 (by omega)) (hbd1.append hs1) ?_; intro J3 o3 k3 ez hbv hs3; refine Ei (t := 61) rfl hbv ?_
   have e4 := e1.trans ez
   have hf3 := hf.mono e4
   refine Et (fun w h => h.u1) ?_; refine Dc 13 rfl rfl (ihn (by omega) (hf3.as 2 b.tree (by omega) rfl) hok.2 hs3 (Ex.binds_room (by omega)) _ _ _ (H5 (by omega)) hB _) ?_; rintro _ J4 _ e5 ⟨B, c, rfl, hB, rfl⟩
   have e6 := e4.trans e5
   refine Hx ?_; refine Et (fun w h => h.w1) ?_
   have hf := hf.mono e6
   have hbd := hbd.mono e6
   have hle := hle.trans e6
   refine Da 14 rfl (Aw rfl) ?_; refine Ao (by kernel_rfl) ?_; refine Al (Ah rfl (Om rfl ?_)); refine Or rfl rfl rfl ?_; refine Oa rfl (Aa ?_); refine Bu ?_; refine Ab (Se rfl (Om rfl (Om rfl (Oc rfl rfl rfl (Aa ?_))))); refine Cr rfl (by first | rfl | decide | (simp; done) | omega) ?_; refine Bw rfl ?_; refine Se rfl (Om rfl (Oa rfl (Aa (Ad (.tmp rfl .nil) ?_))))
   exact ⟨_, _, hle, fun w h => h.drop, B, c, by simp [Ex.occ, Ex.binds, Cv, Cw], by simpa [Ex.occ, Ex.binds, Cv] using hB, by simp [Ex.occ, Ex.binds, Cv]⟩
  ·skip
   have hk : A0 (Ex.ite a b d).tree.head = (1, 4) := rfl
   rw [hk]
   have hlen : (Ex.ite a b d).tree.parts.length = 4 := rfl
   have hki := Jy a b d
   simp only [Ex.ite.sizeOf_spec] at hlt
   simp only [Ex.size] at hbl hl
   simp only [Ex.ok, Bool.and_eq_true] at hok
   refine Ah rfl (Om rfl (Oa rfl (Aa (Aj ?_)))); refine Dq ?_; refine Ab (Se rfl (Om rfl (Om rfl (Oc rfl rfl rfl (Aa ?_))))); refine B6 rfl (by first | rfl | decide | (simp; done) | omega) ?_; refine Af (Ab (Aj ?_)); refine Sn 15 rfl rfl ?_; refine Da 0 rfl (Ag rfl) ?_; refine Dt 1 [15] rfl (Bd rfl) ?_; refine Da 2 rfl (Ae rfl) ?_
   first | refine Da 3 rfl (A1 rfl rfl _ rfl) ?_ | refine Da 3 rfl (A2 rfl rfl _ rfl) ?_
   refine Dt 4 [15] rfl (A8 rfl) ?_; refine Da 6 rfl (Ae rfl) ?_; refine Dt 8 [15] rfl (Bx rfl) ?_; refine Da 9 rfl (Ae rfl) ?_; refine Da 12 rfl (Ae rfl) ?_; refine Ii 5 rfl (by kernel_rfl) rfl .free rfl (.inr Am) ?_; intro b55; refine Cf 7 (B := some (b55, [])) (xs := []) (ys := bd.map sv) (m := 0) (c := 0) rfl (by kernel_rfl) rfl (by intro kk; simp) (by rfl) rfl rfl ⟨rfl, Nat.le_refl _, rfl⟩ (fun _ h => h) (by simp) hbd.reads hbd.none (D0 bd) (by decide) (by omega) (by decide) .free rfl (fun _ => .inr Am) ?_; intro B1 c1' hB1
   refine Dc 10 rfl rfl (D7 hf.rep hok0 hb _ (by rw [hki]; decide) _) ?_; rintro _ J1 _ e1 ⟨o1, k1, rfl, hs1, rfl⟩
   have hbd1 := hbd.mono e1
   refine Hx ?_; refine Cf 11 (B := B1) (xs := bd.map sv) (ys := (Ex.binds _ _).map sv) (m := 0 + bd.length) (c := c1') rfl (by kernel_rfl) rfl (by intro kk; simp) (by rfl) rfl rfl hB1 (fun _ h => h) (by simp) hs1.reads hs1.none (D0 _) (by decide) (Ex.binds_room1 (by omega)) (by decide) .free rfl (fun _ => .inr Am) ?_; intro B2 c2' hB2; rw [← List.map_append] at hB2 ⊢; refine C5 (l := bd ++ Ex.binds _ _) hB2 (by simp) (by rw [List.length_append]; exact Ex.binds_room0 (by omega)) (hbd1.append hs1) ?_; intro J3 o3 k3 ez hbv hs3; refine Ei (t := 61) rfl hbv ?_
   have e4 := e1.trans ez
   have hf3 := hf.mono e4
   refine Et (fun w h => h.u1) ?_; refine Dc 13 rfl rfl (ihn (by omega) (hf3.as 1 a.tree (by omega) rfl) hok.1.1 hs3 (Ex.binds_room (by omega)) _ _ _ (by omega) hB _) ?_; rintro _ J4 _ e5 ⟨B, c, rfl, hB, rfl⟩
   have e6 := e4.trans e5
   refine Hx ?_; refine Et (fun w h => h.w1) ?_
   have hf := hf.mono e6
   have hbd := hbd.mono e6
   have hle := hle.trans e6
   refine Da 14 rfl (Aw rfl) ?_; refine Ao (by kernel_rfl) ?_; refine Al (Ah rfl (Om rfl ?_)); refine Or rfl rfl rfl ?_; refine Oa rfl (Aa ?_); refine Bu ?_; refine Ab (Se rfl (Om rfl (Om rfl (Oc rfl rfl rfl (Aa ?_))))); refine B6 rfl (by first | rfl | decide | (simp; done) | omega) ?_; refine Af (Ab (Aj ?_)); refine Sn 15 rfl rfl ?_; refine Da 0 rfl (Ag rfl) ?_; refine Dt 1 [15] rfl (Bd rfl) ?_; refine Da 2 rfl (Ae rfl) ?_
   first | refine Da 3 rfl (A1 rfl rfl _ rfl) ?_ | refine Da 3 rfl (A2 rfl rfl _ rfl) ?_
   refine Dt 4 [15] rfl (A8 rfl) ?_; refine Da 6 rfl (Ae rfl) ?_; refine Dt 8 [15] rfl (Bx rfl) ?_; refine Da 9 rfl (Ae rfl) ?_; refine Da 12 rfl (Ae rfl) ?_; refine Ii 5 rfl (by kernel_rfl) rfl .free rfl (.inr Am) ?_; intro b55; refine Cf 7 (B := some (b55, [])) (xs := []) (ys := bd.map sv) (m := 0) (c := 0) rfl (by kernel_rfl) rfl (by intro kk; simp) (by rfl) rfl rfl ⟨rfl, Nat.le_refl _, rfl⟩ (fun _ h => h) (by simp) hbd.reads hbd.none (D0 bd) (by decide) (by omega) (by decide) .free rfl (fun _ => .inr Am) ?_; intro B1 c1' hB1
   refine Dc 10 rfl rfl (D7 hf.rep hok0 hb _ (by rw [hki]; decide) _) ?_; rintro _ J1 _ e1 ⟨o1, k1, rfl, hs1, rfl⟩
   have hbd1 := hbd.mono e1
   refine Hx ?_; refine Cf 11 (B := B1) (xs := bd.map sv) (ys := (Ex.binds _ _).map sv) (m := 0 + bd.length) (c := c1') rfl (by kernel_rfl) rfl (by intro kk; simp) (by rfl) rfl rfl hB1 (fun _ h => h) (by simp) hs1.reads hs1.none (D0 _) (by decide) (Ex.binds_room1 (by omega)) (by decide) .free rfl (fun _ => .inr Am) ?_; intro B2 c2' hB2; rw [← List.map_append] at hB2 ⊢; refine C5 (l := bd ++ Ex.binds _ _) hB2 (by simp) (by rw [List.length_append]; exact Ex.binds_room0 (by omega)) (hbd1.append hs1) ?_; intro J3 o3 k3 ez hbv hs3; refine Ei (t := 61) rfl hbv ?_
   have e4 := e1.trans ez
   have hf3 := hf.mono e4
   refine Et (fun w h => h.u1) ?_; refine Dc 13 rfl rfl (ihn (by omega) (hf3.as 2 b.tree (by omega) rfl) hok.1.2 hs3 (Ex.binds_room (by omega)) _ _ _ (H5 (by omega)) hB _) ?_; rintro _ J4 _ e5 ⟨B, c, rfl, hB, rfl⟩
   have e6 := e4.trans e5
   refine Hx ?_; refine Et (fun w h => h.w1) ?_
   have hf := hf.mono e6
   have hbd := hbd.mono e6
   have hle := hle.trans e6
   refine Da 14 rfl (Aw rfl) ?_; refine Ao (by kernel_rfl) ?_; refine Al (Ah rfl (Om rfl ?_)); refine Or rfl rfl rfl ?_; refine Oa rfl (Aa ?_); refine Bu ?_; refine Ab (Se rfl (Om rfl (Om rfl (Oc rfl rfl rfl (Aa ?_))))); refine B6 rfl (by first | rfl | decide | (simp; done) | omega) ?_; refine Af (Ab (Aj ?_)); refine Sn 15 rfl rfl ?_; refine Da 0 rfl (Ag rfl) ?_; refine Dt 1 [15] rfl (Bd rfl) ?_; refine Da 2 rfl (Ae rfl) ?_
   first | refine Da 3 rfl (A1 rfl rfl _ rfl) ?_ | refine Da 3 rfl (A2 rfl rfl _ rfl) ?_
   refine Dt 4 [15] rfl (A8 rfl) ?_; refine Da 6 rfl (Ae rfl) ?_; refine Dt 8 [15] rfl (Bx rfl) ?_; refine Da 9 rfl (Ae rfl) ?_; refine Da 12 rfl (Ae rfl) ?_; refine Ii 5 rfl (by kernel_rfl) rfl .free rfl (.inr Am) ?_; intro b55; refine Cf 7 (B := some (b55, [])) (xs := []) (ys := bd.map sv) (m := 0) (c := 0) rfl (by kernel_rfl) rfl (by intro kk; simp) (by rfl) rfl rfl ⟨rfl, Nat.le_refl _, rfl⟩ (fun _ h => h) (by simp) hbd.reads hbd.none (D0 bd) (by decide) (by omega) (by decide) .free rfl (fun _ => .inr Am) ?_; intro B1 c1' hB1
   refine Dc 10 rfl rfl (D7 hf.rep hok0 hb _ (by rw [hki]; decide) _) ?_; rintro _ J1 _ e1 ⟨o1, k1, rfl, hs1, rfl⟩
   have hbd1 := hbd.mono e1
   refine Hx ?_; refine Cf 11 (B := B1) (xs := bd.map sv) (ys := (Ex.binds _ _).map sv) (m := 0 + bd.length) (c := c1') rfl (by kernel_rfl) rfl (by intro kk; simp) (by rfl) rfl rfl hB1 (fun _ h => h) (by simp) hs1.reads hs1.none (D0 _) (by decide) (Ex.binds_room1 (by omega)) (by decide) .free rfl (fun _ => .inr Am) ?_; intro B2 c2' hB2; rw [← List.map_append] at hB2 ⊢; refine C5 (l := bd ++ Ex.binds _ _) hB2 (by simp) (by rw [List.length_append]; exact Ex.binds_room0 (by omega)) (hbd1.append hs1) ?_; intro J3 o3 k3 ez hbv hs3; refine Ei (t := 61) rfl hbv ?_
   have e4 := e1.trans ez
   have hf3 := hf.mono e4
   refine Et (fun w h => h.u1) ?_; refine Dc 13 rfl rfl (ihn (by omega) (hf3.as 3 d.tree (by omega) rfl) hok.2 hs3 (Ex.binds_room (by omega)) _ _ _ (Sc (by omega)) hB _) ?_; rintro _ J4 _ e5 ⟨B, c, rfl, hB, rfl⟩
   have e6 := e4.trans e5
   refine Hx ?_; refine Et (fun w h => h.w1) ?_
   have hf := hf.mono e6
   have hbd := hbd.mono e6
   have hle := hle.trans e6
   refine Da 14 rfl (Aw rfl) ?_; refine Ao (by kernel_rfl) ?_; refine Al (Ah rfl (Om rfl ?_)); refine Or rfl rfl rfl ?_; refine Oa rfl (Aa ?_); refine Bu ?_; refine Ab (Se rfl (Om rfl (Om rfl (Oc rfl rfl rfl (Aa ?_))))); refine Cr rfl (by first | rfl | decide | (simp; done) | omega) ?_; refine Bw rfl ?_; refine Se rfl (Om rfl (Oa rfl (Aa (Ad (.tmp rfl .nil) ?_))))
   exact ⟨_, _, hle, fun w h => h.drop, B, c, by simp [Ex.occ, Ex.binds, Cv, Cw], by simpa [Ex.occ, Ex.binds, Cv] using hB, by simp [Ex.occ, Ex.binds, Cv]⟩
  ·skip
   have hk : A0 (Ex.lt z a b).tree.head = (2, 4) := rfl
   rw [hk]
   have hlen : (Ex.lt z a b).tree.parts.length = 4 := rfl
   have hki := Jz z a b
   simp only [Ex.lt.sizeOf_spec] at hlt
   simp only [Ex.size] at hbl hl
   simp only [Ex.ok, Bool.and_eq_true] at hok
   refine Ah rfl (Om rfl (Oa rfl (Aa (Aj ?_)))); refine Dq ?_; refine Ab (Se rfl (Om rfl (Om rfl (Oc rfl rfl rfl (Aa ?_))))); refine B6 rfl (by first | rfl | decide | (simp; done) | omega) ?_; refine Af (Ab (Aj ?_)); refine Sn 15 rfl rfl ?_; refine Da 0 rfl (Ag rfl) ?_; refine Dt 1 [15] rfl (Bd rfl) ?_; refine Da 2 rfl (Ae rfl) ?_
   first | refine Da 3 rfl (A1 rfl rfl _ rfl) ?_ | refine Da 3 rfl (A2 rfl rfl _ rfl) ?_
   refine Dt 4 [15] rfl (A8 rfl) ?_; refine Da 6 rfl (Ae rfl) ?_; refine Dt 8 [15] rfl (Bx rfl) ?_; refine Da 9 rfl (Ae rfl) ?_; refine Da 12 rfl (Ae rfl) ?_; refine Ii 5 rfl (by kernel_rfl) rfl .free rfl (.inr Am) ?_; intro b55; refine Cf 7 (B := some (b55, [])) (xs := []) (ys := bd.map sv) (m := 0) (c := 0) rfl (by kernel_rfl) rfl (by intro kk; simp) (by rfl) rfl rfl ⟨rfl, Nat.le_refl _, rfl⟩ (fun _ h => h) (by simp) hbd.reads hbd.none (D0 bd) (by decide) (by omega) (by decide) .free rfl (fun _ => .inr Am) ?_; intro B1 c1' hB1
   refine Dc 10 rfl rfl (D7 hf.rep hok0 hb _ (by rw [hki]; decide) _) ?_; rintro _ J1 _ e1 ⟨o1, k1, rfl, hs1, rfl⟩
   have hbd1 := hbd.mono e1
   refine Hx ?_; refine Cf 11 (B := B1) (xs := bd.map sv) (ys := (Ex.binds _ _).map sv) (m := 0 + bd.length) (c := c1') rfl (by kernel_rfl) rfl (by intro kk; simp) (by rfl) rfl rfl hB1 (fun _ h => h) (by simp) hs1.reads hs1.none (D0 _) (by decide) (Ex.binds_room1 (by omega)) (by decide) .free rfl (fun _ => .inr Am) ?_; intro B2 c2' hB2; rw [← List.map_append] at hB2 ⊢; refine C5 (l := bd ++ Ex.binds _ _) hB2 (by simp) (by rw [List.length_append]; exact Ex.binds_room0 (by omega)) (hbd1.append hs1) ?_; intro J3 o3 k3 ez hbv hs3; refine Ei (t := 61) rfl hbv ?_
   have e4 := e1.trans ez
   have hf3 := hf.mono e4
   refine Et (fun w h => h.u1) ?_; refine Dc 13 rfl rfl (ihn (by omega) (hf3.as 2 a.tree (by omega) rfl) hok.1.2 hs3 (Ex.binds_room (by omega)) _ _ _ (by omega) hB _) ?_; rintro _ J4 _ e5 ⟨B, c, rfl, hB, rfl⟩
   have e6 := e4.trans e5
   refine Hx ?_; refine Et (fun w h => h.w1) ?_
   have hf := hf.mono e6
   have hbd := hbd.mono e6
   have hle := hle.trans e6
   refine Da 14 rfl (Aw rfl) ?_; refine Ao (by kernel_rfl) ?_; refine Al (Ah rfl (Om rfl ?_)); refine Or rfl rfl rfl ?_; refine Oa rfl (Aa ?_); refine Bu ?_; refine Ab (Se rfl (Om rfl (Om rfl (Oc rfl rfl rfl (Aa ?_))))); refine B6 rfl (by first | rfl | decide | (simp; done) | omega) ?_; refine Af (Ab (Aj ?_)); refine Sn 15 rfl rfl ?_; refine Da 0 rfl (Ag rfl) ?_; refine Dt 1 [15] rfl (Bd rfl) ?_; refine Da 2 rfl (Ae rfl) ?_
   first | refine Da 3 rfl (A1 rfl rfl _ rfl) ?_ | refine Da 3 rfl (A2 rfl rfl _ rfl) ?_
   refine Dt 4 [15] rfl (A8 rfl) ?_; refine Da 6 rfl (Ae rfl) ?_; refine Dt 8 [15] rfl (Bx rfl) ?_; refine Da 9 rfl (Ae rfl) ?_; refine Da 12 rfl (Ae rfl) ?_; refine Ii 5 rfl (by kernel_rfl) rfl .free rfl (.inr Am) ?_; intro b55; refine Cf 7 (B := some (b55, [])) (xs := []) (ys := bd.map sv) (m := 0) (c := 0) rfl (by kernel_rfl) rfl (by intro kk; simp) (by rfl) rfl rfl ⟨rfl, Nat.le_refl _, rfl⟩ (fun _ h => h) (by simp) hbd.reads hbd.none (D0 bd) (by decide) (by omega) (by decide) .free rfl (fun _ => .inr Am) ?_; intro B1 c1' hB1
   refine Dc 10 rfl rfl (D7 hf.rep hok0 hb _ (by rw [hki]; decide) _) ?_; rintro _ J1 _ e1 ⟨o1, k1, rfl, hs1, rfl⟩
   have hbd1 := hbd.mono e1
   refine Hx ?_; refine Cf 11 (B := B1) (xs := bd.map sv) (ys := (Ex.binds _ _).map sv) (m := 0 + bd.length) (c := c1') rfl (by kernel_rfl) rfl (by intro kk; simp) (by rfl) rfl rfl hB1 (fun _ h => h) (by simp) hs1.reads hs1.none (D0 _) (by decide) (Ex.binds_room1 (by omega)) (by decide) .free rfl (fun _ => .inr Am) ?_; intro B2 c2' hB2; rw [← List.map_append] at hB2 ⊢; refine C5 (l := bd ++ Ex.binds _ _) hB2 (by simp) (by rw [List.length_append]; exact Ex.binds_room0 (by omega)) (hbd1.append hs1) ?_; intro J3 o3 k3 ez hbv hs3; refine Ei (t := 61) rfl hbv ?_
   have e4 := e1.trans ez
   have hf3 := hf.mono e4
   refine Et (fun w h => h.u1) ?_; refine Dc 13 rfl rfl (ihn (by omega) (hf3.as 3 b.tree (by omega) rfl) hok.2 hs3 (Ex.binds_room (by omega)) _ _ _ (H5 (by omega)) hB _) ?_; rintro _ J4 _ e5 ⟨B, c, rfl, hB, rfl⟩
   have e6 := e4.trans e5
   refine Hx ?_; refine Et (fun w h => h.w1) ?_
   have hf := hf.mono e6
   have hbd := hbd.mono e6
   have hle := hle.trans e6
   refine Da 14 rfl (Aw rfl) ?_; refine Ao (by kernel_rfl) ?_; refine Al (Ah rfl (Om rfl ?_)); refine Or rfl rfl rfl ?_; refine Oa rfl (Aa ?_); refine Bu ?_; refine Ab (Se rfl (Om rfl (Om rfl (Oc rfl rfl rfl (Aa ?_))))); refine Cr rfl (by first | rfl | decide | (simp; done) | omega) ?_; refine Bw rfl ?_; refine Se rfl (Om rfl (Oa rfl (Aa (Ad (.tmp rfl .nil) ?_))))
   exact ⟨_, _, hle, fun w h => h.drop, B, c, by simp [Ex.occ, Ex.binds, Cv, Cw], by simpa [Ex.occ, Ex.binds, Cv] using hB, by simp [Ex.occ, Ex.binds, Cv]⟩
  ·skip
   have hk : A0 (Ex.fn g z s t b).tree.head = (5, 6) := rfl
   rw [hk]
   have hlen : (Ex.fn g z s t b).tree.parts.length = 6 := rfl
   have hki := Ki g z s t b
   simp only [Ex.fn.sizeOf_spec] at hlt
   simp only [Ex.size] at hbl hl
   simp only [Ex.ok, Bool.and_eq_true] at hok
   refine Ah rfl (Om rfl (Oa rfl (Aa (Aj ?_)))); refine Dq ?_; refine Ab (Se rfl (Om rfl (Om rfl (Oc rfl rfl rfl (Aa ?_))))); refine B6 rfl (by first | rfl | decide | (simp; done) | omega) ?_; refine Af (Ab (Aj ?_)); refine Sn 15 rfl rfl ?_; refine Da 0 rfl (Ag rfl) ?_; refine Dt 1 [15] rfl (Bd rfl) ?_; refine Da 2 rfl (Ae rfl) ?_
   first | refine Da 3 rfl (A1 rfl rfl _ rfl) ?_ | refine Da 3 rfl (A2 rfl rfl _ rfl) ?_
   refine Dt 4 [15] rfl (A8 rfl) ?_; refine Da 6 rfl (Ae rfl) ?_; refine Dt 8 [15] rfl (Bx rfl) ?_; refine Da 9 rfl (Ae rfl) ?_; refine Da 12 rfl (Ae rfl) ?_; refine Ii 5 rfl (by kernel_rfl) rfl .free rfl (.inr Am) ?_; intro b55; refine Cf 7 (B := some (b55, [])) (xs := []) (ys := bd.map sv) (m := 0) (c := 0) rfl (by kernel_rfl) rfl (by intro kk; simp) (by rfl) rfl rfl ⟨rfl, Nat.le_refl _, rfl⟩ (fun _ h => h) (by simp) hbd.reads hbd.none (D0 bd) (by decide) (by omega) (by decide) .free rfl (fun _ => .inr Am) ?_; intro B1 c1' hB1
   refine Dc 10 rfl rfl (D7 hf.rep hok0 hb _ (by rw [hki]; decide) _) ?_; rintro _ J1 _ e1 ⟨o1, k1, rfl, hs1, rfl⟩
   have hbd1 := hbd.mono e1
   refine Hx ?_; refine Cf 11 (B := B1) (xs := bd.map sv) (ys := (Ex.binds _ _).map sv) (m := 0 + bd.length) (c := c1') rfl (by kernel_rfl) rfl (by intro kk; simp) (by rfl) rfl rfl hB1 (fun _ h => h) (by simp) hs1.reads hs1.none (D0 _) (by decide) (Ex.binds_room1 (by omega)) (by decide) .free rfl (fun _ => .inr Am) ?_; intro B2 c2' hB2; rw [← List.map_append] at hB2 ⊢; refine C5 (l := bd ++ Ex.binds _ _) hB2 (by simp) (by rw [List.length_append]; exact Ex.binds_room0 (by omega)) (hbd1.append hs1) ?_; intro J3 o3 k3 ez hbv hs3; refine Ei (t := 61) rfl hbv ?_
   have e4 := e1.trans ez
   have hf3 := hf.mono e4
   refine Et (fun w h => h.u1) ?_; refine Dc 13 rfl rfl (ihn (by omega) (hf3.as 5 b.tree (by omega) rfl) hok.2 hs3 (Ex.binds_room (by omega)) _ _ _ (by omega) hB _) ?_; rintro _ J4 _ e5 ⟨B, c, rfl, hB, rfl⟩
   have e6 := e4.trans e5
   refine Hx ?_; refine Et (fun w h => h.w1) ?_
   have hf := hf.mono e6
   have hbd := hbd.mono e6
   have hle := hle.trans e6
   refine Da 14 rfl (Aw rfl) ?_; refine Ao (by kernel_rfl) ?_; refine Al (Ah rfl (Om rfl ?_)); refine Or rfl rfl rfl ?_; refine Oa rfl (Aa ?_); refine Bu ?_; refine Ab (Se rfl (Om rfl (Om rfl (Oc rfl rfl rfl (Aa ?_))))); refine Cr rfl (by first | rfl | decide | (simp; done) | omega) ?_; refine Bw rfl ?_; refine Se rfl (Om rfl (Oa rfl (Aa (Ad (.tmp rfl .nil) ?_))))
   exact ⟨_, _, hle, fun w h => h.drop, B, c, by simp [Ex.occ, Ex.binds, Cv, Cw], by simpa [Ex.occ, Ex.binds, Cv] using hB, by simp [Ex.occ, Ex.binds, Cv]⟩
  ·skip
   have hk : A0 (Ex.un o a).tree.head = (1, 2) := by cases o <;> rfl
   rw [hk]
   have hlen : (Ex.un o a).tree.parts.length = 2 := rfl
   have hki := In o a
   simp only [Ex.un.sizeOf_spec] at hlt
   simp only [Ex.size] at hbl hl
   simp only [Ex.ok] at hok
   refine Ah rfl (Om rfl (Oa rfl (Aa (Aj ?_)))); refine Dq ?_; refine Ab (Se rfl (Om rfl (Om rfl (Oc rfl rfl rfl (Aa ?_))))); refine B6 rfl (by first | rfl | decide | (simp; done) | omega) ?_; refine Af (Ab (Aj ?_)); refine Sn 15 rfl rfl ?_; refine Da 0 rfl (Ag rfl) ?_; refine Dt 1 [15] rfl (Bd rfl) ?_; refine Da 2 rfl (Ae rfl) ?_
   first | refine Da 3 rfl (A1 rfl rfl _ rfl) ?_ | refine Da 3 rfl (A2 rfl rfl _ rfl) ?_
   refine Dt 4 [15] rfl (A8 rfl) ?_; refine Da 6 rfl (Ae rfl) ?_; refine Dt 8 [15] rfl (Bx rfl) ?_; refine Da 9 rfl (Ae rfl) ?_; refine Da 12 rfl (Ae rfl) ?_; refine Ii 5 rfl (by kernel_rfl) rfl .free rfl (.inr Am) ?_; intro b55; refine Cf 7 (B := some (b55, [])) (xs := []) (ys := bd.map sv) (m := 0) (c := 0) rfl (by kernel_rfl) rfl (by intro kk; simp) (by rfl) rfl rfl ⟨rfl, Nat.le_refl _, rfl⟩ (fun _ h => h) (by simp) hbd.reads hbd.none (D0 bd) (by decide) (by omega) (by decide) .free rfl (fun _ => .inr Am) ?_; intro B1 c1' hB1
   refine Dc 10 rfl rfl (D7 hf.rep hok0 hb _ (by rw [hki]; decide) _) ?_; rintro _ J1 _ e1 ⟨o1, k1, rfl, hs1, rfl⟩
   have hbd1 := hbd.mono e1
   refine Hx ?_; refine Cf 11 (B := B1) (xs := bd.map sv) (ys := (Ex.binds _ _).map sv) (m := 0 + bd.length) (c := c1') rfl (by kernel_rfl) rfl (by intro kk; simp) (by rfl) rfl rfl hB1 (fun _ h => h) (by simp) hs1.reads hs1.none (D0 _) (by decide) (Ex.binds_room1 (by omega)) (by decide) .free rfl (fun _ => .inr Am) ?_; intro B2 c2' hB2; rw [← List.map_append] at hB2 ⊢; refine C5 (l := bd ++ Ex.binds _ _) hB2 (by simp) (by rw [List.length_append]; exact Ex.binds_room0 (by omega)) (hbd1.append hs1) ?_; intro J3 o3 k3 ez hbv hs3; refine Ei (t := 61) rfl hbv ?_
   have e4 := e1.trans ez
   have hf3 := hf.mono e4
   refine Et (fun w h => h.u1) ?_; refine Dc 13 rfl rfl (ihn (by omega) (hf3.as 1 a.tree (by omega) rfl) hok hs3 (Ex.binds_room (by omega)) _ _ _ (by omega) hB _) ?_; rintro _ J4 _ e5 ⟨B, c, rfl, hB, rfl⟩
   have e6 := e4.trans e5
   refine Hx ?_; refine Et (fun w h => h.w1) ?_
   have hf := hf.mono e6
   have hbd := hbd.mono e6
   have hle := hle.trans e6
   refine Da 14 rfl (Aw rfl) ?_; refine Ao (by kernel_rfl) ?_; refine Al (Ah rfl (Om rfl ?_)); refine Or rfl rfl rfl ?_; refine Oa rfl (Aa ?_); refine Bu ?_; refine Ab (Se rfl (Om rfl (Om rfl (Oc rfl rfl rfl (Aa ?_))))); refine Cr rfl (by first | rfl | decide | (simp; done) | omega) ?_; refine Bw rfl ?_; refine Se rfl (Om rfl (Oa rfl (Aa (Ad (.tmp rfl .nil) ?_))))
   exact ⟨_, _, hle, fun w h => h.drop, B, c, by simp [Ex.occ, Ex.binds, Cv, Cw], by simpa [Ex.occ, Ex.binds, Cv] using hB, by simp [Ex.occ, Ex.binds, Cv]⟩

def Hs (s : Au) : Option (List Au) := (E9 s).map Ex.free
def B7 (s : Au) : Option Ex := match E9 s with
 | some e => if e.closed = true then some e else none
 | none => none
def EF (o : Option (List Au)) (L : Bl) : C1 := fun v I' L' => ∃ oa c, v = .tuple #[.slice oa (o.getD []).length c, .bool o.isSome] ∧ Strs I' oa (o.getD []) c ∧ L = L'
theorem Ya {e : Ex} (h : e.fine = true) : e.size ≤ 120 := by
 simp only [Ex.fine, Bool.and_eq_true, decide_eq_true_eq] at h; exact h.1.2
theorem Rd {s : Au} {e : Ex} (h : E9 s = some e) : e.size ≤ 120 := Ya (It h).2.1
theorem Wg (s : Au) (hs : s.length ≤ Ka) (I : Heap) (L : Bl) : Fun Tryz.prog 97 [.string (str s)] I L (EF (Hs s) L) := by
 refine Ai (by simp) ?_; refine Se rfl (Oa rfl (Oa rfl (Aa (Se rfl (Om rfl ?_))))); refine Ca rfl (Mf s hs _ _) ?_; rintro _ J _ hleJ ⟨t, cs, ok, rfl, hrep, rfl, hpf⟩; obtain ⟨oa, cc, vs, rfl, -⟩ := hrep.open; refine Om rfl (Oe rfl rfl (Oe rfl rfl ?_)); refine Ax .free rfl ?_; intro b4; refine Bk rfl rfl rfl rfl .free ?_; refine Oa rfl (Aa (Ab (Se rfl (Om rfl ?_)))); refine Ck rfl .free rfl ?_; refine Aa ?_; refine Ar rfl ?_ ?_
 ·intro c0
  try simp only [nb] at c0
  refine Se rfl ?_; refine Dp .free rfl ?_; intro b13; refine Oa rfl (Oa rfl (Aa ?_)); refine Ad (.tmp rfl (.tmp rfl .nil)) ?_
  exact ⟨J, L, hleJ, fun w h => h.drop.drop, some ⟨b13, 0, none⟩, 0, by rw [Hs, Xb hpf c0]; rfl, by rw [Hs, Xb hpf c0]; exact H1 _ _, rfl⟩
 intro c0
 try simp only [nb] at c0
 obtain ⟨e, he, rfl, hok, -⟩ := Sa hpf c0
 have hez := Rd he
 refine Af (Se rfl ?_); refine Az rfl .free rfl ?_; refine Dp .free rfl ?_; intro b15; refine Dp .free rfl ?_; intro b16; refine Dv (L' := Ch 9 (([] : List Au).map sv) (some (b16, [])) ++ _) (fun w h => h) ?_; refine Ca rfl (Aaf _ (Nat.lt_succ_self _) hrep hok (H1 _ _) (by unfold As; simp; omega) [] (some (b16, [])) 0 (by simp; omega) ⟨rfl, Nat.le_refl _, rfl⟩ _) ?_; rintro _ J2 _ e2 ⟨B, c, rfl, hB, rfl⟩; refine Oa rfl (Oa rfl (Aa ?_))
 have hll := G0 [] (e.occ [])
 have hol := e.occ_len []
 simp only [List.length_nil, Nat.zero_add] at hll
 have hnm : ∀ z ∈ Do [] (e.occ []), Bs z = true := fun z hz => Ex.occ_name hok z (by simpa [Ke] using hz)
 refine Gq hB rfl (by unfold As; omega) (Qa hnm) ?_; intro J3 oz cz ez hbv hst; refine Kc (t := 2) rfl hbv ?_; refine Ad (.tmp rfl (.tmp rfl .nil)) ?_
 exact ⟨J3, L, (hleJ.trans e2).trans ez, Ay, oz, cz, by rw [Hs, he]; rfl, by rw [Hs, he]; exact hst, rfl⟩

theorem L4 (s : Au) : (B7 s).isSome = ((Hs s).isSome && decide ((Hs s).getD [] = [])) := by
 unfold B7 Hs
 cases E9 s with
 | none => rfl
 | some e =>
  simp only [Option.map_some, Option.isSome_some, Option.getD_some, Bool.true_and]
  rw [← Ex.closed_free]
  cases e.closed <;> rfl
theorem Gu {s : Au} {e : Ex} (h : B7 s = some e) : E9 s = some e ∧ e.closed = true := by
 unfold B7 at h
 cases hx : E9 s with
 | none => rw [hx] at h; cases h
 | some e' =>
  rw [hx] at h
  simp only at h
  split at h
  ·rename_i hc; cases h; exact ⟨rfl, hc⟩
  ·cases h
theorem Kh (s : Au) (hs : s.length ≤ Ka) (I : Heap) (L : Bl) : Fun Tryz.prog 52 [.string (str s)] I L (D2 (.bool (B7 s).isSome) I L) := by
 refine Ai (by simp) ?_; refine Se rfl (Oa rfl (Aa (Se rfl (Om rfl ?_)))); refine Ca rfl (Wg s hs _ _) ?_; rintro _ J _ hleJ ⟨oa, c, rfl, hst, rfl⟩; refine Om rfl (Oe rfl rfl (Oe rfl rfl (Oa rfl (Oa rfl (Aa (Se rfl (Om rfl (Om rfl ?_))))))))
 apply Ee 11 15 rfl
 ·intro g2_2 hk
  try simp only [nb] at g2_2
  refine Ow rfl ?_; refine Gg rfl (.met rfl rfl) rfl ?_; refine Dr rfl rfl rfl (.met rfl rfl) rfl ?_; refine Ot rfl rfl ?_
  exact Bb 3 rfl rfl hk
 ·intro _ hk; refine Bm 3 rfl ?_; refine Of rfl rfl ?_
  exact Bb 3 rfl rfl hk
 refine Oa rfl (Aa (Ad (.tmp rfl .nil) ?_)); refine I5 hleJ Ay ?_; rw [L4]; refine congrArg Value.bool ?_; rw [Bool.eq_iff_iff]; simp
theorem X6 {I : Heap} {s : Au} {t : Tree} {cs : List Value} {ok : Bool} (h : Rep I t cs) (hpf : match E9 s with | some e => ok = true ∧ t = e.tree | none => ok = false) (hok : ok = true) (L : Bl) :
  Fun Tryz.prog 74 [.agg cs.toArray] I L (SS ((Hs s).getD []) L) := by
 obtain ⟨e, he, rfl, h1, _⟩ := Sa hpf hok
 have hez := Rd he
 rw [Hs, he]; exact Ni h h1 (by omega) L
theorem Ik (s : Au) (hs : s.length ≤ As) (I : Heap) (L : Bl) : Fun Tryz.prog 41 [.string (str s)] I L (RX (B7 s) L) := by
 refine Ai (by simp) ?_; refine Se rfl ?_; refine Ax .free rfl ?_; intro b2; refine Oa rfl (Aa (Se rfl (Om rfl ?_))); refine Ca rfl (Pv s hs _ _) ?_; rintro _ J _ hleJ ⟨t, cs, ok, rfl, hrep, rfl, hpf⟩; obtain ⟨oa, cc, vs, rfl, -⟩ := hrep.open; refine Om rfl (Oe rfl rfl (Oe rfl rfl ?_)); refine Ax .free rfl ?_; intro b4; refine Bk rfl rfl rfl rfl .free ?_; refine Oa rfl (Aa (Ab ?_)); refine B8 10 rfl rfl ?_; refine Dt 0 [8] rfl (Bx rfl) ?_; refine Da 1 rfl (Ae rfl) ?_; refine Da 2 rfl (Ae rfl) ?_
 apply Mq 13 18 rfl
 ·intro g2_3 hk
  try simp only [nb] at g2_3
  refine Eo 3 [4, 8] rfl (by kernel_rfl) rfl Am (Bx rfl) (.met rfl rfl) rfl ?_; refine Ga 4 rfl (by kernel_rfl) rfl rfl (.met rfl rfl) rfl (X6 hrep hpf g2_3 _) ?_; rintro _ J2 _ e2 ⟨oz, cz, rfl, hst, rfl⟩; refine Hx ?_; refine Dm 5 rfl (Fy rfl) ?_; refine Et (fun w h => Mem.le e2 h) ?_; refine Dm 6 rfl (O6 rfl rfl rfl) ?_; refine Da 7 rfl (Dg rfl rfl) ?_
  exact Fx 4 rfl rfl hk
 ·intro _ hk; refine Ds 3 rfl rfl rfl ?_; refine Ds 4 rfl rfl rfl ?_; refine Ds 5 rfl rfl rfl ?_; refine Ds 6 rfl rfl rfl ?_; refine Da 7 rfl (C7 rfl rfl) ?_
  exact Fx 4 rfl rfl hk
 refine Dx 8 rfl rfl rfl rfl ?_; refine Db 9 rfl (Aw rfl) ?_; refine Ao (by kernel_rfl) ?_; refine Ad (.c rfl (.tmp rfl .nil)) ?_; refine ⟨J, L, hleJ, Ay, t, _, _, rfl, hrep, rfl, ?_⟩
 have hcf := L4 s
 cases hc : B7 s with
 | some e =>
  obtain ⟨he, hcl⟩ := Gu hc; rw [he] at hpf; rw [hc] at hcf
  simp only [Option.isSome_some, Bool.true_eq, Bool.and_eq_true, decide_eq_true_eq] at hcf
  exact ⟨by rw [hpf.1, hcf.2]; rfl, hpf.2⟩
 | none =>
  rw [hc] at hcf
  cases ok with
  | false => rfl
  | true =>
   obtain ⟨e, he, _⟩ := Sa hpf rfl
   simp only [Hs, he, Option.map_some, Option.isSome_some, Option.isSome_none, Option.getD_some, Bool.true_and] at hcf ⊢
   have h1 : e.free ≠ [] := by simpa using hcf.symm
   have h2 := List.length_pos_iff.2 h1
   exact decide_eq_false (by omega)
theorem B5.ty_small {o : B5} {s t u : Ty} (hs : s.size ≤ 16) (h : o.ty s t = some u) : u.size ≤ 16 := by
 cases o <;> simp only [B5.ty] at h
 ·split at h <;> cases h; decide
 ·split at h <;> cases h; decide
 ·split at h <;> cases h; decide
 ·cases s with
  | fn a b =>
   simp only at h
   split at h <;> cases h
   simp only [Ty.size] at hs; omega
  | _ => cases h
 ·split at h
  ·cases h; assumption
  ·cases h
theorem U2.ty_small {o : U2} {s u : Ty} (hs : s.size ≤ 16) (h : o.ty s = some u) : u.size ≤ 16 := by
 cases o <;> cases s <;> simp only [U2.ty] at h <;> cases h <;> simp only [Ty.size] at hs <;> omega
def smallL (m : List Ty) : Prop := ∀ t ∈ m, t.size ≤ 16
theorem smallL.add {m : List Ty} {t : Ty} (h : smallL m) (ht : t.size ≤ 16) : smallL (m ++ [t]) := by
 intro u hu
 rcases List.mem_append.1 hu with h1 | h1
 ·exact h u h1
 ·obtain rfl := List.mem_singleton.1 h1; exact ht
theorem Kx {l : List Au} {m : List Ty} {s : Au} {t : Ty} (hm : smallL m) (h : Fb l m s = some t) : t.size ≤ 16 := by
 unfold Fb at h
 cases hi : Cj l s with
 | none => rw [hi] at h; cases h
 | some i => rw [hi] at h; simp only [Option.bind] at h; exact hm t (List.mem_of_getElem? h)
theorem Ex.chk_small : ∀ {e : Ex} {l : List Au} {m : List Ty} {t : Ty}, e.ok = true → smallL m → e.chk l m = .ok t → t.size ≤ 16
 | .num _, l, m, t, hok, hm, h => by simp only [Ex.chk] at h; cases h; decide
 | .name s, l, m, t, hok, hm, h => by
  simp only [Ex.chk] at h
  split at h
  ·rename_i t' h1; cases h; exact Kx hm h1
  ·cases h
 | .bin o a b, l, m, t, hok, hm, h => by
  simp only [Ex.ok, Bool.and_eq_true] at hok
  simp only [Ex.chk] at h
  split at h
  ·cases h
  ·rename_i s h1
   split at h
   ·cases h
   ·split at h
    ·rename_i h3; cases h; exact B5.ty_small (Ex.chk_small hok.1 hm h1) h3
    ·cases h
 | .ite a b c, l, m, t, hok, hm, h => by
  simp only [Ex.ok, Bool.and_eq_true] at hok
  simp only [Ex.chk] at h
  split at h
  ·cases h
  ·split at h
   ·cases h
   ·rename_i h2
    split at h
    ·cases h
    ·split at h
     ·cases h; exact Ex.chk_small hok.1.2 hm h2
     ·cases h
 | .lt x a b, l, m, t, hok, hm, h => by
  simp only [Ex.ok, Bool.and_eq_true] at hok
  simp only [Ex.chk] at h
  split at h
  ·cases h
  ·rename_i h1
   exact Ex.chk_small hok.2 (hm.add (Ex.chk_small hok.1.2 hm h1)) h
 | .fn f x s t b, l, m, u, hok, hm, h => by
  simp only [Ex.chk] at h
  split at h
  ·rename_i h1
   split at h
   ·cases h
   ·split at h
    ·cases h; exact h1
    ·cases h
  ·cases h
 | .un o a, l, m, t, hok, hm, h => by
  simp only [Ex.ok] at hok
  simp only [Ex.chk] at h
  split at h
  ·cases h
  ·rename_i s h1
   split at h
   ·rename_i h3; cases h; exact U2.ty_small (Ex.chk_small hok hm h1) h3
   ·cases h

/- Texts of types; the empty text for none. -/
def tyT : Option Ty → Au
 | some t => t.tree.text
 | none => []
theorem Ty.text_len {t : Ty} (h : t.size ≤ 16) : t.tree.text.length ≤ 80 := by
 have := t.tree_small; rw [Tree.text_len]; omega
def Abk (o : Option Ty) : Prop := ∀ t, o = some t → t.size ≤ 16
def Aet (ks : List (Option Ty)) : Prop := ∀ o ∈ ks, Abk o
def Nq (h : Au) : List (Option Ty) → Option Ty
 | [some a] => (U2.of h).bind fun o => o.ty a
 | [some a, some b] => (B5.of h).bind fun o => o.ty a b
 | [some a, some b, some c] => if a = .i ∧ b = c then some b else none
 | _ => none
theorem Ex.ty_bin (o : B5) (a b : Ex) (l : List Au) (m : List Ty) : (Ex.bin o a b).ty l m = Nq o.txt [a.ty l m, b.ty l m] := by
 simp only [Ex.ty, Ex.chk]
 cases a.chk l m with
 | error x => cases b.chk l m <;> rfl
 | ok s =>
  cases b.chk l m with
  | error y => rfl
  | ok t =>
   simp only [Nq, B5.of_txt, Option.bind]
   cases o.ty s t <;> rfl
theorem Ex.ty_ite (a b c : Ex) (l : List Au) (m : List Ty) : (Ex.ite a b c).ty l m = Nq Fs [a.ty l m, b.ty l m, c.ty l m] := by
 simp only [Ex.ty, Ex.chk]
 cases a.chk l m with
 | error x => cases b.chk l m <;> cases c.chk l m <;> rfl
 | ok s =>
  cases b.chk l m with
  | error y => cases c.chk l m <;> rfl
  | ok t =>
   cases c.chk l m with
   | error y => rfl
   | ok u =>
    simp only [Nq]
    by_cases h : s = .i ∧ t = u <;> simp [h]
theorem Ex.ty_un (o : U2) (a : Ex) (l : List Au) (m : List Ty) : (Ex.un o a).ty l m = Nq o.txt [a.ty l m] := by
 simp only [Ex.ty, Ex.chk]
 cases a.chk l m with
 | error x => rfl
 | ok s =>
  simp only [Nq, U2.of_txt, Option.bind]
  cases o.ty s <;> rfl
theorem Ex.ty_lt (x : Au) (a b : Ex) (l : List Au) (m : List Ty) : (Ex.lt x a b).ty l m = match a.ty l m with | some s => b.ty (l ++ [x]) (m ++ [s]) | none => none := by
 simp only [Ex.ty, Ex.chk]
 cases a.chk l m <;> rfl
theorem Ex.ty_fn (f x : Au) (s t : Ty) (b : Ex) (l : List Au) (m : List Ty) : (Ex.fn f x s t b).ty l m = if (Ty.fn s t).size ≤ 16 ∧ b.ty (l ++ [f, x]) (m ++ [.fn s t, s]) = some t then some (.fn s t) else none := by
 simp only [Ex.ty, Ex.chk]
 by_cases h : (Ty.fn s t).size ≤ 16
 ·simp only [h, if_true, true_and]
  cases b.chk (l ++ [f, x]) (m ++ [.fn s t, s]) with
  | error x => simp
  | ok u => by_cases hu : u = t <;> simp [hu]
 ·simp [h]
theorem Ex.ty_small {e : Ex} {l : List Au} {m : List Ty} (hok : e.ok = true) (hm : smallL m) : Abk (e.ty l m) := by
 intro t h
 unfold Ex.ty at h
 split at h
 ·cases h; exact Ex.chk_small hok hm (by assumption)
 ·cases h
theorem Ex.ty_name (s : Au) (l : List Au) (m : List Ty) : (Ex.name s).ty l m = Fb l m s := by
 simp only [Ex.ty, Ex.chk]
 cases Fb l m s <;> rfl
def Ky (s : Au) : Option Ty := (Fc s).bind Tree.ty
theorem Tr {s : Au} {t : Tree} (h : Fc s = some t) : ∃ a : Ty, Ky s = some a ∧ t = a.tree ∧ a.size ≤ 16 ∧ s = a.tree.text := by
 obtain ⟨a, rfl, h2, h3⟩ := Vr h
 exact ⟨a, by simp [Ky, h, a.tree_ty], rfl, h2, h3⟩
theorem R5 {s : Au} {a : Ty} (h : Ky s = some a) : Fc s = some a.tree ∧ a.size ≤ 16 ∧ s = a.tree.text := by
 cases h1 : Fc s with
 | none => simp [Ky, h1] at h
 | some t =>
  obtain ⟨b, h2, rfl, h3, h4⟩ := Tr h1; rw [h] at h2; cases h2
  exact ⟨rfl, h3, h4⟩
def Ib (m : List Au) : List Ty := m.map fun s => (Ky s).getD .i
theorem Zf (m : List Au) : (Ib m).length = m.length := by simp [Ib]
theorem Xk : ∀ {m : List Au}, (∀ s ∈ m, (Fc s).isSome = true) → m = (Ib m).map (fun t => t.tree.text) ∧ smallL (Ib m) ∧ m.map Fc = ((Ib m).map Ty.tree).map some
 | [], _ => ⟨rfl, (fun t h => by cases h), rfl⟩
 | s :: m, h => by
  obtain ⟨h1, h2, h3⟩ := Xk (m := m) fun x hx => h x (.tail _ hx)
  have h4 := h s (.head _)
  obtain ⟨t, h5⟩ := Option.isSome_iff_exists.1 h4; obtain ⟨a, h6, rfl, h7, h8⟩ := Tr h5; refine ⟨?_, ?_, ?_⟩
  ·simp only [Ib, List.map_cons, h6, Option.getD_some]
   rw [← h8]; congr 1
  ·intro t ht
   simp only [Ib, List.map_cons, h6, Option.getD_some] at ht
   rcases List.mem_cons.1 ht with rfl | ht
   ·exact h7
   ·exact h2 t ht
  ·simp only [Ib, List.map_cons, h6, Option.getD_some, h5]
   congr 1
theorem Yy {l m : List Au} (h : Gv l m = true) : m = (Ib m).map (fun t => t.tree.text) ∧ smallL (Ib m) ∧ m.map Fc = ((Ib m).map Ty.tree).map some ∧ l.length = (Ib m).length ∧ l.length ≤ 8 ∧ ∀ s ∈ l, Bs s = true := by
 obtain ⟨h1, h2, h3, h4⟩ := Yw h; obtain ⟨h5, h6, h7⟩ := Xk h4
 exact ⟨h5, h6, h7, by rw [Zf]; exact h2, h1, by simpa using h3⟩
def V9 (l m : List Au) (s : Au) : Option Au := if Gv l m = true then (E9 s).bind fun e => (e.ty l (Ib m)).map fun t => t.tree.text else none
theorem Abz {l m : List Au} {s : Au} (h : Gv l m = false ∨ E9 s = none) : V9 l m s = none := by
 unfold V9
 rcases h with h | h
 ·simp [h]
 ·simp [h]
theorem Ab0 {l m : List Au} {s : Au} {e : Ex} (h : Gv l m = true) (he : E9 s = some e) : V9 l m s = (e.ty l (Ib m)).map fun t => t.tree.text := by
 unfold V9; simp [h, he]
theorem Yx : Gv [] [] = true := by decide
def Ex.sub : Ex → List Ex
 | .num _ => []
 | .name _ => []
 | .bin _ a b => [a, b]
 | .ite a b c => [a, b, c]
 | .lt _ a b => [a, b]
 | .fn _ _ _ _ b => [b]
 | .un _ a => [a]
theorem Xt (e : Ex) : (Cn e.tree).length = e.sub.length := by
 cases e with
 | num s => rfl
 | name s => rfl
 | bin o a b => rw [Fw]; rfl
 | un o a => rw [In]; rfl
 | _ => rfl
theorem Adi (e : Ex) (j : Nat) (h : j < e.sub.length) : e.tree.pt ((Cn e.tree).getD j 0) = e.sub[j].tree := by
 cases e with
 | num s => simp [Ex.sub] at h
 | name s => simp [Ex.sub] at h
 | bin o a b =>
  simp only [Fw]
  match j, h with
  | 0, _ => rfl
  | 1, _ => rfl
 | un o a =>
  simp only [In]
  match j, h with
  | 0, _ => rfl
 | ite a b c =>
  match j, h with
  | 0, _ => rfl
  | 1, _ => rfl
  | 2, _ => rfl
 | lt x a b =>
  match j, h with
  | 0, _ => rfl
  | 1, _ => rfl
 | fn f x s t b =>
  match j, h with
  | 0, _ => rfl
theorem Zd {e a : Ex} (h : a ∈ e.sub) : SizeOf.sizeOf a < SizeOf.sizeOf e ∧ a.size + 1 ≤ e.size ∧ (e.ok = true → a.ok = true) := by
 cases e with
 | num s => cases h
 | name s => cases h
 | bin o x y =>
  simp only [Ex.sub, List.mem_cons, List.not_mem_nil, or_false] at h
  simp only [Ex.bin.sizeOf_spec, Ex.size, Ex.ok, Bool.and_eq_true]
  rcases h with rfl | rfl
  ·exact ⟨by omega, by omega, fun h => h.1⟩
  ·exact ⟨by omega, by omega, fun h => h.2⟩
 | un o x =>
  simp only [Ex.sub, List.mem_cons, List.not_mem_nil, or_false] at h
  simp only [Ex.un.sizeOf_spec, Ex.size, Ex.ok]
  subst h
  exact ⟨by omega, by omega, fun h => h⟩
 | ite x y z =>
  simp only [Ex.sub, List.mem_cons, List.not_mem_nil, or_false] at h
  simp only [Ex.ite.sizeOf_spec, Ex.size, Ex.ok, Bool.and_eq_true]
  rcases h with rfl | rfl | rfl
  ·exact ⟨by omega, by omega, fun h => h.1.1⟩
  ·exact ⟨by omega, by omega, fun h => h.1.2⟩
  ·exact ⟨by omega, by omega, fun h => h.2⟩
 | lt x y z =>
  simp only [Ex.sub, List.mem_cons, List.not_mem_nil, or_false] at h
  simp only [Ex.lt.sizeOf_spec, Ex.size, Ex.ok, Bool.and_eq_true]
  rcases h with rfl | rfl
  ·exact ⟨by omega, by omega, fun h => h.1.2⟩
  ·exact ⟨by omega, by omega, fun h => h.2⟩
 | fn f x s t b =>
  simp only [Ex.sub, List.mem_cons, List.not_mem_nil, or_false] at h
  simp only [Ex.fn.sizeOf_spec, Ex.size, Ex.ok, Bool.and_eq_true]
  subst h
  exact ⟨by omega, by omega, fun h => h.2⟩

/- Environments of parts. -/
def Ex.inL (e : Ex) (i : Nat) (l : List Au) : List Au := match e with
 | .lt x _ _ => if i = 3 then l ++ [x] else l
 | .fn f x _ _ _ => l ++ [f] ++ [x]
 | _ => l
def Ex.inM (e : Ex) (i : Nat) (s0 : Ty) (m : List Ty) : List Ty := match e with
 | .lt _ _ _ => if i = 3 then m ++ [s0] else m
 | .fn _ _ s t _ => m ++ [.fn s t] ++ [s]
 | _ => m
theorem Ab8 (e : Ex) (i : Nat) (l : List Au) : (e.inL i l).length ≤ l.length + 2 := by
 cases e with
 | lt x a b => simp only [Ex.inL]; split <;> simp
 | fn f x s t b => simp [Ex.inL]
 | _ => simp [Ex.inL]
theorem Yv {e : Ex} {i : Nat} {s0 : Ty} {m : List Ty} (hm : smallL m) (h0 : s0.size ≤ 16) (hok : e.ok = true) (hfn : ∀ f x s t b, e = .fn f x s t b → (Ty.fn s t).size ≤ 16) : smallL (e.inM i s0 m) := by
 cases e with
 | lt x a b => simp only [Ex.inM]; split; exact hm.add h0; exact hm
 | fn f x s t b =>
  simp only [Ex.ok, Bool.and_eq_true, decide_eq_true_eq] at hok
  exact (hm.add (hfn _ _ _ _ _ rfl)).add hok.1.1.2
 | _ => exact hm
def Ex.raw (e : Ex) (ts : List Ty) (l : List Au) (m : List Ty) : Option Ty := match e, ts with
 | .num _, _ => some .i
 | .name s, _ => Fb l m s
 | .bin .pair _ _, [a, b] => some (.pr a b)
 | .bin o _ _, [a, b] => o.ty a b
 | .ite _ _ _, [a, b, c] => if a = .i ∧ b = c then some b else none
 | .lt _ _ _, [_, b] => some b
 | .fn _ _ s t _, [b] => if b = t then some (.fn s t) else none
 | .un o _, [a] => o.ty a
 | _, _ => none
def Ex.fin (e : Ex) (r : Option Ty) : Except Ex Ty := match r with
 | some t => if t.size ≤ 16 then .ok t else .error e
 | none => .error e
theorem Js {e : Ex} {t : Ty} (h : t.size ≤ 16) : e.fin (some t) = .ok t := if_pos h
def Ex.run (e : Ex) (l : List Au) (m : List Ty) : List Ex → List Nat → List Ty → Except Ex (List Ty)
 | a :: more, k :: ks, ts => match a.chk (e.inL k l) (e.inM k (ts.getD 0 .i) m) with
  | .ok t => e.run l m more ks (ts ++ [t])
  | .error x => .error x
 | _, _, ts => .ok ts
def Ex.runs (e : Ex) (l : List Au) (m : List Ty) : Except Ex (List Ty) := e.run l m e.sub (Cn e.tree) []
def Ex.funOk : Ex → Bool
 | .fn _ _ s t _ => decide ((Ty.fn s t).size ≤ 16)
 | _ => true
theorem Abj {e : Ex} {l : List Au} {m : List Ty} {ts : List Ty} {i : Nat} (hi : i < e.sub.length) : e.run l m (e.sub.drop i) ((Cn e.tree).drop i) ts =
  match e.sub[i].chk (e.inL ((Cn e.tree).getD i 0) l) (e.inM ((Cn e.tree).getD i 0) (ts.getD 0 .i) m) with
  | .ok t => e.run l m (e.sub.drop (i + 1)) ((Cn e.tree).drop (i + 1)) (ts ++ [t])
  | .error x => .error x := by
 have h2 : i < (Cn e.tree).length := by rw [Xt]; exact hi
 rw [List.drop_eq_getElem_cons hi, List.drop_eq_getElem_cons h2, show (Cn e.tree).getD i 0 = (Cn e.tree)[i] by simp [h2]]
 rfl
theorem Acg {e : Ex} {l : List Au} {m : List Ty} {ts : List Ty} {i : Nat} (hi : e.sub.length ≤ i) : e.run l m (e.sub.drop i) ((Cn e.tree).drop i) ts = .ok ts := by
 rw [List.drop_eq_nil_of_le hi]; rfl
theorem B5.raw_ty {o : B5} {a b : Ex} {s t : Ty} {l : List Au} {m : List Ty} (hs : s.size ≤ 16) : (match o.ty s t with | some u => Except.ok u | none => Except.error (Ex.bin o a b)) = (Ex.bin o a b).fin ((Ex.bin o a b).raw [s, t] l m) := by
 have key : ∀ r, o.ty s t = r → (Ex.bin o a b).raw [s, t] l m = r → (match o.ty s t with | some u => Except.ok u | none => .error (.bin o a b)) = (Ex.bin o a b).fin ((Ex.bin o a b).raw [s, t] l m) := by
  intro r h1 h2; rw [h2, h1]
  cases r with
  | none => rfl
  | some u => exact (Js (B5.ty_small hs h1)).symm
 cases o with
 | pair =>
  simp only [B5.ty, Ex.raw, Ex.fin]
  by_cases h : (Ty.pr s t).size ≤ 16 <;> simp [h]
 | _ => exact key _ rfl rfl
theorem Zx {e : Ex} {l : List Au} {m : List Ty} (hok : e.ok = true) (hm : smallL m) (hf : e.funOk = true) : e.chk l m = match e.runs l m with | .ok ts => e.fin (e.raw ts l m) | .error x => .error x := by
 cases e with
 | num s => simp [Ex.runs, Ex.sub, Ex.run, Ex.chk, Ex.raw, Ex.fin, Ty.size]
 | name s =>
  simp only [Ex.runs, Ex.sub, Ex.run, Ex.chk, Ex.raw]
  cases ht : Fb l m s with
  | none => rfl
  | some t => exact (Js (Kx hm ht)).symm
 | bin o a b =>
  simp only [Ex.ok, Bool.and_eq_true] at hok
  simp only [Ex.runs, Ex.sub, Fw, Ex.run, Ex.chk, Ex.inL, Ex.inM]
  cases ha : a.chk l m with
  | error x => rfl
  | ok s =>
   simp only []
   cases hb : b.chk l m with
   | error x => rfl
   | ok t => exact B5.raw_ty (Ex.chk_small hok.1 hm ha)
 | un o a =>
  simp only [Ex.ok] at hok
  simp only [Ex.runs, Ex.sub, In, Ex.run, Ex.chk, Ex.inL, Ex.inM]
  cases ha : a.chk l m with
  | error x => rfl
  | ok s =>
   simp only [List.nil_append, Ex.raw]
   cases h : o.ty s with
   | none => rfl
   | some u => exact (Js (U2.ty_small (Ex.chk_small hok hm ha) h)).symm
 | ite a b d =>
  simp only [Ex.ok, Bool.and_eq_true] at hok
  simp only [Ex.runs, Ex.sub, Jy, Ex.run, Ex.chk, Ex.inL, Ex.inM]
  cases ha : a.chk l m with
  | error x => rfl
  | ok s =>
   simp only []
   cases hb : b.chk l m with
   | error x => rfl
   | ok t =>
    simp only []
    cases hd : d.chk l m with
    | error x => rfl
    | ok u =>
     simp only [List.nil_append, List.cons_append, Ex.raw]
     by_cases h : s = .i ∧ t = u
     ·rw [if_pos h, if_pos h, Js (Ex.chk_small hok.1.2 hm hb)]
     ·rw [if_neg h, if_neg h]; rfl
 | lt x a b =>
  simp only [Ex.ok, Bool.and_eq_true] at hok
  simp only [Ex.runs, Ex.sub, Jz, Ex.run, Ex.chk, Ex.inL, Ex.inM]
  rw [if_neg (show ¬ (2 : Nat) = 3 by decide), if_neg (show ¬ (2 : Nat) = 3 by decide)]
  cases ha : a.chk l m with
  | error x => rfl
  | ok s =>
   simp only [List.nil_append, if_true, List.getD_cons_zero]
   cases hb : b.chk (l ++ [x]) (m ++ [s]) with
   | error x => rfl
   | ok t => exact (Js (Ex.chk_small hok.2 (hm.add (Ex.chk_small hok.1.2 hm ha)) hb)).symm
 | fn f x s t b =>
  have hz : (Ty.fn s t).size ≤ 16 := by simpa [Ex.funOk] using hf
  simp only [Ex.runs, Ex.sub, Ki, Ex.run, Ex.chk, Ex.inL, Ex.inM, hz, if_true]
  rw [show l ++ [f] ++ [x] = l ++ [f, x] by simp, show m ++ [Ty.fn s t] ++ [s] = m ++ [Ty.fn s t, s] by simp]
  cases hb : b.chk (l ++ [f, x]) (m ++ [.fn s t, s]) with
  | error x => rfl
  | ok u =>
   simp only [List.nil_append, Ex.raw]
   by_cases h : u = t
   ·rw [if_pos h, if_pos h, Js hz]
   ·rw [if_neg h, if_neg h]; rfl
theorem Abw {e : Ex} {l : List Au} {m : List Ty} (hf : e.funOk = false) : e.chk l m = .error e := by
 cases e with
 | fn f x s t b =>
  have hz : ¬ (Ty.fn s t).size ≤ 16 := by simpa [Ex.funOk] using hf
  simp only [Ex.chk, if_neg hz]
 | _ => cases hf
theorem Aaa {e : Ex} (h : e.funOk = true) : ∀ f x s t b, e = .fn f x s t b → (Ty.fn s t).size ≤ 16 := by
 rintro f x s t b rfl; simpa [Ex.funOk] using h
theorem Y9 {e : Ex} {ts : List Ty} {l : List Au} {m : List Ty} {t : Ty} (hts : smallL ts) (hm : smallL m) (hfn : ∀ f x s t b, e = .fn f x s t b → (Ty.fn s t).size ≤ 16) (h : e.raw ts l m = some t) : t.size ≤ 33 := by
 unfold Ex.raw at h
 split at h
 ·cases h; decide
 ·have := Kx hm h; omega
 ·cases h
  have h1 := hts _ (.head _); have h2 := hts _ (.tail _ (.head _))
  simp only [Ty.size]; omega
 ·have := B5.ty_small (hts _ (.head _)) h; omega
 ·split at h
  ·cases h; have := hts _ (.tail _ (.head _)); omega
  ·cases h
 ·cases h; have := hts _ (.tail _ (.head _)); omega
 ·split at h
  ·cases h; have := hfn _ _ _ _ _ rfl; omega
  ·cases h
 ·have := U2.ty_small (hts _ (.head _)) h; omega
 ·cases h
end Go.Proofs.YtmfagaajiakgoaaGreatDoor
