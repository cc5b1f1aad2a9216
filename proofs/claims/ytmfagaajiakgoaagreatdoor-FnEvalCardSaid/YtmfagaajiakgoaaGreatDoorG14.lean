/- A step, by the program. No conditions. -/
import Derived.Test.YtmfagaajiakgoaaGreatDoorG13

namespace Go.Proofs.YtmfagaajiakgoaaGreatDoor
set_option maxRecDepth 100000
set_option linter.unusedVariables false
set_option linter.unusedSimpArgs false

def SP (o : Option Ex) (L : Bm) : C2 := fun v I' L' => ∃ (t : Tree) (ds : List Value), v = .tuple #[.agg (List.toArray ds), .bool o.isSome] ∧ Rep I' t ds ∧ (∀ e', o = some e' → t = e'.tree) ∧ L = L'
def Rx (N : Nat) : Prop := ∀ {I : Heap} (_ : Tab I) {e : Ex} {cs : List Value} (_ : SizeOf.sizeOf e < N) (_ : Rep I e.tree cs) (_ : e.ok = true) (L : Bm), Fun Tryz.prog 66 [.agg cs.toArray] I L (SP e.step L)
theorem Ex.of_pair {e : Ex} (h : e.tree.head = Do) : ∃ p q, e = .bin .pair p q := by
 cases e with
 | num s => cases h
 | name s => cases h
 | bin o p q => obtain rfl : o = .pair := B5.txt_inj (o' := .pair) h; exact ⟨p, q, rfl⟩
 | ite a b c => exact absurd h (by decide : ¬ Gs = Do)
 | lt x a b => exact absurd h (by decide : ¬ D0 = Do)
 | fn f x s t b => exact absurd h (by decide : ¬ Dz = Do)
 | un o a => exact absurd (show o.txt = Do from h) (by cases o <;> decide)
theorem Jg {e : Ex} (h : e.tree.parts.isEmpty = true) (hv : e.value = true) : ∃ s, e = .num s := by
 cases e with
 | num s => exact ⟨s, rfl⟩
 | name s => cases hv
 | _ => cases h
theorem Kz (o : B5) (p q : Au) : (Ky o p q).length ≤ Be := by have := Id (N4 o p q).1; unfold Be; omega
theorem SP.none' {I : Heap} {o : Option Ex} {L : Bm} (ho : o = none) : SP o L (.tuple #[.agg (List.toArray [.string (str []), .slice none 0 0]), .bool false]) I L :=
 ⟨.node [] [], _, by rw [ho]; rfl, .ofAtom Ad, fun e' h => (by rw [ho] at h; cases h), rfl⟩
theorem Hd {α β : Type} {o : Option α} {f : α → β} {p : Option β} (h : p = o.map f) : p.isSome = o.isSome := by rw [h]; cases o <;> rfl
set_option maxHeartbeats 1000000 in
theorem Y4 {N : Nat} (ihn : Rx N) {o : B5} {a b : Ex} {I : Heap} (ht : Tab I) {cs : List Value} (hlt : SizeOf.sizeOf (Ex.bin o a b) < N + 1) (h : Rep I (Ex.bin o a b).tree cs) (hok : (Ex.bin o a b).ok = true) (L : Bm) :
  Fun Tryz.prog 66 [.agg cs.toArray] I L (SP (Ex.bin o a b).step L) := by
 obtain ⟨oa, c, oaf, cf, rfl, hf, hcl, hcs⟩ := h.cells
 have hpos : 0 < (Ex.bin o a b).tree.parts.length := by show 0 < 3; decide
 obtain ⟨xa, rfl⟩ : ∃ xa, oa = some xa := ⟨_, C3 hf.nil hpos⟩
 have hlen : (Ex.bin o a b).tree.parts.length = 3 := rfl
 have hp := hf.len
 have hev : Uq (Ex.bin o a b).tree = [1, 2] := by cases o <;> rfl
 simp only [Ex.bin.sizeOf_spec] at hlt
 have hok0 := hok
 simp only [Ex.ok, Bool.and_eq_true, decide_eq_true_eq] at hok
 obtain ⟨_, hrl⟩ : ∃ _ : True, RepL I (Ex.bin o a b).tree.parts _ := ⟨trivial, hcl⟩
 simp only [show (Ex.bin o a b).tree.parts = [.node o.txt [], a.tree, b.tree] from rfl, E3, List.cons_append, List.nil_append] at hrl
 refine Ap Af ?_; refine Se rfl ?_; refine Cg rfl rfl .free rfl ?_; intro b1; refine A3 .free rfl ?_; intro b2; refine Oa rfl (Aa (Ah (Se rfl ?_))); refine A8 rfl .free rfl ?_; refine Ca rfl (Dp hf.rep _) ?_; rintro _ J0 _ e0 ⟨ok, ck, rfl, hk, rfl⟩
 have hf := hf.mono e0
 have ht := ht.mono e0
 have hle := e0
 rw [hev] at hk; rw [hev]; refine On rfl (Om rfl (Aa (Aq ?_))); refine Ec ?_; refine Se rfl (Oc rfl rfl rfl (Aa (Ah ?_))); refine Cj rfl Bp ?_; refine Aj (Ah (Aq (Se rfl ?_)))
 first | refine Ba rfl rfl _ rfl .free rfl ?_ | refine Bb rfl rfl _ rfl .free rfl ?_
 refine Ev rfl .free rfl ?_; refine Oa rfl (Aa (Ah (Se rfl (Oh rfl ?_)))); refine A4 rfl .free rfl ?_; refine Om rfl ?_
 first | refine Ba rfl rfl _ rfl .free rfl ?_ | refine Bb rfl rfl _ rfl .free rfl ?_
 refine E1 rfl .free rfl ?_; refine Ca rfl (Fq _ (Nat.lt_succ_self _) (hf.as 1 a.tree Ab rfl) hok.1 _) ?_; rintro _ _ _ _ ⟨rfl, rfl, rfl⟩; refine Aa ?_; refine Ay rfl ?_ ?_
 ·intro c1
  try simp only [nb] at c1
  have hva : a.value = true := c1
  refine Cd rfl ?_; refine Al rfl ?_; refine Or rfl rfl rfl ?_; refine Om rfl (Aa ?_); refine Ce ?_; refine Se rfl (Oc rfl rfl rfl (Aa (Ah ?_))); refine Cj rfl Bp ?_; refine Aj (Ah (Aq (Se rfl ?_)))
  first | refine Ba rfl rfl _ rfl .free rfl ?_ | refine Bb rfl rfl _ rfl .free rfl ?_
  refine Ev rfl .free rfl ?_; refine Oa rfl (Aa (Ah (Se rfl (Oh rfl ?_)))); refine A4 rfl .free rfl ?_; refine Om rfl ?_
  first | refine Ba rfl rfl _ rfl .free rfl ?_ | refine Bb rfl rfl _ rfl .free rfl ?_
  refine E1 rfl .free rfl ?_; refine Ca rfl (Fq _ (Nat.lt_succ_self _) (hf.as 2 b.tree Ab rfl) hok.2 _) ?_; rintro _ _ _ _ ⟨rfl, rfl, rfl⟩; refine Aa ?_; refine Ay rfl ?_ ?_
  ·intro c1
   try simp only [nb] at c1
   have hvb : b.value = true := c1
   refine Cd rfl ?_; refine Al rfl ?_; refine Or rfl rfl rfl ?_; refine Om rfl (Aa ?_); refine Ce ?_; refine Se rfl (Oc rfl rfl rfl (Aa (Ah ?_))); refine Dh rfl Bp ?_; refine Cd rfl ?_; refine Ah (Ah ?_)
   rcases o with _ | _ | _ | _ | _
   ·skip
    refine Al rfl ?_; refine A8 rfl .free rfl ?_; refine Ca rfl (Bq hf.rep _) ?_; rintro _ _ _ _ ⟨rfl, rfl, rfl⟩; rw [show (Ex.bin .add a b).tree.head = [43] from rfl]
    have hturn : (Ex.bin .add a b).step = (Ex.bin .add a b).turn := by simp only [Ex.step, hva, hvb, Bool.true_eq_false, if_false]
    refine Aa (Aq (Ah (Se rfl (Od rfl rfl rfl (Oa rfl (Aa ?_))))))
    first | refine St rfl (rfl) ?_ | refine Bo Ai ?_
    refine Aj ?_
    first | refine St rfl (rfl) ?_ | refine Bo Ai ?_
    refine Ah ?_; refine D6 12 rfl rfl ?_; refine Ws (X := Nat × Nat) (fun x => [(1, .pointer (some ⟨b1, 0, none⟩)), (2, .pointer (some ⟨b2, 0, none⟩)), (3, .bool false), (9, .pointer (some ⟨x.1, 0, none⟩)), (10, .pointer (some ⟨x.2, 0, none⟩))]) (fun x => J0) (fun x => [(x.2, .cells [.string (str b.tree.atom), .slice (oaf 2) b.tree.parts.length (cf 2)].toArray 49 (0, 0)), (x.1, .cells [.string (str a.tree.atom), .slice (oaf 1) a.tree.parts.length (cf 1)].toArray 49 (0, 0))]) (fun x => True) ?_ ?_
    ·rintro ⟨b9, b10⟩ -
     simp only [List.cons_append, List.nil_append]
     refine Se rfl ?_; refine Gr rfl .free rfl ?_; refine Ca rfl (B8 (hf.as 1 a.tree Ab rfl) _) ?_; rintro _ _ _ _ ⟨rfl, rfl, rfl⟩; refine Om rfl ?_
     apply Cp 64 67 rfl
     ·intro g15_3 hk
      try simp only [nb] at g15_3
      refine Gr rfl (.met rfl rfl) rfl ?_; refine Cq rfl (.met rfl rfl) rfl (B8 (hf.as 2 b.tree Ab rfl) _) ?_; rintro _ _ _ _ ⟨rfl, rfl, rfl⟩; refine Ot rfl rfl ?_
      exact Av 2 rfl rfl hk
     ·intro _ hk; refine A0 2 rfl ?_; refine Of rfl rfl ?_
      exact Av 2 rfl rfl hk
     refine Aa ?_; refine Ay rfl ?_ ?_
     ·intro c5
      try simp only [nb] at c5
      have hbb : a.tree.parts.isEmpty = true ∧ b.tree.parts.isEmpty = true := by simpa using c5
      obtain ⟨p, rfl⟩ := Jg hbb.1 hva; obtain ⟨q, rfl⟩ := Jg hbb.2 hvb; refine Ah ?_; refine D6 10 rfl rfl ?_; refine Dt 0 [8] rfl (C7 rfl) ?_
      first | refine Da 2 rfl (Ao rfl) ?_ | refine Da 2 rfl (Bf rfl) ?_
      refine Dt 3 [8] rfl (Wm rfl) ?_
      first | refine Da 4 rfl (Ao rfl) ?_ | refine Da 4 rfl (Bf rfl) ?_
      refine Dt 5 [8] rfl (Wm rfl) ?_; refine Dc 1 rfl rfl (Bq hf.rep _) ?_; rintro _ _ _ _ ⟨rfl, rfl, rfl⟩; refine Hx ?_; refine Dc 6 rfl rfl (Ns ht .add (a := p) (b := q) hok.1 hok.2 _) ?_; rintro _ _ _ _ ⟨rfl, rfl, rfl⟩; refine Hx ?_; refine Dc 7 rfl rfl (Qr (Ky .add p q) (Kz _ _ _) _ _) ?_; rintro _ _ _ _ ⟨rfl, rfl, rfl⟩; refine Hx ?_; refine Dx 8 rfl rfl rfl rfl ?_; refine Db 9 rfl (A5 rfl) ?_; refine Aw Ac ?_; refine Ak (.c rfl (.tmp rfl .nil)) ?_; refine ⟨_, L, hle, Bt, .node (Ky .add p q) [], _, by rw [hturn]; rfl, .ofAtom (Kz _ _ _), fun e' he' => ?_, rfl⟩; rw [hturn] at he'
      obtain rfl := Option.some.inj he'
      rfl
     intro c5
     try simp only [nb] at c5
     have hno : (Ex.bin .add a b).turn = none := by
      cases hty : (Ex.bin .add a b).turn with
      | none => rfl
      | some e' =>
       rcases Is hty with ⟨f, y, s, t, g, ho, rfl, rfl⟩ | ⟨p, q, ho, rfl, rfl, rfl⟩
       ·cases ho
       ·exact absurd c5 (by simp [Ex.tree, Tree.parts])
     refine Aj (Ar (Se rfl ?_)); refine B6 rfl rfl rfl .free rfl ?_; refine Bu rfl rfl rfl rfl .free ?_; refine Oa rfl (Aa ?_); refine Ak (.c rfl (.tmp rfl .nil)) ?_
     exact ⟨_, L, hle, Bt, SP.none' (by rw [hturn, hno])⟩
    ·intro hkk
     skip
     refine Da 0 rfl (Ao rfl) ?_; refine Dt 1 [10] rfl (By rfl) ?_
     first | refine Da 2 rfl (Br rfl rfl 1 rfl) ?_ | refine Da 2 rfl (Bs rfl rfl 1 rfl) ?_
     refine Dt 3 [10] rfl (Bx rfl) ?_; refine Da 4 rfl (Ao rfl) ?_; refine Mb 5 8 9 Ac ?_ ?_ ?_
     ·skip
      refine D5 5 rfl rfl (By rfl) .free rfl (.inr At) ?_
      first | refine Da 6 rfl (Br rfl rfl 2 rfl) ?_ | refine Da 6 rfl (Bs rfl rfl 2 rfl) ?_
      refine Mb 7 8 9 Ac ?_ ?_ ?_
      ·skip
       refine D5 7 rfl rfl (Bx rfl) .free rfl (.inr At) ?_; refine Dj 8 9 Ac ?_ ?_
       ·skip
        refine Ct 8 rfl rfl .free rfl (.inr At) ?_; intro b9; refine Er 9 rfl Ac rfl .free rfl (.inr At) ?_; intro b10; refine Dx 10 rfl rfl rfl rfl ?_; refine Dx 11 rfl rfl rfl rfl ?_; refine Aw Ac ?_
        exact Bw (E' := [(1, _), (2, _), (3, _), (9, _), (10, _)]) ⟨rfl, rfl, rfl, rfl, rfl, trivial⟩ (Bk Bg (hkk ⟨b9, b10⟩ trivial))
       ·skip
        refine Ct 9 rfl rfl .free rfl (.inr At) ?_; intro b10; refine Er 8 rfl Ac rfl .free rfl (.inr At) ?_; intro b9; refine Dx 10 rfl rfl rfl rfl ?_; refine Dx 11 rfl rfl rfl rfl ?_; refine Aw Ac ?_
        exact Bw (E' := [(1, _), (2, _), (3, _), (9, _), (10, _)]) ⟨rfl, rfl, rfl, rfl, rfl, trivial⟩ (Bk Bg (hkk ⟨b9, b10⟩ trivial))
      ·skip
       refine Ct 8 rfl rfl .free rfl (.inr At) ?_; intro b9; refine Dj 7 9 Ac ?_ ?_
       ·skip
        refine D5 7 rfl rfl (Bx rfl) .free rfl (.inr At) ?_; refine Er 9 rfl Ac rfl .free rfl (.inr At) ?_; intro b10; refine Dx 10 rfl rfl rfl rfl ?_; refine Dx 11 rfl rfl rfl rfl ?_; refine Aw Ac ?_
        exact Bw (E' := [(1, _), (2, _), (3, _), (9, _), (10, _)]) ⟨rfl, rfl, rfl, rfl, rfl, trivial⟩ (Bk Bg (hkk ⟨b9, b10⟩ trivial))
       ·skip
        refine Ct 9 rfl rfl .free rfl (.inr At) ?_; intro b10; refine Dj 7 10 Ac ?_ ?_
        ·skip
         refine D5 7 rfl rfl (Bx rfl) .free rfl (.inr At) ?_; refine Dx 10 rfl rfl rfl rfl ?_; refine Dx 11 rfl rfl rfl rfl ?_; refine Aw Ac ?_
         exact Bw (E' := [(1, _), (2, _), (3, _), (9, _), (10, _)]) ⟨rfl, rfl, rfl, rfl, rfl, trivial⟩ (Bk Bg (hkk ⟨b9, b10⟩ trivial))
        ·skip
         refine I5 10 rfl rfl rfl rfl rfl rfl .free (.inl Ac) ?_; refine Fl 7 rfl Ac rfl (Bx rfl) .free rfl (.inl Ac) ?_; refine Dx 11 rfl rfl rfl rfl ?_; refine Aw Ac ?_
         exact Bw (E' := [(1, _), (2, _), (3, _), (9, _), (10, _)]) ⟨rfl, rfl, rfl, rfl, rfl, trivial⟩ (Bk Bg (hkk ⟨b9, b10⟩ trivial))
      ·skip
       refine Ct 9 rfl rfl .free rfl (.inr At) ?_; intro b10; refine Dj 7 8 Ac ?_ ?_
       ·skip
        refine D5 7 rfl rfl (Bx rfl) .free rfl (.inr At) ?_; refine Er 8 rfl Ac rfl .free rfl (.inr At) ?_; intro b9; refine Dx 10 rfl rfl rfl rfl ?_; refine Dx 11 rfl rfl rfl rfl ?_; refine Aw Ac ?_
        exact Bw (E' := [(1, _), (2, _), (3, _), (9, _), (10, _)]) ⟨rfl, rfl, rfl, rfl, rfl, trivial⟩ (Bk Bg (hkk ⟨b9, b10⟩ trivial))
       ·skip
        refine Ct 8 rfl rfl .free rfl (.inr At) ?_; intro b9; refine Dj 7 10 Ac ?_ ?_
        ·skip
         refine D5 7 rfl rfl (Bx rfl) .free rfl (.inr At) ?_; refine Dx 10 rfl rfl rfl rfl ?_; refine Dx 11 rfl rfl rfl rfl ?_; refine Aw Ac ?_
         exact Bw (E' := [(1, _), (2, _), (3, _), (9, _), (10, _)]) ⟨rfl, rfl, rfl, rfl, rfl, trivial⟩ (Bk Bg (hkk ⟨b9, b10⟩ trivial))
        ·skip
         refine I5 10 rfl rfl rfl rfl rfl rfl .free (.inl Ac) ?_; refine Fl 7 rfl Ac rfl (Bx rfl) .free rfl (.inl Ac) ?_; refine Dx 11 rfl rfl rfl rfl ?_; refine Aw Ac ?_
         exact Bw (E' := [(1, _), (2, _), (3, _), (9, _), (10, _)]) ⟨rfl, rfl, rfl, rfl, rfl, trivial⟩ (Bk Bg (hkk ⟨b9, b10⟩ trivial))
     ·skip
      refine Ct 8 rfl rfl .free rfl (.inr At) ?_; intro b9; refine Dj 5 9 Ac ?_ ?_
      ·skip
       refine D5 5 rfl rfl (By rfl) .free rfl (.inr At) ?_
       first | refine Da 6 rfl (Br rfl rfl 2 rfl) ?_ | refine Da 6 rfl (Bs rfl rfl 2 rfl) ?_
       refine Dj 7 9 Ac ?_ ?_
       ·skip
        refine D5 7 rfl rfl (Bx rfl) .free rfl (.inr At) ?_; refine Er 9 rfl Ac rfl .free rfl (.inr At) ?_; intro b10; refine Dx 10 rfl rfl rfl rfl ?_; refine Dx 11 rfl rfl rfl rfl ?_; refine Aw Ac ?_
        exact Bw (E' := [(1, _), (2, _), (3, _), (9, _), (10, _)]) ⟨rfl, rfl, rfl, rfl, rfl, trivial⟩ (Bk Bg (hkk ⟨b9, b10⟩ trivial))
       ·skip
        refine Ct 9 rfl rfl .free rfl (.inr At) ?_; intro b10; refine Dj 7 10 Ac ?_ ?_
        ·skip
         refine D5 7 rfl rfl (Bx rfl) .free rfl (.inr At) ?_; refine Dx 10 rfl rfl rfl rfl ?_; refine Dx 11 rfl rfl rfl rfl ?_; refine Aw Ac ?_
         exact Bw (E' := [(1, _), (2, _), (3, _), (9, _), (10, _)]) ⟨rfl, rfl, rfl, rfl, rfl, trivial⟩ (Bk Bg (hkk ⟨b9, b10⟩ trivial))
        ·skip
         refine I5 10 rfl rfl rfl rfl rfl rfl .free (.inl Ac) ?_; refine Fl 7 rfl Ac rfl (Bx rfl) .free rfl (.inl Ac) ?_; refine Dx 11 rfl rfl rfl rfl ?_; refine Aw Ac ?_
         exact Bw (E' := [(1, _), (2, _), (3, _), (9, _), (10, _)]) ⟨rfl, rfl, rfl, rfl, rfl, trivial⟩ (Bk Bg (hkk ⟨b9, b10⟩ trivial))
      ·skip
       refine Ct 9 rfl rfl .free rfl (.inr At) ?_; intro b10; refine Dj 5 10 Ac ?_ ?_
       ·skip
        refine D5 5 rfl rfl (By rfl) .free rfl (.inr At) ?_
        first | refine Da 6 rfl (Br rfl rfl 2 rfl) ?_ | refine Da 6 rfl (Bs rfl rfl 2 rfl) ?_
        refine Dj 7 10 Ac ?_ ?_
        ·skip
         refine D5 7 rfl rfl (Bx rfl) .free rfl (.inr At) ?_; refine Dx 10 rfl rfl rfl rfl ?_; refine Dx 11 rfl rfl rfl rfl ?_; refine Aw Ac ?_
         exact Bw (E' := [(1, _), (2, _), (3, _), (9, _), (10, _)]) ⟨rfl, rfl, rfl, rfl, rfl, trivial⟩ (Bk Bg (hkk ⟨b9, b10⟩ trivial))
        ·skip
         refine I5 10 rfl rfl rfl rfl rfl rfl .free (.inl Ac) ?_; refine Fl 7 rfl Ac rfl (Bx rfl) .free rfl (.inl Ac) ?_; refine Dx 11 rfl rfl rfl rfl ?_; refine Aw Ac ?_
         exact Bw (E' := [(1, _), (2, _), (3, _), (9, _), (10, _)]) ⟨rfl, rfl, rfl, rfl, rfl, trivial⟩ (Bk Bg (hkk ⟨b9, b10⟩ trivial))
       ·skip
        refine I5 10 rfl rfl rfl rfl rfl rfl .free (.inl Ac) ?_; refine Fl 5 rfl Ac rfl (By rfl) .free rfl (.inl Ac) ?_
        first | refine Db 6 rfl (Br rfl rfl 2 rfl) ?_ | refine Db 6 rfl (Bs rfl rfl 2 rfl) ?_
        refine Fl 7 rfl Ac rfl (Bx rfl) .free rfl (.inl Ac) ?_; refine Dx 11 rfl rfl rfl rfl ?_; refine Aw Ac ?_
        exact Bw (E' := [(1, _), (2, _), (3, _), (9, _), (10, _)]) ⟨rfl, rfl, rfl, rfl, rfl, trivial⟩ (Bk Bg (hkk ⟨b9, b10⟩ trivial))
     ·skip
      refine Ct 9 rfl rfl .free rfl (.inr At) ?_; intro b10; refine Dj 5 8 Ac ?_ ?_
      ·skip
       refine D5 5 rfl rfl (By rfl) .free rfl (.inr At) ?_
       first | refine Da 6 rfl (Br rfl rfl 2 rfl) ?_ | refine Da 6 rfl (Bs rfl rfl 2 rfl) ?_
       refine Dj 7 8 Ac ?_ ?_
       ·skip
        refine D5 7 rfl rfl (Bx rfl) .free rfl (.inr At) ?_; refine Er 8 rfl Ac rfl .free rfl (.inr At) ?_; intro b9; refine Dx 10 rfl rfl rfl rfl ?_; refine Dx 11 rfl rfl rfl rfl ?_; refine Aw Ac ?_
        exact Bw (E' := [(1, _), (2, _), (3, _), (9, _), (10, _)]) ⟨rfl, rfl, rfl, rfl, rfl, trivial⟩ (Bk Bg (hkk ⟨b9, b10⟩ trivial))
       ·skip
        refine Ct 8 rfl rfl .free rfl (.inr At) ?_; intro b9; refine Dj 7 10 Ac ?_ ?_
        ·skip
         refine D5 7 rfl rfl (Bx rfl) .free rfl (.inr At) ?_; refine Dx 10 rfl rfl rfl rfl ?_; refine Dx 11 rfl rfl rfl rfl ?_; refine Aw Ac ?_
         exact Bw (E' := [(1, _), (2, _), (3, _), (9, _), (10, _)]) ⟨rfl, rfl, rfl, rfl, rfl, trivial⟩ (Bk Bg (hkk ⟨b9, b10⟩ trivial))
        ·skip
         refine I5 10 rfl rfl rfl rfl rfl rfl .free (.inl Ac) ?_; refine Fl 7 rfl Ac rfl (Bx rfl) .free rfl (.inl Ac) ?_; refine Dx 11 rfl rfl rfl rfl ?_; refine Aw Ac ?_
         exact Bw (E' := [(1, _), (2, _), (3, _), (9, _), (10, _)]) ⟨rfl, rfl, rfl, rfl, rfl, trivial⟩ (Bk Bg (hkk ⟨b9, b10⟩ trivial))
      ·skip
       refine Ct 8 rfl rfl .free rfl (.inr At) ?_; intro b9; refine Dj 5 10 Ac ?_ ?_
       ·skip
        refine D5 5 rfl rfl (By rfl) .free rfl (.inr At) ?_
        first | refine Da 6 rfl (Br rfl rfl 2 rfl) ?_ | refine Da 6 rfl (Bs rfl rfl 2 rfl) ?_
        refine Dj 7 10 Ac ?_ ?_
        ·skip
         refine D5 7 rfl rfl (Bx rfl) .free rfl (.inr At) ?_; refine Dx 10 rfl rfl rfl rfl ?_; refine Dx 11 rfl rfl rfl rfl ?_; refine Aw Ac ?_
         exact Bw (E' := [(1, _), (2, _), (3, _), (9, _), (10, _)]) ⟨rfl, rfl, rfl, rfl, rfl, trivial⟩ (Bk Bg (hkk ⟨b9, b10⟩ trivial))
        ·skip
         refine I5 10 rfl rfl rfl rfl rfl rfl .free (.inl Ac) ?_; refine Fl 7 rfl Ac rfl (Bx rfl) .free rfl (.inl Ac) ?_; refine Dx 11 rfl rfl rfl rfl ?_; refine Aw Ac ?_
         exact Bw (E' := [(1, _), (2, _), (3, _), (9, _), (10, _)]) ⟨rfl, rfl, rfl, rfl, rfl, trivial⟩ (Bk Bg (hkk ⟨b9, b10⟩ trivial))
       ·skip
        refine I5 10 rfl rfl rfl rfl rfl rfl .free (.inl Ac) ?_; refine Fl 5 rfl Ac rfl (By rfl) .free rfl (.inl Ac) ?_
        first | refine Db 6 rfl (Br rfl rfl 2 rfl) ?_ | refine Db 6 rfl (Bs rfl rfl 2 rfl) ?_
        refine Fl 7 rfl Ac rfl (Bx rfl) .free rfl (.inl Ac) ?_; refine Dx 11 rfl rfl rfl rfl ?_; refine Aw Ac ?_
        exact Bw (E' := [(1, _), (2, _), (3, _), (9, _), (10, _)]) ⟨rfl, rfl, rfl, rfl, rfl, trivial⟩ (Bk Bg (hkk ⟨b9, b10⟩ trivial))
   ·skip
    refine Al rfl ?_; refine A8 rfl .free rfl ?_; refine Ca rfl (Bq hf.rep _) ?_; rintro _ _ _ _ ⟨rfl, rfl, rfl⟩; rw [show (Ex.bin .sub a b).tree.head = [45] from rfl]
    have hturn : (Ex.bin .sub a b).step = (Ex.bin .sub a b).turn := by simp only [Ex.step, hva, hvb, Bool.true_eq_false, if_false]
    refine Aa (Aq (Ah (Se rfl (Od rfl rfl rfl (Oa rfl (Aa ?_))))))
    first | refine Sf rfl Ad ?_ | refine As Ai ?_
    refine Se rfl (Od rfl rfl rfl (Oa rfl (Aa ?_)))
    first | refine St rfl (rfl) ?_ | refine Bo Ai ?_
    refine Aj ?_
    first | refine St rfl (rfl) ?_ | refine Bo Ai ?_
    refine Ah ?_; refine D6 12 rfl rfl ?_; refine Ws (X := Nat × Nat) (fun x => [(1, .pointer (some ⟨b1, 0, none⟩)), (2, .pointer (some ⟨b2, 0, none⟩)), (3, .bool false), (9, .pointer (some ⟨x.1, 0, none⟩)), (10, .pointer (some ⟨x.2, 0, none⟩))]) (fun x => J0) (fun x => [(x.2, .cells [.string (str b.tree.atom), .slice (oaf 2) b.tree.parts.length (cf 2)].toArray 49 (0, 0)), (x.1, .cells [.string (str a.tree.atom), .slice (oaf 1) a.tree.parts.length (cf 1)].toArray 49 (0, 0))]) (fun x => True) ?_ ?_
    ·rintro ⟨b9, b10⟩ -
     simp only [List.cons_append, List.nil_append]
     refine Se rfl ?_; refine Gr rfl .free rfl ?_; refine Ca rfl (B8 (hf.as 1 a.tree Ab rfl) _) ?_; rintro _ _ _ _ ⟨rfl, rfl, rfl⟩; refine Om rfl ?_
     apply Cp 64 67 rfl
     ·intro g15_3 hk
      try simp only [nb] at g15_3
      refine Gr rfl (.met rfl rfl) rfl ?_; refine Cq rfl (.met rfl rfl) rfl (B8 (hf.as 2 b.tree Ab rfl) _) ?_; rintro _ _ _ _ ⟨rfl, rfl, rfl⟩; refine Ot rfl rfl ?_
      exact Av 2 rfl rfl hk
     ·intro _ hk; refine A0 2 rfl ?_; refine Of rfl rfl ?_
      exact Av 2 rfl rfl hk
     refine Aa ?_; refine Ay rfl ?_ ?_
     ·intro c5
      try simp only [nb] at c5
      have hbb : a.tree.parts.isEmpty = true ∧ b.tree.parts.isEmpty = true := by simpa using c5
      obtain ⟨p, rfl⟩ := Jg hbb.1 hva; obtain ⟨q, rfl⟩ := Jg hbb.2 hvb; refine Ah ?_; refine D6 10 rfl rfl ?_; refine Dt 0 [8] rfl (C7 rfl) ?_
      first | refine Da 2 rfl (Ao rfl) ?_ | refine Da 2 rfl (Bf rfl) ?_
      refine Dt 3 [8] rfl (Wm rfl) ?_
      first | refine Da 4 rfl (Ao rfl) ?_ | refine Da 4 rfl (Bf rfl) ?_
      refine Dt 5 [8] rfl (Wm rfl) ?_; refine Dc 1 rfl rfl (Bq hf.rep _) ?_; rintro _ _ _ _ ⟨rfl, rfl, rfl⟩; refine Hx ?_; refine Dc 6 rfl rfl (Ns ht .sub (a := p) (b := q) hok.1 hok.2 _) ?_; rintro _ _ _ _ ⟨rfl, rfl, rfl⟩; refine Hx ?_; refine Dc 7 rfl rfl (Qr (Ky .sub p q) (Kz _ _ _) _ _) ?_; rintro _ _ _ _ ⟨rfl, rfl, rfl⟩; refine Hx ?_; refine Dx 8 rfl rfl rfl rfl ?_; refine Db 9 rfl (A5 rfl) ?_; refine Aw Ac ?_; refine Ak (.c rfl (.tmp rfl .nil)) ?_; refine ⟨_, L, hle, Bt, .node (Ky .sub p q) [], _, by rw [hturn]; rfl, .ofAtom (Kz _ _ _), fun e' he' => ?_, rfl⟩; rw [hturn] at he'
      obtain rfl := Option.some.inj he'
      rfl
     intro c5
     try simp only [nb] at c5
     have hno : (Ex.bin .sub a b).turn = none := by
      cases hty : (Ex.bin .sub a b).turn with
      | none => rfl
      | some e' =>
       rcases Is hty with ⟨f, y, s, t, g, ho, rfl, rfl⟩ | ⟨p, q, ho, rfl, rfl, rfl⟩
       ·cases ho
       ·exact absurd c5 (by simp [Ex.tree, Tree.parts])
     refine Aj (Ar (Se rfl ?_)); refine B6 rfl rfl rfl .free rfl ?_; refine Bu rfl rfl rfl rfl .free ?_; refine Oa rfl (Aa ?_); refine Ak (.c rfl (.tmp rfl .nil)) ?_
     exact ⟨_, L, hle, Bt, SP.none' (by rw [hturn, hno])⟩
    ·intro hkk
     skip
     refine Da 0 rfl (Ao rfl) ?_; refine Dt 1 [10] rfl (By rfl) ?_
     first | refine Da 2 rfl (Br rfl rfl 1 rfl) ?_ | refine Da 2 rfl (Bs rfl rfl 1 rfl) ?_
     refine Dt 3 [10] rfl (Bx rfl) ?_; refine Da 4 rfl (Ao rfl) ?_; refine Mb 5 8 9 Ac ?_ ?_ ?_
     ·skip
      refine D5 5 rfl rfl (By rfl) .free rfl (.inr At) ?_
      first | refine Da 6 rfl (Br rfl rfl 2 rfl) ?_ | refine Da 6 rfl (Bs rfl rfl 2 rfl) ?_
      refine Mb 7 8 9 Ac ?_ ?_ ?_
      ·skip
       refine D5 7 rfl rfl (Bx rfl) .free rfl (.inr At) ?_; refine Dj 8 9 Ac ?_ ?_
       ·skip
        refine Ct 8 rfl rfl .free rfl (.inr At) ?_; intro b9; refine Er 9 rfl Ac rfl .free rfl (.inr At) ?_; intro b10; refine Dx 10 rfl rfl rfl rfl ?_; refine Dx 11 rfl rfl rfl rfl ?_; refine Aw Ac ?_
        exact Bw (E' := [(1, _), (2, _), (3, _), (9, _), (10, _)]) ⟨rfl, rfl, rfl, rfl, rfl, trivial⟩ (Bk Bg (hkk ⟨b9, b10⟩ trivial))
       ·skip
        refine Ct 9 rfl rfl .free rfl (.inr At) ?_; intro b10; refine Er 8 rfl Ac rfl .free rfl (.inr At) ?_; intro b9; refine Dx 10 rfl rfl rfl rfl ?_; refine Dx 11 rfl rfl rfl rfl ?_; refine Aw Ac ?_
        exact Bw (E' := [(1, _), (2, _), (3, _), (9, _), (10, _)]) ⟨rfl, rfl, rfl, rfl, rfl, trivial⟩ (Bk Bg (hkk ⟨b9, b10⟩ trivial))
      ·skip
       refine Ct 8 rfl rfl .free rfl (.inr At) ?_; intro b9; refine Dj 7 9 Ac ?_ ?_
       ·skip
        refine D5 7 rfl rfl (Bx rfl) .free rfl (.inr At) ?_; refine Er 9 rfl Ac rfl .free rfl (.inr At) ?_; intro b10; refine Dx 10 rfl rfl rfl rfl ?_; refine Dx 11 rfl rfl rfl rfl ?_; refine Aw Ac ?_
        exact Bw (E' := [(1, _), (2, _), (3, _), (9, _), (10, _)]) ⟨rfl, rfl, rfl, rfl, rfl, trivial⟩ (Bk Bg (hkk ⟨b9, b10⟩ trivial))
       ·skip
        refine Ct 9 rfl rfl .free rfl (.inr At) ?_; intro b10; refine Dj 7 10 Ac ?_ ?_
        ·skip
         refine D5 7 rfl rfl (Bx rfl) .free rfl (.inr At) ?_; refine Dx 10 rfl rfl rfl rfl ?_; refine Dx 11 rfl rfl rfl rfl ?_; refine Aw Ac ?_
         exact Bw (E' := [(1, _), (2, _), (3, _), (9, _), (10, _)]) ⟨rfl, rfl, rfl, rfl, rfl, trivial⟩ (Bk Bg (hkk ⟨b9, b10⟩ trivial))
        ·skip
         refine I5 10 rfl rfl rfl rfl rfl rfl .free (.inl Ac) ?_; refine Fl 7 rfl Ac rfl (Bx rfl) .free rfl (.inl Ac) ?_; refine Dx 11 rfl rfl rfl rfl ?_; refine Aw Ac ?_
         exact Bw (E' := [(1, _), (2, _), (3, _), (9, _), (10, _)]) ⟨rfl, rfl, rfl, rfl, rfl, trivial⟩ (Bk Bg (hkk ⟨b9, b10⟩ trivial))
      ·skip
       refine Ct 9 rfl rfl .free rfl (.inr At) ?_; intro b10; refine Dj 7 8 Ac ?_ ?_
       ·skip
        refine D5 7 rfl rfl (Bx rfl) .free rfl (.inr At) ?_; refine Er 8 rfl Ac rfl .free rfl (.inr At) ?_; intro b9; refine Dx 10 rfl rfl rfl rfl ?_; refine Dx 11 rfl rfl rfl rfl ?_; refine Aw Ac ?_
        exact Bw (E' := [(1, _), (2, _), (3, _), (9, _), (10, _)]) ⟨rfl, rfl, rfl, rfl, rfl, trivial⟩ (Bk Bg (hkk ⟨b9, b10⟩ trivial))
       ·skip
        refine Ct 8 rfl rfl .free rfl (.inr At) ?_; intro b9; refine Dj 7 10 Ac ?_ ?_
        ·skip
         refine D5 7 rfl rfl (Bx rfl) .free rfl (.inr At) ?_; refine Dx 10 rfl rfl rfl rfl ?_; refine Dx 11 rfl rfl rfl rfl ?_; refine Aw Ac ?_
         exact Bw (E' := [(1, _), (2, _), (3, _), (9, _), (10, _)]) ⟨rfl, rfl, rfl, rfl, rfl, trivial⟩ (Bk Bg (hkk ⟨b9, b10⟩ trivial))
        ·skip
         refine I5 10 rfl rfl rfl rfl rfl rfl .free (.inl Ac) ?_; refine Fl 7 rfl Ac rfl (Bx rfl) .free rfl (.inl Ac) ?_; refine Dx 11 rfl rfl rfl rfl ?_; refine Aw Ac ?_
         exact Bw (E' := [(1, _), (2, _), (3, _), (9, _), (10, _)]) ⟨rfl, rfl, rfl, rfl, rfl, trivial⟩ (Bk Bg (hkk ⟨b9, b10⟩ trivial))
     ·skip
      refine Ct 8 rfl rfl .free rfl (.inr At) ?_; intro b9; refine Dj 5 9 Ac ?_ ?_
      ·skip
       refine D5 5 rfl rfl (By rfl) .free rfl (.inr At) ?_
       first | refine Da 6 rfl (Br rfl rfl 2 rfl) ?_ | refine Da 6 rfl (Bs rfl rfl 2 rfl) ?_
       refine Dj 7 9 Ac ?_ ?_
       ·skip
        refine D5 7 rfl rfl (Bx rfl) .free rfl (.inr At) ?_; refine Er 9 rfl Ac rfl .free rfl (.inr At) ?_; intro b10; refine Dx 10 rfl rfl rfl rfl ?_; refine Dx 11 rfl rfl rfl rfl ?_; refine Aw Ac ?_
        exact Bw (E' := [(1, _), (2, _), (3, _), (9, _), (10, _)]) ⟨rfl, rfl, rfl, rfl, rfl, trivial⟩ (Bk Bg (hkk ⟨b9, b10⟩ trivial))
       ·skip
        refine Ct 9 rfl rfl .free rfl (.inr At) ?_; intro b10; refine Dj 7 10 Ac ?_ ?_
        ·skip
         refine D5 7 rfl rfl (Bx rfl) .free rfl (.inr At) ?_; refine Dx 10 rfl rfl rfl rfl ?_; refine Dx 11 rfl rfl rfl rfl ?_; refine Aw Ac ?_
         exact Bw (E' := [(1, _), (2, _), (3, _), (9, _), (10, _)]) ⟨rfl, rfl, rfl, rfl, rfl, trivial⟩ (Bk Bg (hkk ⟨b9, b10⟩ trivial))
        ·skip
         refine I5 10 rfl rfl rfl rfl rfl rfl .free (.inl Ac) ?_; refine Fl 7 rfl Ac rfl (Bx rfl) .free rfl (.inl Ac) ?_; refine Dx 11 rfl rfl rfl rfl ?_; refine Aw Ac ?_
         exact Bw (E' := [(1, _), (2, _), (3, _), (9, _), (10, _)]) ⟨rfl, rfl, rfl, rfl, rfl, trivial⟩ (Bk Bg (hkk ⟨b9, b10⟩ trivial))
      ·skip
       refine Ct 9 rfl rfl .free rfl (.inr At) ?_; intro b10; refine Dj 5 10 Ac ?_ ?_
       ·skip
        refine D5 5 rfl rfl (By rfl) .free rfl (.inr At) ?_
        first | refine Da 6 rfl (Br rfl rfl 2 rfl) ?_ | refine Da 6 rfl (Bs rfl rfl 2 rfl) ?_
        refine Dj 7 10 Ac ?_ ?_
        ·skip
         refine D5 7 rfl rfl (Bx rfl) .free rfl (.inr At) ?_; refine Dx 10 rfl rfl rfl rfl ?_; refine Dx 11 rfl rfl rfl rfl ?_; refine Aw Ac ?_
         exact Bw (E' := [(1, _), (2, _), (3, _), (9, _), (10, _)]) ⟨rfl, rfl, rfl, rfl, rfl, trivial⟩ (Bk Bg (hkk ⟨b9, b10⟩ trivial))
        ·skip
         refine I5 10 rfl rfl rfl rfl rfl rfl .free (.inl Ac) ?_; refine Fl 7 rfl Ac rfl (Bx rfl) .free rfl (.inl Ac) ?_; refine Dx 11 rfl rfl rfl rfl ?_; refine Aw Ac ?_
         exact Bw (E' := [(1, _), (2, _), (3, _), (9, _), (10, _)]) ⟨rfl, rfl, rfl, rfl, rfl, trivial⟩ (Bk Bg (hkk ⟨b9, b10⟩ trivial))
       ·skip
        refine I5 10 rfl rfl rfl rfl rfl rfl .free (.inl Ac) ?_; refine Fl 5 rfl Ac rfl (By rfl) .free rfl (.inl Ac) ?_
        first | refine Db 6 rfl (Br rfl rfl 2 rfl) ?_ | refine Db 6 rfl (Bs rfl rfl 2 rfl) ?_
        refine Fl 7 rfl Ac rfl (Bx rfl) .free rfl (.inl Ac) ?_; refine Dx 11 rfl rfl rfl rfl ?_; refine Aw Ac ?_
        exact Bw (E' := [(1, _), (2, _), (3, _), (9, _), (10, _)]) ⟨rfl, rfl, rfl, rfl, rfl, trivial⟩ (Bk Bg (hkk ⟨b9, b10⟩ trivial))
     ·skip
      refine Ct 9 rfl rfl .free rfl (.inr At) ?_; intro b10; refine Dj 5 8 Ac ?_ ?_
      ·skip
       refine D5 5 rfl rfl (By rfl) .free rfl (.inr At) ?_
       first | refine Da 6 rfl (Br rfl rfl 2 rfl) ?_ | refine Da 6 rfl (Bs rfl rfl 2 rfl) ?_
       refine Dj 7 8 Ac ?_ ?_
       ·skip
        refine D5 7 rfl rfl (Bx rfl) .free rfl (.inr At) ?_; refine Er 8 rfl Ac rfl .free rfl (.inr At) ?_; intro b9; refine Dx 10 rfl rfl rfl rfl ?_; refine Dx 11 rfl rfl rfl rfl ?_; refine Aw Ac ?_
        exact Bw (E' := [(1, _), (2, _), (3, _), (9, _), (10, _)]) ⟨rfl, rfl, rfl, rfl, rfl, trivial⟩ (Bk Bg (hkk ⟨b9, b10⟩ trivial))
       ·skip
        refine Ct 8 rfl rfl .free rfl (.inr At) ?_; intro b9; refine Dj 7 10 Ac ?_ ?_
        ·skip
         refine D5 7 rfl rfl (Bx rfl) .free rfl (.inr At) ?_; refine Dx 10 rfl rfl rfl rfl ?_; refine Dx 11 rfl rfl rfl rfl ?_; refine Aw Ac ?_
         exact Bw (E' := [(1, _), (2, _), (3, _), (9, _), (10, _)]) ⟨rfl, rfl, rfl, rfl, rfl, trivial⟩ (Bk Bg (hkk ⟨b9, b10⟩ trivial))
        ·skip
         refine I5 10 rfl rfl rfl rfl rfl rfl .free (.inl Ac) ?_; refine Fl 7 rfl Ac rfl (Bx rfl) .free rfl (.inl Ac) ?_; refine Dx 11 rfl rfl rfl rfl ?_; refine Aw Ac ?_
         exact Bw (E' := [(1, _), (2, _), (3, _), (9, _), (10, _)]) ⟨rfl, rfl, rfl, rfl, rfl, trivial⟩ (Bk Bg (hkk ⟨b9, b10⟩ trivial))
      ·skip
       refine Ct 8 rfl rfl .free rfl (.inr At) ?_; intro b9; refine Dj 5 10 Ac ?_ ?_
       ·skip
        refine D5 5 rfl rfl (By rfl) .free rfl (.inr At) ?_
        first | refine Da 6 rfl (Br rfl rfl 2 rfl) ?_ | refine Da 6 rfl (Bs rfl rfl 2 rfl) ?_
        refine Dj 7 10 Ac ?_ ?_
        ·skip
         refine D5 7 rfl rfl (Bx rfl) .free rfl (.inr At) ?_; refine Dx 10 rfl rfl rfl rfl ?_; refine Dx 11 rfl rfl rfl rfl ?_; refine Aw Ac ?_
         exact Bw (E' := [(1, _), (2, _), (3, _), (9, _), (10, _)]) ⟨rfl, rfl, rfl, rfl, rfl, trivial⟩ (Bk Bg (hkk ⟨b9, b10⟩ trivial))
        ·skip
         refine I5 10 rfl rfl rfl rfl rfl rfl .free (.inl Ac) ?_; refine Fl 7 rfl Ac rfl (Bx rfl) .free rfl (.inl Ac) ?_; refine Dx 11 rfl rfl rfl rfl ?_; refine Aw Ac ?_
         exact Bw (E' := [(1, _), (2, _), (3, _), (9, _), (10, _)]) ⟨rfl, rfl, rfl, rfl, rfl, trivial⟩ (Bk Bg (hkk ⟨b9, b10⟩ trivial))
       ·skip
        refine I5 10 rfl rfl rfl rfl rfl rfl .free (.inl Ac) ?_; refine Fl 5 rfl Ac rfl (By rfl) .free rfl (.inl Ac) ?_
        first | refine Db 6 rfl (Br rfl rfl 2 rfl) ?_ | refine Db 6 rfl (Bs rfl rfl 2 rfl) ?_
        refine Fl 7 rfl Ac rfl (Bx rfl) .free rfl (.inl Ac) ?_; refine Dx 11 rfl rfl rfl rfl ?_; refine Aw Ac ?_
        exact Bw (E' := [(1, _), (2, _), (3, _), (9, _), (10, _)]) ⟨rfl, rfl, rfl, rfl, rfl, trivial⟩ (Bk Bg (hkk ⟨b9, b10⟩ trivial))
   ·skip
    refine Al rfl ?_; refine A8 rfl .free rfl ?_; refine Ca rfl (Bq hf.rep _) ?_; rintro _ _ _ _ ⟨rfl, rfl, rfl⟩; rw [show (Ex.bin .mul a b).tree.head = [42] from rfl]
    have hturn : (Ex.bin .mul a b).step = (Ex.bin .mul a b).turn := by simp only [Ex.step, hva, hvb, Bool.true_eq_false, if_false]
    refine Aa (Aq (Ah (Se rfl (Od rfl rfl rfl (Oa rfl (Aa ?_))))))
    first | refine Sf rfl Ad ?_ | refine As Ai ?_
    refine Se rfl (Od rfl rfl rfl (Oa rfl (Aa ?_)))
    first | refine Sf rfl Ad ?_ | refine As Ai ?_
    refine Al rfl (Od rfl rfl rfl (Oa rfl (Aa ?_)))
    first | refine St rfl (rfl) ?_ | refine Bo Ai ?_
    refine Ah ?_; refine D6 12 rfl rfl ?_; refine Ws (X := Nat × Nat) (fun x => [(1, .pointer (some ⟨b1, 0, none⟩)), (2, .pointer (some ⟨b2, 0, none⟩)), (3, .bool false), (9, .pointer (some ⟨x.1, 0, none⟩)), (10, .pointer (some ⟨x.2, 0, none⟩))]) (fun x => J0) (fun x => [(x.2, .cells [.string (str b.tree.atom), .slice (oaf 2) b.tree.parts.length (cf 2)].toArray 49 (0, 0)), (x.1, .cells [.string (str a.tree.atom), .slice (oaf 1) a.tree.parts.length (cf 1)].toArray 49 (0, 0))]) (fun x => True) ?_ ?_
    ·rintro ⟨b9, b10⟩ -
     simp only [List.cons_append, List.nil_append]
     refine Se rfl ?_; refine Gr rfl .free rfl ?_; refine Ca rfl (B8 (hf.as 1 a.tree Ab rfl) _) ?_; rintro _ _ _ _ ⟨rfl, rfl, rfl⟩; refine Om rfl ?_
     apply Cp 64 67 rfl
     ·intro g15_3 hk
      try simp only [nb] at g15_3
      refine Gr rfl (.met rfl rfl) rfl ?_; refine Cq rfl (.met rfl rfl) rfl (B8 (hf.as 2 b.tree Ab rfl) _) ?_; rintro _ _ _ _ ⟨rfl, rfl, rfl⟩; refine Ot rfl rfl ?_
      exact Av 2 rfl rfl hk
     ·intro _ hk; refine A0 2 rfl ?_; refine Of rfl rfl ?_
      exact Av 2 rfl rfl hk
     refine Aa ?_; refine Ay rfl ?_ ?_
     ·intro c5
      try simp only [nb] at c5
      have hbb : a.tree.parts.isEmpty = true ∧ b.tree.parts.isEmpty = true := by simpa using c5
      obtain ⟨p, rfl⟩ := Jg hbb.1 hva; obtain ⟨q, rfl⟩ := Jg hbb.2 hvb; refine Ah ?_; refine D6 10 rfl rfl ?_; refine Dt 0 [8] rfl (C7 rfl) ?_
      first | refine Da 2 rfl (Ao rfl) ?_ | refine Da 2 rfl (Bf rfl) ?_
      refine Dt 3 [8] rfl (Wm rfl) ?_
      first | refine Da 4 rfl (Ao rfl) ?_ | refine Da 4 rfl (Bf rfl) ?_
      refine Dt 5 [8] rfl (Wm rfl) ?_; refine Dc 1 rfl rfl (Bq hf.rep _) ?_; rintro _ _ _ _ ⟨rfl, rfl, rfl⟩; refine Hx ?_; refine Dc 6 rfl rfl (Ns ht .mul (a := p) (b := q) hok.1 hok.2 _) ?_; rintro _ _ _ _ ⟨rfl, rfl, rfl⟩; refine Hx ?_; refine Dc 7 rfl rfl (Qr (Ky .mul p q) (Kz _ _ _) _ _) ?_; rintro _ _ _ _ ⟨rfl, rfl, rfl⟩; refine Hx ?_; refine Dx 8 rfl rfl rfl rfl ?_; refine Db 9 rfl (A5 rfl) ?_; refine Aw Ac ?_; refine Ak (.c rfl (.tmp rfl .nil)) ?_; refine ⟨_, L, hle, Bt, .node (Ky .mul p q) [], _, by rw [hturn]; rfl, .ofAtom (Kz _ _ _), fun e' he' => ?_, rfl⟩; rw [hturn] at he'
      obtain rfl := Option.some.inj he'
      rfl
     intro c5
     try simp only [nb] at c5
     have hno : (Ex.bin .mul a b).turn = none := by
      cases hty : (Ex.bin .mul a b).turn with
      | none => rfl
      | some e' =>
       rcases Is hty with ⟨f, y, s, t, g, ho, rfl, rfl⟩ | ⟨p, q, ho, rfl, rfl, rfl⟩
       ·cases ho
       ·exact absurd c5 (by simp [Ex.tree, Tree.parts])
     refine Aj (Ar (Se rfl ?_)); refine B6 rfl rfl rfl .free rfl ?_; refine Bu rfl rfl rfl rfl .free ?_; refine Oa rfl (Aa ?_); refine Ak (.c rfl (.tmp rfl .nil)) ?_
     exact ⟨_, L, hle, Bt, SP.none' (by rw [hturn, hno])⟩
    ·intro hkk
     skip
     refine Da 0 rfl (Ao rfl) ?_; refine Dt 1 [10] rfl (By rfl) ?_
     first | refine Da 2 rfl (Br rfl rfl 1 rfl) ?_ | refine Da 2 rfl (Bs rfl rfl 1 rfl) ?_
     refine Dt 3 [10] rfl (Bx rfl) ?_; refine Da 4 rfl (Ao rfl) ?_; refine Mb 5 8 9 Ac ?_ ?_ ?_
     ·skip
      refine D5 5 rfl rfl (By rfl) .free rfl (.inr At) ?_
      first | refine Da 6 rfl (Br rfl rfl 2 rfl) ?_ | refine Da 6 rfl (Bs rfl rfl 2 rfl) ?_
      refine Mb 7 8 9 Ac ?_ ?_ ?_
      ·skip
       refine D5 7 rfl rfl (Bx rfl) .free rfl (.inr At) ?_; refine Dj 8 9 Ac ?_ ?_
       ·skip
        refine Ct 8 rfl rfl .free rfl (.inr At) ?_; intro b9; refine Er 9 rfl Ac rfl .free rfl (.inr At) ?_; intro b10; refine Dx 10 rfl rfl rfl rfl ?_; refine Dx 11 rfl rfl rfl rfl ?_; refine Aw Ac ?_
        exact Bw (E' := [(1, _), (2, _), (3, _), (9, _), (10, _)]) ⟨rfl, rfl, rfl, rfl, rfl, trivial⟩ (Bk Bg (hkk ⟨b9, b10⟩ trivial))
       ·skip
        refine Ct 9 rfl rfl .free rfl (.inr At) ?_; intro b10; refine Er 8 rfl Ac rfl .free rfl (.inr At) ?_; intro b9; refine Dx 10 rfl rfl rfl rfl ?_; refine Dx 11 rfl rfl rfl rfl ?_; refine Aw Ac ?_
        exact Bw (E' := [(1, _), (2, _), (3, _), (9, _), (10, _)]) ⟨rfl, rfl, rfl, rfl, rfl, trivial⟩ (Bk Bg (hkk ⟨b9, b10⟩ trivial))
      ·skip
       refine Ct 8 rfl rfl .free rfl (.inr At) ?_; intro b9; refine Dj 7 9 Ac ?_ ?_
       ·skip
        refine D5 7 rfl rfl (Bx rfl) .free rfl (.inr At) ?_; refine Er 9 rfl Ac rfl .free rfl (.inr At) ?_; intro b10; refine Dx 10 rfl rfl rfl rfl ?_; refine Dx 11 rfl rfl rfl rfl ?_; refine Aw Ac ?_
        exact Bw (E' := [(1, _), (2, _), (3, _), (9, _), (10, _)]) ⟨rfl, rfl, rfl, rfl, rfl, trivial⟩ (Bk Bg (hkk ⟨b9, b10⟩ trivial))
       ·skip
        refine Ct 9 rfl rfl .free rfl (.inr At) ?_; intro b10; refine Dj 7 10 Ac ?_ ?_
        ·skip
         refine D5 7 rfl rfl (Bx rfl) .free rfl (.inr At) ?_; refine Dx 10 rfl rfl rfl rfl ?_; refine Dx 11 rfl rfl rfl rfl ?_; refine Aw Ac ?_
         exact Bw (E' := [(1, _), (2, _), (3, _), (9, _), (10, _)]) ⟨rfl, rfl, rfl, rfl, rfl, trivial⟩ (Bk Bg (hkk ⟨b9, b10⟩ trivial))
        ·skip
         refine I5 10 rfl rfl rfl rfl rfl rfl .free (.inl Ac) ?_; refine Fl 7 rfl Ac rfl (Bx rfl) .free rfl (.inl Ac) ?_; refine Dx 11 rfl rfl rfl rfl ?_; refine Aw Ac ?_
         exact Bw (E' := [(1, _), (2, _), (3, _), (9, _), (10, _)]) ⟨rfl, rfl, rfl, rfl, rfl, trivial⟩ (Bk Bg (hkk ⟨b9, b10⟩ trivial))
      ·skip
       refine Ct 9 rfl rfl .free rfl (.inr At) ?_; intro b10; refine Dj 7 8 Ac ?_ ?_
       ·skip
        refine D5 7 rfl rfl (Bx rfl) .free rfl (.inr At) ?_; refine Er 8 rfl Ac rfl .free rfl (.inr At) ?_; intro b9; refine Dx 10 rfl rfl rfl rfl ?_; refine Dx 11 rfl rfl rfl rfl ?_; refine Aw Ac ?_
        exact Bw (E' := [(1, _), (2, _), (3, _), (9, _), (10, _)]) ⟨rfl, rfl, rfl, rfl, rfl, trivial⟩ (Bk Bg (hkk ⟨b9, b10⟩ trivial))
       ·skip
        refine Ct 8 rfl rfl .free rfl (.inr At) ?_; intro b9; refine Dj 7 10 Ac ?_ ?_
        ·skip
         refine D5 7 rfl rfl (Bx rfl) .free rfl (.inr At) ?_; refine Dx 10 rfl rfl rfl rfl ?_; refine Dx 11 rfl rfl rfl rfl ?_; refine Aw Ac ?_
         exact Bw (E' := [(1, _), (2, _), (3, _), (9, _), (10, _)]) ⟨rfl, rfl, rfl, rfl, rfl, trivial⟩ (Bk Bg (hkk ⟨b9, b10⟩ trivial))
        ·skip
         refine I5 10 rfl rfl rfl rfl rfl rfl .free (.inl Ac) ?_; refine Fl 7 rfl Ac rfl (Bx rfl) .free rfl (.inl Ac) ?_; refine Dx 11 rfl rfl rfl rfl ?_; refine Aw Ac ?_
         exact Bw (E' := [(1, _), (2, _), (3, _), (9, _), (10, _)]) ⟨rfl, rfl, rfl, rfl, rfl, trivial⟩ (Bk Bg (hkk ⟨b9, b10⟩ trivial))
     ·skip
      refine Ct 8 rfl rfl .free rfl (.inr At) ?_; intro b9; refine Dj 5 9 Ac ?_ ?_
      ·skip
       refine D5 5 rfl rfl (By rfl) .free rfl (.inr At) ?_
       first | refine Da 6 rfl (Br rfl rfl 2 rfl) ?_ | refine Da 6 rfl (Bs rfl rfl 2 rfl) ?_
       refine Dj 7 9 Ac ?_ ?_
       ·skip
        refine D5 7 rfl rfl (Bx rfl) .free rfl (.inr At) ?_; refine Er 9 rfl Ac rfl .free rfl (.inr At) ?_; intro b10; refine Dx 10 rfl rfl rfl rfl ?_; refine Dx 11 rfl rfl rfl rfl ?_; refine Aw Ac ?_
        exact Bw (E' := [(1, _), (2, _), (3, _), (9, _), (10, _)]) ⟨rfl, rfl, rfl, rfl, rfl, trivial⟩ (Bk Bg (hkk ⟨b9, b10⟩ trivial))
       ·skip
        refine Ct 9 rfl rfl .free rfl (.inr At) ?_; intro b10; refine Dj 7 10 Ac ?_ ?_
        ·skip
         refine D5 7 rfl rfl (Bx rfl) .free rfl (.inr At) ?_; refine Dx 10 rfl rfl rfl rfl ?_; refine Dx 11 rfl rfl rfl rfl ?_; refine Aw Ac ?_
         exact Bw (E' := [(1, _), (2, _), (3, _), (9, _), (10, _)]) ⟨rfl, rfl, rfl, rfl, rfl, trivial⟩ (Bk Bg (hkk ⟨b9, b10⟩ trivial))
        ·skip
         refine I5 10 rfl rfl rfl rfl rfl rfl .free (.inl Ac) ?_; refine Fl 7 rfl Ac rfl (Bx rfl) .free rfl (.inl Ac) ?_; refine Dx 11 rfl rfl rfl rfl ?_; refine Aw Ac ?_
         exact Bw (E' := [(1, _), (2, _), (3, _), (9, _), (10, _)]) ⟨rfl, rfl, rfl, rfl, rfl, trivial⟩ (Bk Bg (hkk ⟨b9, b10⟩ trivial))
      ·skip
       refine Ct 9 rfl rfl .free rfl (.inr At) ?_; intro b10; refine Dj 5 10 Ac ?_ ?_
       ·skip
        refine D5 5 rfl rfl (By rfl) .free rfl (.inr At) ?_
        first | refine Da 6 rfl (Br rfl rfl 2 rfl) ?_ | refine Da 6 rfl (Bs rfl rfl 2 rfl) ?_
        refine Dj 7 10 Ac ?_ ?_
        ·skip
         refine D5 7 rfl rfl (Bx rfl) .free rfl (.inr At) ?_; refine Dx 10 rfl rfl rfl rfl ?_; refine Dx 11 rfl rfl rfl rfl ?_; refine Aw Ac ?_
         exact Bw (E' := [(1, _), (2, _), (3, _), (9, _), (10, _)]) ⟨rfl, rfl, rfl, rfl, rfl, trivial⟩ (Bk Bg (hkk ⟨b9, b10⟩ trivial))
        ·skip
         refine I5 10 rfl rfl rfl rfl rfl rfl .free (.inl Ac) ?_; refine Fl 7 rfl Ac rfl (Bx rfl) .free rfl (.inl Ac) ?_; refine Dx 11 rfl rfl rfl rfl ?_; refine Aw Ac ?_
         exact Bw (E' := [(1, _), (2, _), (3, _), (9, _), (10, _)]) ⟨rfl, rfl, rfl, rfl, rfl, trivial⟩ (Bk Bg (hkk ⟨b9, b10⟩ trivial))
       ·skip
        refine I5 10 rfl rfl rfl rfl rfl rfl .free (.inl Ac) ?_; refine Fl 5 rfl Ac rfl (By rfl) .free rfl (.inl Ac) ?_
        first | refine Db 6 rfl (Br rfl rfl 2 rfl) ?_ | refine Db 6 rfl (Bs rfl rfl 2 rfl) ?_
        refine Fl 7 rfl Ac rfl (Bx rfl) .free rfl (.inl Ac) ?_; refine Dx 11 rfl rfl rfl rfl ?_; refine Aw Ac ?_
        exact Bw (E' := [(1, _), (2, _), (3, _), (9, _), (10, _)]) ⟨rfl, rfl, rfl, rfl, rfl, trivial⟩ (Bk Bg (hkk ⟨b9, b10⟩ trivial))
     ·skip
      refine Ct 9 rfl rfl .free rfl (.inr At) ?_; intro b10; refine Dj 5 8 Ac ?_ ?_
      ·skip
       refine D5 5 rfl rfl (By rfl) .free rfl (.inr At) ?_
       first | refine Da 6 rfl (Br rfl rfl 2 rfl) ?_ | refine Da 6 rfl (Bs rfl rfl 2 rfl) ?_
       refine Dj 7 8 Ac ?_ ?_
       ·skip
        refine D5 7 rfl rfl (Bx rfl) .free rfl (.inr At) ?_; refine Er 8 rfl Ac rfl .free rfl (.inr At) ?_; intro b9; refine Dx 10 rfl rfl rfl rfl ?_; refine Dx 11 rfl rfl rfl rfl ?_; refine Aw Ac ?_
        exact Bw (E' := [(1, _), (2, _), (3, _), (9, _), (10, _)]) ⟨rfl, rfl, rfl, rfl, rfl, trivial⟩ (Bk Bg (hkk ⟨b9, b10⟩ trivial))
       ·skip
        refine Ct 8 rfl rfl .free rfl (.inr At) ?_; intro b9; refine Dj 7 10 Ac ?_ ?_
        ·skip
         refine D5 7 rfl rfl (Bx rfl) .free rfl (.inr At) ?_; refine Dx 10 rfl rfl rfl rfl ?_; refine Dx 11 rfl rfl rfl rfl ?_; refine Aw Ac ?_
         exact Bw (E' := [(1, _), (2, _), (3, _), (9, _), (10, _)]) ⟨rfl, rfl, rfl, rfl, rfl, trivial⟩ (Bk Bg (hkk ⟨b9, b10⟩ trivial))
        ·skip
         refine I5 10 rfl rfl rfl rfl rfl rfl .free (.inl Ac) ?_; refine Fl 7 rfl Ac rfl (Bx rfl) .free rfl (.inl Ac) ?_; refine Dx 11 rfl rfl rfl rfl ?_; refine Aw Ac ?_
         exact Bw (E' := [(1, _), (2, _), (3, _), (9, _), (10, _)]) ⟨rfl, rfl, rfl, rfl, rfl, trivial⟩ (Bk Bg (hkk ⟨b9, b10⟩ trivial))
      ·skip
       refine Ct 8 rfl rfl .free rfl (.inr At) ?_; intro b9; refine Dj 5 10 Ac ?_ ?_
       ·skip
        refine D5 5 rfl rfl (By rfl) .free rfl (.inr At) ?_
        first | refine Da 6 rfl (Br rfl rfl 2 rfl) ?_ | refine Da 6 rfl (Bs rfl rfl 2 rfl) ?_
        refine Dj 7 10 Ac ?_ ?_
        ·skip
         refine D5 7 rfl rfl (Bx rfl) .free rfl (.inr At) ?_; refine Dx 10 rfl rfl rfl rfl ?_; refine Dx 11 rfl rfl rfl rfl ?_; refine Aw Ac ?_
         exact Bw (E' := [(1, _), (2, _), (3, _), (9, _), (10, _)]) ⟨rfl, rfl, rfl, rfl, rfl, trivial⟩ (Bk Bg (hkk ⟨b9, b10⟩ trivial))
        ·skip
         refine I5 10 rfl rfl rfl rfl rfl rfl .free (.inl Ac) ?_; refine Fl 7 rfl Ac rfl (Bx rfl) .free rfl (.inl Ac) ?_; refine Dx 11 rfl rfl rfl rfl ?_; refine Aw Ac ?_
         exact Bw (E' := [(1, _), (2, _), (3, _), (9, _), (10, _)]) ⟨rfl, rfl, rfl, rfl, rfl, trivial⟩ (Bk Bg (hkk ⟨b9, b10⟩ trivial))
       ·skip
        refine I5 10 rfl rfl rfl rfl rfl rfl .free (.inl Ac) ?_; refine Fl 5 rfl Ac rfl (By rfl) .free rfl (.inl Ac) ?_
        first | refine Db 6 rfl (Br rfl rfl 2 rfl) ?_ | refine Db 6 rfl (Bs rfl rfl 2 rfl) ?_
        refine Fl 7 rfl Ac rfl (Bx rfl) .free rfl (.inl Ac) ?_; refine Dx 11 rfl rfl rfl rfl ?_; refine Aw Ac ?_
        exact Bw (E' := [(1, _), (2, _), (3, _), (9, _), (10, _)]) ⟨rfl, rfl, rfl, rfl, rfl, trivial⟩ (Bk Bg (hkk ⟨b9, b10⟩ trivial))
   ·skip
    refine Al rfl ?_; refine A8 rfl .free rfl ?_; refine Ca rfl (Bq hf.rep _) ?_; rintro _ _ _ _ ⟨rfl, rfl, rfl⟩; rw [show (Ex.bin .call a b).tree.head = [99, 97, 108, 108] from rfl]
    have hturn : (Ex.bin .call a b).step = (Ex.bin .call a b).turn := by simp only [Ex.step, hva, hvb, Bool.true_eq_false, if_false]
    refine Aa (Aq (Ah (Se rfl (Od rfl rfl rfl (Oa rfl (Aa ?_))))))
    first | refine Sf rfl Ad ?_ | refine As Ai ?_
    refine Se rfl (Od rfl rfl rfl (Oa rfl (Aa ?_)))
    first | refine Sf rfl Ad ?_ | refine As Ai ?_
    refine Al rfl (Od rfl rfl rfl (Oa rfl (Aa ?_)))
    first | refine Sf rfl Ad ?_ | refine As Ai ?_
    refine Se rfl (Od rfl rfl rfl (Oa rfl (Aa ?_)))
    first | refine Sf rfl Ad ?_ | refine As Ai ?_
    refine Se rfl (Od rfl rfl rfl (Oa rfl (Aa ?_)))
    first | refine Sf rfl Ad ?_ | refine As Ai ?_
    refine Se rfl (Od rfl rfl rfl (Oa rfl (Aa ?_)))
    first | refine St rfl (rfl) ?_ | refine Bo Ai ?_
    refine Se rfl (Oh rfl ?_); refine A4 rfl .free rfl ?_
    first | refine Ba rfl rfl 1 rfl .free rfl ?_ | refine Bb rfl rfl 1 rfl .free rfl ?_
    refine E1 rfl .free rfl ?_; refine A3 .free rfl ?_; intro b12; refine Bu rfl rfl rfl rfl .free ?_; refine Aa (Se rfl ?_); refine A8 rfl .free rfl ?_; refine Ca rfl (Bq (hf.as 1 a.tree Ab rfl) _) ?_; rintro _ _ _ _ ⟨rfl, rfl, rfl⟩; refine Od rfl rfl rfl (Aa ?_); refine Ay rfl ?_ ?_
    ·intro c11
     try simp only [nb] at c11
     obtain ⟨f, y, s, t, g, rfl⟩ := Ex.of_fun (show a.tree.head = Dz from c11)
     have hra := hf.as 1 (Ex.fn f y s t g).tree Ab rfl
     obtain ⟨oa2, c2, oaf2, cf2, he2, hf2⟩ := hra.at'
     simp only [List.cons.injEq, Value.slice.injEq, and_true, true_and] at he2
     obtain ⟨rfl, rfl⟩ := he2; obtain ⟨xa2, hxa2⟩ : ∃ x, oaf 1 = some x := ⟨_, C3 hf2.nil (show 0 < 6 by decide)⟩
     have hok2 := hok.1
     simp only [Ex.ok, Bool.and_eq_true, decide_eq_true_eq] at hok2
     have hl2 : (Ex.fn f y s t g).tree.parts.length = 6 := rfl
     refine Ah ?_; refine D6 23 rfl rfl ?_; refine Da 0 rfl (Ao rfl) ?_; refine Dt 1 [21] rfl (By rfl) ?_
     first | refine Da 2 rfl (Br rfl rfl 5 rfl) ?_ | refine Da 2 rfl (Bs rfl rfl 5 rfl) ?_
     refine Dt 3 [21] rfl (Bx rfl) ?_; refine Da 4 rfl (Ao rfl) ?_; refine Dt 5 [21] rfl (By rfl) ?_
     first | refine Da 6 rfl (Br rfl rfl 1 rfl) ?_ | refine Da 6 rfl (Bs rfl rfl 1 rfl) ?_
     refine Da 7 rfl (Bf rfl) ?_; refine Dt 8 [21] rfl (Ki rfl) ?_; refine Dt 9 [21] rfl (C7 rfl) ?_; refine Da 11 rfl (Ao rfl) ?_; refine Dt 12 [21] rfl (By rfl) ?_
     first | refine Da 13 rfl (Br rfl rfl 2 rfl) ?_ | refine Da 13 rfl (Bs rfl rfl 2 rfl) ?_
     refine Da 14 rfl (Bf rfl) ?_; refine Dt 15 [21] rfl (Ki rfl) ?_; refine Da 16 rfl (Ao rfl) ?_; refine Dt 17 [21] rfl (By rfl) ?_
     first | refine Da 18 rfl (Br rfl rfl 2 rfl) ?_ | refine Da 18 rfl (Bs rfl rfl 2 rfl) ?_
     refine Dt 19 [21] rfl (Bx rfl) ?_; refine Dc 10 rfl rfl (M3 _ (Nat.lt_succ_self _) (hf2.as 5 g.tree Ab rfl) hok2.2 f hok2.1.1.1.1.1 hra _) ?_; rintro _ J2 _ e2 ⟨cs2, rfl, hr2, rfl⟩; obtain ⟨o2, k2, _, rfl, -⟩ := hr2.open
     have hf := hf.mono e2
     have hf2 := hf2.mono e2
     have hle := hle.trans e2
     refine Hx ?_; refine Dc 20 rfl rfl (M3 _ (Nat.lt_succ_self _) hr2 (Ex.put_ok hok2.2 hok.1) y hok2.1.1.1.1.2 (hf.as 2 b.tree Ab rfl) _) ?_; rintro _ J3 _ e3 ⟨cs3, rfl, hr3, rfl⟩; obtain ⟨o3, k3, _, rfl, -⟩ := hr3.open
     have hle := hle.trans e3
     have e23 := e2.trans e3
     refine Hx ?_; refine Dx 21 rfl rfl rfl rfl ?_; refine Db 22 rfl (A5 rfl) ?_; refine Aw Ac ?_; refine Ak (.c rfl (.tmp rfl .nil)) ?_; refine ⟨_, L, hle, Bt, ((g.put f (.fn f y s t g)).put y b).tree, _, by rw [hturn]; rfl, hr3, fun e' he' => ?_, rfl⟩; rw [hturn] at he'; obtain rfl := Option.some.inj he'
     rfl
    intro c11
    try simp only [nb] at c11
    have hno : (Ex.bin .call a b).turn = none := by
     cases hty : (Ex.bin .call a b).turn with
     | none => rfl
     | some e' =>
      rcases Is hty with ⟨f, y, s, t, g, ho, rfl, rfl⟩ | ⟨p, q, ho, rfl, rfl, rfl⟩
      ·exact absurd rfl c11
      ·cases ho
    refine Aj (Ar (Se rfl ?_)); refine B6 rfl rfl rfl .free rfl ?_; refine Bu rfl rfl rfl rfl .free ?_; refine Oa rfl (Aa ?_); refine Ak (.c rfl (.tmp rfl .nil)) ?_
    exact ⟨_, L, hle, Bt, SP.none' (by rw [hturn, hno])⟩
   ·skip
    refine Al rfl ?_; refine A8 rfl .free rfl ?_; refine Ca rfl (Bq hf.rep _) ?_; rintro _ _ _ _ ⟨rfl, rfl, rfl⟩; rw [show (Ex.bin .pair a b).tree.head = [112, 97, 105, 114] from rfl]
    have hturn : (Ex.bin .pair a b).step = (Ex.bin .pair a b).turn := by simp only [Ex.step, hva, hvb, Bool.true_eq_false, if_false]
    refine Aa (Aq (Ah (Se rfl (Od rfl rfl rfl (Oa rfl (Aa ?_))))))
    first | refine Sf rfl Ad ?_ | refine As Ai ?_
    refine Se rfl (Od rfl rfl rfl (Oa rfl (Aa ?_)))
    first | refine Sf rfl Ad ?_ | refine As Ai ?_
    refine Al rfl (Od rfl rfl rfl (Oa rfl (Aa ?_)))
    first | refine Sf rfl Ad ?_ | refine As Ai ?_
    refine Se rfl (Od rfl rfl rfl (Oa rfl (Aa ?_)))
    first | refine Sf rfl Ad ?_ | refine As Ai ?_
    refine Se rfl (Od rfl rfl rfl (Oa rfl (Aa ?_)))
    first | refine Sf rfl Ad ?_ | refine As Ai ?_
    refine Se rfl (Od rfl rfl rfl (Oa rfl (Aa ?_)))
    first | refine Sf rfl Ad ?_ | refine As Ai ?_
    refine Ah (Se rfl (Od rfl rfl rfl (Oa rfl (Aa ?_))))
    first | refine Sf rfl Ad ?_ | refine As Ai ?_
    refine Al rfl (Od rfl rfl rfl (Oa rfl (Aa ?_)))
    first | refine Sf rfl Ad ?_ | refine As Ai ?_
    refine Aj (Ar (Ah ?_))
    have hno : (Ex.bin .pair a b).turn = none := by
     first
      | rfl
      | (cases a <;> first | rfl | (cases b <;> rfl))
    refine Al rfl ?_; refine B6 rfl rfl rfl .free rfl ?_; refine Bu rfl rfl rfl rfl .free ?_; refine Oa rfl (Aa ?_); refine Ak (.c rfl (.tmp rfl .nil)) ?_
    exact ⟨_, L, hle, Bt, SP.none' (by rw [hturn, hno])⟩
  intro c1
  try simp only [nb] at c1
  have hvb : b.value = false := by simpa using c1
  have hst : (Ex.bin o a b).step = b.step.map fun q => .bin o a q := by simp only [Ex.step, hva, Bool.true_eq_false, if_false, hvb, if_true]
  refine Aj (Se rfl (Oh rfl ?_)); refine A4 rfl .free rfl ?_; refine Om rfl ?_
  first | refine Ba rfl rfl _ rfl .free rfl ?_ | refine Bb rfl rfl _ rfl .free rfl ?_
  refine E1 rfl .free rfl ?_; refine Ca rfl (ihn ht Ab (hf.as 2 b.tree Ab rfl) hok.2 _) ?_; rintro _ J1 _ e1 ⟨t1, cs1, rfl, hr, hte, rfl⟩; obtain ⟨o1, k1, _, rfl, -⟩ := hr.open
  have hf := hf.mono e1
  have hle := hle.trans e1
  have hk := hk.mono e1
  refine Om rfl (Oe rfl rfl (Oe rfl rfl ?_)); refine A3 .free rfl ?_; intro b6; refine Bu rfl rfl rfl rfl .free ?_; refine Oa rfl (Aa (Se rfl (Oh rfl ?_))); refine A4 rfl .free rfl ?_; refine Ca rfl (F7 ((hcs _ rfl).mono hle) (by have := hcl.length; omega) hcl.plain hpos hp _) ?_; rintro _ _ _ _ ⟨bc, sp, cc, rfl, hcc, rfl, rfl⟩
  simp only [show (Ex.bin o a b).tree.parts = [.node o.txt [], a.tree, b.tree] from rfl, E3, List.cons_append, List.nil_append]
  refine B6 rfl rfl rfl .free rfl ?_; refine A3 .free rfl ?_; intro b8; refine Bu rfl rfl rfl rfl .free ?_; refine Aa (Se rfl (Oh rfl ?_)); refine A4 rfl .free rfl ?_; refine Om rfl ?_; refine A8 rfl .free rfl ?_
  first | refine Ba rfl rfl _ rfl .free rfl ?_ | refine Bb rfl rfl _ rfl .free rfl ?_
  refine Bu rfl rfl rfl rfl .free ?_; refine Aa (Se rfl ?_); refine A8 rfl .free rfl ?_; refine Om rfl ?_; refine Bu rfl rfl rfl rfl .free ?_; refine Oa rfl (Aa ?_); refine Bk (fun w h => h.f1) (Bn ?_); intro hz
  have hf := hf.mono hz
  refine Ak (.c rfl (.tmp rfl .nil)) ?_; refine ⟨_, L, hle.trans hz, Bt, .node [] [.node o.txt [], a.tree, t1], [.string (str []), .slice (some ⟨bc, 0, none⟩) (Ex.bin o a b).tree.parts.length cc], ?_, .mk' rfl (.cons (hf.as 0 (.node o.txt []) Ab rfl) (.cons (hf.as 1 (a.tree) Ab rfl) (.cons (hr.mono hz) (.nil)))) (fun y hy => by cases hy; exact Bi (xs := [_, _, _, _, _, _])) Af hcc Eh hp, ?_, rfl⟩
  ·rw [Hd hst]; rfl
  ·intro e' he'; rw [hst] at he'; obtain ⟨q, hq, rfl⟩ := Option.map_eq_some_iff.1 he'; rw [hte q hq]; rfl
 intro c1
 try simp only [nb] at c1
 have hva : a.value = false := by simpa using c1
 have hst : (Ex.bin o a b).step = a.step.map fun q => .bin o q b := by simp only [Ex.step, hva, if_true]
 refine Aj (Se rfl (Oh rfl ?_)); refine A4 rfl .free rfl ?_; refine Om rfl ?_
 first | refine Ba rfl rfl _ rfl .free rfl ?_ | refine Bb rfl rfl _ rfl .free rfl ?_
 refine E1 rfl .free rfl ?_; refine Ca rfl (ihn ht Ab (hf.as 1 a.tree Ab rfl) hok.1 _) ?_; rintro _ J1 _ e1 ⟨t1, cs1, rfl, hr, hte, rfl⟩; obtain ⟨o1, k1, _, rfl, -⟩ := hr.open
 have hf := hf.mono e1
 have hle := hle.trans e1
 have hk := hk.mono e1
 refine Om rfl (Oe rfl rfl (Oe rfl rfl ?_)); refine A3 .free rfl ?_; intro b6; refine Bu rfl rfl rfl rfl .free ?_; refine Oa rfl (Aa (Se rfl (Oh rfl ?_))); refine A4 rfl .free rfl ?_; refine Ca rfl (F7 ((hcs _ rfl).mono hle) (by have := hcl.length; omega) hcl.plain hpos hp _) ?_; rintro _ _ _ _ ⟨bc, sp, cc, rfl, hcc, rfl, rfl⟩
 simp only [show (Ex.bin o a b).tree.parts = [.node o.txt [], a.tree, b.tree] from rfl, E3, List.cons_append, List.nil_append]
 refine B6 rfl rfl rfl .free rfl ?_; refine A3 .free rfl ?_; intro b8; refine Bu rfl rfl rfl rfl .free ?_; refine Aa (Se rfl (Oh rfl ?_)); refine A4 rfl .free rfl ?_; refine Om rfl ?_; refine A8 rfl .free rfl ?_
 first | refine Ba rfl rfl _ rfl .free rfl ?_ | refine Bb rfl rfl _ rfl .free rfl ?_
 refine Bu rfl rfl rfl rfl .free ?_; refine Aa (Se rfl ?_); refine A8 rfl .free rfl ?_; refine Om rfl ?_; refine Bu rfl rfl rfl rfl .free ?_; refine Oa rfl (Aa ?_); refine Bk (fun w h => h.f1) (Bn ?_); intro hz
 have hf := hf.mono hz
 refine Ak (.c rfl (.tmp rfl .nil)) ?_; refine ⟨_, L, hle.trans hz, Bt, .node [] [.node o.txt [], t1, b.tree], [.string (str []), .slice (some ⟨bc, 0, none⟩) (Ex.bin o a b).tree.parts.length cc], ?_, .mk' rfl (.cons (hf.as 0 (.node o.txt []) Ab rfl) (.cons (hr.mono hz) (.cons (hf.as 2 (b.tree) Ab rfl) (.nil)))) (fun y hy => by cases hy; exact Bi (xs := [_, _, _, _, _, _])) Af hcc Eh hp, ?_, rfl⟩
 ·rw [Hd hst]; rfl
 ·intro e' he'; rw [hst] at he'; obtain ⟨q, hq, rfl⟩ := Option.map_eq_some_iff.1 he'; rw [hte q hq]; rfl
set_option maxHeartbeats 1000000 in
theorem Y5 {N : Nat} (ihn : Rx N) {a b d : Ex} {I : Heap} (ht : Tab I) {cs : List Value} (hlt : SizeOf.sizeOf (Ex.ite a b d) < N + 1) (h : Rep I (Ex.ite a b d).tree cs) (hok : (Ex.ite a b d).ok = true) (L : Bm) :
  Fun Tryz.prog 66 [.agg cs.toArray] I L (SP (Ex.ite a b d).step L) := by
 obtain ⟨oa, c, oaf, cf, rfl, hf, hcl, hcs⟩ := h.cells
 have hpos : 0 < (Ex.ite a b d).tree.parts.length := by show 0 < 4; decide
 obtain ⟨xa, rfl⟩ : ∃ xa, oa = some xa := ⟨_, C3 hf.nil hpos⟩
 have hlen : (Ex.ite a b d).tree.parts.length = 4 := rfl
 have hp := hf.len
 have hev : Uq (Ex.ite a b d).tree = [1] := rfl
 simp only [Ex.ite.sizeOf_spec] at hlt
 have hok0 := hok
 simp only [Ex.ok, Bool.and_eq_true, decide_eq_true_eq] at hok
 obtain ⟨_, hrl⟩ : ∃ _ : True, RepL I (Ex.ite a b d).tree.parts _ := ⟨trivial, hcl⟩
 simp only [show (Ex.ite a b d).tree.parts = [.node Gs [], a.tree, b.tree, d.tree] from rfl, E3, List.cons_append, List.nil_append] at hrl
 refine Ap Af ?_; refine Se rfl ?_; refine Cg rfl rfl .free rfl ?_; intro b1; refine A3 .free rfl ?_; intro b2; refine Oa rfl (Aa (Ah (Se rfl ?_))); refine A8 rfl .free rfl ?_; refine Ca rfl (Dp hf.rep _) ?_; rintro _ J0 _ e0 ⟨ok, ck, rfl, hk, rfl⟩
 have hf := hf.mono e0
 have ht := ht.mono e0
 have hle := e0
 rw [hev] at hk; rw [hev]; refine On rfl (Om rfl (Aa (Aq ?_))); refine Ec ?_; refine Se rfl (Oc rfl rfl rfl (Aa (Ah ?_))); refine Cj rfl Bp ?_; refine Aj (Ah (Aq (Se rfl ?_)))
 first | refine Ba rfl rfl _ rfl .free rfl ?_ | refine Bb rfl rfl _ rfl .free rfl ?_
 refine Ev rfl .free rfl ?_; refine Oa rfl (Aa (Ah (Se rfl (Oh rfl ?_)))); refine A4 rfl .free rfl ?_; refine Om rfl ?_
 first | refine Ba rfl rfl _ rfl .free rfl ?_ | refine Bb rfl rfl _ rfl .free rfl ?_
 refine E1 rfl .free rfl ?_; refine Ca rfl (Fq _ (Nat.lt_succ_self _) (hf.as 1 a.tree Ab rfl) hok.1.1 _) ?_; rintro _ _ _ _ ⟨rfl, rfl, rfl⟩; refine Aa ?_; refine Ay rfl ?_ ?_
 ·intro c1
  try simp only [nb] at c1
  have hva : a.value = true := c1
  refine Cd rfl ?_; refine Al rfl ?_; refine Or rfl rfl rfl ?_; refine Om rfl (Aa ?_); refine Ce ?_; refine Se rfl (Oc rfl rfl rfl (Aa (Ah ?_))); refine Dh rfl Bp ?_; refine Cd rfl ?_; refine Ah (Se rfl ?_); refine A8 rfl .free rfl ?_; refine Ca rfl (Bq hf.rep _) ?_; rintro _ _ _ _ ⟨rfl, rfl, rfl⟩; rw [show (Ex.ite a b d).tree.head = [105, 102] from rfl]
  have hturn : (Ex.ite a b d).step = (Ex.ite a b d).turn := by simp only [Ex.step, hva, Bool.true_eq_false, if_false]
  refine Aa (Aq (Ah (Se rfl (Od rfl rfl rfl (Oa rfl (Aa ?_))))))
  first | refine Sf rfl Ad ?_ | refine As Ai ?_
  refine Se rfl (Od rfl rfl rfl (Oa rfl (Aa ?_)))
  first | refine Sf rfl Ad ?_ | refine As Ai ?_
  refine Al rfl (Od rfl rfl rfl (Oa rfl (Aa ?_)))
  first | refine Sf rfl Ad ?_ | refine As Ai ?_
  refine Se rfl (Od rfl rfl rfl (Oa rfl (Aa ?_)))
  first | refine St rfl (rfl) ?_ | refine Bo Ai ?_
  refine Se rfl (Oh rfl ?_); refine A4 rfl .free rfl ?_
  first | refine Ba rfl rfl 1 rfl .free rfl ?_ | refine Bb rfl rfl 1 rfl .free rfl ?_
  refine E1 rfl .free rfl ?_; refine A3 .free rfl ?_; intro b11; refine Bu rfl rfl rfl rfl .free ?_; refine Aa (Aq (Se rfl ?_)); refine A8 rfl .free rfl ?_; refine Ca rfl (B8 (hf.as 1 a.tree Ab rfl) _) ?_; rintro _ _ _ _ ⟨rfl, rfl, rfl⟩; refine C6 rfl .free rfl ?_; refine Oa rfl (Aa ?_); refine Ay rfl ?_ ?_
  ·intro c7
   try simp only [nb] at c7
   have hno : (Ex.ite a b d).turn = none := by
    cases hty : (Ex.ite a b d).turn with
    | none => rfl
    | some e' =>
     obtain ⟨p, rfl, rfl⟩ := L6 hty
     exact absurd c7 (by simp [Ex.tree, Tree.parts])
   refine Aj (Ar (Ar (Se rfl ?_))); refine B6 rfl rfl rfl .free rfl ?_; refine Bu rfl rfl rfl rfl .free ?_; refine Oa rfl (Aa ?_); refine Ak (.c rfl (.tmp rfl .nil)) ?_
   exact ⟨_, L, hle, Bt, SP.none' (by rw [hturn, hno])⟩
  intro c7
  try simp only [nb] at c7
  obtain ⟨p, rfl⟩ := Jg (show a.tree.parts.isEmpty = true by simpa using c7) hva; refine Se rfl (Oh rfl ?_); refine A4 rfl .free rfl ?_; refine Od rfl rfl rfl (Oa rfl (Aa ?_)); refine Ay rfl ?_ ?_
  ·intro c8
   try simp only [nb] at c8
   refine Se rfl (Oh rfl ?_); refine A4 rfl .free rfl ?_
   first | refine Ba rfl rfl 2 rfl .free rfl ?_ | refine Bb rfl rfl 2 rfl .free rfl ?_
   refine E1 rfl .free rfl ?_; refine Bu rfl rfl rfl rfl .free ?_; refine Oa rfl (Aa ?_); refine Ak (.c rfl (.tmp rfl .nil)) ?_; refine ⟨_, L, hle, Bt, b.tree, _, by rw [hturn]; rfl, hf.as 2 b.tree Ab rfl, fun e' he' => ?_, rfl⟩; rw [hturn] at he'; obtain rfl := Option.some.inj he'; rw [if_pos (show p = [48] from c8)]
  intro c8
  try simp only [nb] at c8
  refine Se rfl (Oh rfl ?_); refine A4 rfl .free rfl ?_
  first | refine Ba rfl rfl 3 rfl .free rfl ?_ | refine Bb rfl rfl 3 rfl .free rfl ?_
  refine E1 rfl .free rfl ?_; refine Bu rfl rfl rfl rfl .free ?_; refine Oa rfl (Aa ?_); refine Ak (.c rfl (.tmp rfl .nil)) ?_; refine ⟨_, L, hle, Bt, d.tree, _, by rw [hturn]; rfl, hf.as 3 d.tree Ab rfl, fun e' he' => ?_, rfl⟩; rw [hturn] at he'; obtain rfl := Option.some.inj he'; rw [if_neg (show ¬ p = [48] from c8)]
 intro c1
 try simp only [nb] at c1
 have hva : a.value = false := by simpa using c1
 have hst : (Ex.ite a b d).step = a.step.map fun q => .ite q b d := by simp only [Ex.step, hva, if_true]
 refine Aj (Se rfl (Oh rfl ?_)); refine A4 rfl .free rfl ?_; refine Om rfl ?_
 first | refine Ba rfl rfl _ rfl .free rfl ?_ | refine Bb rfl rfl _ rfl .free rfl ?_
 refine E1 rfl .free rfl ?_; refine Ca rfl (ihn ht Ab (hf.as 1 a.tree Ab rfl) hok.1.1 _) ?_; rintro _ J1 _ e1 ⟨t1, cs1, rfl, hr, hte, rfl⟩; obtain ⟨o1, k1, _, rfl, -⟩ := hr.open
 have hf := hf.mono e1
 have hle := hle.trans e1
 have hk := hk.mono e1
 refine Om rfl (Oe rfl rfl (Oe rfl rfl ?_)); refine A3 .free rfl ?_; intro b6; refine Bu rfl rfl rfl rfl .free ?_; refine Oa rfl (Aa (Se rfl (Oh rfl ?_))); refine A4 rfl .free rfl ?_; refine Ca rfl (F7 ((hcs _ rfl).mono hle) (by have := hcl.length; omega) hcl.plain hpos hp _) ?_; rintro _ _ _ _ ⟨bc, sp, cc, rfl, hcc, rfl, rfl⟩
 simp only [show (Ex.ite a b d).tree.parts = [.node Gs [], a.tree, b.tree, d.tree] from rfl, E3, List.cons_append, List.nil_append]
 refine B6 rfl rfl rfl .free rfl ?_; refine A3 .free rfl ?_; intro b8; refine Bu rfl rfl rfl rfl .free ?_; refine Aa (Se rfl (Oh rfl ?_)); refine A4 rfl .free rfl ?_; refine Om rfl ?_; refine A8 rfl .free rfl ?_
 first | refine Ba rfl rfl _ rfl .free rfl ?_ | refine Bb rfl rfl _ rfl .free rfl ?_
 refine Bu rfl rfl rfl rfl .free ?_; refine Aa (Se rfl ?_); refine A8 rfl .free rfl ?_; refine Om rfl ?_; refine Bu rfl rfl rfl rfl .free ?_; refine Oa rfl (Aa ?_); refine Bk (fun w h => h.f1) (Bn ?_); intro hz
 have hf := hf.mono hz
 refine Ak (.c rfl (.tmp rfl .nil)) ?_; refine ⟨_, L, hle.trans hz, Bt, .node [] [.node Gs [], t1, b.tree, d.tree], [.string (str []), .slice (some ⟨bc, 0, none⟩) (Ex.ite a b d).tree.parts.length cc], ?_, .mk' rfl (.cons (hf.as 0 (.node Gs []) Ab rfl) (.cons (hr.mono hz) (.cons (hf.as 2 (b.tree) Ab rfl) (.cons (hf.as 3 (d.tree) Ab rfl) (.nil))))) (fun y hy => by cases hy; exact Bi (xs := [_, _, _, _, _, _, _, _])) Af hcc Eh hp, ?_, rfl⟩
 ·rw [Hd hst]; rfl
 ·intro e' he'; rw [hst] at he'; obtain ⟨q, hq, rfl⟩ := Option.map_eq_some_iff.1 he'; rw [hte q hq]; rfl
set_option maxHeartbeats 1000000 in
theorem Aap {N : Nat} (ihn : Rx N) {z : Au} {a b : Ex} {I : Heap} (ht : Tab I) {cs : List Value} (hlt : SizeOf.sizeOf (Ex.lt z a b) < N + 1) (h : Rep I (Ex.lt z a b).tree cs) (hok : (Ex.lt z a b).ok = true) (L : Bm) :
  Fun Tryz.prog 66 [.agg cs.toArray] I L (SP (Ex.lt z a b).step L) := by
 obtain ⟨oa, c, oaf, cf, rfl, hf, hcl, hcs⟩ := h.cells
 have hpos : 0 < (Ex.lt z a b).tree.parts.length := by show 0 < 4; decide
 obtain ⟨xa, rfl⟩ : ∃ xa, oa = some xa := ⟨_, C3 hf.nil hpos⟩
 have hlen : (Ex.lt z a b).tree.parts.length = 4 := rfl
 have hp := hf.len
 have hev : Uq (Ex.lt z a b).tree = [2] := rfl
 simp only [Ex.lt.sizeOf_spec] at hlt
 have hok0 := hok
 simp only [Ex.ok, Bool.and_eq_true, decide_eq_true_eq] at hok
 obtain ⟨_, hrl⟩ : ∃ _ : True, RepL I (Ex.lt z a b).tree.parts _ := ⟨trivial, hcl⟩
 simp only [show (Ex.lt z a b).tree.parts = [.node D0 [], .node z [], a.tree, b.tree] from rfl, E3, List.cons_append, List.nil_append] at hrl
 refine Ap Af ?_; refine Se rfl ?_; refine Cg rfl rfl .free rfl ?_; intro b1; refine A3 .free rfl ?_; intro b2; refine Oa rfl (Aa (Ah (Se rfl ?_))); refine A8 rfl .free rfl ?_; refine Ca rfl (Dp hf.rep _) ?_; rintro _ J0 _ e0 ⟨ok, ck, rfl, hk, rfl⟩
 have hf := hf.mono e0
 have ht := ht.mono e0
 have hle := e0
 rw [hev] at hk; rw [hev]; refine On rfl (Om rfl (Aa (Aq ?_))); refine Ec ?_; refine Se rfl (Oc rfl rfl rfl (Aa (Ah ?_))); refine Cj rfl Bp ?_; refine Aj (Ah (Aq (Se rfl ?_)))
 first | refine Ba rfl rfl _ rfl .free rfl ?_ | refine Bb rfl rfl _ rfl .free rfl ?_
 refine Ev rfl .free rfl ?_; refine Oa rfl (Aa (Ah (Se rfl (Oh rfl ?_)))); refine A4 rfl .free rfl ?_; refine Om rfl ?_
 first | refine Ba rfl rfl _ rfl .free rfl ?_ | refine Bb rfl rfl _ rfl .free rfl ?_
 refine E1 rfl .free rfl ?_; refine Ca rfl (Fq _ (Nat.lt_succ_self _) (hf.as 2 a.tree Ab rfl) hok.1.2 _) ?_; rintro _ _ _ _ ⟨rfl, rfl, rfl⟩; refine Aa ?_; refine Ay rfl ?_ ?_
 ·intro c1
  try simp only [nb] at c1
  have hva : a.value = true := c1
  refine Cd rfl ?_; refine Al rfl ?_; refine Or rfl rfl rfl ?_; refine Om rfl (Aa ?_); refine Ce ?_; refine Se rfl (Oc rfl rfl rfl (Aa (Ah ?_))); refine Dh rfl Bp ?_; refine Cd rfl ?_; refine Ah (Se rfl ?_); refine A8 rfl .free rfl ?_; refine Ca rfl (Bq hf.rep _) ?_; rintro _ _ _ _ ⟨rfl, rfl, rfl⟩; rw [show (Ex.lt z a b).tree.head = [108, 101, 116] from rfl]
  have hturn : (Ex.lt z a b).step = (Ex.lt z a b).turn := by simp only [Ex.step, hva, Bool.true_eq_false, if_false]
  refine Aa (Aq (Ah (Se rfl (Od rfl rfl rfl (Oa rfl (Aa ?_))))))
  first | refine Sf rfl Ad ?_ | refine As Ai ?_
  refine Se rfl (Od rfl rfl rfl (Oa rfl (Aa ?_)))
  first | refine Sf rfl Ad ?_ | refine As Ai ?_
  refine Al rfl (Od rfl rfl rfl (Oa rfl (Aa ?_)))
  first | refine Sf rfl Ad ?_ | refine As Ai ?_
  refine Se rfl (Od rfl rfl rfl (Oa rfl (Aa ?_)))
  first | refine Sf rfl Ad ?_ | refine As Ai ?_
  refine Se rfl (Od rfl rfl rfl (Oa rfl (Aa ?_)))
  first | refine St rfl (rfl) ?_ | refine Bo Ai ?_
  refine Ah ?_; refine D6 16 rfl rfl ?_; refine Da 0 rfl (Ao rfl) ?_; refine Dt 1 [14] rfl (By rfl) ?_
  first | refine Da 2 rfl (Br rfl rfl 3 rfl) ?_ | refine Da 2 rfl (Bs rfl rfl 3 rfl) ?_
  refine Dt 3 [14] rfl (Bx rfl) ?_; refine Da 4 rfl (Ao rfl) ?_; refine Dt 5 [14] rfl (By rfl) ?_
  first | refine Da 6 rfl (Br rfl rfl 1 rfl) ?_ | refine Da 6 rfl (Bs rfl rfl 1 rfl) ?_
  refine Da 7 rfl (Bf rfl) ?_; refine Dt 8 [14] rfl (Ki rfl) ?_; refine Da 9 rfl (Ao rfl) ?_; refine Dt 10 [14] rfl (By rfl) ?_
  first | refine Da 11 rfl (Br rfl rfl 2 rfl) ?_ | refine Da 11 rfl (Bs rfl rfl 2 rfl) ?_
  refine Dt 12 [14] rfl (Bx rfl) ?_; refine Dc 13 rfl rfl (M3 _ (Nat.lt_succ_self _) (hf.as 3 b.tree Ab rfl) hok.2 z hok.1.1 (hf.as 2 a.tree Ab rfl) _) ?_; rintro _ J2 _ e2 ⟨cs2, rfl, hr2, rfl⟩; obtain ⟨o2, k2, _, rfl, -⟩ := hr2.open
  have hle := hle.trans e2
  refine Hx ?_; refine Dx 14 rfl rfl rfl rfl ?_; refine Db 15 rfl (A5 rfl) ?_; refine Aw Ac ?_; refine Ak (.c rfl (.tmp rfl .nil)) ?_; refine ⟨_, L, hle, Bt, (b.put z a).tree, _, by rw [hturn]; rfl, hr2, fun e' he' => ?_, rfl⟩; rw [hturn] at he'; obtain rfl := Option.some.inj he'
  rfl
 intro c1
 try simp only [nb] at c1
 have hva : a.value = false := by simpa using c1
 have hst : (Ex.lt z a b).step = a.step.map fun q => .lt z q b := by simp only [Ex.step, hva, if_true]
 refine Aj (Se rfl (Oh rfl ?_)); refine A4 rfl .free rfl ?_; refine Om rfl ?_
 first | refine Ba rfl rfl _ rfl .free rfl ?_ | refine Bb rfl rfl _ rfl .free rfl ?_
 refine E1 rfl .free rfl ?_; refine Ca rfl (ihn ht Ab (hf.as 2 a.tree Ab rfl) hok.1.2 _) ?_; rintro _ J1 _ e1 ⟨t1, cs1, rfl, hr, hte, rfl⟩; obtain ⟨o1, k1, _, rfl, -⟩ := hr.open
 have hf := hf.mono e1
 have hle := hle.trans e1
 have hk := hk.mono e1
 refine Om rfl (Oe rfl rfl (Oe rfl rfl ?_)); refine A3 .free rfl ?_; intro b6; refine Bu rfl rfl rfl rfl .free ?_; refine Oa rfl (Aa (Se rfl (Oh rfl ?_))); refine A4 rfl .free rfl ?_; refine Ca rfl (F7 ((hcs _ rfl).mono hle) (by have := hcl.length; omega) hcl.plain hpos hp _) ?_; rintro _ _ _ _ ⟨bc, sp, cc, rfl, hcc, rfl, rfl⟩
 simp only [show (Ex.lt z a b).tree.parts = [.node D0 [], .node z [], a.tree, b.tree] from rfl, E3, List.cons_append, List.nil_append]
 refine B6 rfl rfl rfl .free rfl ?_; refine A3 .free rfl ?_; intro b8; refine Bu rfl rfl rfl rfl .free ?_; refine Aa (Se rfl (Oh rfl ?_)); refine A4 rfl .free rfl ?_; refine Om rfl ?_; refine A8 rfl .free rfl ?_
 first | refine Ba rfl rfl _ rfl .free rfl ?_ | refine Bb rfl rfl _ rfl .free rfl ?_
 refine Bu rfl rfl rfl rfl .free ?_; refine Aa (Se rfl ?_); refine A8 rfl .free rfl ?_; refine Om rfl ?_; refine Bu rfl rfl rfl rfl .free ?_; refine Oa rfl (Aa ?_); refine Bk (fun w h => h.f1) (Bn ?_); intro hz
 have hf := hf.mono hz
 refine Ak (.c rfl (.tmp rfl .nil)) ?_; refine ⟨_, L, hle.trans hz, Bt, .node [] [.node D0 [], .node z [], t1, b.tree], [.string (str []), .slice (some ⟨bc, 0, none⟩) (Ex.lt z a b).tree.parts.length cc], ?_, .mk' rfl (.cons (hf.as 0 (.node D0 []) Ab rfl) (.cons (hf.as 1 (.node z []) Ab rfl) (.cons (hr.mono hz) (.cons (hf.as 3 (b.tree) Ab rfl) (.nil))))) (fun y hy => by cases hy; exact Bi (xs := [_, _, _, _, _, _, _, _])) Af hcc Eh hp, ?_, rfl⟩
 ·rw [Hd hst]; rfl
 ·intro e' he'; rw [hst] at he'; obtain ⟨q, hq, rfl⟩ := Option.map_eq_some_iff.1 he'; rw [hte q hq]; rfl
set_option maxHeartbeats 1000000 in
theorem Aao {N : Nat} (ihn : Rx N) {g z : Au} {s t : Ty} {b : Ex} {I : Heap} (ht : Tab I) {cs : List Value} (hlt : SizeOf.sizeOf (Ex.fn g z s t b) < N + 1) (h : Rep I (Ex.fn g z s t b).tree cs) (hok : (Ex.fn g z s t b).ok = true) (L : Bm) :
  Fun Tryz.prog 66 [.agg cs.toArray] I L (SP (Ex.fn g z s t b).step L) := by
 obtain ⟨oa, c, oaf, cf, rfl, hf, hcl, hcs⟩ := h.cells
 have hpos : 0 < (Ex.fn g z s t b).tree.parts.length := by show 0 < 6; decide
 obtain ⟨xa, rfl⟩ : ∃ xa, oa = some xa := ⟨_, C3 hf.nil hpos⟩
 have hlen : (Ex.fn g z s t b).tree.parts.length = 6 := rfl
 have hp := hf.len
 have hev : Uq (Ex.fn g z s t b).tree = [] := rfl
 simp only [Ex.fn.sizeOf_spec] at hlt
 have hok0 := hok
 simp only [Ex.ok, Bool.and_eq_true, decide_eq_true_eq] at hok
 obtain ⟨_, hrl⟩ : ∃ _ : True, RepL I (Ex.fn g z s t b).tree.parts _ := ⟨trivial, hcl⟩
 simp only [show (Ex.fn g z s t b).tree.parts = [.node Dz [], .node g [], .node z [], s.tree, t.tree, b.tree] from rfl, E3, List.cons_append, List.nil_append] at hrl
 refine Ap Af ?_; refine Se rfl ?_; refine Cg rfl rfl .free rfl ?_; intro b1; refine A3 .free rfl ?_; intro b2; refine Oa rfl (Aa (Ah (Se rfl ?_))); refine A8 rfl .free rfl ?_; refine Ca rfl (Dp hf.rep _) ?_; rintro _ J0 _ e0 ⟨ok, ck, rfl, hk, rfl⟩
 have hf := hf.mono e0
 have ht := ht.mono e0
 have hle := e0
 rw [hev] at hk; rw [hev]; refine On rfl (Om rfl (Aa (Aq ?_))); refine Ec ?_; refine Se rfl (Oc rfl rfl rfl (Aa (Ah ?_))); refine Dh rfl Bp ?_; refine Cd rfl ?_; refine Ah (Se rfl ?_); refine A8 rfl .free rfl ?_; refine Ca rfl (Bq hf.rep _) ?_; rintro _ _ _ _ ⟨rfl, rfl, rfl⟩; rw [show (Ex.fn g z s t b).tree.head = [102, 117, 110] from rfl]
 have hturn : (Ex.fn g z s t b).step = (Ex.fn g z s t b).turn := rfl
 refine Aa (Aq (Ah (Se rfl (Od rfl rfl rfl (Oa rfl (Aa ?_))))))
 first | refine Sf rfl Ad ?_ | refine As Ai ?_
 refine Se rfl (Od rfl rfl rfl (Oa rfl (Aa ?_)))
 first | refine Sf rfl Ad ?_ | refine As Ai ?_
 refine Al rfl (Od rfl rfl rfl (Oa rfl (Aa ?_)))
 first | refine Sf rfl Ad ?_ | refine As Ai ?_
 refine Se rfl (Od rfl rfl rfl (Oa rfl (Aa ?_)))
 first | refine Sf rfl Ad ?_ | refine As Ai ?_
 refine Se rfl (Od rfl rfl rfl (Oa rfl (Aa ?_)))
 first | refine Sf rfl Ad ?_ | refine As Ai ?_
 refine Se rfl (Od rfl rfl rfl (Oa rfl (Aa ?_)))
 first | refine Sf rfl Ad ?_ | refine As Ai ?_
 refine Ah (Se rfl (Od rfl rfl rfl (Oa rfl (Aa ?_))))
 first | refine Sf rfl Ad ?_ | refine As Ai ?_
 refine Al rfl (Od rfl rfl rfl (Oa rfl (Aa ?_)))
 first | refine Sf rfl Ad ?_ | refine As Ai ?_
 refine Aj (Ar (Ah ?_))
 have hno : (Ex.fn g z s t b).turn = none := by
  first
   | rfl
   | (cases a <;> first | rfl | (cases b <;> rfl))
 refine Al rfl ?_; refine B6 rfl rfl rfl .free rfl ?_; refine Bu rfl rfl rfl rfl .free ?_; refine Oa rfl (Aa ?_); refine Ak (.c rfl (.tmp rfl .nil)) ?_
 exact ⟨_, L, hle, Bt, SP.none' (by rw [hturn, hno])⟩
set_option maxHeartbeats 1000000 in
theorem Aaq {N : Nat} (ihn : Rx N) {o : U2} {a : Ex} {I : Heap} (ht : Tab I) {cs : List Value} (hlt : SizeOf.sizeOf (Ex.un o a) < N + 1) (h : Rep I (Ex.un o a).tree cs) (hok : (Ex.un o a).ok = true) (L : Bm) :
  Fun Tryz.prog 66 [.agg cs.toArray] I L (SP (Ex.un o a).step L) := by
 obtain ⟨oa, c, oaf, cf, rfl, hf, hcl, hcs⟩ := h.cells
 have hpos : 0 < (Ex.un o a).tree.parts.length := by show 0 < 2; decide
 obtain ⟨xa, rfl⟩ : ∃ xa, oa = some xa := ⟨_, C3 hf.nil hpos⟩
 have hlen : (Ex.un o a).tree.parts.length = 2 := rfl
 have hp := hf.len
 have hev : Uq (Ex.un o a).tree = [1] := by cases o <;> rfl
 simp only [Ex.un.sizeOf_spec] at hlt
 have hok0 := hok
 simp only [Ex.ok, Bool.and_eq_true, decide_eq_true_eq] at hok
 obtain ⟨_, hrl⟩ : ∃ _ : True, RepL I (Ex.un o a).tree.parts _ := ⟨trivial, hcl⟩
 simp only [show (Ex.un o a).tree.parts = [.node o.txt [], a.tree] from rfl, E3, List.cons_append, List.nil_append] at hrl
 refine Ap Af ?_; refine Se rfl ?_; refine Cg rfl rfl .free rfl ?_; intro b1; refine A3 .free rfl ?_; intro b2; refine Oa rfl (Aa (Ah (Se rfl ?_))); refine A8 rfl .free rfl ?_; refine Ca rfl (Dp hf.rep _) ?_; rintro _ J0 _ e0 ⟨ok, ck, rfl, hk, rfl⟩
 have hf := hf.mono e0
 have ht := ht.mono e0
 have hle := e0
 rw [hev] at hk; rw [hev]; refine On rfl (Om rfl (Aa (Aq ?_))); refine Ec ?_; refine Se rfl (Oc rfl rfl rfl (Aa (Ah ?_))); refine Cj rfl Bp ?_; refine Aj (Ah (Aq (Se rfl ?_)))
 first | refine Ba rfl rfl _ rfl .free rfl ?_ | refine Bb rfl rfl _ rfl .free rfl ?_
 refine Ev rfl .free rfl ?_; refine Oa rfl (Aa (Ah (Se rfl (Oh rfl ?_)))); refine A4 rfl .free rfl ?_; refine Om rfl ?_
 first | refine Ba rfl rfl _ rfl .free rfl ?_ | refine Bb rfl rfl _ rfl .free rfl ?_
 refine E1 rfl .free rfl ?_; refine Ca rfl (Fq _ (Nat.lt_succ_self _) (hf.as 1 a.tree Ab rfl) hok _) ?_; rintro _ _ _ _ ⟨rfl, rfl, rfl⟩; refine Aa ?_; refine Ay rfl ?_ ?_
 ·intro c1
  try simp only [nb] at c1
  have hva : a.value = true := c1
  refine Cd rfl ?_; refine Al rfl ?_; refine Or rfl rfl rfl ?_; refine Om rfl (Aa ?_); refine Ce ?_; refine Se rfl (Oc rfl rfl rfl (Aa (Ah ?_))); refine Dh rfl Bp ?_; refine Cd rfl ?_; refine Ah (Ah ?_)
  rcases o with _ | _
  ·skip
   refine Al rfl ?_; refine A8 rfl .free rfl ?_; refine Ca rfl (Bq hf.rep _) ?_; rintro _ _ _ _ ⟨rfl, rfl, rfl⟩; rw [show (Ex.un .fst a).tree.head = [102, 115, 116] from rfl]
   have hturn : (Ex.un .fst a).step = (Ex.un .fst a).turn := by simp only [Ex.step, hva, Bool.true_eq_false, if_false]
   refine Aa (Aq (Ah (Se rfl (Od rfl rfl rfl (Oa rfl (Aa ?_))))))
   first | refine Sf rfl Ad ?_ | refine As Ai ?_
   refine Se rfl (Od rfl rfl rfl (Oa rfl (Aa ?_)))
   first | refine Sf rfl Ad ?_ | refine As Ai ?_
   refine Al rfl (Od rfl rfl rfl (Oa rfl (Aa ?_)))
   first | refine Sf rfl Ad ?_ | refine As Ai ?_
   refine Se rfl (Od rfl rfl rfl (Oa rfl (Aa ?_)))
   first | refine Sf rfl Ad ?_ | refine As Ai ?_
   refine Se rfl (Od rfl rfl rfl (Oa rfl (Aa ?_)))
   first | refine Sf rfl Ad ?_ | refine As Ai ?_
   refine Se rfl (Od rfl rfl rfl (Oa rfl (Aa ?_)))
   first | refine Sf rfl Ad ?_ | refine As Ai ?_
   refine Ah (Se rfl (Od rfl rfl rfl (Oa rfl (Aa ?_))))
   first | refine St rfl (rfl) ?_ | refine Bo Ai ?_
   refine Aj ?_
   first | refine St rfl (rfl) ?_ | refine Bo Ai ?_
   refine Se rfl (Oh rfl ?_); refine A4 rfl .free rfl ?_
   first | refine Ba rfl rfl 1 rfl .free rfl ?_ | refine Bb rfl rfl 1 rfl .free rfl ?_
   refine E1 rfl .free rfl ?_; refine A3 .free rfl ?_; intro b13; refine Bu rfl rfl rfl rfl .free ?_; refine Aa (Se rfl ?_); refine A8 rfl .free rfl ?_; refine Ca rfl (Bq (hf.as 1 a.tree Ab rfl) _) ?_; rintro _ _ _ _ ⟨rfl, rfl, rfl⟩; refine Od rfl rfl rfl (Aa ?_); refine Ay rfl ?_ ?_
   ·intro c14
    try simp only [nb] at c14
    obtain ⟨p, q, rfl⟩ := Ex.of_pair (show a.tree.head = Do from c14)
    have hra := hf.as 1 (Ex.bin .pair p q).tree Ab rfl
    obtain ⟨oa2, c2, oaf2, cf2, he2, hf2⟩ := hra.at'
    simp only [List.cons.injEq, Value.slice.injEq, and_true, true_and] at he2
    obtain ⟨rfl, rfl⟩ := he2; obtain ⟨xa2, hxa2⟩ : ∃ x, oaf 1 = some x := ⟨_, C3 hf2.nil (show 0 < 3 by decide)⟩
    have hl2 : (Ex.bin .pair p q).tree.parts.length = 3 := rfl
    refine Ah (Se rfl ?_); refine A8 rfl .free rfl ?_; refine Ca rfl (Bq hf.rep _) ?_; rintro _ _ _ _ ⟨rfl, rfl, rfl⟩; rw [show (Ex.un .fst (.bin .pair p q)).tree.head = [102, 115, 116] from rfl]; refine Od rfl rfl rfl (Aa ?_)
    first | refine St rfl (rfl) ?_ | refine Bo Ai ?_
    refine Se rfl (Oh rfl ?_); refine A4 rfl .free rfl ?_
    first | refine Ba rfl rfl 1 rfl .free rfl ?_ | refine Bb rfl rfl 1 rfl .free rfl ?_
    refine E1 rfl .free rfl ?_; refine Bu rfl rfl rfl rfl .free ?_; refine Oa rfl (Aa ?_); refine Ak (.c rfl (.tmp rfl .nil)) ?_; refine ⟨_, L, hle, Bt, p.tree, _, by rw [hturn]; rfl, hf2.as 1 p.tree Ab rfl, fun e' he' => ?_, rfl⟩; rw [hturn] at he'; obtain rfl := Option.some.inj he'
    rfl
   intro c14
   try simp only [nb] at c14
   have hno : (Ex.un .fst a).turn = none := by
    cases hty : (Ex.un .fst a).turn with
    | none => rfl
    | some e' =>
     obtain ⟨p, q, rfl, rfl⟩ := Mn hty
     exact absurd rfl c14
   refine Aj (Ar (Se rfl ?_)); refine B6 rfl rfl rfl .free rfl ?_; refine Bu rfl rfl rfl rfl .free ?_; refine Oa rfl (Aa ?_); refine Ak (.c rfl (.tmp rfl .nil)) ?_
   exact ⟨_, L, hle, Bt, SP.none' (by rw [hturn, hno])⟩
  ·skip
   refine Al rfl ?_; refine A8 rfl .free rfl ?_; refine Ca rfl (Bq hf.rep _) ?_; rintro _ _ _ _ ⟨rfl, rfl, rfl⟩; rw [show (Ex.un .snd a).tree.head = [115, 110, 100] from rfl]
   have hturn : (Ex.un .snd a).step = (Ex.un .snd a).turn := by simp only [Ex.step, hva, Bool.true_eq_false, if_false]
   refine Aa (Aq (Ah (Se rfl (Od rfl rfl rfl (Oa rfl (Aa ?_))))))
   first | refine Sf rfl Ad ?_ | refine As Ai ?_
   refine Se rfl (Od rfl rfl rfl (Oa rfl (Aa ?_)))
   first | refine Sf rfl Ad ?_ | refine As Ai ?_
   refine Al rfl (Od rfl rfl rfl (Oa rfl (Aa ?_)))
   first | refine Sf rfl Ad ?_ | refine As Ai ?_
   refine Se rfl (Od rfl rfl rfl (Oa rfl (Aa ?_)))
   first | refine Sf rfl Ad ?_ | refine As Ai ?_
   refine Se rfl (Od rfl rfl rfl (Oa rfl (Aa ?_)))
   first | refine Sf rfl Ad ?_ | refine As Ai ?_
   refine Se rfl (Od rfl rfl rfl (Oa rfl (Aa ?_)))
   first | refine Sf rfl Ad ?_ | refine As Ai ?_
   refine Ah (Se rfl (Od rfl rfl rfl (Oa rfl (Aa ?_))))
   first | refine Sf rfl Ad ?_ | refine As Ai ?_
   refine Al rfl (Od rfl rfl rfl (Oa rfl (Aa ?_)))
   first | refine St rfl (rfl) ?_ | refine Bo Ai ?_
   refine Se rfl (Oh rfl ?_); refine A4 rfl .free rfl ?_
   first | refine Ba rfl rfl 1 rfl .free rfl ?_ | refine Bb rfl rfl 1 rfl .free rfl ?_
   refine E1 rfl .free rfl ?_; refine A3 .free rfl ?_; intro b13; refine Bu rfl rfl rfl rfl .free ?_; refine Aa (Se rfl ?_); refine A8 rfl .free rfl ?_; refine Ca rfl (Bq (hf.as 1 a.tree Ab rfl) _) ?_; rintro _ _ _ _ ⟨rfl, rfl, rfl⟩; refine Od rfl rfl rfl (Aa ?_); refine Ay rfl ?_ ?_
   ·intro c14
    try simp only [nb] at c14
    obtain ⟨p, q, rfl⟩ := Ex.of_pair (show a.tree.head = Do from c14)
    have hra := hf.as 1 (Ex.bin .pair p q).tree Ab rfl
    obtain ⟨oa2, c2, oaf2, cf2, he2, hf2⟩ := hra.at'
    simp only [List.cons.injEq, Value.slice.injEq, and_true, true_and] at he2
    obtain ⟨rfl, rfl⟩ := he2; obtain ⟨xa2, hxa2⟩ : ∃ x, oaf 1 = some x := ⟨_, C3 hf2.nil (show 0 < 3 by decide)⟩
    have hl2 : (Ex.bin .pair p q).tree.parts.length = 3 := rfl
    refine Ah (Se rfl ?_); refine A8 rfl .free rfl ?_; refine Ca rfl (Bq hf.rep _) ?_; rintro _ _ _ _ ⟨rfl, rfl, rfl⟩; rw [show (Ex.un .snd (.bin .pair p q)).tree.head = [115, 110, 100] from rfl]; refine Od rfl rfl rfl (Aa ?_)
    first | refine Sf rfl Ad ?_ | refine As Ai ?_
    refine Aj (Se rfl (Oh rfl ?_)); refine A4 rfl .free rfl ?_
    first | refine Ba rfl rfl 2 rfl .free rfl ?_ | refine Bb rfl rfl 2 rfl .free rfl ?_
    refine E1 rfl .free rfl ?_; refine Bu rfl rfl rfl rfl .free ?_; refine Oa rfl (Aa ?_); refine Ak (.c rfl (.tmp rfl .nil)) ?_; refine ⟨_, L, hle, Bt, q.tree, _, by rw [hturn]; rfl, hf2.as 2 q.tree Ab rfl, fun e' he' => ?_, rfl⟩; rw [hturn] at he'; obtain rfl := Option.some.inj he'
    rfl
   intro c14
   try simp only [nb] at c14
   have hno : (Ex.un .snd a).turn = none := by
    cases hty : (Ex.un .snd a).turn with
    | none => rfl
    | some e' =>
     obtain ⟨p, q, rfl, rfl⟩ := Mn hty
     exact absurd rfl c14
   refine Aj (Ar (Se rfl ?_)); refine B6 rfl rfl rfl .free rfl ?_; refine Bu rfl rfl rfl rfl .free ?_; refine Oa rfl (Aa ?_); refine Ak (.c rfl (.tmp rfl .nil)) ?_
   exact ⟨_, L, hle, Bt, SP.none' (by rw [hturn, hno])⟩
 intro c1
 try simp only [nb] at c1
 have hva : a.value = false := by simpa using c1
 have hst : (Ex.un o a).step = a.step.map fun q => .un o q := by simp only [Ex.step, hva, if_true]
 refine Aj (Se rfl (Oh rfl ?_)); refine A4 rfl .free rfl ?_; refine Om rfl ?_
 first | refine Ba rfl rfl _ rfl .free rfl ?_ | refine Bb rfl rfl _ rfl .free rfl ?_
 refine E1 rfl .free rfl ?_; refine Ca rfl (ihn ht Ab (hf.as 1 a.tree Ab rfl) hok _) ?_; rintro _ J1 _ e1 ⟨t1, cs1, rfl, hr, hte, rfl⟩; obtain ⟨o1, k1, _, rfl, -⟩ := hr.open
 have hf := hf.mono e1
 have hle := hle.trans e1
 have hk := hk.mono e1
 refine Om rfl (Oe rfl rfl (Oe rfl rfl ?_)); refine A3 .free rfl ?_; intro b6; refine Bu rfl rfl rfl rfl .free ?_; refine Oa rfl (Aa (Se rfl (Oh rfl ?_))); refine A4 rfl .free rfl ?_; refine Ca rfl (F7 ((hcs _ rfl).mono hle) (by have := hcl.length; omega) hcl.plain hpos hp _) ?_; rintro _ _ _ _ ⟨bc, sp, cc, rfl, hcc, rfl, rfl⟩
 simp only [show (Ex.un o a).tree.parts = [.node o.txt [], a.tree] from rfl, E3, List.cons_append, List.nil_append]
 refine B6 rfl rfl rfl .free rfl ?_; refine A3 .free rfl ?_; intro b8; refine Bu rfl rfl rfl rfl .free ?_; refine Aa (Se rfl (Oh rfl ?_)); refine A4 rfl .free rfl ?_; refine Om rfl ?_; refine A8 rfl .free rfl ?_
 first | refine Ba rfl rfl _ rfl .free rfl ?_ | refine Bb rfl rfl _ rfl .free rfl ?_
 refine Bu rfl rfl rfl rfl .free ?_; refine Aa (Se rfl ?_); refine A8 rfl .free rfl ?_; refine Om rfl ?_; refine Bu rfl rfl rfl rfl .free ?_; refine Oa rfl (Aa ?_); refine Bk (fun w h => h.f1) (Bn ?_); intro hz
 have hf := hf.mono hz
 refine Ak (.c rfl (.tmp rfl .nil)) ?_; refine ⟨_, L, hle.trans hz, Bt, .node [] [.node o.txt [], t1], [.string (str []), .slice (some ⟨bc, 0, none⟩) (Ex.un o a).tree.parts.length cc], ?_, .mk' rfl (.cons (hf.as 0 (.node o.txt []) Ab rfl) (.cons (hr.mono hz) (.nil))) (fun y hy => by cases hy; exact Bi (xs := [_, _, _, _])) Af hcc Eh hp, ?_, rfl⟩
 ·rw [Hd hst]; rfl
 ·intro e' he'; rw [hst] at he'; obtain ⟨q, hq, rfl⟩ := Option.map_eq_some_iff.1 he'; rw [hte q hq]; rfl
theorem Qx {e : Ex} (hb : e.bare = true) {I : Heap} {cs : List Value} (h : Rep I e.tree cs) (L : Bm) : Fun Tryz.prog 66 [.agg cs.toArray] I L (SP e.step L) := by
 obtain ⟨oa, c, oaf, cf, rfl, hf⟩ := h.at'
 have hno : e.step = none := by cases e <;> first | rfl | cases hb
 have hev : Uq e.tree = [] := by cases e <;> first | rfl | cases hb
 have hhd : e.tree.head = [] := by cases e <;> first | rfl | cases hb
 refine Ap Af ?_; refine Se rfl ?_; refine Cg rfl rfl .free rfl ?_; intro b1; refine A3 .free rfl ?_; intro b2; refine Oa rfl (Aa (Ah (Se rfl ?_))); refine A8 rfl .free rfl ?_; refine Ca rfl (Dp hf.rep _) ?_; rintro _ J0 _ e0 ⟨ok, ck, rfl, hk, rfl⟩
 have hf := hf.mono e0
 have hle := e0
 rw [hev] at hk; rw [hev]; refine On rfl (Om rfl (Aa (Aq ?_))); refine Ec ?_; refine Se rfl (Oc rfl rfl rfl (Aa (Ah ?_))); refine Dh rfl Bp ?_; refine Cd rfl ?_; refine Ah (Se rfl ?_); refine A8 rfl .free rfl ?_; refine Ca rfl (Bq hf.rep _) ?_; rintro _ _ _ _ ⟨rfl, rfl, rfl⟩; rw [hhd]; refine Aa (Aq (Ah (Se rfl (Od rfl rfl rfl (Oa rfl (Aa ?_))))))
 first | refine Sf rfl Ad ?_ | refine As Ai ?_
 refine Se rfl (Od rfl rfl rfl (Oa rfl (Aa ?_)))
 first | refine Sf rfl Ad ?_ | refine As Ai ?_
 refine Al rfl (Od rfl rfl rfl (Oa rfl (Aa ?_)))
 first | refine Sf rfl Ad ?_ | refine As Ai ?_
 refine Se rfl (Od rfl rfl rfl (Oa rfl (Aa ?_)))
 first | refine Sf rfl Ad ?_ | refine As Ai ?_
 refine Se rfl (Od rfl rfl rfl (Oa rfl (Aa ?_)))
 first | refine Sf rfl Ad ?_ | refine As Ai ?_
 refine Se rfl (Od rfl rfl rfl (Oa rfl (Aa ?_)))
 first | refine Sf rfl Ad ?_ | refine As Ai ?_
 refine Ah (Se rfl (Od rfl rfl rfl (Oa rfl (Aa ?_))))
 first | refine Sf rfl Ad ?_ | refine As Ai ?_
 refine Al rfl (Od rfl rfl rfl (Oa rfl (Aa ?_)))
 first | refine Sf rfl Ad ?_ | refine As Ai ?_
 refine Aj (Ar (Se rfl ?_)); refine B6 rfl rfl rfl .free rfl ?_; refine Bu rfl rfl rfl rfl .free ?_; refine Oa rfl (Aa ?_); refine Ak (.c rfl (.tmp rfl .nil)) ?_
 exact ⟨_, L, hle, Bt, SP.none' hno⟩
theorem Y3 : ∀ N : Nat, Rx N := by
 intro N
 induction N with
 | zero => intro I ht e cs h; omega
 | succ N ihn =>
  intro I ht e cs hlt h hok L
  cases e with
  | num s => exact Qx rfl h L
  | name s => exact Qx rfl h L
  | bin o p q => exact Y4 ihn ht hlt h hok L
  | ite p q r => exact Y5 ihn ht hlt h hok L
  | lt z p q => exact Aap ihn ht hlt h hok L
  | fn h1 z s u q => exact Aao ihn ht hlt h hok L
  | un o p => exact Aaq ihn ht hlt h hok L
theorem Va {I : Heap} (ht : Tab I) {e : Ex} {cs : List Value} (h : Rep I e.tree cs) (hok : e.ok = true) (L : Bm) : Fun Tryz.prog 66 [.agg cs.toArray] I L (SP e.step L) := Y3 _ ht (Nat.lt_succ_self _) h hok L
def Afh (N : Nat) : Prop := ∀ {I : Heap} {e : Ex} {cs : List Value} (_ : SizeOf.sizeOf e < N) (_ : Rep I e.tree cs) (_ : e.ok = true) (L : Bm), Fun Tryz.prog 68 [.agg cs.toArray] I L (SP e.step L)
def nvT (s : Au) : Int := bif Cc s then Dy s else 0
theorem SP.same {I : Heap} {o : Option Ex} {t : Tree} {ds : List Value} {L : Bm} (h : Rep I t ds) (ho : o = none) : SP o L (.tuple #[.agg (List.toArray ds), .bool false]) I L :=
 ⟨t, ds, by rw [ho]; rfl, h, fun e' h => (by rw [ho] at h; cases h), rfl⟩
theorem Ab0 {e e' : Ex} (hok : e.ok = true) (hz : e.size ≤ 120) (h : e.step = some e') : e'.tree.len ≤ 12000000 := by
 have h1 := Ex.len_size (Ex.step_ok hok h)
 have h2 := Ex.step_size hz h
 omega
theorem Acn {e : Ex} (h : e.step = none) : e.go = none := by unfold Ex.go; rw [h]; split <;> rfl
theorem Aef {e e' : Ex} (h : e.step = some e') : e.go = if e'.fine = true then some e' else none := by
 unfold Ex.go
 rw [if_neg (by rw [Nc h]; simp), h]; rfl
theorem SP.go {I : Heap} {e e' : Ex} {ds : List Value} {L : Bm} (hs : e.step = some e') (h : Rep I e'.tree ds) : SP e.go L (.tuple #[.agg (List.toArray ds), .bool e'.fine]) I L := by
 rw [Aef hs]
 cases hf : e'.fine with
 | true => exact ⟨_, ds, rfl, h, fun e2 h2 => by obtain rfl := Option.some.inj h2; rfl, rfl⟩
 | false => exact SP.same h rfl
theorem Qs {I : Heap} (ht : Tab I) {e : Ex} {cs : List Value} (h : Rep I e.tree cs) (hok : e.ok = true) (hz : e.size ≤ 120) (L : Bm) : Fun Tryz.prog 57 [.agg cs.toArray] I L (SP e.go L) := by
 obtain ⟨oa, c, oaf, cf, rfl, hf⟩ := h.at'; refine Ap Af ?_; refine Se rfl ?_; refine Cg rfl rfl .free rfl ?_; intro b1; refine A3 .free rfl ?_; intro b2; refine Oa rfl (Aa (Ah (Se rfl ?_))); refine A8 rfl .free rfl ?_; refine Ca rfl (Fq _ (Nat.lt_succ_self _) hf.rep hok _) ?_; rintro _ _ _ _ ⟨rfl, rfl, rfl⟩; refine Aa ?_; refine Ay rfl ?_ ?_
 ·intro c0
  try simp only [nb] at c0
  refine Se rfl ?_; refine B6 rfl rfl rfl .free rfl ?_; refine Bu rfl rfl rfl rfl .free ?_; refine Oa rfl (Aa ?_); refine Ak (.c rfl (.tmp rfl .nil)) ?_
  exact ⟨_, L, .refl _, Bt, SP.none' (by unfold Ex.go; rw [if_pos c0])⟩
 intro c0
 try simp only [nb] at c0
 refine Aj (Se rfl ?_); refine A8 rfl .free rfl ?_; refine Ca rfl (Va ht hf.rep hok _) ?_; rintro _ J1 _ e1 ⟨t1, cs1, rfl, hr, hte, rfl⟩; obtain ⟨o1, k1, _, rfl, -⟩ := hr.open; refine Om rfl (Oe rfl rfl (Oe rfl rfl ?_)); refine A3 .free rfl ?_; intro b4; refine Bu rfl rfl rfl rfl .free ?_; refine Oa rfl (Aa (Ah ?_))
 rcases hs : e.step with _ | e'
 ·skip
  have hgo := Acn hs
  refine D6 8 rfl rfl ?_; refine Dt 0 [6] rfl (C7 rfl) ?_; refine Da 1 rfl (Am rfl) ?_; refine Da 2 rfl (Am rfl) ?_; refine H5 (t := 16) rfl (v' := .bool false) (by first | simp [*] | (simp; omega)) ?_; refine Ds 3 rfl rfl rfl ?_; refine Ds 4 rfl rfl rfl ?_; refine Da 5 rfl (E5 rfl rfl) ?_; refine Dx 6 rfl rfl rfl rfl ?_; refine Db 7 rfl (A5 rfl) ?_; refine Aw Ac ?_; refine Ak (.c rfl (.tmp rfl .nil)) ?_
  exact ⟨J1, L, e1, Bt, SP.same hr hgo⟩
 ·skip
  obtain rfl := hte e' hs
  have hl2 := Ab0 hok hz hs
  refine D6 8 rfl rfl ?_; refine Dt 0 [6] rfl (C7 rfl) ?_; refine Da 1 rfl (Am rfl) ?_; refine Da 2 rfl (Am rfl) ?_; refine H5 (t := 16) rfl (v' := .bool true) (by first | simp [*] | (simp; omega)) ?_; refine G8 3 [4, 6] rfl Ac rfl At (C7 rfl) (.met rfl rfl) rfl ?_; refine K3 4 rfl Ac rfl rfl (.met rfl rfl) rfl (Adm hr (Ex.step_ok hok hs) hl2 _) ?_; rintro _ _ _ _ ⟨rfl, rfl, rfl⟩; refine Hx ?_; refine Da 5 rfl (Fn rfl rfl) ?_; refine Dx 6 rfl rfl rfl rfl ?_; refine Db 7 rfl (A5 rfl) ?_; refine Aw Ac ?_; refine Ak (.c rfl (.tmp rfl .nil)) ?_
  exact ⟨J1, L, e1, Bt, SP.go hs hr⟩
theorem Y0 {e : Ex} (h : e.fine = true) : e.ok = true ∧ e.size ≤ 120 ∧ e.tree.len ≤ 12000 := by
 simp only [Ex.fine, Tree.fits, Bool.and_eq_true, decide_eq_true_eq] at h
 exact ⟨h.1.1, h.1.2, h.2.2⟩
structure SM where
 e : Ex
 i : Nat
 J : Heap
 o : Option Addr
 k : Nat
def SMr (r : Ex × Nat) (L : Bm) : C2 := fun v I' L' => v = .tuple #[.string (str r.1.tree.text), .int .i64 (r.2 : Nat), .bool true] ∧ L = L'
def MN (o : Option (Au × Nat)) (L : Bm) : C2 := fun v I' L' => v = .tuple #[.string (str ((o.map (·.1)).getD [])), .int .i64 (((o.map (·.2)).getD 0 : Nat)), .bool o.isSome] ∧ L = L'
theorem Xg {s : Au} {e : Ex} {n : Nat} (h : Cf s = some e) (hn : n ≤ 500) : Q3 s (n : Nat) = some ((e.goes n).1.tree.text, (e.goes n).2) := by
 unfold Q3; rw [if_pos Ab, h]; rfl
theorem Q4 {s : Au} {n : Int} (h : Cf s = none ∨ ¬ (0 ≤ n ∧ n ≤ 500)) : Q3 s n = none := by
 unfold Q3
 rcases h with h | h
 ·rw [h]; split <;> rfl
 ·rw [if_neg h]
theorem W0 (s : Au) (hs : s.length ≤ Be) (n : Int) {I : Heap} (ht : Tab I) (L : Bm) : Fun Tryz.prog 17 [.string (str s), .int .i64 n] I L (MN (Q3 s n) L) := by
 refine Ap Af ?_; refine Se rfl ?_
 iterate 3 refine Oa rfl ?_
 refine Aa (Se rfl (Om rfl ?_)); refine Ca rfl (K7 s hs _ _) ?_; rintro _ J _ hleJ ⟨t, cs, ok, rfl, hrep, rfl, hpf⟩; obtain ⟨oc, cc, _, rfl, -⟩ := hrep.open; refine Om rfl (Oe rfl rfl (Oe rfl rfl ?_)); refine A3 .free rfl ?_; intro b7; refine Bu rfl rfl rfl rfl .free ?_; refine Oa rfl (Aa (Ah (Ah ?_)))
 rcases hc : Cf s with _ | e
 ·skip
  rw [hc] at hpf; obtain rfl := hpf; refine Al rfl (Om rfl ?_); refine C6 rfl .free rfl ?_; refine Om rfl ?_; refine C9 (t := 19) rfl (v' := .bool true) F2 ?_
  iterate 3 refine Cl rfl rfl rfl ?_
  refine Ot rfl rfl (Aa ?_); refine Bo rfl ?_; refine Se rfl ?_
  iterate 3 refine Oa rfl ?_
  refine Aa ?_; refine Ak (.tmp rfl (.tmp rfl (.tmp rfl .nil))) ?_
  exact ⟨J, L, hleJ, Bt, by rw [Q4 (.inl hc)]; rfl, rfl⟩
 ·skip
  rw [hc] at hpf; obtain ⟨rfl, rfl⟩ := hpf; obtain ⟨hx, hok, hz, hl, hcl⟩ := F5 hc; refine Al rfl (Om rfl ?_); refine C6 rfl .free rfl ?_; refine Om rfl ?_; refine C9 (t := 19) rfl (v' := .bool false) F2 ?_; refine Ow rfl ?_; refine Cq rfl (.met rfl rfl) rfl (Nt 0 n 500 _ _) ?_; rintro _ _ _ _ ⟨rfl, rfl, rfl⟩; refine C6 rfl (.met rfl rfl) rfl ?_; refine Of rfl rfl (Aa ?_); refine Ay rfl ?_ ?_
  ·intro c0
   try simp only [nb] at c0
   refine Se rfl ?_
   iterate 3 refine Oa rfl ?_
   refine Aa ?_; refine Ak (.tmp rfl (.tmp rfl (.tmp rfl .nil))) ?_
   exact ⟨J, L, hleJ, Bt, by rw [Q4 (.inr E9)]; rfl, rfl⟩
  intro c0
  try simp only [nb] at c0
  obtain ⟨N, rfl⟩ : ∃ N : Nat, n = (N : Nat) := ⟨n.toNat, by omega⟩
  have hN : N ≤ 500 := by omega
  have hme := Xg hc hN
  have hfe := (Tn hx).1
  have hoe : e.occ [] = [] := by simpa [Ex.closed] using hcl
  refine Aj (Se rfl (Oa rfl (Aa (Ah (Aq ?_)))))
  refine D7 (X := SM) (fun x => N - x.i) (fun x => [(1, .int .i64 (N : Nat)), (7, .pointer (some ⟨b7, 0, none⟩)), (9, .int .i64 (x.i : Nat))]) (fun x => x.J) (fun x => (b7, .cells [.string (str x.e.tree.atom), .slice x.o x.e.tree.parts.length x.k].toArray 49 (0, 0)) :: L) (fun x => HLe J x.J ∧ Rep x.J x.e.tree [.string (str x.e.tree.atom), .slice x.o x.e.tree.parts.length x.k] ∧ x.e.fine = true ∧ x.e.occ [] = [] ∧ x.i ≤ N ∧ e.goes N = ((x.e.goes (N - x.i)).1, (x.e.goes (N - x.i)).2 + x.i)) ⟨e, 0, J, oc, cc⟩ ⟨.refl _, hrep, hfe, hoe, Nat.zero_le _, rfl⟩ ⟨rfl, rfl, rfl, trivial⟩ (fun _ h => h) ?_
  rintro ⟨x, i, J1, o, k⟩ ⟨hle1, hr1, hf1, hc1, hi1, hgs⟩ ih
  simp only at hle1 hr1 hf1 hc1 hi1 hgs ih ⊢
  have hle := hleJ.trans hle1
  obtain ⟨hok1, hz1, hl1⟩ := Y0 hf1; refine Ah (Se rfl (Om rfl (Om rfl (Oc rfl rfl rfl (Aa ?_))))); refine Ay rfl ?_ ?_
  ·intro c1
   try simp only [nb] at c1
   have hiN : i < N := by omega
   have hnx : N - i = (N - (i + 1)) + 1 := by omega
   refine Aj (Aq (Se rfl ?_)); refine A8 rfl .free rfl ?_; refine Ca rfl (Qs (ht.mono hle) hr1 hok1 hz1 _) ?_; rintro _ J2 _ e2 ⟨t1, cs1, rfl, hr, hte, rfl⟩; obtain ⟨o1, k1, _, rfl, -⟩ := hr.open; refine Om rfl (Oe rfl rfl (Oe rfl rfl ?_)); refine A3 .free rfl ?_; intro b10; refine Bu rfl rfl rfl rfl .free ?_; refine Oa rfl (Aa (Ah (Se rfl (Om rfl ?_)))); refine C6 rfl .free rfl ?_; refine Aa ?_; refine Ay rfl ?_ ?_
   ·intro c2
    try simp only [nb] at c2
    have hgo : x.go = none := by
     cases hg : x.go with
     | none => rfl
     | some d => rw [hg] at c2; cases c2
    have hres : e.goes N = (x, i) := by
     rw [hgs, hnx]
     simp only [Ex.goes, hgo, Nat.zero_add]
    have hle := hle.trans e2
    have hr1 := hr1.mono e2
    refine Cd rfl ?_; refine Se rfl ?_; refine A8 rfl .free rfl ?_; refine Ca rfl (Lr hr1 (by rw [Tree.text_len]; unfold Be; omega) _) ?_; rintro _ _ _ _ ⟨rfl, rfl, rfl⟩; refine Om rfl ?_
    iterate 3 refine Oa rfl ?_
    refine Aa ?_; refine Ak (.tmp rfl (.tmp rfl (.tmp rfl .nil))) ?_
    exact ⟨_, L, hle, Bt, by rw [hme, hres]; rfl, rfl⟩
   intro c2
   try simp only [nb] at c2
   obtain ⟨d, hd⟩ : ∃ d, x.go = some d := Option.isSome_iff_exists.1 (by simpa using c2); obtain rfl := hte d hd
   have hgd := Sb hc1 hd
   refine Aj (Se rfl ?_); refine A8 rfl .free rfl ?_; refine Bu rfl rfl rfl rfl .free ?_; refine Aa (Al rfl (Om rfl ?_)); refine Or rfl rfl rfl ?_; refine Oa rfl (Aa (Ar ?_)); refine Bk (fun w h => h.drop) (Bw (E' := [(1, .int .i64 (N : Nat)), (7, .pointer (some ⟨b7, 0, none⟩)), (9, .int .i64 ((i + 1 : Nat)))]) ⟨rfl, rfl, rfl, trivial⟩ (ih ⟨d, i + 1, J2, o1, k1⟩ ⟨hle1.trans e2, hr, (Mg hd).2.2, hgd.2, hiN, ?_⟩ D1)); rw [hgs, hnx]
   simp only [Ex.goes, hd, Nat.add_assoc, Nat.add_comm 1 i]
  intro c1
  try simp only [nb] at c1
  have hres : e.goes N = (x, i) := by
   rw [hgs, show N - i = 0 by omega]
   simp only [Ex.goes, Nat.zero_add]
  refine Cd rfl ?_; refine Se rfl ?_; refine A8 rfl .free rfl ?_; refine Ca rfl (Lr hr1 (by rw [Tree.text_len]; unfold Be; omega) _) ?_; rintro _ _ _ _ ⟨rfl, rfl, rfl⟩; refine Om rfl ?_
  iterate 3 refine Oa rfl ?_
  refine Aa ?_; refine Ak (.tmp rfl (.tmp rfl (.tmp rfl .nil))) ?_
  exact ⟨_, L, hle, Bt, by rw [hme, hres]; rfl, rfl⟩
structure SN where
 e : Ex
 i : Nat
 J : Heap
def Res.fin (r : Res) : Prop := r.v ≠ none ∨ r.stuck = true
theorem H0 {r : Res} {w : KV} (h : r.v = some w) : r.fin := .inl (by rw [h]; simp)
theorem Acf {r : Res} (h : ¬ r.fin) : r.v = none ∧ r.stuck = false := by
 unfold Res.fin at h
 rw [not_or] at h; refine ⟨?_, by simpa using h.2⟩
 cases hv : r.v with
 | none => rfl
 | some w => exact absurd (by rw [hv]; simp) h.1
theorem Qq (n : Nat) (e : Ex) (k : KE) : (eval (n + 1) e k).left ≤ n := by
 have h1 := fun a => B9 n a k
 cases e with
 | num s => exact Nat.le_refl _
 | name s => exact Nat.le_refl _
 | fn f x s t b => exact Nat.le_refl _
 | bin o a b =>
  rw [Gt]
  have h2 := B9 (eval n a k).left b k
  have h1 := h1 a
  split
  ·exact h1
  ·split
   ·omega
   ·split
    ·exact Nat.le_trans (B9 _ _ _) Ab
    ·simp only [Res.of]; omega
 | ite a b c =>
  rw [Ha]
  have h1 := h1 a
  split
  ·exact h1
  ·exact Nat.le_trans (B9 _ _ _) h1
  ·exact h1
 | lt x a b =>
  rw [Il]
  have h1 := h1 a
  split
  ·exact h1
  ·exact Nat.le_trans (B9 _ _ _) h1
 | un o a =>
  rw [Im]
  have h1 := h1 a
  split
  ·exact h1
  ·exact h1
def Ln (o : B5) (u w : KV) (q : Nat) : Res := match o, u with
 | .call, .clo f x s t c r => eval q c (.cons x w (.cons f (.clo f x s t c r) r))
 | o, u => .of (o.act u w) q
theorem Kr (n : Nat) (o : B5) (a b : Ex) (k : KE) : eval (n + 1) (.bin o a b) k =
  match (eval n a k).v with
  | none => eval n a k
  | some u => match (eval (eval n a k).left b k).v with
   | none => eval (eval n a k).left b k
   | some w => Ln o u w (eval (eval n a k).left b k).left := by
 rw [Gt]
 cases (eval n a k).v with
 | none => rfl
 | some u =>
  simp only
  cases (eval (eval n a k).left b k).v with
  | none => rfl
  | some w => cases o <;> cases u <;> rfl
theorem G1 {o : B5} {u w : KV} {q : Nat} (h : ¬ ∃ f x s t c r, o = .call ∧ u = .clo f x s t c r) : Ln o u w q = .of (o.act u w) q := by
 cases o <;> first | rfl | (cases u <;> first | rfl | exact absurd ⟨_, _, _, _, _, _, rfl, rfl⟩ h)
theorem Lo (o : B5) (u w : KV) (q : Nat) : (Ln o u w q).left ≤ q := by
 by_cases hc : ∃ f x s t c r, o = .call ∧ u = .clo f x s t c r
 ·obtain ⟨f, x, s, t, c, r, rfl, rfl⟩ := hc
  exact B9 _ _ _
 ·rw [G1 hc]; exact Nat.le_refl _
theorem Jz {f x : Au} {s t : Ty} {c : Ex} {r : KE} {w : KV} {q : Nat} : Ln .call (.clo f x s t c r) w q = eval q c (.cons x w (.cons f (.clo f x s t c r) r)) := rfl
def Res.at (r : Res) (n m : Nat) : Res := ⟨r.v, m + r.left - n, r.stuck⟩
theorem Ov : ∀ (n : Nat) (e : Ex) (k : KE) (m : Nat), (eval n e k).fin → n ≤ m + (eval n e k).left → eval m e k = (eval n e k).at n m := by
 intro n
 induction n using Nat.strongRecOn with
 | _ n ih =>
  intro e k m h hm
  cases n with
  | zero => rw [Ia] at h; rcases h with h | h; exact absurd rfl h; cases h
  | succ n =>
   have hl1 := Qq n e k
   obtain ⟨m, rfl⟩ : ∃ q, m = q + 1 := ⟨m - 1, by omega⟩
   have hl := fun e k => B9 n e k
   cases e with
   | num s => rw [Jp, Jp]; simp only [Res.at, Res.mk.injEq, and_true, true_and]; omega
   | name s => rw [H9, H9]; simp only [Res.at, Res.mk.injEq, and_true, true_and]; omega
   | fn f x s t b => rw [K5, K5]; simp only [Res.at, Res.mk.injEq, and_true, true_and]; omega
   | bin o a b =>
    have hla := hl a k
    rw [Kr n] at h hm ⊢; rw [Kr m]
    cases hp : (eval n a k).v with
    | none =>
     rw [hp] at h hm
     simp only at h hm ⊢
     rw [ih n Ab a k m h Ab]
     simp only [Res.at, hp, Res.mk.injEq, and_true, true_and]; omega
    | some u =>
     rw [hp] at h hm
     simp only at h hm ⊢
     have hlb := B9 (eval n a k).left b k
     cases hq : (eval (eval n a k).left b k).v with
     | none =>
      rw [hq] at h hm
      simp only at h hm ⊢
      rw [ih n Ab a k m (H0 hp) Ab]
      simp only [Res.at, hp]
      rw [ih _ Ab b k (m + (eval n a k).left - n) h Ab]
      simp only [Res.at, hq, Res.mk.injEq, and_true, true_and]; omega
     | some w =>
      rw [hq] at h hm
      simp only at h hm ⊢
      rw [ih n Ab a k m (H0 hp) (by have := Lo o u w (eval (eval n a k).left b k).left; omega)]
      simp only [Res.at, hp]
      rw [ih _ Ab b k (m + (eval n a k).left - n) (H0 hq) (by have := Lo o u w (eval (eval n a k).left b k).left; omega)]
      simp only [Res.at, hq]
      have hq2 := Lo o u w (eval (eval n a k).left b k).left
      rw [show m + (eval n a k).left - n + (eval (eval n a k).left b k).left - (eval n a k).left = m + (eval (eval n a k).left b k).left - n by omega]
      by_cases hc : ∃ f x s t c r, o = .call ∧ u = .clo f x s t c r
      ·obtain ⟨f, x, s, t, c, r, rfl, rfl⟩ := hc; rw [Jz] at h hm hq2 ⊢; rw [Jz]; rw [ih _ Ab c _ (m + (eval (eval n a k).left b k).left - n) h Ab]
       simp only [Res.at, Res.mk.injEq, and_true, true_and]; omega
      ·rw [G1 hc] at h hm hq2 ⊢; rw [G1 hc]
       simp only [Res.of] at h hm hq2 ⊢
       simp only [Res.mk.injEq, and_true, true_and]; omega
   | ite a b c =>
    have hla := hl a k
    rw [Ha n] at h hm ⊢; rw [Ha m]
    cases hp : (eval n a k).v with
    | none =>
     rw [hp] at h hm
     simp only at h hm ⊢
     rw [ih n Ab a k m h Ab]
     simp only [Res.at, hp, Res.mk.injEq, and_true, true_and]; omega
    | some u =>
     rw [hp] at h hm
     cases u with
     | num s =>
      simp only at h hm ⊢
      have hlb := B9 (eval n a k).left (if s = [48] then b else c) k
      rw [ih n Ab a k m (H0 hp) Ab]
      simp only [Res.at, hp]
      rw [ih _ Ab _ k (m + (eval n a k).left - n) h Ab]
      simp only [Res.at, Res.mk.injEq, and_true, true_and]; omega
     | _ =>
      simp only at h hm ⊢
      rw [ih n Ab a k m (H0 hp) Ab]
      simp only [Res.at, hp, Res.mk.injEq, and_true, true_and]; omega
   | lt x a b =>
    have hla := hl a k
    rw [Il n] at h hm ⊢; rw [Il m]
    cases hp : (eval n a k).v with
    | none =>
     rw [hp] at h hm
     simp only at h hm ⊢
     rw [ih n Ab a k m h Ab]
     simp only [Res.at, hp, Res.mk.injEq, and_true, true_and]; omega
    | some u =>
     rw [hp] at h hm
     simp only at h hm ⊢
     have hlb := B9 (eval n a k).left b (.cons x u k)
     rw [ih n Ab a k m (H0 hp) Ab]
     simp only [Res.at, hp]
     rw [ih _ Ab b _ (m + (eval n a k).left - n) h Ab]
     simp only [Res.at, Res.mk.injEq, and_true, true_and]; omega
   | un o a =>
    have hla := hl a k
    rw [Im n] at h hm ⊢; rw [Im m]
    cases hp : (eval n a k).v with
    | none =>
     rw [hp] at h hm
     simp only at h hm ⊢
     rw [ih n Ab a k m h Ab]
     simp only [Res.at, hp, Res.mk.injEq, and_true, true_and]; omega
    | some u =>
     rw [hp] at h hm
     simp only [Res.of] at h hm ⊢
     rw [ih n Ab a k m (H0 hp) Ab]
     simp only [Res.at, hp, Res.mk.injEq, and_true, true_and]; omega
theorem Yu {n n' : Nat} {e : Ex} {k : KE} (h : n' + (eval n e k).left < n) : (eval n' e k).v = none ∧ (eval n' e k).stuck = false := by
 by_cases hf : (eval n' e k).fin
 ·have h2 := B9 n' e k
  have := Ov n' e k n hf Ab
  rw [this] at h
  simp only [Res.at] at h; omega
 ·exact Acf hf
theorem Yv {n m : Nat} {e : Ex} {k : KE} (h : (eval n e k).fin) (hm : n ≤ m) : eval m e k = (eval n e k).at n m := Ov n e k m h (by omega)
def Ex.kv (k : KE) : Ex → KV
 | .num s => .num s
 | .bin _ a b => .pair (a.kv k) (b.kv k)
 | .fn f x s t b => .clo f x s t b k
 | _ => .num []
def Ex.cost : Ex → Nat
 | .bin _ a b => 1 + a.cost + b.cost
 | _ => 1
def KV.show : KV → Au
 | .num s => s
 | .pair a b => [40, 112, 97, 105, 114, 32] ++ a.show ++ [32] ++ b.show ++ [41]
 | .clo _ _ _ _ _ _ => [102, 117, 110]
theorem Uh : ∀ w : KV, w.ex.print.text = w.show
 | .num s => rfl
 | .pair a b => by
  simp only [KV.ex, Ex.print, KV.show, ← Uh a, ← Uh b]
  simp [Tree.text, Fx, Do]
 | .clo f x s t b r => rfl
def KV.wr (m : Nat) : KV → Au → Au
 | .num s, o => if m < o.length then o else o ++ s
 | .pair a b, o => if m < o.length then o else b.wr m (a.wr m (o ++ [40, 112, 97, 105, 114, 32]) ++ [32]) ++ [41]
 | .clo _ _ _ _ _ _, o => if m < o.length then o else o ++ [102, 117, 110]
theorem I0 (m : Nat) (w : KV) (o : Au) (h : m < o.length) : w.wr m o = o := by cases w <;> simp only [KV.wr, if_pos h]
theorem Pl : ∀ (m : Nat) (w : KV) (o : Au), o.length + w.show.length ≤ m → w.wr m o = o ++ w.show
 | m, .num s, o, h => by simp only [KV.show] at h; simp only [KV.wr, KV.show]; rw [if_neg (by omega)]
 | m, .clo _ _ _ _ _ _, o, h => by simp only [KV.show] at h; simp only [KV.wr, KV.show]; rw [if_neg (by omega)]
 | m, .pair a b, o, h => by
  simp only [KV.show, List.length_append, List.length_cons, List.length_nil] at h
  simp only [KV.wr, KV.show]
  rw [if_neg (by omega)]; rw [Pl m a _ (by simp only [List.length_append, List.length_cons, List.length_nil]; omega)]; rw [Pl m b _ (by simp only [List.length_append, List.length_cons, List.length_nil]; omega)]
  simp only [List.append_assoc]
theorem Uk : ∀ (m : Nat) (w : KV) (o : Au), o.length ≤ (w.wr m o).length
 | m, .num s, o => by simp only [KV.wr]; split <;> simp
 | m, .clo _ _ _ _ _ _, o => by simp only [KV.wr]; split <;> simp
 | m, .pair a b, o => by
  simp only [KV.wr]
  split
  ·exact Nat.le_refl _
  ·have h1 := Uk m a (o ++ [40, 112, 97, 105, 114, 32])
   have h2 := Uk m b (a.wr m (o ++ [40, 112, 97, 105, 114, 32]) ++ [32])
   simp only [List.length_append, List.length_cons, List.length_nil] at h1 h2 ⊢
   omega
theorem Ul : ∀ (m : Nat) (w : KV) (o : Au), m < o.length + w.show.length → m < (w.wr m o).length
 | m, .num s, o, h => by
  simp only [KV.show] at h
  simp only [KV.wr]
  split
  ·assumption
  ·simpa using h
 | m, .clo _ _ _ _ _ _, o, h => by
  simp only [KV.show] at h
  simp only [KV.wr]
  split
  ·assumption
  ·simpa using h
 | m, .pair a b, o, h => by
  simp only [KV.show, List.length_append, List.length_cons, List.length_nil] at h
  simp only [KV.wr]
  split
  ·assumption
  ·have h1 := Uk m a (o ++ [40, 112, 97, 105, 114, 32])
   have h2 := Uk m b (a.wr m (o ++ [40, 112, 97, 105, 114, 32]) ++ [32])
   simp only [List.length_append, List.length_cons, List.length_nil] at h1 h2 ⊢
   by_cases ha : m < o.length + 6 + a.show.length
   ·have := Ul m a (o ++ [40, 112, 97, 105, 114, 32]) (by simpa using ha)
    omega
   ·rw [Pl m a _ (by simp only [List.length_append, List.length_cons, List.length_nil]; omega)] at h2 ⊢
    simp only [List.length_append, List.length_cons, List.length_nil] at h2
    by_cases hb : m < o.length + 6 + a.show.length + 1 + b.show.length
    ·have := Ul m b (o ++ [40, 112, 97, 105, 114, 32] ++ a.show ++ [32]) (by simp only [List.length_append, List.length_cons, List.length_nil]; omega)
     omega
    ·rw [Pl m b _ (by simp only [List.length_append, List.length_cons, List.length_nil]; omega)]
     simp only [List.length_append, List.length_cons, List.length_nil]
     omega
mutual
def KV.high : KV → Nat
 | .num _ => 0
 | .pair a b => 1 + max a.high b.high
 | .clo _ _ _ _ _ r => r.high
def KE.high : KE → Nat
 | .nil => 0
 | .cons _ v up => max v.high up.high
end
theorem Um : ∀ (m : Nat) (w : KV) (o : Au), w.wf → o.length ≤ m → (w.wr m o).length ≤ m + 6 + 2 * w.high
 | m, .num s, o, hw, h => by
  have := Id (show Cc s = true from hw)
  simp only [KV.wr]
  rw [if_neg (by omega)]
  simp only [List.length_append]; omega
 | m, .clo _ _ _ _ _ _, o, hw, h => by
  simp only [KV.wr]
  rw [if_neg (by omega)]
  simp only [List.length_append, List.length_cons, List.length_nil]; omega
 | m, .pair a b, o, hw, h => by
  simp only [KV.wr, KV.high]
  rw [if_neg (by omega)]
  have ha : (a.wr m (o ++ [40, 112, 97, 105, 114, 32])).length ≤ m + 6 + 2 * a.high := by
   by_cases h6 : m < o.length + 6
   ·rw [I0 m a _ (by simpa using h6)]
    simp only [List.length_append, List.length_cons, List.length_nil]; omega
   ·exact Um m a _ hw.1 Nf
  have hb : (b.wr m (a.wr m (o ++ [40, 112, 97, 105, 114, 32]) ++ [32])).length ≤ m + 7 + 2 * max a.high b.high := by
   by_cases h6 : m < (a.wr m (o ++ [40, 112, 97, 105, 114, 32])).length + 1
   ·rw [I0 m b _ (by simpa using h6)]
    simp only [List.length_append, List.length_cons, List.length_nil]; omega
   ·have := Um m b (a.wr m (o ++ [40, 112, 97, 105, 114, 32]) ++ [32]) hw.2 Nf
    omega
  simp only [List.length_append, List.length_cons, List.length_nil]; omega
theorem Sj : ∀ {k : KE} {n : Au} {v : KV}, k.look n = some v → v.high ≤ k.high
 | .nil, n, v, h => by cases h
 | .cons m u up, n, v, h => by
  simp only [KE.look] at h
  simp only [KE.high]
  split at h
  ·obtain rfl := Option.some.inj h; omega
  ·have := Sj h; omega
theorem Z5 {o : B5} {u w v : KV} (h : o.act u w = some v) : v.high ≤ 1 + max u.high w.high := by
 cases o with
 | pair => obtain rfl := Option.some.inj h; exact Nat.le_refl _
 | call => cases h
 | _ =>
  cases u with
  | num s =>
   cases w with
   | num q => obtain rfl := Option.some.inj h; exact Nat.zero_le _
   | _ => cases h
  | _ => cases w <;> cases h
theorem Yi {o : U2} {u v : KV} (h : o.act u = some v) : v.high ≤ u.high := by
 cases u with
 | pair a b => cases o <;> (obtain rfl := Option.some.inj h; simp only [KV.high]; omega)
 | _ => cases o <;> cases h
theorem R2 : ∀ (n : Nat) (e : Ex) (k : KE) {w : KV}, (eval n e k).v = some w → w.high + (eval n e k).left ≤ k.high + n := by
 intro n
 induction n using Nat.strongRecOn with
 | _ n ih =>
  intro e k w h
  cases n with
  | zero => rw [Ia] at h; cases h
  | succ n =>
   have hl := fun e k => B9 n e k
   cases e with
   | num s => rw [Jp] at h ⊢; obtain rfl := Option.some.inj h; simp only [KV.high]; omega
   | name s => rw [H9] at h ⊢; have := Sj h; simp only; omega
   | fn f x s t b => rw [K5] at h ⊢; obtain rfl := Option.some.inj h; simp only [KV.high]; omega
   | bin o a b =>
    have hla := hl a k
    have hlb := B9 (eval n a k).left b k
    rw [Kr n] at h ⊢
    cases hp : (eval n a k).v with
    | none => rw [hp] at h; simp only at h; rw [hp] at h; cases h
    | some u =>
     rw [hp] at h
     simp only at h ⊢
     have h1 := ih n Ab a k hp
     cases hq : (eval (eval n a k).left b k).v with
     | none => rw [hq] at h; simp only at h; rw [hq] at h; cases h
     | some v =>
      rw [hq] at h
      simp only at h ⊢
      have h2 := ih _ Ab b k hq
      by_cases hc : ∃ f x s t c r, o = .call ∧ u = .clo f x s t c r
      ·obtain ⟨f, x, s, t, c, r, rfl, rfl⟩ := hc; rw [Jz] at h ⊢
       have h3 := ih _ Ab c _ h
       simp only [KE.high, KV.high] at h3 h1
       omega
      ·rw [G1 hc] at h ⊢
       have := Z5 (show o.act u v = some w from h)
       simp only [Res.of]; omega
   | ite a b c =>
    have hla := hl a k
    rw [Ha n] at h ⊢
    cases hp : (eval n a k).v with
    | none => rw [hp] at h; simp only at h; rw [hp] at h; cases h
    | some u =>
     rw [hp] at h
     cases u with
     | num s =>
      simp only at h ⊢
      have := ih _ Ab _ k h
      omega
     | _ => cases h
   | lt x a b =>
    have hla := hl a k
    rw [Il n] at h ⊢
    cases hp : (eval n a k).v with
    | none => rw [hp] at h; simp only at h; rw [hp] at h; cases h
    | some u =>
     rw [hp] at h
     simp only at h ⊢
     have h1 := ih n Ab a k hp
     have := ih _ Ab b _ h
     simp only [KE.high] at this
     omega
   | un o a =>
    have hla := hl a k
    rw [Im n] at h ⊢
    cases hp : (eval n a k).v with
    | none => rw [hp] at h; simp only at h; rw [hp] at h; cases h
    | some u =>
     rw [hp] at h
     simp only at h ⊢
     have h1 := ih n Ab a k hp
     have := Yi (show o.act u = some w from h)
     simp only [Res.of]; omega
mutual
def KV.tall : KV → Nat
 | .num _ => 0
 | .pair a b => max a.tall b.tall
 | .clo _ _ _ _ _ r => r.tall
def KE.tall : KE → Nat
 | .nil => 0
 | .cons _ v up => 1 + max v.tall up.tall
end
def KE.names : KE → List Au
 | .nil => []
 | .cons n _ up => up.names ++ [n]
theorem Lb : ∀ k : KE, k.names.length ≤ k.tall
 | .nil => Nat.le_refl _
 | .cons n v up => by have := Lb up; simp only [KE.names, KE.tall, List.length_append, List.length_cons, List.length_nil]; omega
theorem Sk : ∀ {k : KE} {n : Au} {v : KV}, k.look n = some v → v.tall ≤ k.tall
 | .nil, n, v, h => by cases h
 | .cons m u up, n, v, h => by
  simp only [KE.look] at h
  simp only [KE.tall]
  split at h
  ·obtain rfl := Option.some.inj h; omega
  ·have := Sk h; omega
theorem Z8 {o : B5} {u w v : KV} (h : o.act u w = some v) : v.tall ≤ max u.tall w.tall := by
 cases o with
 | pair => obtain rfl := Option.some.inj h; exact Nat.le_refl _
 | call => cases h
 | _ =>
  cases u with
  | num s =>
   cases w with
   | num q => obtain rfl := Option.some.inj h; exact Nat.zero_le _
   | _ => cases h
  | _ => cases w <;> cases h
theorem Yl {o : U2} {u v : KV} (h : o.act u = some v) : v.tall ≤ u.tall := by
 cases u with
 | pair a b => cases o <;> (obtain rfl := Option.some.inj h; simp only [KV.tall]; omega)
 | _ => cases o <;> cases h
theorem Ks : ∀ (n : Nat) (e : Ex) (k : KE) {w : KV}, (eval n e k).v = some w → w.tall + 2 * (eval n e k).left ≤ k.tall + 2 * n := by
 intro n
 induction n using Nat.strongRecOn with
 | _ n ih =>
  intro e k w h
  cases n with
  | zero => rw [Ia] at h; cases h
  | succ n =>
   have hl := fun e k => B9 n e k
   cases e with
   | num s => rw [Jp] at h ⊢; obtain rfl := Option.some.inj h; simp only [KV.tall]; omega
   | name s => rw [H9] at h ⊢; have := Sk h; simp only; omega
   | fn f x s t b => rw [K5] at h ⊢; obtain rfl := Option.some.inj h; simp only [KV.tall]; omega
   | bin o a b =>
    have hla := hl a k
    have hlb := B9 (eval n a k).left b k
    rw [Kr n] at h ⊢
    cases hp : (eval n a k).v with
    | none => rw [hp] at h; simp only at h; rw [hp] at h; cases h
    | some u =>
     rw [hp] at h
     simp only at h ⊢
     have h1 := ih n Ab a k hp
     cases hq : (eval (eval n a k).left b k).v with
     | none => rw [hq] at h; simp only at h; rw [hq] at h; cases h
     | some v =>
      rw [hq] at h
      simp only at h ⊢
      have h2 := ih _ Ab b k hq
      by_cases hc : ∃ f x s t c r, o = .call ∧ u = .clo f x s t c r
      ·obtain ⟨f, x, s, t, c, r, rfl, rfl⟩ := hc; rw [Jz] at h ⊢
       have h3 := ih _ Ab c _ h
       simp only [KE.tall, KV.tall] at h3 h1
       omega
      ·rw [G1 hc] at h ⊢
       have := Z8 (show o.act u v = some w from h)
       simp only [Res.of]; omega
   | ite a b c =>
    have hla := hl a k
    rw [Ha n] at h ⊢
    cases hp : (eval n a k).v with
    | none => rw [hp] at h; simp only at h; rw [hp] at h; cases h
    | some u =>
     rw [hp] at h
     cases u with
     | num s =>
      simp only at h ⊢
      have := ih _ Ab _ k h
      omega
     | _ => cases h
   | lt x a b =>
    have hla := hl a k
    rw [Il n] at h ⊢
    cases hp : (eval n a k).v with
    | none => rw [hp] at h; simp only at h; rw [hp] at h; cases h
    | some u =>
     rw [hp] at h
     simp only at h ⊢
     have h1 := ih n Ab a k hp
     have := ih _ Ab b _ h
     simp only [KE.tall] at this
     omega
   | un o a =>
    have hla := hl a k
    rw [Im n] at h ⊢
    cases hp : (eval n a k).v with
    | none => rw [hp] at h; simp only at h; rw [hp] at h; cases h
    | some u =>
     rw [hp] at h
     simp only at h ⊢
     have h1 := ih n Ab a k hp
     have := Yl (show o.act u = some w from h)
     simp only [Res.of]; omega
def My (e : Ex) (n : Nat) : Option (Au × Nat) := match (eval n e .nil).v with
 | some w => if w.show.length ≤ 12000 then some (w.show, n - (eval n e .nil).left) else none
 | none => none
def Hz (s : Au) (n : Int) : Option (Au × Nat) := if 0 ≤ n ∧ n ≤ 2000 then (Cf s).bind fun e => My e n.toNat else none
def Aet (s : Au) (n : Int) : Bool := if 0 ≤ n ∧ n ≤ 2000 then (match Cf s with | some e => (eval n.toNat e .nil).stuck | none => false) else false
def Afl (s : Au) : Int := match Hz s 2000 with
 | some r => (r.2 : Nat)
 | none => -1
theorem Jo {s : Au} {e : Ex} {n : Nat} (h : Cf s = some e) (hn : n ≤ 2000) : Hz s (n : Nat) = My e n := by
 unfold Hz; rw [if_pos Ab, h]; rfl
theorem Jn {s : Au} {n : Int} (h : Cf s = none ∨ ¬ (0 ≤ n ∧ n ≤ 2000)) : Hz s n = none := by
 unfold Hz
 rcases h with h | h
 ·rw [h]; split <;> rfl
 ·rw [if_neg h]
theorem Kj {s : Au} {e : Ex} (h : Cf s = some e) (n : Nat) : (eval n e .nil).says e := by
 obtain ⟨hx, hok, hz, hl, hcl⟩ := F5 h
 have hc : e.occ [] = [] := by simpa [Ex.closed] using hcl
 have := Ox n e .nil trivial hok (fun y hy => by rw [hc] at hy; cases hy)
 exact this
theorem Aam {e : Ex} {n : Nat} {r : Au × Nat} (h : My e n = some r) : ∃ w, (eval n e .nil).v = some w ∧ r = (w.show, n - (eval n e .nil).left) ∧ w.show.length ≤ 12000 := by
 unfold My at h
 cases hv : (eval n e .nil).v with
 | none => rw [hv] at h; cases h
 | some w =>
  rw [hv] at h
  simp only at h
  split at h
  ·exact ⟨w, rfl, (Option.some.inj h).symm, by assumption⟩
  ·cases h
theorem Nn {e : Ex} {n : Nat} {w : KV} (h : (eval n e .nil).v = some w) (hl : w.show.length ≤ 12000) : My e n = some (w.show, n - (eval n e .nil).left) := by
 unfold My; rw [h]; simp only; rw [if_pos hl]
theorem Tm {e : Ex} {n : Nat} (h : (eval n e .nil).v = none) : My e n = none := by unfold My; rw [h]
theorem No {s : Au} {n : Int} {r : Au × Nat} (h : Hz s n = some r) : ∃ (e : Ex) (N : Nat) (w : KV), Cf s = some e ∧ n = (N : Nat) ∧ N ≤ 2000 ∧ (eval N e .nil).v = some w ∧ r = (w.show, N - (eval N e .nil).left) ∧ w.show.length ≤ 12000 ∧ w.wf ∧ Goes e w.ex := by
 unfold Hz at h
 split at h
 ·rename_i hn
  obtain ⟨e, he, hr⟩ := Option.bind_eq_some_iff.1 h; obtain ⟨w, hw, hr2, hl⟩ := Aam hr; obtain ⟨h1, h2⟩ := Res.says.some hw (Kj he n.toNat)
  exact ⟨e, n.toNat, w, he, by omega, by omega, hw, hr2, hl, h1, h2⟩
 ·cases h
theorem Wg {n : Nat} {e : Ex} {k : KE} (h : (eval n e k).fin) : (eval n e k).left < n := by
 cases n with
 | zero => rw [Ia] at h; rcases h with h | h; exact absurd rfl h; cases h
 | succ n => have := Qq n e k; omega
theorem Ww {s : Au} {n m : Nat} {r : Au × Nat} (h : Hz s (n : Nat) = some r) (hm : n ≤ m) (hm2 : m ≤ 2000) : Hz s (m : Nat) = some r := by
 obtain ⟨e, N, w, he, hN, hN2, hw, rfl, hl, -, -⟩ := No h; obtain rfl : n = N := by omega
 have hmo := Yv (H0 hw) hm
 have hle := B9 n e .nil
 rw [Jo he hm2, Nn (w := w) (by rw [hmo]; exact hw) hl, hmo]
 simp only [Res.at, Option.some.injEq, Prod.mk.injEq, true_and]; omega
theorem Wx {s : Au} {n : Nat} {r : Au × Nat} (h : Hz s (n : Nat) = some r) : Hz s (r.2 : Nat) = some r ∧ 1 ≤ r.2 ∧ r.2 ≤ n := by
 obtain ⟨e, N, w, he, hN, hN2, hw, rfl, hl, -, -⟩ := No h; obtain rfl : n = N := by omega
 have hle := B9 n e .nil
 have hlt := Wg (H0 hw)
 have hmo := Ov n e .nil (n - (eval n e .nil).left) (H0 hw) Ab
 simp only
 refine ⟨?_, by omega, by omega⟩; rw [Jo he Ab, Nn (w := w) (by rw [hmo]; exact hw) hl, hmo]
 simp only [Res.at, Option.some.injEq, Prod.mk.injEq, true_and]; omega
theorem Wv {s : Au} {n : Nat} {r : Au × Nat} (h : Hz s (n : Nat) = some r) : Hz s ((r.2 : Nat) - 1) = none := by
 obtain ⟨e, N, w, he, hN, hN2, hw, rfl, hl, -, -⟩ := No h; obtain rfl : n = N := by omega
 have hle := B9 n e .nil
 have hlt := Wg (H0 hw)
 simp only
 rw [show ((n - (eval n e .nil).left : Nat) : Int) - 1 = ((n - (eval n e .nil).left - 1 : Nat) : Int) by omega, Jo he Ab]
 exact Tm (Yu (n := n) Ab).1
theorem Aco (n : Nat) : ∀ e : Ex, Goes e (e.goes n).1 := by
 induction n with
 | zero => intro e; exact .refl
 | succ n ih =>
  intro e
  simp only [Ex.goes]
  cases hg : e.go with
  | none => exact .refl
  | some d => exact .next (Mg hg).2.1 (ih d)
theorem Rt {e x : Ex} {w : KV} (hw : w.wf) (h : Goes e w.ex) (hx : Goes e x) (hv : x.value = true) : x.print.text = w.show := by
 obtain rfl := h.end (Nd (KV.closed hw).2.1) hx (Nd hv)
 exact Uh w
theorem Goes.ty {e d : Ex} (h : Goes e d) {t : Ty} (hok : e.ok = true) (hc : e.occ [] = []) (ht : e.ty [] [] = some t) : d.ty [] [] = some t ∧ d.ok = true ∧ d.occ [] = [] := by
 induction h with
 | refl => exact ⟨ht, hok, hc⟩
 | next hs _ ih => exact ih (Ex.step_ok hok hs) (Ex.step_closed hc hs) (Ih hok hc hs ht)
theorem H6 (b : Nat) (pre : Bool) (xs : Au) (B : K1) (c : Nat) (hB : Z0 xs B c) (I : Heap) (L : Bm) :
  Fun Tryz.prog 45 [.pointer (some ⟨b, 0, none⟩)] I (S8 b pre xs B c L) (fun v I' L' => v = .int .i64 (xs.length : Nat) ∧ I = I' ∧ L' = S8 b pre xs B c L) := by
 cases B with
 | none =>
  obtain ⟨⟨h1, h2, h3⟩, _⟩ := hB; obtain rfl : xs = [] := by simpa using h1
  refine Ap Af ?_; refine Se rfl (Oa rfl (Aa (Ah ?_)))
  simp only [S8, Cn, List.nil_append, Ci]
  refine Al rfl (Om rfl ?_); refine Az rfl .free rfl ?_
  first | refine Oh rfl ?_ | refine Oj rfl ?_
  refine Cz rfl .free rfl ?_; refine On rfl (Oa rfl (Aa (Ak (.tmp rfl .nil) ?_)))
  exact ⟨I, _, .refl _, fun _ h => h, rfl, rfl, rfl⟩
 | some p =>
  obtain ⟨bb, sp⟩ := p; refine Ap Af ?_; refine Se rfl (Oa rfl (Aa (Ah ?_)))
  simp only [S8, Cn, List.cons_append, List.nil_append, Ci]
  refine Al rfl (Om rfl ?_); refine Az rfl .free rfl ?_
  first | refine Oh rfl ?_ | refine Oj rfl ?_
  refine Cz rfl .free rfl ?_; refine On rfl (Oa rfl (Aa (Ak (.tmp rfl .nil) ?_)))
  exact ⟨I, _, .refl _, fun _ h => h, rfl, rfl, rfl⟩
theorem Ab4 (w : KV) (o : Au) (hw : w.wf) (hh : w.high ≤ 4000) (ho : o.length ≤ 12010) : (w.wr 12000 o).length ≤ 20010 := by
 by_cases h : 12000 < o.length
 ·rw [I0 _ _ _ h]; omega
 ·have := Um 12000 w o hw Ab
  omega
theorem Kh {a b : KV} {o : Au} (h : ¬ 12000 < o.length) : (KV.pair a b).wr 12000 o = b.wr 12000 (a.wr 12000 (o ++ [40, 112, 97, 105, 114, 32]) ++ [32]) ++ [41] := by simp only [KV.wr, if_neg h]
theorem Qt : ∀ (N : Nat) {I : Heap} {w : KV} {a : Addr} (_ : SizeOf.sizeOf w < N) (_ : KVat I w a) (_ : w.wf) (_ : w.high ≤ 4000) (b : Nat) (pre : Bool) (xs : Au) (B : K1) (c : Nat) (_ : Z0 xs B c) (_ : xs.length ≤ 100000) (L : Bm),
  Fun Tryz.prog 44 [.pointer (some a), .pointer (some ⟨b, 0, none⟩)] I (S8 b pre xs B c L)
  (fun v I' L' => v = .tuple #[] ∧ I = I' ∧ ∃ pre' B' c', Z0 (w.wr 12000 xs) B' c' ∧ L' = S8 b pre' (w.wr 12000 xs) B' c' L) := by
 intro N
 induction N with
 | zero => intro I w a h; omega
 | succ N ihn =>
  intro I w a hlt h hwf hhi b pre xs B c hB hx L; refine Ap Af ?_; refine Aq (Se rfl (Om rfl ?_)); refine Ca rfl (H6 b pre xs B c hB _ _) ?_; rintro _ _ _ _ ⟨rfl, rfl, rfl⟩; refine Oc rfl rfl rfl (Oa rfl (Aa ?_)); refine Si rfl ?_ ?_
  ·intro c0; refine Aj (Ar ?_); refine Kg .nil ?_
   first
   | exact ⟨I, _, .refl _, fun _ h => h, rfl, rfl, pre, B, c, by rw [I0 _ _ _ Ab]; exact hB, by rw [I0 _ _ _ Ab]⟩
   | exact ⟨I, _, .refl _, fun _ h => h, rfl, rfl, true, B1, c1, by simp only [KV.wr, if_neg hxs]; exact hB1, by simp only [KV.wr, if_neg hxs]⟩
   | exact ⟨I, _, .refl _, fun _ h => h, rfl, rfl, true, B5, c6, by rw [Kh hxs]; exact hB5, by rw [Kh hxs]⟩
  intro c0
  have hxs : ¬ 12000 < xs.length := by omega
  refine Ah ?_
  rcases h with @⟨s, a, hs⟩ | @⟨u1, u2, a, q2, p1, p2, c2, hs, hq2, hc2, h1, h2⟩ | @⟨f, x, s, t, bd, r, a, fa, oo, c2, pr, hs, hf, hrp, he⟩
  ·skip
   have hsl := Id (show Cc s = true from hwf)
   refine Al rfl (Om rfl ?_); refine Az rfl .free rfl ?_
   first | refine Oh rfl ?_ | refine Oj rfl ?_
   refine B0 rfl (Bd hs Ae rfl) .free rfl ?_; refine Pa rfl rfl .free rfl ?_; refine Oa rfl (Aa ?_)
   first | refine Sf rfl Af ?_ | refine As Ai ?_
   refine Se rfl (Om rfl ?_); refine Az rfl .free rfl ?_
   first | refine Oh rfl ?_ | refine Oj rfl ?_
   refine B0 rfl (Bd hs Ae rfl) .free rfl ?_; refine Mk rfl rfl .free rfl ?_; refine Oa rfl (Aa ?_)
   first | refine Sf rfl Af ?_ | refine As Ai ?_
   refine Al rfl (Om rfl (Om rfl ?_)); refine Az rfl .free rfl ?_
   first | refine Oh rfl ?_ | refine Oj rfl ?_
   refine B0 rfl (Bd hs Ae rfl) .free rfl ?_; refine Ca rfl (C5 b pre xs B c s hB Cu _ _) ?_; rintro _ _ _ _ ⟨rfl, rfl, B1, c1, hB1, rfl⟩; refine Aa (Ar ?_); refine Kg .nil ?_
   first
   | exact ⟨I, _, .refl _, fun _ h => h, rfl, rfl, pre, B, c, by rw [I0 _ _ _ Ab]; exact hB, by rw [I0 _ _ _ Ab]⟩
   | exact ⟨I, _, .refl _, fun _ h => h, rfl, rfl, true, B1, c1, by simp only [KV.wr, if_neg hxs]; exact hB1, by simp only [KV.wr, if_neg hxs]⟩
   | exact ⟨I, _, .refl _, fun _ h => h, rfl, rfl, true, B5, c6, by rw [Kh hxs]; exact hB5, by rw [Kh hxs]⟩
  ·skip
   have r0 : Still I (q2.add (0 * 1)) [.pointer (some p1)] := hq2.cellAt 0 rfl
   have r1 : Still I (q2.add (1 * 1)) [.pointer (some p2)] := hq2.cellAt 1 rfl
   simp only [KV.high] at hhi
   simp only [KV.pair.sizeOf_spec] at hlt
   refine Al rfl (Om rfl ?_); refine Az rfl .free rfl ?_
   first | refine Oh rfl ?_ | refine Oj rfl ?_
   refine B0 rfl (Bd hs Ae rfl) .free rfl ?_; refine Pa rfl rfl .free rfl ?_; refine Oa rfl (Aa ?_)
   first | refine St rfl Af ?_ | refine Bo Ai ?_
   refine Se rfl (Om rfl ?_); refine Ca rfl (C5 b pre xs B c [40, 112, 97, 105, 114, 32] hB Nh _ _) ?_; rintro _ _ _ _ ⟨rfl, rfl, B1, c1, hB1, rfl⟩; refine Aa (Se rfl (Om rfl ?_)); refine Az rfl .free rfl ?_
   first | refine Oh rfl ?_ | refine Oj rfl ?_
   refine B0 rfl (Bd hs Ae rfl) .free rfl ?_; refine Cv rfl rfl 0 rfl B7 Dv .free rfl ?_; refine B0 rfl (Bc r0 rfl) .free rfl ?_; refine Om rfl ?_; refine Ca rfl (ihn Ab h1 hwf.1 Ab b true _ B1 c1 hB1 Nf _) ?_; rintro _ _ _ _ ⟨rfl, rfl, pr2, B2, c3, hB2, rfl⟩
   have hw1 := Ab4 u1 (xs ++ [40, 112, 97, 105, 114, 32]) hwf.1 Ab Nf
   refine Aa (Se rfl (Om rfl ?_)); refine Ca rfl (C5 b pr2 _ B2 c3 [32] hB2 Nh _ _) ?_; rintro _ _ _ _ ⟨rfl, rfl, B3, c4, hB3, rfl⟩; refine Aa (Se rfl (Om rfl ?_)); refine Az rfl .free rfl ?_
   first | refine Oh rfl ?_ | refine Oj rfl ?_
   refine B0 rfl (Bd hs Ae rfl) .free rfl ?_; refine Cv rfl rfl 1 rfl B7 Dv .free rfl ?_; refine B0 rfl (Bc r1 rfl) .free rfl ?_; refine Om rfl ?_; refine Ca rfl (ihn Ab h2 hwf.2 Ab b true _ B3 c4 hB3 (by simp only [List.length_append, List.length_cons, List.length_nil] at hw1 ⊢; omega) _) ?_; rintro _ _ _ _ ⟨rfl, rfl, pr4, B4, c5, hB4, rfl⟩
   have hw2 : (u2.wr 12000 (u1.wr 12000 (xs ++ [40, 112, 97, 105, 114, 32]) ++ [32])).length ≤ 30010 := by
    by_cases hq : 12000 < (u1.wr 12000 (xs ++ [40, 112, 97, 105, 114, 32]) ++ [32]).length
    ·rw [I0 _ _ _ hq]; simp only [List.length_append, List.length_cons, List.length_nil] at hw1 ⊢; omega
    ·have := Ab4 u2 _ hwf.2 Ab (show (u1.wr 12000 (xs ++ [40, 112, 97, 105, 114, 32]) ++ [32]).length ≤ 12010 by omega)
     omega
   refine Aa (Al rfl (Om rfl ?_)); refine Ca rfl (C5 b pr4 _ B4 c5 [41] hB4 Nh _ _) ?_; rintro _ _ _ _ ⟨rfl, rfl, B5, c6, hB5, rfl⟩; refine Aa (Ar ?_); refine Kg .nil ?_
   first
   | exact ⟨I, _, .refl _, fun _ h => h, rfl, rfl, pre, B, c, by rw [I0 _ _ _ Ab]; exact hB, by rw [I0 _ _ _ Ab]⟩
   | exact ⟨I, _, .refl _, fun _ h => h, rfl, rfl, true, B1, c1, by simp only [KV.wr, if_neg hxs]; exact hB1, by simp only [KV.wr, if_neg hxs]⟩
   | exact ⟨I, _, .refl _, fun _ h => h, rfl, rfl, true, B5, c6, by rw [Kh hxs]; exact hB5, by rw [Kh hxs]⟩
  ·skip
   refine Al rfl (Om rfl ?_); refine Az rfl .free rfl ?_
   first | refine Oh rfl ?_ | refine Oj rfl ?_
   refine B0 rfl (Bd hs Ae rfl) .free rfl ?_; refine Pa rfl rfl .free rfl ?_; refine Oa rfl (Aa ?_)
   first | refine Sf rfl Af ?_ | refine As Ai ?_
   refine Se rfl (Om rfl ?_); refine Az rfl .free rfl ?_
   first | refine Oh rfl ?_ | refine Oj rfl ?_
   refine B0 rfl (Bd hs Ae rfl) .free rfl ?_; refine Mk rfl rfl .free rfl ?_; refine Oa rfl (Aa ?_)
   first | refine St rfl Af ?_ | refine Bo Ai ?_
   refine Al rfl (Om rfl ?_); refine Ca rfl (C5 b pre xs B c [102, 117, 110] hB Nh _ _) ?_; rintro _ _ _ _ ⟨rfl, rfl, B1, c1, hB1, rfl⟩; refine Aa (Ar ?_); refine Kg .nil ?_
   first
   | exact ⟨I, _, .refl _, fun _ h => h, rfl, rfl, pre, B, c, by rw [I0 _ _ _ Ab]; exact hB, by rw [I0 _ _ _ Ab]⟩
   | exact ⟨I, _, .refl _, fun _ h => h, rfl, rfl, true, B1, c1, by simp only [KV.wr, if_neg hxs]; exact hB1, by simp only [KV.wr, if_neg hxs]⟩
   | exact ⟨I, _, .refl _, fun _ h => h, rfl, rfl, true, B5, c6, by rw [Kh hxs]; exact hB5, by rw [Kh hxs]⟩
theorem Wz (s : Au) (hs : s.length ≤ Be) (n : Int) {I : Heap} (ht : Tab I) (L : Bm) : Fun Tryz.prog 13 [.string (str s), .int .i64 n] I L (MN (Hz s n) L) := by
 refine Ap Af ?_; refine Se rfl ?_
 iterate 3 refine Oa rfl ?_
 refine Aa (Se rfl (Om rfl ?_)); refine Ca rfl (K7 s hs _ _) ?_; rintro _ J _ hleJ ⟨t, cs, ok, rfl, hrep, rfl, hpf⟩; obtain ⟨oc, cc, _, rfl, -⟩ := hrep.open; refine Om rfl (Oe rfl rfl (Oe rfl rfl ?_)); refine A3 .free rfl ?_; intro b7; refine Bu rfl rfl rfl rfl .free ?_; refine Oa rfl (Aa (Ah (Ah ?_)))
 rcases hc : Cf s with _ | e
 ·skip
  rw [hc] at hpf; obtain rfl := hpf; refine Al rfl (Om rfl ?_); refine C6 rfl .free rfl ?_; refine Om rfl ?_; refine C9 (t := 19) rfl (v' := .bool true) F2 ?_
  iterate 3 refine Cl rfl rfl rfl ?_
  refine Ot rfl rfl (Aa ?_); refine Bo rfl ?_; refine Se rfl ?_
  iterate 3 refine Oa rfl ?_
  refine Aa ?_; refine Ak (.tmp rfl (.tmp rfl (.tmp rfl .nil))) ?_
  exact ⟨J, L, hleJ, Bt, by rw [Jn (.inl hc)]; rfl, rfl⟩
 ·skip
  rw [hc] at hpf; obtain ⟨rfl, rfl⟩ := hpf; obtain ⟨hx, hok, hz, hl, hcl⟩ := F5 hc
  have hoe : e.occ [] = [] := by simpa [Ex.closed] using hcl
  refine Al rfl (Om rfl ?_); refine C6 rfl .free rfl ?_; refine Om rfl ?_; refine C9 (t := 19) rfl (v' := .bool false) F2 ?_; refine Ow rfl ?_; refine Cq rfl (.met rfl rfl) rfl (Nt 0 n 2000 _ _) ?_; rintro _ _ _ _ ⟨rfl, rfl, rfl⟩; refine C6 rfl (.met rfl rfl) rfl ?_; refine Of rfl rfl (Aa ?_); refine Ay rfl ?_ ?_
  ·intro c0
   try simp only [nb] at c0
   refine Se rfl ?_
   iterate 3 refine Oa rfl ?_
   refine Aa ?_; refine Ak (.tmp rfl (.tmp rfl (.tmp rfl .nil))) ?_
   exact ⟨J, L, hleJ, Bt, by rw [Jn (.inr E9)]; rfl, rfl⟩
  intro c0
  try simp only [nb] at c0
  obtain ⟨N, rfl⟩ : ∃ N : Nat, n = (N : Nat) := ⟨n.toNat, by omega⟩
  have hN : N ≤ 2000 := by omega
  have hme := Jo hc hN
  have hhi := fun w (h : (eval N e .nil).v = some w) => R2 N e .nil h
  have hle := B9 N e .nil
  refine Aj (Se rfl (Om rfl ?_)); refine B6 rfl rfl rfl .free rfl ?_; refine Cg rfl rfl .free rfl ?_; intro b26; refine Oa rfl (Aa (Se rfl (Om rfl ?_))); refine A8 rfl .free rfl ?_; refine Ca rfl (Np (ht.mono hleJ) N Ab hrep hok .nil trivial (fun y hy => by rw [hoe] at hy; cases hy) b26 _) ?_; rintro _ J2 _ e2 ⟨p, rfl, hp, rfl⟩
  unfold R3
  have hle2 := hleJ.trans e2
  refine Oa rfl (Aa (Ah (Se rfl (Om rfl ?_)))); refine G3 rfl rfl .free rfl ?_; refine Aa ?_; refine Ay rfl ?_ ?_
  ·intro c1
   try simp only [nb] at c1
   obtain ⟨hv, rfl⟩ := Kc hp c1; refine Se rfl ?_
   iterate 3 refine Oa rfl ?_
   refine Aa ?_; refine Ak (.tmp rfl (.tmp rfl (.tmp rfl .nil))) ?_
   exact ⟨J2, L, hle2, Bt, by rw [hme, Tm hv]; rfl, rfl⟩
  intro c1
  try simp only [nb] at c1
  obtain ⟨w, x, hv, rfl, hw⟩ := Kd hp (by simpa using c1); obtain ⟨hwf, -⟩ := Res.says.some hv (Kj hc N)
  have hhi := hhi w hv
  simp only [KE.high] at hhi
  refine Aj (Se rfl ?_); refine A3 .free rfl ?_; intro b11; refine Aa (Se rfl (Om rfl ?_)); refine Ca rfl (Qt _ (Nat.lt_succ_self _) hw hwf Ab b11 false [] none 0 ⟨⟨rfl, rfl, rfl⟩, .inl rfl⟩ Af _) ?_; rintro _ _ _ _ ⟨rfl, rfl, pre1, B1, k1, hB1, rfl⟩; refine Aa (Ah (Se rfl ?_)); refine Ca rfl (H6 b11 pre1 _ B1 k1 hB1 _ _) ?_; rintro _ _ _ _ ⟨rfl, rfl, rfl⟩; refine Oc rfl rfl rfl (Aa ?_); refine Ay rfl ?_ ?_
  ·intro c2
   try simp only [nb] at c2
   refine Se rfl ?_
   iterate 3 refine Oa rfl ?_
   refine Aa ?_; refine Ak (.tmp rfl (.tmp rfl (.tmp rfl .nil))) ?_
   exact ⟨J2, L, hle2, (fun w h => (Mem.sub (List.sublist_append_right _ _) h.drop).drop.drop), by
    have hno : ¬ w.show.length ≤ 12000 := fun h => by
     rw [Pl 12000 w [] (by simpa using h)] at c2
     simp at c2; omega
    rw [hme]; unfold My; rw [hv]; simp only; rw [if_neg hno]; rfl, rfl⟩
  intro c2
  try simp only [nb] at c2
  have hsl : w.show.length ≤ 12000 := by
   rcases Nat.lt_or_ge 12000 w.show.length with h | h
   ·have := Ul 12000 w [] (by simpa using h)
    omega
   ·exact h
  have hwr : w.wr 12000 [] = w.show := by rw [Pl 12000 w [] (by simpa using hsl)]; rfl
  rw [hwr] at hB1 ⊢; refine Aj (Ah ?_)
  unfold S8
  refine Tf J2 ((b26, .cells [.int .i64 ((eval N e .nil).left : Nat), .bool (eval N e .nil).stuck].toArray 55 (0, 0)) :: (b7, .cells [.string (str e.tree.atom), .slice oc e.tree.parts.length cc].toArray 49 (0, 0)) :: L) 10 rfl rfl ?_; refine Da 1 rfl (Am rfl) ?_; refine Da 2 rfl (Am rfl) ?_; refine Da 3 rfl (D4 rfl) ?_
  first | refine Da 4 rfl (Ao rfl) ?_ | refine Da 4 rfl (Bf rfl) ?_
  refine Dt 5 [10] rfl (Wm rfl) ?_; refine Da 6 rfl (G5 rfl rfl rfl Ab) ?_; refine Dc 0 rfl rfl (Hb b11 pre1 _ B1 k1 hB1 Cu _ _) ?_; rintro _ _ _ _ ⟨rfl, rfl, rfl⟩; refine Hx ?_; refine Da 7 rfl (A5 rfl) ?_; refine Da 8 rfl (A5 rfl) ?_; refine Da 9 rfl (A5 rfl) ?_; refine Aw Ac ?_; refine Ak (.tmp rfl (.tmp rfl (.tmp rfl .nil))) ?_
  exact ⟨J2, L, hle2, Bt, by rw [hme, Nn hv hsl]; simp only [Option.map_some, Option.getD_some, Option.isSome_some]; rw [show ((N - (eval N e .nil).left : Nat) : Int) = (N : Int) - ((eval N e .nil).left : Nat) by omega]; rfl, rfl⟩
theorem Yr {m d : Nat} (hm : 1 ≤ m) (hd : d < 10) : Jy (10 * m + d) = Jy m ++ [UInt8.ofNat (48 + d)] := by
 rw [Jk Ab, show (10 * m + d) / 10 = m by omega, show (10 * m + d) % 10 = d by omega]
theorem Qp {b : UInt8} (h : Em b = true) : 48 ≤ b.toNat ∧ b.toNat ≤ 57 := by simpa [Em] using h
theorem Qo {b : UInt8} (h : 48 ≤ b.toNat) : UInt8.ofNat (48 + (b.toNat - 48)) = b := by
 rw [show 48 + (b.toNat - 48) = b.toNat by omega]; simp
theorem R0 : ∀ (l : Au) (a : Nat), 1 ≤ a → l.all Em = true → Jy (l.foldl (fun n b => 10 * n + (b.toNat - 48)) a) = Jy a ++ l
 | [], a, _, _ => by simp
 | b :: r, a, ha, h => by
  simp only [List.all_cons, Bool.and_eq_true] at h
  have hb := Qp h.1
  rw [List.foldl_cons, R0 r _ (by omega) h.2, Yr ha (by omega), Qo hb.1]
  simp
theorem Yq {u : Au} (h : u.all Em = true) (h0 : 49 ≤ (u.getD 0 0).toNat) : Jy (D3 u) = u := by
 cases u with
 | nil => simp at h0
 | cons b r =>
  simp only [List.all_cons, Bool.and_eq_true] at h
  have hb := Qp h.1
  have h1 : 49 ≤ b.toNat := by simpa using h0
  unfold D3
  rw [List.foldl_cons, R0 r _ Ab h.2, show 10 * 0 + (b.toNat - 48) = b.toNat - 48 by omega, Hi Ab, Qo hb.1]
  rfl
theorem Pv {s : Au} (h : Cc s = true) : Nx (Dy s) = s := by
 by_cases h0 : s = [48]
 ·rw [(J9 h).2 h0, show (0 : Int) = ((0 : Nat) : Int) from rfl, Q0, Hi Ad, h0]; rfl
 ·have hz : Dy s ≠ 0 := fun e => h0 ((J9 h).1 e)
  simp only [Cc, h0, decide_false, Bool.false_or, Bool.and_eq_true, decide_eq_true_eq, Bool.not_eq_true', decide_eq_false_iff_not] at h
  have hd : 49 ≤ ((C8 s).getD 0 0).toNat := by
   cases hu : C8 s with
   | nil => rw [hu] at h; simp at h
   | cons b r =>
    rw [hu] at h
    have h1 := h.1.2
    simp only [List.all_cons, Bool.and_eq_true] at h1
    have hb := Qp h1.1
    have h2 : ¬ b.toNat = 48 := by simpa using h.2
    simp only [List.getD_cons_zero]; omega
  have hu := Yq h.1.2 hd
  unfold Dy at hz ⊢
  rw [if_neg h0] at hz ⊢
  by_cases h45 : (s.getD 0 0).toNat = 45
  ·have hs : s = 45 :: C8 s := by
    unfold C8
    rw [if_pos h45]
    cases s with
    | nil => simp at h45
    | cons b r =>
     have hb : b.toNat = 45 := by simpa using h45
     have : b = 45 := UInt8.toNat_inj.1 hb
     rw [this]; rfl
   rw [if_pos h45] at hz ⊢
   unfold Nx
   rw [if_pos Ab, show (-1 * ((D3 (C8 s) : Nat) : Int)).natAbs = D3 (C8 s) by omega, hu]
   exact hs.symm
  ·have hs : C8 s = s := by unfold C8; rw [if_neg h45]
   rw [if_neg h45, Int.one_mul, Q0, hu, hs]
end Go.Proofs.YtmfagaajiakgoaaGreatDoor
