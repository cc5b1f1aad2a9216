/- A step, by the program. No conditions. -/
import Derived.Test.YtfddjcmeejjhiaaGreatDoorG13
import Derived.LaidSub
import Derived.Lib.LaidTab

namespace Go.Proofs.YtfddjcmeejjhiaaGreatDoor
set_option maxRecDepth 100000
set_option linter.unusedVariables false
set_option linter.unusedSimpArgs false

def SP (o : Option Ex) (L : Bf) : C1 := fun v I' L' => ∃ (t : Tree) (ds : List Value), v = .tuple #[.agg (List.toArray ds), .bool o.isSome] ∧ Rep I' t ds ∧ (∀ e', o = some e' → t = e'.tree) ∧ L = L'
def Qy (N : Nat) : Prop := ∀ {I : Heap} (_ : Tab I) {e : Ex} {cs : List Value} (_ : SizeOf.sizeOf e < N) (_ : Rep I e.tree cs) (_ : e.ok = true) (L : Bf), Fun Tryz.prog 44 [.agg cs.toArray] I L (SP e.step L)
theorem Ex.of_pair {e : Ex} (h : e.tree.head = Cq) : ∃ p q, e = .bin .pair p q := by
 cases e with
 | num s => cases h
 | name s => cases h
 | bin o p q => obtain rfl : o = .pair := B5.txt_inj (o' := .pair) h; exact ⟨p, q, rfl⟩
 | ite a b c => exact absurd h (by decide : ¬ Fo = Cq)
 | lt x a b => exact absurd h (by decide : ¬ Dh = Cq)
 | fn f x s t b => exact absurd h (by decide : ¬ Dg = Cq)
 | un o a => exact absurd (show o.txt = Cq from h) (by cases o <;> decide)
theorem Is {e : Ex} (h : e.tree.parts.isEmpty = true) (hv : e.value = true) : ∃ s, e = .num s := by
 cases e with
 | num s => exact ⟨s, rfl⟩
 | name s => cases hv
 | _ => cases h
theorem Jw (o : B5) (p q : Aq) : (Kq o p q).length ≤ Ap := by have := Ni (P5 o p q).1; unfold Ap; omega
theorem SP.none' {I : Heap} {o : Option Ex} {L : Bf} (ho : o = none) : SP o L (.tuple #[.agg (List.toArray [.string (str []), .slice none 0 0]), .bool false]) I L :=
 ⟨.node [] [], _, by rw [ho]; rfl, .ofAtom (by decide), fun e' h => (by rw [ho] at h; cases h), rfl⟩
theorem Gw {α β : Type} {o : Option α} {f : α → β} {p : Option β} (h : p = o.map f) : p.isSome = o.isSome := by rw [h]; cases o <;> rfl
set_option maxHeartbeats 1000000 in
theorem Ym {N : Nat} (ihn : Qy N) {o : B5} {a b : Ex} {I : Heap} (ht : Tab I) {cs : List Value} (hlt : SizeOf.sizeOf (Ex.bin o a b) < N + 1) (h : Rep I (Ex.bin o a b).tree cs) (hok : (Ex.bin o a b).ok = true) (L : Bf) :
  Fun Tryz.prog 44 [.agg cs.toArray] I L (SP (Ex.bin o a b).step L) := by
 obtain ⟨oa, c, oaf, cf, rfl, hf, hcl, hcs⟩ := h.cells
 have hpos : 0 < (Ex.bin o a b).tree.parts.length := by show 0 < 3; decide
 obtain ⟨xa, rfl⟩ : ∃ xa, oa = some xa := ⟨_, E9 hf.nil hpos⟩
 have hlen : (Ex.bin o a b).tree.parts.length = 3 := rfl
 have hp := hf.len
 have hev : Tr (Ex.bin o a b).tree = [1, 2] := by cases o <;> rfl
 simp only [Ex.bin.sizeOf_spec] at hlt
 have hok0 := hok
 simp only [Ex.ok, Bool.and_eq_true, decide_eq_true_eq] at hok
 obtain ⟨_, hrl⟩ : ∃ _ : True, RepL I (Ex.bin o a b).tree.parts _ := ⟨trivial, hcl⟩
 simp only [show (Ex.bin o a b).tree.parts = [.node o.txt [], a.tree, b.tree] from rfl, Es, List.cons_append, List.nil_append] at hrl
 refine Ai (by simp) ?_; refine Se rfl ?_; refine Ct rfl rfl .free rfl ?_; intro b1; refine A2 .free rfl ?_; intro b2; refine Oa rfl (Aa (Ac (Se rfl ?_))); refine Az rfl .free rfl ?_; refine Ca rfl (C6 hf.rep _) ?_; rintro _ J0 _ e0 ⟨ok, ck, rfl, hk, rfl⟩
 have hf := hf.mono e0
 have ht := ht.mono e0
 have hle := e0
 rw [hev] at hk; rw [hev]; refine On rfl (Om rfl (Aa (Al ?_))); refine Eh ?_; refine Se rfl (Oc rfl rfl rfl (Aa (Ac ?_))); refine Cj rfl (by first | rfl | decide | (simp; done) | omega) ?_; refine Ae (Ac (Al (Se rfl ?_)))
 first | refine A8 rfl rfl _ rfl .free rfl ?_ | refine A9 rfl rfl _ rfl .free rfl ?_
 refine Dv rfl .free rfl ?_; refine Oa rfl (Aa (Ac (Se rfl (Oh rfl ?_)))); refine Bi rfl .free rfl ?_; refine Om rfl ?_
 first | refine A8 rfl rfl _ rfl .free rfl ?_ | refine A9 rfl rfl _ rfl .free rfl ?_
 refine Dn rfl .free rfl ?_; refine Ca rfl (Fr _ (Nat.lt_succ_self _) (hf.as 1 a.tree (by omega) rfl) hok.1 _) ?_; rintro _ _ _ _ ⟨rfl, rfl, rfl⟩; refine Aa ?_; refine Ar rfl ?_ ?_
 ·intro c1
  try simp only [nb] at c1
  have hva : a.value = true := c1
  refine Bx rfl ?_; refine Ag rfl ?_; refine Or rfl rfl rfl ?_; refine Om rfl (Aa ?_); refine Ce ?_; refine Se rfl (Oc rfl rfl rfl (Aa (Ac ?_))); refine Cj rfl (by first | rfl | decide | (simp; done) | omega) ?_; refine Ae (Ac (Al (Se rfl ?_)))
  first | refine A8 rfl rfl _ rfl .free rfl ?_ | refine A9 rfl rfl _ rfl .free rfl ?_
  refine Dv rfl .free rfl ?_; refine Oa rfl (Aa (Ac (Se rfl (Oh rfl ?_)))); refine Bi rfl .free rfl ?_; refine Om rfl ?_
  first | refine A8 rfl rfl _ rfl .free rfl ?_ | refine A9 rfl rfl _ rfl .free rfl ?_
  refine Dn rfl .free rfl ?_; refine Ca rfl (Fr _ (Nat.lt_succ_self _) (hf.as 2 b.tree (by omega) rfl) hok.2 _) ?_; rintro _ _ _ _ ⟨rfl, rfl, rfl⟩; refine Aa ?_; refine Ar rfl ?_ ?_
  ·intro c1
   try simp only [nb] at c1
   have hvb : b.value = true := c1
   refine Bx rfl ?_; refine Ag rfl ?_; refine Or rfl rfl rfl ?_; refine Om rfl (Aa ?_); refine Ce ?_; refine Se rfl (Oc rfl rfl rfl (Aa (Ac ?_))); refine Dj rfl (by first | rfl | decide | (simp; done) | omega) ?_; refine Bx rfl ?_; refine Ac (Ac ?_)
   rcases o with _ | _ | _ | _ | _
   ·skip
    refine Ag rfl ?_; refine Az rfl .free rfl ?_; refine Ca rfl (A7 hf.rep _) ?_; rintro _ _ _ _ ⟨rfl, rfl, rfl⟩; rw [show (Ex.bin .add a b).tree.head = [43] from rfl]
    have hturn : (Ex.bin .add a b).step = (Ex.bin .add a b).turn := by simp only [Ex.step, hva, hvb, Bool.true_eq_false, if_false]
    refine Aa (Al (Ac (Se rfl (Od rfl rfl rfl (Oa rfl (Aa ?_))))))
    first | refine St rfl (rfl) ?_ | refine Bn (by simp [look, Bc, *]) ?_
    refine Ae ?_
    first | refine St rfl (rfl) ?_ | refine Bn (by simp [look, Bc, *]) ?_
    refine Ac ?_; refine Cz 12 rfl rfl ?_; refine R5 (X := Nat × Nat) (fun x => [(1, .pointer (some ⟨b1, 0, none⟩)), (2, .pointer (some ⟨b2, 0, none⟩)), (3, .bool false), (9, .pointer (some ⟨x.1, 0, none⟩)), (10, .pointer (some ⟨x.2, 0, none⟩))]) (fun x => J0) (fun x => [(x.2, .cells [.string (str b.tree.atom), .slice (oaf 2) b.tree.parts.length (cf 2)].toArray 39 (0, 0)), (x.1, .cells [.string (str a.tree.atom), .slice (oaf 1) a.tree.parts.length (cf 1)].toArray 39 (0, 0))]) (fun x => True) ?_ ?_
    ·rintro ⟨b9, b10⟩ -
     simp only [List.cons_append, List.nil_append]
     refine Se rfl ?_; refine Nn rfl .free rfl ?_; refine Ca rfl (Bo (hf.as 1 a.tree (by omega) rfl) _) ?_; rintro _ _ _ _ ⟨rfl, rfl, rfl⟩; refine Om rfl ?_
     apply D3 64 67 rfl
     ·intro g15_3 hk
      try simp only [nb] at g15_3
      refine Nn rfl (.met rfl rfl) rfl ?_; refine B9 rfl (.met rfl rfl) rfl (Bo (hf.as 2 b.tree (by omega) rfl) _) ?_; rintro _ _ _ _ ⟨rfl, rfl, rfl⟩; refine Ot rfl rfl ?_
      exact Ay 2 rfl rfl hk
     ·intro _ hk; refine Ba 2 rfl ?_; refine Of rfl rfl ?_
      exact Ay 2 rfl rfl hk
     refine Aa ?_; refine Ar rfl ?_ ?_
     ·intro c5
      try simp only [nb] at c5
      have hbb : a.tree.parts.isEmpty = true ∧ b.tree.parts.isEmpty = true := by simpa using c5
      obtain ⟨p, rfl⟩ := Is hbb.1 hva; obtain ⟨q, rfl⟩ := Is hbb.2 hvb; refine Ac ?_; refine Cz 10 rfl rfl ?_; refine Dt 0 [8] rfl (Cb rfl) ?_
      first | refine Da 2 rfl (Ah rfl) ?_ | refine Da 2 rfl (A1 rfl) ?_
      refine Dt 3 [8] rfl (V4 rfl) ?_
      first | refine Da 4 rfl (Ah rfl) ?_ | refine Da 4 rfl (A1 rfl) ?_
      refine Dt 5 [8] rfl (V4 rfl) ?_; refine Dc 1 rfl rfl (A7 hf.rep _) ?_; rintro _ _ _ _ ⟨rfl, rfl, rfl⟩; refine Hx ?_; refine Dc 6 rfl rfl (Ml ht .add (a := p) (b := q) hok.1 hok.2 _) ?_; rintro _ _ _ _ ⟨rfl, rfl, rfl⟩; refine Hx ?_; refine Dc 7 rfl rfl (Pj (Kq .add p q) (Jw _ _ _) _ _) ?_; rintro _ _ _ _ ⟨rfl, rfl, rfl⟩; refine Hx ?_; refine Dx 8 rfl rfl rfl rfl ?_; refine Db 9 rfl (Av rfl) ?_; refine Ao (by kernel_rfl) ?_; refine Ad (.c rfl (.tmp rfl .nil)) ?_; refine ⟨_, L, hle, Ax, .node (Kq .add p q) [], _, by rw [hturn]; rfl, .ofAtom (Jw _ _ _), fun e' he' => ?_, rfl⟩
      rw [hturn] at he'; obtain rfl := Option.some.inj he'
      rfl
     intro c5
     try simp only [nb] at c5
     have hno : (Ex.bin .add a b).turn = none := by
      cases hty : (Ex.bin .add a b).turn with
      | none => rfl
      | some e' =>
       rcases I9 hty with ⟨f, y, s, t, g, ho, rfl, rfl⟩ | ⟨p, q, ho, rfl, rfl, rfl⟩
       ·cases ho
       ·exact absurd c5 (by simp [Ex.tree, Tree.parts])
     refine Ae (Ak (Se rfl ?_)); refine Bu rfl rfl rfl .free rfl ?_; refine Bt rfl rfl rfl rfl .free ?_; refine Oa rfl (Aa ?_); refine Ad (.c rfl (.tmp rfl .nil)) ?_
     exact ⟨_, L, hle, Ax, SP.none' (by rw [hturn, hno])⟩
    ·intro hkk
     skip
     refine Da 0 rfl (Ah rfl) ?_; refine Dt 1 [10] rfl (Bl rfl) ?_
     first | refine Da 2 rfl (A5 rfl rfl 1 rfl) ?_ | refine Da 2 rfl (A6 rfl rfl 1 rfl) ?_
     refine Dt 3 [10] rfl (Bb rfl) ?_; refine Da 4 rfl (Ah rfl) ?_; refine Ij 5 8 9 (by kernel_rfl) ?_ ?_ ?_
     ·skip
      refine C7 5 rfl rfl (Bl rfl) .free rfl (.inr Aj) ?_
      first | refine Da 6 rfl (A5 rfl rfl 2 rfl) ?_ | refine Da 6 rfl (A6 rfl rfl 2 rfl) ?_
      refine Ij 7 8 9 (by kernel_rfl) ?_ ?_ ?_
      ·skip
       refine C7 7 rfl rfl (Bb rfl) .free rfl (.inr Aj) ?_; refine Ci 8 9 (by kernel_rfl) ?_ ?_
       ·skip
        refine B7 8 rfl rfl .free rfl (.inr Aj) ?_; intro b9; refine D8 9 rfl (by kernel_rfl) rfl .free rfl (.inr Aj) ?_; intro b10; refine Dx 10 rfl rfl rfl rfl ?_; refine Dx 11 rfl rfl rfl rfl ?_; refine Ao (by kernel_rfl) ?_
        exact Be (E' := [(1, _), (2, _), (3, _), (9, _), (10, _)]) ⟨rfl, rfl, rfl, rfl, rfl, trivial⟩ (Bd (by first | exact fun _ h => h | exact fun _ h => h.perm2) (hkk ⟨b9, b10⟩ trivial))
       ·skip
        refine B7 9 rfl rfl .free rfl (.inr Aj) ?_; intro b10; refine D8 8 rfl (by kernel_rfl) rfl .free rfl (.inr Aj) ?_; intro b9; refine Dx 10 rfl rfl rfl rfl ?_; refine Dx 11 rfl rfl rfl rfl ?_; refine Ao (by kernel_rfl) ?_
        exact Be (E' := [(1, _), (2, _), (3, _), (9, _), (10, _)]) ⟨rfl, rfl, rfl, rfl, rfl, trivial⟩ (Bd (by first | exact fun _ h => h | exact fun _ h => h.perm2) (hkk ⟨b9, b10⟩ trivial))
      ·skip
       refine B7 8 rfl rfl .free rfl (.inr Aj) ?_; intro b9; refine Ci 7 9 (by kernel_rfl) ?_ ?_
       ·skip
        refine C7 7 rfl rfl (Bb rfl) .free rfl (.inr Aj) ?_; refine D8 9 rfl (by kernel_rfl) rfl .free rfl (.inr Aj) ?_; intro b10; refine Dx 10 rfl rfl rfl rfl ?_; refine Dx 11 rfl rfl rfl rfl ?_; refine Ao (by kernel_rfl) ?_
        exact Be (E' := [(1, _), (2, _), (3, _), (9, _), (10, _)]) ⟨rfl, rfl, rfl, rfl, rfl, trivial⟩ (Bd (by first | exact fun _ h => h | exact fun _ h => h.perm2) (hkk ⟨b9, b10⟩ trivial))
       ·skip
        refine B7 9 rfl rfl .free rfl (.inr Aj) ?_; intro b10; refine Ci 7 10 (by kernel_rfl) ?_ ?_
        ·skip
         refine C7 7 rfl rfl (Bb rfl) .free rfl (.inr Aj) ?_; refine Dx 10 rfl rfl rfl rfl ?_; refine Dx 11 rfl rfl rfl rfl ?_; refine Ao (by kernel_rfl) ?_
         exact Be (E' := [(1, _), (2, _), (3, _), (9, _), (10, _)]) ⟨rfl, rfl, rfl, rfl, rfl, trivial⟩ (Bd (by first | exact fun _ h => h | exact fun _ h => h.perm2) (hkk ⟨b9, b10⟩ trivial))
        ·skip
         refine Hk 10 rfl rfl rfl rfl rfl rfl .free (.inl (by kernel_rfl)) ?_; refine Ey 7 rfl (by kernel_rfl) rfl (Bb rfl) .free rfl (.inl (by kernel_rfl)) ?_; refine Dx 11 rfl rfl rfl rfl ?_; refine Ao (by kernel_rfl) ?_
         exact Be (E' := [(1, _), (2, _), (3, _), (9, _), (10, _)]) ⟨rfl, rfl, rfl, rfl, rfl, trivial⟩ (Bd (by first | exact fun _ h => h | exact fun _ h => h.perm2) (hkk ⟨b9, b10⟩ trivial))
      ·skip
       refine B7 9 rfl rfl .free rfl (.inr Aj) ?_; intro b10; refine Ci 7 8 (by kernel_rfl) ?_ ?_
       ·skip
        refine C7 7 rfl rfl (Bb rfl) .free rfl (.inr Aj) ?_; refine D8 8 rfl (by kernel_rfl) rfl .free rfl (.inr Aj) ?_; intro b9; refine Dx 10 rfl rfl rfl rfl ?_; refine Dx 11 rfl rfl rfl rfl ?_; refine Ao (by kernel_rfl) ?_
        exact Be (E' := [(1, _), (2, _), (3, _), (9, _), (10, _)]) ⟨rfl, rfl, rfl, rfl, rfl, trivial⟩ (Bd (by first | exact fun _ h => h | exact fun _ h => h.perm2) (hkk ⟨b9, b10⟩ trivial))
       ·skip
        refine B7 8 rfl rfl .free rfl (.inr Aj) ?_; intro b9; refine Ci 7 10 (by kernel_rfl) ?_ ?_
        ·skip
         refine C7 7 rfl rfl (Bb rfl) .free rfl (.inr Aj) ?_; refine Dx 10 rfl rfl rfl rfl ?_; refine Dx 11 rfl rfl rfl rfl ?_; refine Ao (by kernel_rfl) ?_
         exact Be (E' := [(1, _), (2, _), (3, _), (9, _), (10, _)]) ⟨rfl, rfl, rfl, rfl, rfl, trivial⟩ (Bd (by first | exact fun _ h => h | exact fun _ h => h.perm2) (hkk ⟨b9, b10⟩ trivial))
        ·skip
         refine Hk 10 rfl rfl rfl rfl rfl rfl .free (.inl (by kernel_rfl)) ?_; refine Ey 7 rfl (by kernel_rfl) rfl (Bb rfl) .free rfl (.inl (by kernel_rfl)) ?_; refine Dx 11 rfl rfl rfl rfl ?_; refine Ao (by kernel_rfl) ?_
         exact Be (E' := [(1, _), (2, _), (3, _), (9, _), (10, _)]) ⟨rfl, rfl, rfl, rfl, rfl, trivial⟩ (Bd (by first | exact fun _ h => h | exact fun _ h => h.perm2) (hkk ⟨b9, b10⟩ trivial))
     ·skip
      refine B7 8 rfl rfl .free rfl (.inr Aj) ?_; intro b9; refine Ci 5 9 (by kernel_rfl) ?_ ?_
      ·skip
       refine C7 5 rfl rfl (Bl rfl) .free rfl (.inr Aj) ?_
       first | refine Da 6 rfl (A5 rfl rfl 2 rfl) ?_ | refine Da 6 rfl (A6 rfl rfl 2 rfl) ?_
       refine Ci 7 9 (by kernel_rfl) ?_ ?_
       ·skip
        refine C7 7 rfl rfl (Bb rfl) .free rfl (.inr Aj) ?_; refine D8 9 rfl (by kernel_rfl) rfl .free rfl (.inr Aj) ?_; intro b10; refine Dx 10 rfl rfl rfl rfl ?_; refine Dx 11 rfl rfl rfl rfl ?_; refine Ao (by kernel_rfl) ?_
        exact Be (E' := [(1, _), (2, _), (3, _), (9, _), (10, _)]) ⟨rfl, rfl, rfl, rfl, rfl, trivial⟩ (Bd (by first | exact fun _ h => h | exact fun _ h => h.perm2) (hkk ⟨b9, b10⟩ trivial))
       ·skip
        refine B7 9 rfl rfl .free rfl (.inr Aj) ?_; intro b10; refine Ci 7 10 (by kernel_rfl) ?_ ?_
        ·skip
         refine C7 7 rfl rfl (Bb rfl) .free rfl (.inr Aj) ?_; refine Dx 10 rfl rfl rfl rfl ?_; refine Dx 11 rfl rfl rfl rfl ?_; refine Ao (by kernel_rfl) ?_
         exact Be (E' := [(1, _), (2, _), (3, _), (9, _), (10, _)]) ⟨rfl, rfl, rfl, rfl, rfl, trivial⟩ (Bd (by first | exact fun _ h => h | exact fun _ h => h.perm2) (hkk ⟨b9, b10⟩ trivial))
        ·skip
         refine Hk 10 rfl rfl rfl rfl rfl rfl .free (.inl (by kernel_rfl)) ?_; refine Ey 7 rfl (by kernel_rfl) rfl (Bb rfl) .free rfl (.inl (by kernel_rfl)) ?_; refine Dx 11 rfl rfl rfl rfl ?_; refine Ao (by kernel_rfl) ?_
         exact Be (E' := [(1, _), (2, _), (3, _), (9, _), (10, _)]) ⟨rfl, rfl, rfl, rfl, rfl, trivial⟩ (Bd (by first | exact fun _ h => h | exact fun _ h => h.perm2) (hkk ⟨b9, b10⟩ trivial))
      ·skip
       refine B7 9 rfl rfl .free rfl (.inr Aj) ?_; intro b10; refine Ci 5 10 (by kernel_rfl) ?_ ?_
       ·skip
        refine C7 5 rfl rfl (Bl rfl) .free rfl (.inr Aj) ?_
        first | refine Da 6 rfl (A5 rfl rfl 2 rfl) ?_ | refine Da 6 rfl (A6 rfl rfl 2 rfl) ?_
        refine Ci 7 10 (by kernel_rfl) ?_ ?_
        ·skip
         refine C7 7 rfl rfl (Bb rfl) .free rfl (.inr Aj) ?_; refine Dx 10 rfl rfl rfl rfl ?_; refine Dx 11 rfl rfl rfl rfl ?_; refine Ao (by kernel_rfl) ?_
         exact Be (E' := [(1, _), (2, _), (3, _), (9, _), (10, _)]) ⟨rfl, rfl, rfl, rfl, rfl, trivial⟩ (Bd (by first | exact fun _ h => h | exact fun _ h => h.perm2) (hkk ⟨b9, b10⟩ trivial))
        ·skip
         refine Hk 10 rfl rfl rfl rfl rfl rfl .free (.inl (by kernel_rfl)) ?_; refine Ey 7 rfl (by kernel_rfl) rfl (Bb rfl) .free rfl (.inl (by kernel_rfl)) ?_; refine Dx 11 rfl rfl rfl rfl ?_; refine Ao (by kernel_rfl) ?_
         exact Be (E' := [(1, _), (2, _), (3, _), (9, _), (10, _)]) ⟨rfl, rfl, rfl, rfl, rfl, trivial⟩ (Bd (by first | exact fun _ h => h | exact fun _ h => h.perm2) (hkk ⟨b9, b10⟩ trivial))
       ·skip
        refine Hk 10 rfl rfl rfl rfl rfl rfl .free (.inl (by kernel_rfl)) ?_; refine Ey 5 rfl (by kernel_rfl) rfl (Bl rfl) .free rfl (.inl (by kernel_rfl)) ?_
        first | refine Db 6 rfl (A5 rfl rfl 2 rfl) ?_ | refine Db 6 rfl (A6 rfl rfl 2 rfl) ?_
        refine Ey 7 rfl (by kernel_rfl) rfl (Bb rfl) .free rfl (.inl (by kernel_rfl)) ?_; refine Dx 11 rfl rfl rfl rfl ?_; refine Ao (by kernel_rfl) ?_
        exact Be (E' := [(1, _), (2, _), (3, _), (9, _), (10, _)]) ⟨rfl, rfl, rfl, rfl, rfl, trivial⟩ (Bd (by first | exact fun _ h => h | exact fun _ h => h.perm2) (hkk ⟨b9, b10⟩ trivial))
     ·skip
      refine B7 9 rfl rfl .free rfl (.inr Aj) ?_; intro b10; refine Ci 5 8 (by kernel_rfl) ?_ ?_
      ·skip
       refine C7 5 rfl rfl (Bl rfl) .free rfl (.inr Aj) ?_
       first | refine Da 6 rfl (A5 rfl rfl 2 rfl) ?_ | refine Da 6 rfl (A6 rfl rfl 2 rfl) ?_
       refine Ci 7 8 (by kernel_rfl) ?_ ?_
       ·skip
        refine C7 7 rfl rfl (Bb rfl) .free rfl (.inr Aj) ?_; refine D8 8 rfl (by kernel_rfl) rfl .free rfl (.inr Aj) ?_; intro b9; refine Dx 10 rfl rfl rfl rfl ?_; refine Dx 11 rfl rfl rfl rfl ?_; refine Ao (by kernel_rfl) ?_
        exact Be (E' := [(1, _), (2, _), (3, _), (9, _), (10, _)]) ⟨rfl, rfl, rfl, rfl, rfl, trivial⟩ (Bd (by first | exact fun _ h => h | exact fun _ h => h.perm2) (hkk ⟨b9, b10⟩ trivial))
       ·skip
        refine B7 8 rfl rfl .free rfl (.inr Aj) ?_; intro b9; refine Ci 7 10 (by kernel_rfl) ?_ ?_
        ·skip
         refine C7 7 rfl rfl (Bb rfl) .free rfl (.inr Aj) ?_; refine Dx 10 rfl rfl rfl rfl ?_; refine Dx 11 rfl rfl rfl rfl ?_; refine Ao (by kernel_rfl) ?_
         exact Be (E' := [(1, _), (2, _), (3, _), (9, _), (10, _)]) ⟨rfl, rfl, rfl, rfl, rfl, trivial⟩ (Bd (by first | exact fun _ h => h | exact fun _ h => h.perm2) (hkk ⟨b9, b10⟩ trivial))
        ·skip
         refine Hk 10 rfl rfl rfl rfl rfl rfl .free (.inl (by kernel_rfl)) ?_; refine Ey 7 rfl (by kernel_rfl) rfl (Bb rfl) .free rfl (.inl (by kernel_rfl)) ?_; refine Dx 11 rfl rfl rfl rfl ?_; refine Ao (by kernel_rfl) ?_
         exact Be (E' := [(1, _), (2, _), (3, _), (9, _), (10, _)]) ⟨rfl, rfl, rfl, rfl, rfl, trivial⟩ (Bd (by first | exact fun _ h => h | exact fun _ h => h.perm2) (hkk ⟨b9, b10⟩ trivial))
      ·skip
       refine B7 8 rfl rfl .free rfl (.inr Aj) ?_; intro b9; refine Ci 5 10 (by kernel_rfl) ?_ ?_
       ·skip
        refine C7 5 rfl rfl (Bl rfl) .free rfl (.inr Aj) ?_
        first | refine Da 6 rfl (A5 rfl rfl 2 rfl) ?_ | refine Da 6 rfl (A6 rfl rfl 2 rfl) ?_
        refine Ci 7 10 (by kernel_rfl) ?_ ?_
        ·skip
         refine C7 7 rfl rfl (Bb rfl) .free rfl (.inr Aj) ?_; refine Dx 10 rfl rfl rfl rfl ?_; refine Dx 11 rfl rfl rfl rfl ?_; refine Ao (by kernel_rfl) ?_
         exact Be (E' := [(1, _), (2, _), (3, _), (9, _), (10, _)]) ⟨rfl, rfl, rfl, rfl, rfl, trivial⟩ (Bd (by first | exact fun _ h => h | exact fun _ h => h.perm2) (hkk ⟨b9, b10⟩ trivial))
        ·skip
         refine Hk 10 rfl rfl rfl rfl rfl rfl .free (.inl (by kernel_rfl)) ?_; refine Ey 7 rfl (by kernel_rfl) rfl (Bb rfl) .free rfl (.inl (by kernel_rfl)) ?_; refine Dx 11 rfl rfl rfl rfl ?_; refine Ao (by kernel_rfl) ?_
         exact Be (E' := [(1, _), (2, _), (3, _), (9, _), (10, _)]) ⟨rfl, rfl, rfl, rfl, rfl, trivial⟩ (Bd (by first | exact fun _ h => h | exact fun _ h => h.perm2) (hkk ⟨b9, b10⟩ trivial))
       ·skip
        refine Hk 10 rfl rfl rfl rfl rfl rfl .free (.inl (by kernel_rfl)) ?_; refine Ey 5 rfl (by kernel_rfl) rfl (Bl rfl) .free rfl (.inl (by kernel_rfl)) ?_
        first | refine Db 6 rfl (A5 rfl rfl 2 rfl) ?_ | refine Db 6 rfl (A6 rfl rfl 2 rfl) ?_
        refine Ey 7 rfl (by kernel_rfl) rfl (Bb rfl) .free rfl (.inl (by kernel_rfl)) ?_; refine Dx 11 rfl rfl rfl rfl ?_; refine Ao (by kernel_rfl) ?_
        exact Be (E' := [(1, _), (2, _), (3, _), (9, _), (10, _)]) ⟨rfl, rfl, rfl, rfl, rfl, trivial⟩ (Bd (by first | exact fun _ h => h | exact fun _ h => h.perm2) (hkk ⟨b9, b10⟩ trivial))
   ·skip
    refine Ag rfl ?_; refine Az rfl .free rfl ?_; refine Ca rfl (A7 hf.rep _) ?_; rintro _ _ _ _ ⟨rfl, rfl, rfl⟩; rw [show (Ex.bin .sub a b).tree.head = [45] from rfl]
    have hturn : (Ex.bin .sub a b).step = (Ex.bin .sub a b).turn := by simp only [Ex.step, hva, hvb, Bool.true_eq_false, if_false]
    refine Aa (Al (Ac (Se rfl (Od rfl rfl rfl (Oa rfl (Aa ?_))))))
    first | refine Sf rfl (by decide) ?_ | refine Aw (by simp [look, Bc, *]) ?_
    refine Se rfl (Od rfl rfl rfl (Oa rfl (Aa ?_)))
    first | refine St rfl (rfl) ?_ | refine Bn (by simp [look, Bc, *]) ?_
    refine Ae ?_
    first | refine St rfl (rfl) ?_ | refine Bn (by simp [look, Bc, *]) ?_
    refine Ac ?_; refine Cz 12 rfl rfl ?_; refine R5 (X := Nat × Nat) (fun x => [(1, .pointer (some ⟨b1, 0, none⟩)), (2, .pointer (some ⟨b2, 0, none⟩)), (3, .bool false), (9, .pointer (some ⟨x.1, 0, none⟩)), (10, .pointer (some ⟨x.2, 0, none⟩))]) (fun x => J0) (fun x => [(x.2, .cells [.string (str b.tree.atom), .slice (oaf 2) b.tree.parts.length (cf 2)].toArray 39 (0, 0)), (x.1, .cells [.string (str a.tree.atom), .slice (oaf 1) a.tree.parts.length (cf 1)].toArray 39 (0, 0))]) (fun x => True) ?_ ?_
    ·rintro ⟨b9, b10⟩ -
     simp only [List.cons_append, List.nil_append]
     refine Se rfl ?_; refine Nn rfl .free rfl ?_; refine Ca rfl (Bo (hf.as 1 a.tree (by omega) rfl) _) ?_; rintro _ _ _ _ ⟨rfl, rfl, rfl⟩; refine Om rfl ?_
     apply D3 64 67 rfl
     ·intro g15_3 hk
      try simp only [nb] at g15_3
      refine Nn rfl (.met rfl rfl) rfl ?_; refine B9 rfl (.met rfl rfl) rfl (Bo (hf.as 2 b.tree (by omega) rfl) _) ?_; rintro _ _ _ _ ⟨rfl, rfl, rfl⟩; refine Ot rfl rfl ?_
      exact Ay 2 rfl rfl hk
     ·intro _ hk; refine Ba 2 rfl ?_; refine Of rfl rfl ?_
      exact Ay 2 rfl rfl hk
     refine Aa ?_; refine Ar rfl ?_ ?_
     ·intro c5
      try simp only [nb] at c5
      have hbb : a.tree.parts.isEmpty = true ∧ b.tree.parts.isEmpty = true := by simpa using c5
      obtain ⟨p, rfl⟩ := Is hbb.1 hva; obtain ⟨q, rfl⟩ := Is hbb.2 hvb; refine Ac ?_; refine Cz 10 rfl rfl ?_; refine Dt 0 [8] rfl (Cb rfl) ?_
      first | refine Da 2 rfl (Ah rfl) ?_ | refine Da 2 rfl (A1 rfl) ?_
      refine Dt 3 [8] rfl (V4 rfl) ?_
      first | refine Da 4 rfl (Ah rfl) ?_ | refine Da 4 rfl (A1 rfl) ?_
      refine Dt 5 [8] rfl (V4 rfl) ?_; refine Dc 1 rfl rfl (A7 hf.rep _) ?_; rintro _ _ _ _ ⟨rfl, rfl, rfl⟩; refine Hx ?_; refine Dc 6 rfl rfl (Ml ht .sub (a := p) (b := q) hok.1 hok.2 _) ?_; rintro _ _ _ _ ⟨rfl, rfl, rfl⟩; refine Hx ?_; refine Dc 7 rfl rfl (Pj (Kq .sub p q) (Jw _ _ _) _ _) ?_; rintro _ _ _ _ ⟨rfl, rfl, rfl⟩; refine Hx ?_; refine Dx 8 rfl rfl rfl rfl ?_; refine Db 9 rfl (Av rfl) ?_; refine Ao (by kernel_rfl) ?_; refine Ad (.c rfl (.tmp rfl .nil)) ?_; refine ⟨_, L, hle, Ax, .node (Kq .sub p q) [], _, by rw [hturn]; rfl, .ofAtom (Jw _ _ _), fun e' he' => ?_, rfl⟩
      rw [hturn] at he'; obtain rfl := Option.some.inj he'
      rfl
     intro c5
     try simp only [nb] at c5
     have hno : (Ex.bin .sub a b).turn = none := by
      cases hty : (Ex.bin .sub a b).turn with
      | none => rfl
      | some e' =>
       rcases I9 hty with ⟨f, y, s, t, g, ho, rfl, rfl⟩ | ⟨p, q, ho, rfl, rfl, rfl⟩
       ·cases ho
       ·exact absurd c5 (by simp [Ex.tree, Tree.parts])
     refine Ae (Ak (Se rfl ?_)); refine Bu rfl rfl rfl .free rfl ?_; refine Bt rfl rfl rfl rfl .free ?_; refine Oa rfl (Aa ?_); refine Ad (.c rfl (.tmp rfl .nil)) ?_
     exact ⟨_, L, hle, Ax, SP.none' (by rw [hturn, hno])⟩
    ·intro hkk
     skip
     refine Da 0 rfl (Ah rfl) ?_; refine Dt 1 [10] rfl (Bl rfl) ?_
     first | refine Da 2 rfl (A5 rfl rfl 1 rfl) ?_ | refine Da 2 rfl (A6 rfl rfl 1 rfl) ?_
     refine Dt 3 [10] rfl (Bb rfl) ?_; refine Da 4 rfl (Ah rfl) ?_; refine Ij 5 8 9 (by kernel_rfl) ?_ ?_ ?_
     ·skip
      refine C7 5 rfl rfl (Bl rfl) .free rfl (.inr Aj) ?_
      first | refine Da 6 rfl (A5 rfl rfl 2 rfl) ?_ | refine Da 6 rfl (A6 rfl rfl 2 rfl) ?_
      refine Ij 7 8 9 (by kernel_rfl) ?_ ?_ ?_
      ·skip
       refine C7 7 rfl rfl (Bb rfl) .free rfl (.inr Aj) ?_; refine Ci 8 9 (by kernel_rfl) ?_ ?_
       ·skip
        refine B7 8 rfl rfl .free rfl (.inr Aj) ?_; intro b9; refine D8 9 rfl (by kernel_rfl) rfl .free rfl (.inr Aj) ?_; intro b10; refine Dx 10 rfl rfl rfl rfl ?_; refine Dx 11 rfl rfl rfl rfl ?_; refine Ao (by kernel_rfl) ?_
        exact Be (E' := [(1, _), (2, _), (3, _), (9, _), (10, _)]) ⟨rfl, rfl, rfl, rfl, rfl, trivial⟩ (Bd (by first | exact fun _ h => h | exact fun _ h => h.perm2) (hkk ⟨b9, b10⟩ trivial))
       ·skip
        refine B7 9 rfl rfl .free rfl (.inr Aj) ?_; intro b10; refine D8 8 rfl (by kernel_rfl) rfl .free rfl (.inr Aj) ?_; intro b9; refine Dx 10 rfl rfl rfl rfl ?_; refine Dx 11 rfl rfl rfl rfl ?_; refine Ao (by kernel_rfl) ?_
        exact Be (E' := [(1, _), (2, _), (3, _), (9, _), (10, _)]) ⟨rfl, rfl, rfl, rfl, rfl, trivial⟩ (Bd (by first | exact fun _ h => h | exact fun _ h => h.perm2) (hkk ⟨b9, b10⟩ trivial))
      ·skip
       refine B7 8 rfl rfl .free rfl (.inr Aj) ?_; intro b9; refine Ci 7 9 (by kernel_rfl) ?_ ?_
       ·skip
        refine C7 7 rfl rfl (Bb rfl) .free rfl (.inr Aj) ?_; refine D8 9 rfl (by kernel_rfl) rfl .free rfl (.inr Aj) ?_; intro b10; refine Dx 10 rfl rfl rfl rfl ?_; refine Dx 11 rfl rfl rfl rfl ?_; refine Ao (by kernel_rfl) ?_
        exact Be (E' := [(1, _), (2, _), (3, _), (9, _), (10, _)]) ⟨rfl, rfl, rfl, rfl, rfl, trivial⟩ (Bd (by first | exact fun _ h => h | exact fun _ h => h.perm2) (hkk ⟨b9, b10⟩ trivial))
       ·skip
        refine B7 9 rfl rfl .free rfl (.inr Aj) ?_; intro b10; refine Ci 7 10 (by kernel_rfl) ?_ ?_
        ·skip
         refine C7 7 rfl rfl (Bb rfl) .free rfl (.inr Aj) ?_; refine Dx 10 rfl rfl rfl rfl ?_; refine Dx 11 rfl rfl rfl rfl ?_; refine Ao (by kernel_rfl) ?_
         exact Be (E' := [(1, _), (2, _), (3, _), (9, _), (10, _)]) ⟨rfl, rfl, rfl, rfl, rfl, trivial⟩ (Bd (by first | exact fun _ h => h | exact fun _ h => h.perm2) (hkk ⟨b9, b10⟩ trivial))
        ·skip
         refine Hk 10 rfl rfl rfl rfl rfl rfl .free (.inl (by kernel_rfl)) ?_; refine Ey 7 rfl (by kernel_rfl) rfl (Bb rfl) .free rfl (.inl (by kernel_rfl)) ?_; refine Dx 11 rfl rfl rfl rfl ?_; refine Ao (by kernel_rfl) ?_
         exact Be (E' := [(1, _), (2, _), (3, _), (9, _), (10, _)]) ⟨rfl, rfl, rfl, rfl, rfl, trivial⟩ (Bd (by first | exact fun _ h => h | exact fun _ h => h.perm2) (hkk ⟨b9, b10⟩ trivial))
      ·skip
       refine B7 9 rfl rfl .free rfl (.inr Aj) ?_; intro b10; refine Ci 7 8 (by kernel_rfl) ?_ ?_
       ·skip
        refine C7 7 rfl rfl (Bb rfl) .free rfl (.inr Aj) ?_; refine D8 8 rfl (by kernel_rfl) rfl .free rfl (.inr Aj) ?_; intro b9; refine Dx 10 rfl rfl rfl rfl ?_; refine Dx 11 rfl rfl rfl rfl ?_; refine Ao (by kernel_rfl) ?_
        exact Be (E' := [(1, _), (2, _), (3, _), (9, _), (10, _)]) ⟨rfl, rfl, rfl, rfl, rfl, trivial⟩ (Bd (by first | exact fun _ h => h | exact fun _ h => h.perm2) (hkk ⟨b9, b10⟩ trivial))
       ·skip
        refine B7 8 rfl rfl .free rfl (.inr Aj) ?_; intro b9; refine Ci 7 10 (by kernel_rfl) ?_ ?_
        ·skip
         refine C7 7 rfl rfl (Bb rfl) .free rfl (.inr Aj) ?_; refine Dx 10 rfl rfl rfl rfl ?_; refine Dx 11 rfl rfl rfl rfl ?_; refine Ao (by kernel_rfl) ?_
         exact Be (E' := [(1, _), (2, _), (3, _), (9, _), (10, _)]) ⟨rfl, rfl, rfl, rfl, rfl, trivial⟩ (Bd (by first | exact fun _ h => h | exact fun _ h => h.perm2) (hkk ⟨b9, b10⟩ trivial))
        ·skip
         refine Hk 10 rfl rfl rfl rfl rfl rfl .free (.inl (by kernel_rfl)) ?_; refine Ey 7 rfl (by kernel_rfl) rfl (Bb rfl) .free rfl (.inl (by kernel_rfl)) ?_; refine Dx 11 rfl rfl rfl rfl ?_; refine Ao (by kernel_rfl) ?_
         exact Be (E' := [(1, _), (2, _), (3, _), (9, _), (10, _)]) ⟨rfl, rfl, rfl, rfl, rfl, trivial⟩ (Bd (by first | exact fun _ h => h | exact fun _ h => h.perm2) (hkk ⟨b9, b10⟩ trivial))
     ·skip
      refine B7 8 rfl rfl .free rfl (.inr Aj) ?_; intro b9; refine Ci 5 9 (by kernel_rfl) ?_ ?_
      ·skip
       refine C7 5 rfl rfl (Bl rfl) .free rfl (.inr Aj) ?_
       first | refine Da 6 rfl (A5 rfl rfl 2 rfl) ?_ | refine Da 6 rfl (A6 rfl rfl 2 rfl) ?_
       refine Ci 7 9 (by kernel_rfl) ?_ ?_
       ·skip
        refine C7 7 rfl rfl (Bb rfl) .free rfl (.inr Aj) ?_; refine D8 9 rfl (by kernel_rfl) rfl .free rfl (.inr Aj) ?_; intro b10; refine Dx 10 rfl rfl rfl rfl ?_; refine Dx 11 rfl rfl rfl rfl ?_; refine Ao (by kernel_rfl) ?_
        exact Be (E' := [(1, _), (2, _), (3, _), (9, _), (10, _)]) ⟨rfl, rfl, rfl, rfl, rfl, trivial⟩ (Bd (by first | exact fun _ h => h | exact fun _ h => h.perm2) (hkk ⟨b9, b10⟩ trivial))
       ·skip
        refine B7 9 rfl rfl .free rfl (.inr Aj) ?_; intro b10; refine Ci 7 10 (by kernel_rfl) ?_ ?_
        ·skip
         refine C7 7 rfl rfl (Bb rfl) .free rfl (.inr Aj) ?_; refine Dx 10 rfl rfl rfl rfl ?_; refine Dx 11 rfl rfl rfl rfl ?_; refine Ao (by kernel_rfl) ?_
         exact Be (E' := [(1, _), (2, _), (3, _), (9, _), (10, _)]) ⟨rfl, rfl, rfl, rfl, rfl, trivial⟩ (Bd (by first | exact fun _ h => h | exact fun _ h => h.perm2) (hkk ⟨b9, b10⟩ trivial))
        ·skip
         refine Hk 10 rfl rfl rfl rfl rfl rfl .free (.inl (by kernel_rfl)) ?_; refine Ey 7 rfl (by kernel_rfl) rfl (Bb rfl) .free rfl (.inl (by kernel_rfl)) ?_; refine Dx 11 rfl rfl rfl rfl ?_; refine Ao (by kernel_rfl) ?_
         exact Be (E' := [(1, _), (2, _), (3, _), (9, _), (10, _)]) ⟨rfl, rfl, rfl, rfl, rfl, trivial⟩ (Bd (by first | exact fun _ h => h | exact fun _ h => h.perm2) (hkk ⟨b9, b10⟩ trivial))
      ·skip
       refine B7 9 rfl rfl .free rfl (.inr Aj) ?_; intro b10; refine Ci 5 10 (by kernel_rfl) ?_ ?_
       ·skip
        refine C7 5 rfl rfl (Bl rfl) .free rfl (.inr Aj) ?_
        first | refine Da 6 rfl (A5 rfl rfl 2 rfl) ?_ | refine Da 6 rfl (A6 rfl rfl 2 rfl) ?_
        refine Ci 7 10 (by kernel_rfl) ?_ ?_
        ·skip
         refine C7 7 rfl rfl (Bb rfl) .free rfl (.inr Aj) ?_; refine Dx 10 rfl rfl rfl rfl ?_; refine Dx 11 rfl rfl rfl rfl ?_; refine Ao (by kernel_rfl) ?_
         exact Be (E' := [(1, _), (2, _), (3, _), (9, _), (10, _)]) ⟨rfl, rfl, rfl, rfl, rfl, trivial⟩ (Bd (by first | exact fun _ h => h | exact fun _ h => h.perm2) (hkk ⟨b9, b10⟩ trivial))
        ·skip
         refine Hk 10 rfl rfl rfl rfl rfl rfl .free (.inl (by kernel_rfl)) ?_; refine Ey 7 rfl (by kernel_rfl) rfl (Bb rfl) .free rfl (.inl (by kernel_rfl)) ?_; refine Dx 11 rfl rfl rfl rfl ?_; refine Ao (by kernel_rfl) ?_
         exact Be (E' := [(1, _), (2, _), (3, _), (9, _), (10, _)]) ⟨rfl, rfl, rfl, rfl, rfl, trivial⟩ (Bd (by first | exact fun _ h => h | exact fun _ h => h.perm2) (hkk ⟨b9, b10⟩ trivial))
       ·skip
        refine Hk 10 rfl rfl rfl rfl rfl rfl .free (.inl (by kernel_rfl)) ?_; refine Ey 5 rfl (by kernel_rfl) rfl (Bl rfl) .free rfl (.inl (by kernel_rfl)) ?_
        first | refine Db 6 rfl (A5 rfl rfl 2 rfl) ?_ | refine Db 6 rfl (A6 rfl rfl 2 rfl) ?_
        refine Ey 7 rfl (by kernel_rfl) rfl (Bb rfl) .free rfl (.inl (by kernel_rfl)) ?_; refine Dx 11 rfl rfl rfl rfl ?_; refine Ao (by kernel_rfl) ?_
        exact Be (E' := [(1, _), (2, _), (3, _), (9, _), (10, _)]) ⟨rfl, rfl, rfl, rfl, rfl, trivial⟩ (Bd (by first | exact fun _ h => h | exact fun _ h => h.perm2) (hkk ⟨b9, b10⟩ trivial))
     ·skip
      refine B7 9 rfl rfl .free rfl (.inr Aj) ?_; intro b10; refine Ci 5 8 (by kernel_rfl) ?_ ?_
      ·skip
       refine C7 5 rfl rfl (Bl rfl) .free rfl (.inr Aj) ?_
       first | refine Da 6 rfl (A5 rfl rfl 2 rfl) ?_ | refine Da 6 rfl (A6 rfl rfl 2 rfl) ?_
       refine Ci 7 8 (by kernel_rfl) ?_ ?_
       ·skip
        refine C7 7 rfl rfl (Bb rfl) .free rfl (.inr Aj) ?_; refine D8 8 rfl (by kernel_rfl) rfl .free rfl (.inr Aj) ?_; intro b9; refine Dx 10 rfl rfl rfl rfl ?_; refine Dx 11 rfl rfl rfl rfl ?_; refine Ao (by kernel_rfl) ?_
        exact Be (E' := [(1, _), (2, _), (3, _), (9, _), (10, _)]) ⟨rfl, rfl, rfl, rfl, rfl, trivial⟩ (Bd (by first | exact fun _ h => h | exact fun _ h => h.perm2) (hkk ⟨b9, b10⟩ trivial))
       ·skip
        refine B7 8 rfl rfl .free rfl (.inr Aj) ?_; intro b9; refine Ci 7 10 (by kernel_rfl) ?_ ?_
        ·skip
         refine C7 7 rfl rfl (Bb rfl) .free rfl (.inr Aj) ?_; refine Dx 10 rfl rfl rfl rfl ?_; refine Dx 11 rfl rfl rfl rfl ?_; refine Ao (by kernel_rfl) ?_
         exact Be (E' := [(1, _), (2, _), (3, _), (9, _), (10, _)]) ⟨rfl, rfl, rfl, rfl, rfl, trivial⟩ (Bd (by first | exact fun _ h => h | exact fun _ h => h.perm2) (hkk ⟨b9, b10⟩ trivial))
        ·skip
         refine Hk 10 rfl rfl rfl rfl rfl rfl .free (.inl (by kernel_rfl)) ?_; refine Ey 7 rfl (by kernel_rfl) rfl (Bb rfl) .free rfl (.inl (by kernel_rfl)) ?_; refine Dx 11 rfl rfl rfl rfl ?_; refine Ao (by kernel_rfl) ?_
         exact Be (E' := [(1, _), (2, _), (3, _), (9, _), (10, _)]) ⟨rfl, rfl, rfl, rfl, rfl, trivial⟩ (Bd (by first | exact fun _ h => h | exact fun _ h => h.perm2) (hkk ⟨b9, b10⟩ trivial))
      ·skip
       refine B7 8 rfl rfl .free rfl (.inr Aj) ?_; intro b9; refine Ci 5 10 (by kernel_rfl) ?_ ?_
       ·skip
        refine C7 5 rfl rfl (Bl rfl) .free rfl (.inr Aj) ?_
        first | refine Da 6 rfl (A5 rfl rfl 2 rfl) ?_ | refine Da 6 rfl (A6 rfl rfl 2 rfl) ?_
        refine Ci 7 10 (by kernel_rfl) ?_ ?_
        ·skip
         refine C7 7 rfl rfl (Bb rfl) .free rfl (.inr Aj) ?_; refine Dx 10 rfl rfl rfl rfl ?_; refine Dx 11 rfl rfl rfl rfl ?_; refine Ao (by kernel_rfl) ?_
         exact Be (E' := [(1, _), (2, _), (3, _), (9, _), (10, _)]) ⟨rfl, rfl, rfl, rfl, rfl, trivial⟩ (Bd (by first | exact fun _ h => h | exact fun _ h => h.perm2) (hkk ⟨b9, b10⟩ trivial))
        ·skip
         refine Hk 10 rfl rfl rfl rfl rfl rfl .free (.inl (by kernel_rfl)) ?_; refine Ey 7 rfl (by kernel_rfl) rfl (Bb rfl) .free rfl (.inl (by kernel_rfl)) ?_; refine Dx 11 rfl rfl rfl rfl ?_; refine Ao (by kernel_rfl) ?_
         exact Be (E' := [(1, _), (2, _), (3, _), (9, _), (10, _)]) ⟨rfl, rfl, rfl, rfl, rfl, trivial⟩ (Bd (by first | exact fun _ h => h | exact fun _ h => h.perm2) (hkk ⟨b9, b10⟩ trivial))
       ·skip
        refine Hk 10 rfl rfl rfl rfl rfl rfl .free (.inl (by kernel_rfl)) ?_; refine Ey 5 rfl (by kernel_rfl) rfl (Bl rfl) .free rfl (.inl (by kernel_rfl)) ?_
        first | refine Db 6 rfl (A5 rfl rfl 2 rfl) ?_ | refine Db 6 rfl (A6 rfl rfl 2 rfl) ?_
        refine Ey 7 rfl (by kernel_rfl) rfl (Bb rfl) .free rfl (.inl (by kernel_rfl)) ?_; refine Dx 11 rfl rfl rfl rfl ?_; refine Ao (by kernel_rfl) ?_
        exact Be (E' := [(1, _), (2, _), (3, _), (9, _), (10, _)]) ⟨rfl, rfl, rfl, rfl, rfl, trivial⟩ (Bd (by first | exact fun _ h => h | exact fun _ h => h.perm2) (hkk ⟨b9, b10⟩ trivial))
   ·skip
    refine Ag rfl ?_; refine Az rfl .free rfl ?_; refine Ca rfl (A7 hf.rep _) ?_; rintro _ _ _ _ ⟨rfl, rfl, rfl⟩; rw [show (Ex.bin .mul a b).tree.head = [42] from rfl]
    have hturn : (Ex.bin .mul a b).step = (Ex.bin .mul a b).turn := by simp only [Ex.step, hva, hvb, Bool.true_eq_false, if_false]
    refine Aa (Al (Ac (Se rfl (Od rfl rfl rfl (Oa rfl (Aa ?_))))))
    first | refine Sf rfl (by decide) ?_ | refine Aw (by simp [look, Bc, *]) ?_
    refine Se rfl (Od rfl rfl rfl (Oa rfl (Aa ?_)))
    first | refine Sf rfl (by decide) ?_ | refine Aw (by simp [look, Bc, *]) ?_
    refine Ag rfl (Od rfl rfl rfl (Oa rfl (Aa ?_)))
    first | refine St rfl (rfl) ?_ | refine Bn (by simp [look, Bc, *]) ?_
    refine Ac ?_; refine Cz 12 rfl rfl ?_; refine R5 (X := Nat × Nat) (fun x => [(1, .pointer (some ⟨b1, 0, none⟩)), (2, .pointer (some ⟨b2, 0, none⟩)), (3, .bool false), (9, .pointer (some ⟨x.1, 0, none⟩)), (10, .pointer (some ⟨x.2, 0, none⟩))]) (fun x => J0) (fun x => [(x.2, .cells [.string (str b.tree.atom), .slice (oaf 2) b.tree.parts.length (cf 2)].toArray 39 (0, 0)), (x.1, .cells [.string (str a.tree.atom), .slice (oaf 1) a.tree.parts.length (cf 1)].toArray 39 (0, 0))]) (fun x => True) ?_ ?_
    ·rintro ⟨b9, b10⟩ -
     simp only [List.cons_append, List.nil_append]
     refine Se rfl ?_; refine Nn rfl .free rfl ?_; refine Ca rfl (Bo (hf.as 1 a.tree (by omega) rfl) _) ?_; rintro _ _ _ _ ⟨rfl, rfl, rfl⟩; refine Om rfl ?_
     apply D3 64 67 rfl
     ·intro g15_3 hk
      try simp only [nb] at g15_3
      refine Nn rfl (.met rfl rfl) rfl ?_; refine B9 rfl (.met rfl rfl) rfl (Bo (hf.as 2 b.tree (by omega) rfl) _) ?_; rintro _ _ _ _ ⟨rfl, rfl, rfl⟩; refine Ot rfl rfl ?_
      exact Ay 2 rfl rfl hk
     ·intro _ hk; refine Ba 2 rfl ?_; refine Of rfl rfl ?_
      exact Ay 2 rfl rfl hk
     refine Aa ?_; refine Ar rfl ?_ ?_
     ·intro c5
      try simp only [nb] at c5
      have hbb : a.tree.parts.isEmpty = true ∧ b.tree.parts.isEmpty = true := by simpa using c5
      obtain ⟨p, rfl⟩ := Is hbb.1 hva; obtain ⟨q, rfl⟩ := Is hbb.2 hvb; refine Ac ?_; refine Cz 10 rfl rfl ?_; refine Dt 0 [8] rfl (Cb rfl) ?_
      first | refine Da 2 rfl (Ah rfl) ?_ | refine Da 2 rfl (A1 rfl) ?_
      refine Dt 3 [8] rfl (V4 rfl) ?_
      first | refine Da 4 rfl (Ah rfl) ?_ | refine Da 4 rfl (A1 rfl) ?_
      refine Dt 5 [8] rfl (V4 rfl) ?_; refine Dc 1 rfl rfl (A7 hf.rep _) ?_; rintro _ _ _ _ ⟨rfl, rfl, rfl⟩; refine Hx ?_; refine Dc 6 rfl rfl (Ml ht .mul (a := p) (b := q) hok.1 hok.2 _) ?_; rintro _ _ _ _ ⟨rfl, rfl, rfl⟩; refine Hx ?_; refine Dc 7 rfl rfl (Pj (Kq .mul p q) (Jw _ _ _) _ _) ?_; rintro _ _ _ _ ⟨rfl, rfl, rfl⟩; refine Hx ?_; refine Dx 8 rfl rfl rfl rfl ?_; refine Db 9 rfl (Av rfl) ?_; refine Ao (by kernel_rfl) ?_; refine Ad (.c rfl (.tmp rfl .nil)) ?_; refine ⟨_, L, hle, Ax, .node (Kq .mul p q) [], _, by rw [hturn]; rfl, .ofAtom (Jw _ _ _), fun e' he' => ?_, rfl⟩
      rw [hturn] at he'; obtain rfl := Option.some.inj he'
      rfl
     intro c5
     try simp only [nb] at c5
     have hno : (Ex.bin .mul a b).turn = none := by
      cases hty : (Ex.bin .mul a b).turn with
      | none => rfl
      | some e' =>
       rcases I9 hty with ⟨f, y, s, t, g, ho, rfl, rfl⟩ | ⟨p, q, ho, rfl, rfl, rfl⟩
       ·cases ho
       ·exact absurd c5 (by simp [Ex.tree, Tree.parts])
     refine Ae (Ak (Se rfl ?_)); refine Bu rfl rfl rfl .free rfl ?_; refine Bt rfl rfl rfl rfl .free ?_; refine Oa rfl (Aa ?_); refine Ad (.c rfl (.tmp rfl .nil)) ?_
     exact ⟨_, L, hle, Ax, SP.none' (by rw [hturn, hno])⟩
    ·intro hkk
     skip
     refine Da 0 rfl (Ah rfl) ?_; refine Dt 1 [10] rfl (Bl rfl) ?_
     first | refine Da 2 rfl (A5 rfl rfl 1 rfl) ?_ | refine Da 2 rfl (A6 rfl rfl 1 rfl) ?_
     refine Dt 3 [10] rfl (Bb rfl) ?_; refine Da 4 rfl (Ah rfl) ?_; refine Ij 5 8 9 (by kernel_rfl) ?_ ?_ ?_
     ·skip
      refine C7 5 rfl rfl (Bl rfl) .free rfl (.inr Aj) ?_
      first | refine Da 6 rfl (A5 rfl rfl 2 rfl) ?_ | refine Da 6 rfl (A6 rfl rfl 2 rfl) ?_
      refine Ij 7 8 9 (by kernel_rfl) ?_ ?_ ?_
      ·skip
       refine C7 7 rfl rfl (Bb rfl) .free rfl (.inr Aj) ?_; refine Ci 8 9 (by kernel_rfl) ?_ ?_
       ·skip
        refine B7 8 rfl rfl .free rfl (.inr Aj) ?_; intro b9; refine D8 9 rfl (by kernel_rfl) rfl .free rfl (.inr Aj) ?_; intro b10; refine Dx 10 rfl rfl rfl rfl ?_; refine Dx 11 rfl rfl rfl rfl ?_; refine Ao (by kernel_rfl) ?_
        exact Be (E' := [(1, _), (2, _), (3, _), (9, _), (10, _)]) ⟨rfl, rfl, rfl, rfl, rfl, trivial⟩ (Bd (by first | exact fun _ h => h | exact fun _ h => h.perm2) (hkk ⟨b9, b10⟩ trivial))
       ·skip
        refine B7 9 rfl rfl .free rfl (.inr Aj) ?_; intro b10; refine D8 8 rfl (by kernel_rfl) rfl .free rfl (.inr Aj) ?_; intro b9; refine Dx 10 rfl rfl rfl rfl ?_; refine Dx 11 rfl rfl rfl rfl ?_; refine Ao (by kernel_rfl) ?_
        exact Be (E' := [(1, _), (2, _), (3, _), (9, _), (10, _)]) ⟨rfl, rfl, rfl, rfl, rfl, trivial⟩ (Bd (by first | exact fun _ h => h | exact fun _ h => h.perm2) (hkk ⟨b9, b10⟩ trivial))
      ·skip
       refine B7 8 rfl rfl .free rfl (.inr Aj) ?_; intro b9; refine Ci 7 9 (by kernel_rfl) ?_ ?_
       ·skip
        refine C7 7 rfl rfl (Bb rfl) .free rfl (.inr Aj) ?_; refine D8 9 rfl (by kernel_rfl) rfl .free rfl (.inr Aj) ?_; intro b10; refine Dx 10 rfl rfl rfl rfl ?_; refine Dx 11 rfl rfl rfl rfl ?_; refine Ao (by kernel_rfl) ?_
        exact Be (E' := [(1, _), (2, _), (3, _), (9, _), (10, _)]) ⟨rfl, rfl, rfl, rfl, rfl, trivial⟩ (Bd (by first | exact fun _ h => h | exact fun _ h => h.perm2) (hkk ⟨b9, b10⟩ trivial))
       ·skip
        refine B7 9 rfl rfl .free rfl (.inr Aj) ?_; intro b10; refine Ci 7 10 (by kernel_rfl) ?_ ?_
        ·skip
         refine C7 7 rfl rfl (Bb rfl) .free rfl (.inr Aj) ?_; refine Dx 10 rfl rfl rfl rfl ?_; refine Dx 11 rfl rfl rfl rfl ?_; refine Ao (by kernel_rfl) ?_
         exact Be (E' := [(1, _), (2, _), (3, _), (9, _), (10, _)]) ⟨rfl, rfl, rfl, rfl, rfl, trivial⟩ (Bd (by first | exact fun _ h => h | exact fun _ h => h.perm2) (hkk ⟨b9, b10⟩ trivial))
        ·skip
         refine Hk 10 rfl rfl rfl rfl rfl rfl .free (.inl (by kernel_rfl)) ?_; refine Ey 7 rfl (by kernel_rfl) rfl (Bb rfl) .free rfl (.inl (by kernel_rfl)) ?_; refine Dx 11 rfl rfl rfl rfl ?_; refine Ao (by kernel_rfl) ?_
         exact Be (E' := [(1, _), (2, _), (3, _), (9, _), (10, _)]) ⟨rfl, rfl, rfl, rfl, rfl, trivial⟩ (Bd (by first | exact fun _ h => h | exact fun _ h => h.perm2) (hkk ⟨b9, b10⟩ trivial))
      ·skip
       refine B7 9 rfl rfl .free rfl (.inr Aj) ?_; intro b10; refine Ci 7 8 (by kernel_rfl) ?_ ?_
       ·skip
        refine C7 7 rfl rfl (Bb rfl) .free rfl (.inr Aj) ?_; refine D8 8 rfl (by kernel_rfl) rfl .free rfl (.inr Aj) ?_; intro b9; refine Dx 10 rfl rfl rfl rfl ?_; refine Dx 11 rfl rfl rfl rfl ?_; refine Ao (by kernel_rfl) ?_
        exact Be (E' := [(1, _), (2, _), (3, _), (9, _), (10, _)]) ⟨rfl, rfl, rfl, rfl, rfl, trivial⟩ (Bd (by first | exact fun _ h => h | exact fun _ h => h.perm2) (hkk ⟨b9, b10⟩ trivial))
       ·skip
        refine B7 8 rfl rfl .free rfl (.inr Aj) ?_; intro b9; refine Ci 7 10 (by kernel_rfl) ?_ ?_
        ·skip
         refine C7 7 rfl rfl (Bb rfl) .free rfl (.inr Aj) ?_; refine Dx 10 rfl rfl rfl rfl ?_; refine Dx 11 rfl rfl rfl rfl ?_; refine Ao (by kernel_rfl) ?_
         exact Be (E' := [(1, _), (2, _), (3, _), (9, _), (10, _)]) ⟨rfl, rfl, rfl, rfl, rfl, trivial⟩ (Bd (by first | exact fun _ h => h | exact fun _ h => h.perm2) (hkk ⟨b9, b10⟩ trivial))
        ·skip
         refine Hk 10 rfl rfl rfl rfl rfl rfl .free (.inl (by kernel_rfl)) ?_; refine Ey 7 rfl (by kernel_rfl) rfl (Bb rfl) .free rfl (.inl (by kernel_rfl)) ?_; refine Dx 11 rfl rfl rfl rfl ?_; refine Ao (by kernel_rfl) ?_
         exact Be (E' := [(1, _), (2, _), (3, _), (9, _), (10, _)]) ⟨rfl, rfl, rfl, rfl, rfl, trivial⟩ (Bd (by first | exact fun _ h => h | exact fun _ h => h.perm2) (hkk ⟨b9, b10⟩ trivial))
     ·skip
      refine B7 8 rfl rfl .free rfl (.inr Aj) ?_; intro b9; refine Ci 5 9 (by kernel_rfl) ?_ ?_
      ·skip
       refine C7 5 rfl rfl (Bl rfl) .free rfl (.inr Aj) ?_
       first | refine Da 6 rfl (A5 rfl rfl 2 rfl) ?_ | refine Da 6 rfl (A6 rfl rfl 2 rfl) ?_
       refine Ci 7 9 (by kernel_rfl) ?_ ?_
       ·skip
        refine C7 7 rfl rfl (Bb rfl) .free rfl (.inr Aj) ?_; refine D8 9 rfl (by kernel_rfl) rfl .free rfl (.inr Aj) ?_; intro b10; refine Dx 10 rfl rfl rfl rfl ?_; refine Dx 11 rfl rfl rfl rfl ?_; refine Ao (by kernel_rfl) ?_
        exact Be (E' := [(1, _), (2, _), (3, _), (9, _), (10, _)]) ⟨rfl, rfl, rfl, rfl, rfl, trivial⟩ (Bd (by first | exact fun _ h => h | exact fun _ h => h.perm2) (hkk ⟨b9, b10⟩ trivial))
       ·skip
        refine B7 9 rfl rfl .free rfl (.inr Aj) ?_; intro b10; refine Ci 7 10 (by kernel_rfl) ?_ ?_
        ·skip
         refine C7 7 rfl rfl (Bb rfl) .free rfl (.inr Aj) ?_; refine Dx 10 rfl rfl rfl rfl ?_; refine Dx 11 rfl rfl rfl rfl ?_; refine Ao (by kernel_rfl) ?_
         exact Be (E' := [(1, _), (2, _), (3, _), (9, _), (10, _)]) ⟨rfl, rfl, rfl, rfl, rfl, trivial⟩ (Bd (by first | exact fun _ h => h | exact fun _ h => h.perm2) (hkk ⟨b9, b10⟩ trivial))
        ·skip
         refine Hk 10 rfl rfl rfl rfl rfl rfl .free (.inl (by kernel_rfl)) ?_; refine Ey 7 rfl (by kernel_rfl) rfl (Bb rfl) .free rfl (.inl (by kernel_rfl)) ?_; refine Dx 11 rfl rfl rfl rfl ?_; refine Ao (by kernel_rfl) ?_
         exact Be (E' := [(1, _), (2, _), (3, _), (9, _), (10, _)]) ⟨rfl, rfl, rfl, rfl, rfl, trivial⟩ (Bd (by first | exact fun _ h => h | exact fun _ h => h.perm2) (hkk ⟨b9, b10⟩ trivial))
      ·skip
       refine B7 9 rfl rfl .free rfl (.inr Aj) ?_; intro b10; refine Ci 5 10 (by kernel_rfl) ?_ ?_
       ·skip
        refine C7 5 rfl rfl (Bl rfl) .free rfl (.inr Aj) ?_
        first | refine Da 6 rfl (A5 rfl rfl 2 rfl) ?_ | refine Da 6 rfl (A6 rfl rfl 2 rfl) ?_
        refine Ci 7 10 (by kernel_rfl) ?_ ?_
        ·skip
         refine C7 7 rfl rfl (Bb rfl) .free rfl (.inr Aj) ?_; refine Dx 10 rfl rfl rfl rfl ?_; refine Dx 11 rfl rfl rfl rfl ?_; refine Ao (by kernel_rfl) ?_
         exact Be (E' := [(1, _), (2, _), (3, _), (9, _), (10, _)]) ⟨rfl, rfl, rfl, rfl, rfl, trivial⟩ (Bd (by first | exact fun _ h => h | exact fun _ h => h.perm2) (hkk ⟨b9, b10⟩ trivial))
        ·skip
         refine Hk 10 rfl rfl rfl rfl rfl rfl .free (.inl (by kernel_rfl)) ?_; refine Ey 7 rfl (by kernel_rfl) rfl (Bb rfl) .free rfl (.inl (by kernel_rfl)) ?_; refine Dx 11 rfl rfl rfl rfl ?_; refine Ao (by kernel_rfl) ?_
         exact Be (E' := [(1, _), (2, _), (3, _), (9, _), (10, _)]) ⟨rfl, rfl, rfl, rfl, rfl, trivial⟩ (Bd (by first | exact fun _ h => h | exact fun _ h => h.perm2) (hkk ⟨b9, b10⟩ trivial))
       ·skip
        refine Hk 10 rfl rfl rfl rfl rfl rfl .free (.inl (by kernel_rfl)) ?_; refine Ey 5 rfl (by kernel_rfl) rfl (Bl rfl) .free rfl (.inl (by kernel_rfl)) ?_
        first | refine Db 6 rfl (A5 rfl rfl 2 rfl) ?_ | refine Db 6 rfl (A6 rfl rfl 2 rfl) ?_
        refine Ey 7 rfl (by kernel_rfl) rfl (Bb rfl) .free rfl (.inl (by kernel_rfl)) ?_; refine Dx 11 rfl rfl rfl rfl ?_; refine Ao (by kernel_rfl) ?_
        exact Be (E' := [(1, _), (2, _), (3, _), (9, _), (10, _)]) ⟨rfl, rfl, rfl, rfl, rfl, trivial⟩ (Bd (by first | exact fun _ h => h | exact fun _ h => h.perm2) (hkk ⟨b9, b10⟩ trivial))
     ·skip
      refine B7 9 rfl rfl .free rfl (.inr Aj) ?_; intro b10; refine Ci 5 8 (by kernel_rfl) ?_ ?_
      ·skip
       refine C7 5 rfl rfl (Bl rfl) .free rfl (.inr Aj) ?_
       first | refine Da 6 rfl (A5 rfl rfl 2 rfl) ?_ | refine Da 6 rfl (A6 rfl rfl 2 rfl) ?_
       refine Ci 7 8 (by kernel_rfl) ?_ ?_
       ·skip
        refine C7 7 rfl rfl (Bb rfl) .free rfl (.inr Aj) ?_; refine D8 8 rfl (by kernel_rfl) rfl .free rfl (.inr Aj) ?_; intro b9; refine Dx 10 rfl rfl rfl rfl ?_; refine Dx 11 rfl rfl rfl rfl ?_; refine Ao (by kernel_rfl) ?_
        exact Be (E' := [(1, _), (2, _), (3, _), (9, _), (10, _)]) ⟨rfl, rfl, rfl, rfl, rfl, trivial⟩ (Bd (by first | exact fun _ h => h | exact fun _ h => h.perm2) (hkk ⟨b9, b10⟩ trivial))
       ·skip
        refine B7 8 rfl rfl .free rfl (.inr Aj) ?_; intro b9; refine Ci 7 10 (by kernel_rfl) ?_ ?_
        ·skip
         refine C7 7 rfl rfl (Bb rfl) .free rfl (.inr Aj) ?_; refine Dx 10 rfl rfl rfl rfl ?_; refine Dx 11 rfl rfl rfl rfl ?_; refine Ao (by kernel_rfl) ?_
         exact Be (E' := [(1, _), (2, _), (3, _), (9, _), (10, _)]) ⟨rfl, rfl, rfl, rfl, rfl, trivial⟩ (Bd (by first | exact fun _ h => h | exact fun _ h => h.perm2) (hkk ⟨b9, b10⟩ trivial))
        ·skip
         refine Hk 10 rfl rfl rfl rfl rfl rfl .free (.inl (by kernel_rfl)) ?_; refine Ey 7 rfl (by kernel_rfl) rfl (Bb rfl) .free rfl (.inl (by kernel_rfl)) ?_; refine Dx 11 rfl rfl rfl rfl ?_; refine Ao (by kernel_rfl) ?_
         exact Be (E' := [(1, _), (2, _), (3, _), (9, _), (10, _)]) ⟨rfl, rfl, rfl, rfl, rfl, trivial⟩ (Bd (by first | exact fun _ h => h | exact fun _ h => h.perm2) (hkk ⟨b9, b10⟩ trivial))
      ·skip
       refine B7 8 rfl rfl .free rfl (.inr Aj) ?_; intro b9; refine Ci 5 10 (by kernel_rfl) ?_ ?_
       ·skip
        refine C7 5 rfl rfl (Bl rfl) .free rfl (.inr Aj) ?_
        first | refine Da 6 rfl (A5 rfl rfl 2 rfl) ?_ | refine Da 6 rfl (A6 rfl rfl 2 rfl) ?_
        refine Ci 7 10 (by kernel_rfl) ?_ ?_
        ·skip
         refine C7 7 rfl rfl (Bb rfl) .free rfl (.inr Aj) ?_; refine Dx 10 rfl rfl rfl rfl ?_; refine Dx 11 rfl rfl rfl rfl ?_; refine Ao (by kernel_rfl) ?_
         exact Be (E' := [(1, _), (2, _), (3, _), (9, _), (10, _)]) ⟨rfl, rfl, rfl, rfl, rfl, trivial⟩ (Bd (by first | exact fun _ h => h | exact fun _ h => h.perm2) (hkk ⟨b9, b10⟩ trivial))
        ·skip
         refine Hk 10 rfl rfl rfl rfl rfl rfl .free (.inl (by kernel_rfl)) ?_; refine Ey 7 rfl (by kernel_rfl) rfl (Bb rfl) .free rfl (.inl (by kernel_rfl)) ?_; refine Dx 11 rfl rfl rfl rfl ?_; refine Ao (by kernel_rfl) ?_
         exact Be (E' := [(1, _), (2, _), (3, _), (9, _), (10, _)]) ⟨rfl, rfl, rfl, rfl, rfl, trivial⟩ (Bd (by first | exact fun _ h => h | exact fun _ h => h.perm2) (hkk ⟨b9, b10⟩ trivial))
       ·skip
        refine Hk 10 rfl rfl rfl rfl rfl rfl .free (.inl (by kernel_rfl)) ?_; refine Ey 5 rfl (by kernel_rfl) rfl (Bl rfl) .free rfl (.inl (by kernel_rfl)) ?_
        first | refine Db 6 rfl (A5 rfl rfl 2 rfl) ?_ | refine Db 6 rfl (A6 rfl rfl 2 rfl) ?_
        refine Ey 7 rfl (by kernel_rfl) rfl (Bb rfl) .free rfl (.inl (by kernel_rfl)) ?_; refine Dx 11 rfl rfl rfl rfl ?_; refine Ao (by kernel_rfl) ?_
        exact Be (E' := [(1, _), (2, _), (3, _), (9, _), (10, _)]) ⟨rfl, rfl, rfl, rfl, rfl, trivial⟩ (Bd (by first | exact fun _ h => h | exact fun _ h => h.perm2) (hkk ⟨b9, b10⟩ trivial))
   ·skip
    refine Ag rfl ?_; refine Az rfl .free rfl ?_; refine Ca rfl (A7 hf.rep _) ?_; rintro _ _ _ _ ⟨rfl, rfl, rfl⟩; rw [show (Ex.bin .call a b).tree.head = [99, 97, 108, 108] from rfl]
    have hturn : (Ex.bin .call a b).step = (Ex.bin .call a b).turn := by simp only [Ex.step, hva, hvb, Bool.true_eq_false, if_false]
    refine Aa (Al (Ac (Se rfl (Od rfl rfl rfl (Oa rfl (Aa ?_))))))
    first | refine Sf rfl (by decide) ?_ | refine Aw (by simp [look, Bc, *]) ?_
    refine Se rfl (Od rfl rfl rfl (Oa rfl (Aa ?_)))
    first | refine Sf rfl (by decide) ?_ | refine Aw (by simp [look, Bc, *]) ?_
    refine Ag rfl (Od rfl rfl rfl (Oa rfl (Aa ?_)))
    first | refine Sf rfl (by decide) ?_ | refine Aw (by simp [look, Bc, *]) ?_
    refine Se rfl (Od rfl rfl rfl (Oa rfl (Aa ?_)))
    first | refine Sf rfl (by decide) ?_ | refine Aw (by simp [look, Bc, *]) ?_
    refine Se rfl (Od rfl rfl rfl (Oa rfl (Aa ?_)))
    first | refine Sf rfl (by decide) ?_ | refine Aw (by simp [look, Bc, *]) ?_
    refine Se rfl (Od rfl rfl rfl (Oa rfl (Aa ?_)))
    first | refine St rfl (rfl) ?_ | refine Bn (by simp [look, Bc, *]) ?_
    refine Se rfl (Oh rfl ?_); refine Bi rfl .free rfl ?_
    first | refine A8 rfl rfl 1 rfl .free rfl ?_ | refine A9 rfl rfl 1 rfl .free rfl ?_
    refine Dn rfl .free rfl ?_; refine A2 .free rfl ?_; intro b12; refine Bt rfl rfl rfl rfl .free ?_; refine Aa (Se rfl ?_); refine Az rfl .free rfl ?_; refine Ca rfl (A7 (hf.as 1 a.tree (by omega) rfl) _) ?_; rintro _ _ _ _ ⟨rfl, rfl, rfl⟩; refine Od rfl rfl rfl (Aa ?_); refine Ar rfl ?_ ?_
    ·intro c11
     try simp only [nb] at c11
     obtain ⟨f, y, s, t, g, rfl⟩ := Ex.of_fun (show a.tree.head = Dg from c11)
     have hra := hf.as 1 (Ex.fn f y s t g).tree (by omega) rfl
     obtain ⟨oa2, c2, oaf2, cf2, he2, hf2⟩ := hra.at'
     simp only [List.cons.injEq, Value.slice.injEq, and_true, true_and] at he2
     obtain ⟨rfl, rfl⟩ := he2; obtain ⟨xa2, hxa2⟩ : ∃ x, oaf 1 = some x := ⟨_, E9 hf2.nil (show 0 < 6 by decide)⟩
     have hok2 := hok.1
     simp only [Ex.ok, Bool.and_eq_true, decide_eq_true_eq] at hok2
     have hl2 : (Ex.fn f y s t g).tree.parts.length = 6 := rfl
     refine Ac ?_; refine Cz 23 rfl rfl ?_; refine Da 0 rfl (Ah rfl) ?_; refine Dt 1 [21] rfl (Bl rfl) ?_
     first | refine Da 2 rfl (A5 rfl rfl 5 rfl) ?_ | refine Da 2 rfl (A6 rfl rfl 5 rfl) ?_
     refine Dt 3 [21] rfl (Bb rfl) ?_; refine Da 4 rfl (Ah rfl) ?_; refine Dt 5 [21] rfl (Bl rfl) ?_
     first | refine Da 6 rfl (A5 rfl rfl 1 rfl) ?_ | refine Da 6 rfl (A6 rfl rfl 1 rfl) ?_
     refine Da 7 rfl (A1 rfl) ?_; refine Dt 8 [21] rfl (Ha rfl) ?_; refine Dt 9 [21] rfl (Cb rfl) ?_; refine Da 11 rfl (Ah rfl) ?_; refine Dt 12 [21] rfl (Bl rfl) ?_
     first | refine Da 13 rfl (A5 rfl rfl 2 rfl) ?_ | refine Da 13 rfl (A6 rfl rfl 2 rfl) ?_
     refine Da 14 rfl (A1 rfl) ?_; refine Dt 15 [21] rfl (Ha rfl) ?_; refine Da 16 rfl (Ah rfl) ?_; refine Dt 17 [21] rfl (Bl rfl) ?_
     first | refine Da 18 rfl (A5 rfl rfl 2 rfl) ?_ | refine Da 18 rfl (A6 rfl rfl 2 rfl) ?_
     refine Dt 19 [21] rfl (Bb rfl) ?_; refine Dc 10 rfl rfl (L3 _ (Nat.lt_succ_self _) (hf2.as 5 g.tree (by omega) rfl) hok2.2 f hok2.1.1.1.1.1 hra _) ?_; rintro _ J2 _ e2 ⟨cs2, rfl, hr2, rfl⟩; obtain ⟨o2, k2, _, rfl, -⟩ := hr2.open
     have hf := hf.mono e2
     have hf2 := hf2.mono e2
     have hle := hle.trans e2
     refine Hx ?_; refine Dc 20 rfl rfl (L3 _ (Nat.lt_succ_self _) hr2 (Ex.put_ok hok2.2 hok.1) y hok2.1.1.1.1.2 (hf.as 2 b.tree (by omega) rfl) _) ?_; rintro _ J3 _ e3 ⟨cs3, rfl, hr3, rfl⟩; obtain ⟨o3, k3, _, rfl, -⟩ := hr3.open
     have hle := hle.trans e3
     have e23 := e2.trans e3
     refine Hx ?_; refine Dx 21 rfl rfl rfl rfl ?_; refine Db 22 rfl (Av rfl) ?_; refine Ao (by kernel_rfl) ?_; refine Ad (.c rfl (.tmp rfl .nil)) ?_; refine ⟨_, L, hle, Ax, ((g.put f (.fn f y s t g)).put y b).tree, _, by rw [hturn]; rfl, hr3, fun e' he' => ?_, rfl⟩; rw [hturn] at he'; obtain rfl := Option.some.inj he'
     rfl
    intro c11
    try simp only [nb] at c11
    have hno : (Ex.bin .call a b).turn = none := by
     cases hty : (Ex.bin .call a b).turn with
     | none => rfl
     | some e' =>
      rcases I9 hty with ⟨f, y, s, t, g, ho, rfl, rfl⟩ | ⟨p, q, ho, rfl, rfl, rfl⟩
      ·exact absurd rfl c11
      ·cases ho
    refine Ae (Ak (Se rfl ?_)); refine Bu rfl rfl rfl .free rfl ?_; refine Bt rfl rfl rfl rfl .free ?_; refine Oa rfl (Aa ?_); refine Ad (.c rfl (.tmp rfl .nil)) ?_
    exact ⟨_, L, hle, Ax, SP.none' (by rw [hturn, hno])⟩
   ·skip
    refine Ag rfl ?_; refine Az rfl .free rfl ?_; refine Ca rfl (A7 hf.rep _) ?_; rintro _ _ _ _ ⟨rfl, rfl, rfl⟩; rw [show (Ex.bin .pair a b).tree.head = [112, 97, 105, 114] from rfl]
    have hturn : (Ex.bin .pair a b).step = (Ex.bin .pair a b).turn := by simp only [Ex.step, hva, hvb, Bool.true_eq_false, if_false]
    refine Aa (Al (Ac (Se rfl (Od rfl rfl rfl (Oa rfl (Aa ?_))))))
    first | refine Sf rfl (by decide) ?_ | refine Aw (by simp [look, Bc, *]) ?_
    refine Se rfl (Od rfl rfl rfl (Oa rfl (Aa ?_)))
    first | refine Sf rfl (by decide) ?_ | refine Aw (by simp [look, Bc, *]) ?_
    refine Ag rfl (Od rfl rfl rfl (Oa rfl (Aa ?_)))
    first | refine Sf rfl (by decide) ?_ | refine Aw (by simp [look, Bc, *]) ?_
    refine Se rfl (Od rfl rfl rfl (Oa rfl (Aa ?_)))
    first | refine Sf rfl (by decide) ?_ | refine Aw (by simp [look, Bc, *]) ?_
    refine Se rfl (Od rfl rfl rfl (Oa rfl (Aa ?_)))
    first | refine Sf rfl (by decide) ?_ | refine Aw (by simp [look, Bc, *]) ?_
    refine Se rfl (Od rfl rfl rfl (Oa rfl (Aa ?_)))
    first | refine Sf rfl (by decide) ?_ | refine Aw (by simp [look, Bc, *]) ?_
    refine Ac (Se rfl (Od rfl rfl rfl (Oa rfl (Aa ?_))))
    first | refine Sf rfl (by decide) ?_ | refine Aw (by simp [look, Bc, *]) ?_
    refine Ag rfl (Od rfl rfl rfl (Oa rfl (Aa ?_)))
    first | refine Sf rfl (by decide) ?_ | refine Aw (by simp [look, Bc, *]) ?_
    refine Ae (Ak (Ac ?_))
    have hno : (Ex.bin .pair a b).turn = none := by
     first
      | rfl
      | (cases a <;> first | rfl | (cases b <;> rfl))
    refine Ag rfl ?_; refine Bu rfl rfl rfl .free rfl ?_; refine Bt rfl rfl rfl rfl .free ?_; refine Oa rfl (Aa ?_); refine Ad (.c rfl (.tmp rfl .nil)) ?_
    exact ⟨_, L, hle, Ax, SP.none' (by rw [hturn, hno])⟩
  intro c1
  try simp only [nb] at c1
  have hvb : b.value = false := by simpa using c1
  have hst : (Ex.bin o a b).step = b.step.map fun q => .bin o a q := by simp only [Ex.step, hva, Bool.true_eq_false, if_false, hvb, if_true]
  refine Ae (Se rfl (Oh rfl ?_)); refine Bi rfl .free rfl ?_; refine Om rfl ?_
  first | refine A8 rfl rfl _ rfl .free rfl ?_ | refine A9 rfl rfl _ rfl .free rfl ?_
  refine Dn rfl .free rfl ?_; refine Ca rfl (ihn ht (by omega) (hf.as 2 b.tree (by omega) rfl) hok.2 _) ?_; rintro _ J1 _ e1 ⟨t1, cs1, rfl, hr, hte, rfl⟩; obtain ⟨o1, k1, _, rfl, -⟩ := hr.open
  have hf := hf.mono e1
  have hle := hle.trans e1
  have hk := hk.mono e1
  refine Om rfl (Oe rfl rfl (Oe rfl rfl ?_)); refine A2 .free rfl ?_; intro b6; refine Bt rfl rfl rfl rfl .free ?_; refine Oa rfl (Aa (Se rfl (Oh rfl ?_))); refine Bi rfl .free rfl ?_; refine Ca rfl (Fs ((hcs _ rfl).mono hle) (by have := hcl.length; omega) hcl.plain hpos hp _) ?_; rintro _ _ _ _ ⟨bc, sp, cc, rfl, hcc, rfl, rfl⟩
  simp only [show (Ex.bin o a b).tree.parts = [.node o.txt [], a.tree, b.tree] from rfl, Es, List.cons_append, List.nil_append]
  refine Bu rfl rfl rfl .free rfl ?_; refine A2 .free rfl ?_; intro b8; refine Bt rfl rfl rfl rfl .free ?_; refine Aa (Se rfl (Oh rfl ?_)); refine Bi rfl .free rfl ?_; refine Om rfl ?_; refine Az rfl .free rfl ?_
  first | refine A8 rfl rfl _ rfl .free rfl ?_ | refine A9 rfl rfl _ rfl .free rfl ?_
  refine Bt rfl rfl rfl rfl .free ?_; refine Aa (Se rfl ?_); refine Az rfl .free rfl ?_; refine Om rfl ?_; refine Bt rfl rfl rfl rfl .free ?_; refine Oa rfl (Aa ?_); refine Bd (fun w h => h.f1) (Br ?_); intro hz
  have hf := hf.mono hz
  refine Ad (.c rfl (.tmp rfl .nil)) ?_; refine ⟨_, L, hle.trans hz, Ax, .node [] [.node o.txt [], a.tree, t1], [.string (str []), .slice (some ⟨bc, 0, none⟩) (Ex.bin o a b).tree.parts.length cc], ?_, .mk' rfl (.cons (hf.as 0 (.node o.txt []) (by omega) rfl) (.cons (hf.as 1 (a.tree) (by omega) rfl) (.cons (hr.mono hz) (.nil)))) (fun y hy => by cases hy; exact Bg (xs := [_, _, _, _, _, _])) (by simp) hcc (by simp [Ap]) hp, ?_, rfl⟩
  ·rw [Gw hst]; rfl
  ·intro e' he'; rw [hst] at he'; obtain ⟨q, hq, rfl⟩ := Option.map_eq_some_iff.1 he'; rw [hte q hq]; rfl
 intro c1
 try simp only [nb] at c1
 have hva : a.value = false := by simpa using c1
 have hst : (Ex.bin o a b).step = a.step.map fun q => .bin o q b := by simp only [Ex.step, hva, if_true]
 refine Ae (Se rfl (Oh rfl ?_)); refine Bi rfl .free rfl ?_; refine Om rfl ?_
 first | refine A8 rfl rfl _ rfl .free rfl ?_ | refine A9 rfl rfl _ rfl .free rfl ?_
 refine Dn rfl .free rfl ?_; refine Ca rfl (ihn ht (by omega) (hf.as 1 a.tree (by omega) rfl) hok.1 _) ?_; rintro _ J1 _ e1 ⟨t1, cs1, rfl, hr, hte, rfl⟩; obtain ⟨o1, k1, _, rfl, -⟩ := hr.open
 have hf := hf.mono e1
 have hle := hle.trans e1
 have hk := hk.mono e1
 refine Om rfl (Oe rfl rfl (Oe rfl rfl ?_)); refine A2 .free rfl ?_; intro b6; refine Bt rfl rfl rfl rfl .free ?_; refine Oa rfl (Aa (Se rfl (Oh rfl ?_))); refine Bi rfl .free rfl ?_; refine Ca rfl (Fs ((hcs _ rfl).mono hle) (by have := hcl.length; omega) hcl.plain hpos hp _) ?_; rintro _ _ _ _ ⟨bc, sp, cc, rfl, hcc, rfl, rfl⟩
 simp only [show (Ex.bin o a b).tree.parts = [.node o.txt [], a.tree, b.tree] from rfl, Es, List.cons_append, List.nil_append]
 refine Bu rfl rfl rfl .free rfl ?_; refine A2 .free rfl ?_; intro b8; refine Bt rfl rfl rfl rfl .free ?_; refine Aa (Se rfl (Oh rfl ?_)); refine Bi rfl .free rfl ?_; refine Om rfl ?_; refine Az rfl .free rfl ?_
 first | refine A8 rfl rfl _ rfl .free rfl ?_ | refine A9 rfl rfl _ rfl .free rfl ?_
 refine Bt rfl rfl rfl rfl .free ?_; refine Aa (Se rfl ?_); refine Az rfl .free rfl ?_; refine Om rfl ?_; refine Bt rfl rfl rfl rfl .free ?_; refine Oa rfl (Aa ?_); refine Bd (fun w h => h.f1) (Br ?_); intro hz
 have hf := hf.mono hz
 refine Ad (.c rfl (.tmp rfl .nil)) ?_; refine ⟨_, L, hle.trans hz, Ax, .node [] [.node o.txt [], t1, b.tree], [.string (str []), .slice (some ⟨bc, 0, none⟩) (Ex.bin o a b).tree.parts.length cc], ?_, .mk' rfl (.cons (hf.as 0 (.node o.txt []) (by omega) rfl) (.cons (hr.mono hz) (.cons (hf.as 2 (b.tree) (by omega) rfl) (.nil)))) (fun y hy => by cases hy; exact Bg (xs := [_, _, _, _, _, _])) (by simp) hcc (by simp [Ap]) hp, ?_, rfl⟩
 ·rw [Gw hst]; rfl
 ·intro e' he'; rw [hst] at he'; obtain ⟨q, hq, rfl⟩ := Option.map_eq_some_iff.1 he'; rw [hte q hq]; rfl
set_option maxHeartbeats 1000000 in
theorem Yn {N : Nat} (ihn : Qy N) {a b d : Ex} {I : Heap} (ht : Tab I) {cs : List Value} (hlt : SizeOf.sizeOf (Ex.ite a b d) < N + 1) (h : Rep I (Ex.ite a b d).tree cs) (hok : (Ex.ite a b d).ok = true) (L : Bf) :
  Fun Tryz.prog 44 [.agg cs.toArray] I L (SP (Ex.ite a b d).step L) := by
 obtain ⟨oa, c, oaf, cf, rfl, hf, hcl, hcs⟩ := h.cells
 have hpos : 0 < (Ex.ite a b d).tree.parts.length := by show 0 < 4; decide
 obtain ⟨xa, rfl⟩ : ∃ xa, oa = some xa := ⟨_, E9 hf.nil hpos⟩
 have hlen : (Ex.ite a b d).tree.parts.length = 4 := rfl
 have hp := hf.len
 have hev : Tr (Ex.ite a b d).tree = [1] := rfl
 simp only [Ex.ite.sizeOf_spec] at hlt
 have hok0 := hok
 simp only [Ex.ok, Bool.and_eq_true, decide_eq_true_eq] at hok
 obtain ⟨_, hrl⟩ : ∃ _ : True, RepL I (Ex.ite a b d).tree.parts _ := ⟨trivial, hcl⟩
 simp only [show (Ex.ite a b d).tree.parts = [.node Fo [], a.tree, b.tree, d.tree] from rfl, Es, List.cons_append, List.nil_append] at hrl
 refine Ai (by simp) ?_; refine Se rfl ?_; refine Ct rfl rfl .free rfl ?_; intro b1; refine A2 .free rfl ?_; intro b2; refine Oa rfl (Aa (Ac (Se rfl ?_))); refine Az rfl .free rfl ?_; refine Ca rfl (C6 hf.rep _) ?_; rintro _ J0 _ e0 ⟨ok, ck, rfl, hk, rfl⟩
 have hf := hf.mono e0
 have ht := ht.mono e0
 have hle := e0
 rw [hev] at hk; rw [hev]; refine On rfl (Om rfl (Aa (Al ?_))); refine Eh ?_; refine Se rfl (Oc rfl rfl rfl (Aa (Ac ?_))); refine Cj rfl (by first | rfl | decide | (simp; done) | omega) ?_; refine Ae (Ac (Al (Se rfl ?_)))
 first | refine A8 rfl rfl _ rfl .free rfl ?_ | refine A9 rfl rfl _ rfl .free rfl ?_
 refine Dv rfl .free rfl ?_; refine Oa rfl (Aa (Ac (Se rfl (Oh rfl ?_)))); refine Bi rfl .free rfl ?_; refine Om rfl ?_
 first | refine A8 rfl rfl _ rfl .free rfl ?_ | refine A9 rfl rfl _ rfl .free rfl ?_
 refine Dn rfl .free rfl ?_; refine Ca rfl (Fr _ (Nat.lt_succ_self _) (hf.as 1 a.tree (by omega) rfl) hok.1.1 _) ?_; rintro _ _ _ _ ⟨rfl, rfl, rfl⟩; refine Aa ?_; refine Ar rfl ?_ ?_
 ·intro c1
  try simp only [nb] at c1
  have hva : a.value = true := c1
  refine Bx rfl ?_; refine Ag rfl ?_; refine Or rfl rfl rfl ?_; refine Om rfl (Aa ?_); refine Ce ?_; refine Se rfl (Oc rfl rfl rfl (Aa (Ac ?_))); refine Dj rfl (by first | rfl | decide | (simp; done) | omega) ?_; refine Bx rfl ?_; refine Ac (Se rfl ?_); refine Az rfl .free rfl ?_; refine Ca rfl (A7 hf.rep _) ?_; rintro _ _ _ _ ⟨rfl, rfl, rfl⟩; rw [show (Ex.ite a b d).tree.head = [105, 102] from rfl]
  have hturn : (Ex.ite a b d).step = (Ex.ite a b d).turn := by simp only [Ex.step, hva, Bool.true_eq_false, if_false]
  refine Aa (Al (Ac (Se rfl (Od rfl rfl rfl (Oa rfl (Aa ?_))))))
  first | refine Sf rfl (by decide) ?_ | refine Aw (by simp [look, Bc, *]) ?_
  refine Se rfl (Od rfl rfl rfl (Oa rfl (Aa ?_)))
  first | refine Sf rfl (by decide) ?_ | refine Aw (by simp [look, Bc, *]) ?_
  refine Ag rfl (Od rfl rfl rfl (Oa rfl (Aa ?_)))
  first | refine Sf rfl (by decide) ?_ | refine Aw (by simp [look, Bc, *]) ?_
  refine Se rfl (Od rfl rfl rfl (Oa rfl (Aa ?_)))
  first | refine St rfl (rfl) ?_ | refine Bn (by simp [look, Bc, *]) ?_
  refine Se rfl (Oh rfl ?_); refine Bi rfl .free rfl ?_
  first | refine A8 rfl rfl 1 rfl .free rfl ?_ | refine A9 rfl rfl 1 rfl .free rfl ?_
  refine Dn rfl .free rfl ?_; refine A2 .free rfl ?_; intro b11; refine Bt rfl rfl rfl rfl .free ?_; refine Aa (Al (Se rfl ?_)); refine Az rfl .free rfl ?_; refine Ca rfl (Bo (hf.as 1 a.tree (by omega) rfl) _) ?_; rintro _ _ _ _ ⟨rfl, rfl, rfl⟩; refine Cw rfl .free rfl ?_; refine Oa rfl (Aa ?_); refine Ar rfl ?_ ?_
  ·intro c7
   try simp only [nb] at c7
   have hno : (Ex.ite a b d).turn = none := by
    cases hty : (Ex.ite a b d).turn with
    | none => rfl
    | some e' =>
     obtain ⟨p, rfl, rfl⟩ := M1 hty
     exact absurd c7 (by simp [Ex.tree, Tree.parts])
   refine Ae (Ak (Ak (Se rfl ?_))); refine Bu rfl rfl rfl .free rfl ?_; refine Bt rfl rfl rfl rfl .free ?_; refine Oa rfl (Aa ?_); refine Ad (.c rfl (.tmp rfl .nil)) ?_
   exact ⟨_, L, hle, Ax, SP.none' (by rw [hturn, hno])⟩
  intro c7
  try simp only [nb] at c7
  obtain ⟨p, rfl⟩ := Is (show a.tree.parts.isEmpty = true by simpa using c7) hva; refine Se rfl (Oh rfl ?_); refine Bi rfl .free rfl ?_; refine Od rfl rfl rfl (Oa rfl (Aa ?_)); refine Ar rfl ?_ ?_
  ·intro c8
   try simp only [nb] at c8
   refine Se rfl (Oh rfl ?_); refine Bi rfl .free rfl ?_
   first | refine A8 rfl rfl 2 rfl .free rfl ?_ | refine A9 rfl rfl 2 rfl .free rfl ?_
   refine Dn rfl .free rfl ?_; refine Bt rfl rfl rfl rfl .free ?_; refine Oa rfl (Aa ?_); refine Ad (.c rfl (.tmp rfl .nil)) ?_; refine ⟨_, L, hle, Ax, b.tree, _, by rw [hturn]; rfl, hf.as 2 b.tree (by omega) rfl, fun e' he' => ?_, rfl⟩; rw [hturn] at he'; obtain rfl := Option.some.inj he'; rw [if_pos (show p = [48] from c8)]
  intro c8
  try simp only [nb] at c8
  refine Se rfl (Oh rfl ?_); refine Bi rfl .free rfl ?_
  first | refine A8 rfl rfl 3 rfl .free rfl ?_ | refine A9 rfl rfl 3 rfl .free rfl ?_
  refine Dn rfl .free rfl ?_; refine Bt rfl rfl rfl rfl .free ?_; refine Oa rfl (Aa ?_); refine Ad (.c rfl (.tmp rfl .nil)) ?_; refine ⟨_, L, hle, Ax, d.tree, _, by rw [hturn]; rfl, hf.as 3 d.tree (by omega) rfl, fun e' he' => ?_, rfl⟩; rw [hturn] at he'; obtain rfl := Option.some.inj he'; rw [if_neg (show ¬ p = [48] from c8)]
 intro c1
 try simp only [nb] at c1
 have hva : a.value = false := by simpa using c1
 have hst : (Ex.ite a b d).step = a.step.map fun q => .ite q b d := by simp only [Ex.step, hva, if_true]
 refine Ae (Se rfl (Oh rfl ?_)); refine Bi rfl .free rfl ?_; refine Om rfl ?_
 first | refine A8 rfl rfl _ rfl .free rfl ?_ | refine A9 rfl rfl _ rfl .free rfl ?_
 refine Dn rfl .free rfl ?_; refine Ca rfl (ihn ht (by omega) (hf.as 1 a.tree (by omega) rfl) hok.1.1 _) ?_; rintro _ J1 _ e1 ⟨t1, cs1, rfl, hr, hte, rfl⟩; obtain ⟨o1, k1, _, rfl, -⟩ := hr.open
 have hf := hf.mono e1
 have hle := hle.trans e1
 have hk := hk.mono e1
 refine Om rfl (Oe rfl rfl (Oe rfl rfl ?_)); refine A2 .free rfl ?_; intro b6; refine Bt rfl rfl rfl rfl .free ?_; refine Oa rfl (Aa (Se rfl (Oh rfl ?_))); refine Bi rfl .free rfl ?_; refine Ca rfl (Fs ((hcs _ rfl).mono hle) (by have := hcl.length; omega) hcl.plain hpos hp _) ?_; rintro _ _ _ _ ⟨bc, sp, cc, rfl, hcc, rfl, rfl⟩
 simp only [show (Ex.ite a b d).tree.parts = [.node Fo [], a.tree, b.tree, d.tree] from rfl, Es, List.cons_append, List.nil_append]
 refine Bu rfl rfl rfl .free rfl ?_; refine A2 .free rfl ?_; intro b8; refine Bt rfl rfl rfl rfl .free ?_; refine Aa (Se rfl (Oh rfl ?_)); refine Bi rfl .free rfl ?_; refine Om rfl ?_; refine Az rfl .free rfl ?_
 first | refine A8 rfl rfl _ rfl .free rfl ?_ | refine A9 rfl rfl _ rfl .free rfl ?_
 refine Bt rfl rfl rfl rfl .free ?_; refine Aa (Se rfl ?_); refine Az rfl .free rfl ?_; refine Om rfl ?_; refine Bt rfl rfl rfl rfl .free ?_; refine Oa rfl (Aa ?_); refine Bd (fun w h => h.f1) (Br ?_); intro hz
 have hf := hf.mono hz
 refine Ad (.c rfl (.tmp rfl .nil)) ?_; refine ⟨_, L, hle.trans hz, Ax, .node [] [.node Fo [], t1, b.tree, d.tree], [.string (str []), .slice (some ⟨bc, 0, none⟩) (Ex.ite a b d).tree.parts.length cc], ?_, .mk' rfl (.cons (hf.as 0 (.node Fo []) (by omega) rfl) (.cons (hr.mono hz) (.cons (hf.as 2 (b.tree) (by omega) rfl) (.cons (hf.as 3 (d.tree) (by omega) rfl) (.nil))))) (fun y hy => by cases hy; exact Bg (xs := [_, _, _, _, _, _, _, _])) (by simp) hcc (by simp [Ap]) hp, ?_, rfl⟩
 ·rw [Gw hst]; rfl
 ·intro e' he'; rw [hst] at he'; obtain ⟨q, hq, rfl⟩ := Option.map_eq_some_iff.1 he'; rw [hte q hq]; rfl
set_option maxHeartbeats 1000000 in
theorem Z6 {N : Nat} (ihn : Qy N) {z : Aq} {a b : Ex} {I : Heap} (ht : Tab I) {cs : List Value} (hlt : SizeOf.sizeOf (Ex.lt z a b) < N + 1) (h : Rep I (Ex.lt z a b).tree cs) (hok : (Ex.lt z a b).ok = true) (L : Bf) :
  Fun Tryz.prog 44 [.agg cs.toArray] I L (SP (Ex.lt z a b).step L) := by
 obtain ⟨oa, c, oaf, cf, rfl, hf, hcl, hcs⟩ := h.cells
 have hpos : 0 < (Ex.lt z a b).tree.parts.length := by show 0 < 4; decide
 obtain ⟨xa, rfl⟩ : ∃ xa, oa = some xa := ⟨_, E9 hf.nil hpos⟩
 have hlen : (Ex.lt z a b).tree.parts.length = 4 := rfl
 have hp := hf.len
 have hev : Tr (Ex.lt z a b).tree = [2] := rfl
 simp only [Ex.lt.sizeOf_spec] at hlt
 have hok0 := hok
 simp only [Ex.ok, Bool.and_eq_true, decide_eq_true_eq] at hok
 obtain ⟨_, hrl⟩ : ∃ _ : True, RepL I (Ex.lt z a b).tree.parts _ := ⟨trivial, hcl⟩
 simp only [show (Ex.lt z a b).tree.parts = [.node Dh [], .node z [], a.tree, b.tree] from rfl, Es, List.cons_append, List.nil_append] at hrl
 refine Ai (by simp) ?_; refine Se rfl ?_; refine Ct rfl rfl .free rfl ?_; intro b1; refine A2 .free rfl ?_; intro b2; refine Oa rfl (Aa (Ac (Se rfl ?_))); refine Az rfl .free rfl ?_; refine Ca rfl (C6 hf.rep _) ?_; rintro _ J0 _ e0 ⟨ok, ck, rfl, hk, rfl⟩
 have hf := hf.mono e0
 have ht := ht.mono e0
 have hle := e0
 rw [hev] at hk; rw [hev]; refine On rfl (Om rfl (Aa (Al ?_))); refine Eh ?_; refine Se rfl (Oc rfl rfl rfl (Aa (Ac ?_))); refine Cj rfl (by first | rfl | decide | (simp; done) | omega) ?_; refine Ae (Ac (Al (Se rfl ?_)))
 first | refine A8 rfl rfl _ rfl .free rfl ?_ | refine A9 rfl rfl _ rfl .free rfl ?_
 refine Dv rfl .free rfl ?_; refine Oa rfl (Aa (Ac (Se rfl (Oh rfl ?_)))); refine Bi rfl .free rfl ?_; refine Om rfl ?_
 first | refine A8 rfl rfl _ rfl .free rfl ?_ | refine A9 rfl rfl _ rfl .free rfl ?_
 refine Dn rfl .free rfl ?_; refine Ca rfl (Fr _ (Nat.lt_succ_self _) (hf.as 2 a.tree (by omega) rfl) hok.1.2 _) ?_; rintro _ _ _ _ ⟨rfl, rfl, rfl⟩; refine Aa ?_; refine Ar rfl ?_ ?_
 ·intro c1
  try simp only [nb] at c1
  have hva : a.value = true := c1
  refine Bx rfl ?_; refine Ag rfl ?_; refine Or rfl rfl rfl ?_; refine Om rfl (Aa ?_); refine Ce ?_; refine Se rfl (Oc rfl rfl rfl (Aa (Ac ?_))); refine Dj rfl (by first | rfl | decide | (simp; done) | omega) ?_; refine Bx rfl ?_; refine Ac (Se rfl ?_); refine Az rfl .free rfl ?_; refine Ca rfl (A7 hf.rep _) ?_; rintro _ _ _ _ ⟨rfl, rfl, rfl⟩; rw [show (Ex.lt z a b).tree.head = [108, 101, 116] from rfl]
  have hturn : (Ex.lt z a b).step = (Ex.lt z a b).turn := by simp only [Ex.step, hva, Bool.true_eq_false, if_false]
  refine Aa (Al (Ac (Se rfl (Od rfl rfl rfl (Oa rfl (Aa ?_))))))
  first | refine Sf rfl (by decide) ?_ | refine Aw (by simp [look, Bc, *]) ?_
  refine Se rfl (Od rfl rfl rfl (Oa rfl (Aa ?_)))
  first | refine Sf rfl (by decide) ?_ | refine Aw (by simp [look, Bc, *]) ?_
  refine Ag rfl (Od rfl rfl rfl (Oa rfl (Aa ?_)))
  first | refine Sf rfl (by decide) ?_ | refine Aw (by simp [look, Bc, *]) ?_
  refine Se rfl (Od rfl rfl rfl (Oa rfl (Aa ?_)))
  first | refine Sf rfl (by decide) ?_ | refine Aw (by simp [look, Bc, *]) ?_
  refine Se rfl (Od rfl rfl rfl (Oa rfl (Aa ?_)))
  first | refine St rfl (rfl) ?_ | refine Bn (by simp [look, Bc, *]) ?_
  refine Ac ?_; refine Cz 16 rfl rfl ?_; refine Da 0 rfl (Ah rfl) ?_; refine Dt 1 [14] rfl (Bl rfl) ?_
  first | refine Da 2 rfl (A5 rfl rfl 3 rfl) ?_ | refine Da 2 rfl (A6 rfl rfl 3 rfl) ?_
  refine Dt 3 [14] rfl (Bb rfl) ?_; refine Da 4 rfl (Ah rfl) ?_; refine Dt 5 [14] rfl (Bl rfl) ?_
  first | refine Da 6 rfl (A5 rfl rfl 1 rfl) ?_ | refine Da 6 rfl (A6 rfl rfl 1 rfl) ?_
  refine Da 7 rfl (A1 rfl) ?_; refine Dt 8 [14] rfl (Ha rfl) ?_; refine Da 9 rfl (Ah rfl) ?_; refine Dt 10 [14] rfl (Bl rfl) ?_
  first | refine Da 11 rfl (A5 rfl rfl 2 rfl) ?_ | refine Da 11 rfl (A6 rfl rfl 2 rfl) ?_
  refine Dt 12 [14] rfl (Bb rfl) ?_; refine Dc 13 rfl rfl (L3 _ (Nat.lt_succ_self _) (hf.as 3 b.tree (by omega) rfl) hok.2 z hok.1.1 (hf.as 2 a.tree (by omega) rfl) _) ?_; rintro _ J2 _ e2 ⟨cs2, rfl, hr2, rfl⟩; obtain ⟨o2, k2, _, rfl, -⟩ := hr2.open
  have hle := hle.trans e2
  refine Hx ?_; refine Dx 14 rfl rfl rfl rfl ?_; refine Db 15 rfl (Av rfl) ?_; refine Ao (by kernel_rfl) ?_; refine Ad (.c rfl (.tmp rfl .nil)) ?_; refine ⟨_, L, hle, Ax, (b.put z a).tree, _, by rw [hturn]; rfl, hr2, fun e' he' => ?_, rfl⟩; rw [hturn] at he'; obtain rfl := Option.some.inj he'
  rfl
 intro c1
 try simp only [nb] at c1
 have hva : a.value = false := by simpa using c1
 have hst : (Ex.lt z a b).step = a.step.map fun q => .lt z q b := by simp only [Ex.step, hva, if_true]
 refine Ae (Se rfl (Oh rfl ?_)); refine Bi rfl .free rfl ?_; refine Om rfl ?_
 first | refine A8 rfl rfl _ rfl .free rfl ?_ | refine A9 rfl rfl _ rfl .free rfl ?_
 refine Dn rfl .free rfl ?_; refine Ca rfl (ihn ht (by omega) (hf.as 2 a.tree (by omega) rfl) hok.1.2 _) ?_; rintro _ J1 _ e1 ⟨t1, cs1, rfl, hr, hte, rfl⟩; obtain ⟨o1, k1, _, rfl, -⟩ := hr.open
 have hf := hf.mono e1
 have hle := hle.trans e1
 have hk := hk.mono e1
 refine Om rfl (Oe rfl rfl (Oe rfl rfl ?_)); refine A2 .free rfl ?_; intro b6; refine Bt rfl rfl rfl rfl .free ?_; refine Oa rfl (Aa (Se rfl (Oh rfl ?_))); refine Bi rfl .free rfl ?_; refine Ca rfl (Fs ((hcs _ rfl).mono hle) (by have := hcl.length; omega) hcl.plain hpos hp _) ?_; rintro _ _ _ _ ⟨bc, sp, cc, rfl, hcc, rfl, rfl⟩
 simp only [show (Ex.lt z a b).tree.parts = [.node Dh [], .node z [], a.tree, b.tree] from rfl, Es, List.cons_append, List.nil_append]
 refine Bu rfl rfl rfl .free rfl ?_; refine A2 .free rfl ?_; intro b8; refine Bt rfl rfl rfl rfl .free ?_; refine Aa (Se rfl (Oh rfl ?_)); refine Bi rfl .free rfl ?_; refine Om rfl ?_; refine Az rfl .free rfl ?_
 first | refine A8 rfl rfl _ rfl .free rfl ?_ | refine A9 rfl rfl _ rfl .free rfl ?_
 refine Bt rfl rfl rfl rfl .free ?_; refine Aa (Se rfl ?_); refine Az rfl .free rfl ?_; refine Om rfl ?_; refine Bt rfl rfl rfl rfl .free ?_; refine Oa rfl (Aa ?_); refine Bd (fun w h => h.f1) (Br ?_); intro hz
 have hf := hf.mono hz
 refine Ad (.c rfl (.tmp rfl .nil)) ?_; refine ⟨_, L, hle.trans hz, Ax, .node [] [.node Dh [], .node z [], t1, b.tree], [.string (str []), .slice (some ⟨bc, 0, none⟩) (Ex.lt z a b).tree.parts.length cc], ?_, .mk' rfl (.cons (hf.as 0 (.node Dh []) (by omega) rfl) (.cons (hf.as 1 (.node z []) (by omega) rfl) (.cons (hr.mono hz) (.cons (hf.as 3 (b.tree) (by omega) rfl) (.nil))))) (fun y hy => by cases hy; exact Bg (xs := [_, _, _, _, _, _, _, _])) (by simp) hcc (by simp [Ap]) hp, ?_, rfl⟩
 ·rw [Gw hst]; rfl
 ·intro e' he'; rw [hst] at he'; obtain ⟨q, hq, rfl⟩ := Option.map_eq_some_iff.1 he'; rw [hte q hq]; rfl
set_option maxHeartbeats 1000000 in
theorem Z5 {N : Nat} (ihn : Qy N) {g z : Aq} {s t : Ty} {b : Ex} {I : Heap} (ht : Tab I) {cs : List Value} (hlt : SizeOf.sizeOf (Ex.fn g z s t b) < N + 1) (h : Rep I (Ex.fn g z s t b).tree cs) (hok : (Ex.fn g z s t b).ok = true) (L : Bf) :
  Fun Tryz.prog 44 [.agg cs.toArray] I L (SP (Ex.fn g z s t b).step L) := by
 obtain ⟨oa, c, oaf, cf, rfl, hf, hcl, hcs⟩ := h.cells
 have hpos : 0 < (Ex.fn g z s t b).tree.parts.length := by show 0 < 6; decide
 obtain ⟨xa, rfl⟩ : ∃ xa, oa = some xa := ⟨_, E9 hf.nil hpos⟩
 have hlen : (Ex.fn g z s t b).tree.parts.length = 6 := rfl
 have hp := hf.len
 have hev : Tr (Ex.fn g z s t b).tree = [] := rfl
 simp only [Ex.fn.sizeOf_spec] at hlt
 have hok0 := hok
 simp only [Ex.ok, Bool.and_eq_true, decide_eq_true_eq] at hok
 obtain ⟨_, hrl⟩ : ∃ _ : True, RepL I (Ex.fn g z s t b).tree.parts _ := ⟨trivial, hcl⟩
 simp only [show (Ex.fn g z s t b).tree.parts = [.node Dg [], .node g [], .node z [], s.tree, t.tree, b.tree] from rfl, Es, List.cons_append, List.nil_append] at hrl
 refine Ai (by simp) ?_; refine Se rfl ?_; refine Ct rfl rfl .free rfl ?_; intro b1; refine A2 .free rfl ?_; intro b2; refine Oa rfl (Aa (Ac (Se rfl ?_))); refine Az rfl .free rfl ?_; refine Ca rfl (C6 hf.rep _) ?_; rintro _ J0 _ e0 ⟨ok, ck, rfl, hk, rfl⟩
 have hf := hf.mono e0
 have ht := ht.mono e0
 have hle := e0
 rw [hev] at hk; rw [hev]; refine On rfl (Om rfl (Aa (Al ?_))); refine Eh ?_; refine Se rfl (Oc rfl rfl rfl (Aa (Ac ?_))); refine Dj rfl (by first | rfl | decide | (simp; done) | omega) ?_; refine Bx rfl ?_; refine Ac (Se rfl ?_); refine Az rfl .free rfl ?_; refine Ca rfl (A7 hf.rep _) ?_; rintro _ _ _ _ ⟨rfl, rfl, rfl⟩; rw [show (Ex.fn g z s t b).tree.head = [102, 117, 110] from rfl]
 have hturn : (Ex.fn g z s t b).step = (Ex.fn g z s t b).turn := rfl
 refine Aa (Al (Ac (Se rfl (Od rfl rfl rfl (Oa rfl (Aa ?_))))))
 first | refine Sf rfl (by decide) ?_ | refine Aw (by simp [look, Bc, *]) ?_
 refine Se rfl (Od rfl rfl rfl (Oa rfl (Aa ?_)))
 first | refine Sf rfl (by decide) ?_ | refine Aw (by simp [look, Bc, *]) ?_
 refine Ag rfl (Od rfl rfl rfl (Oa rfl (Aa ?_)))
 first | refine Sf rfl (by decide) ?_ | refine Aw (by simp [look, Bc, *]) ?_
 refine Se rfl (Od rfl rfl rfl (Oa rfl (Aa ?_)))
 first | refine Sf rfl (by decide) ?_ | refine Aw (by simp [look, Bc, *]) ?_
 refine Se rfl (Od rfl rfl rfl (Oa rfl (Aa ?_)))
 first | refine Sf rfl (by decide) ?_ | refine Aw (by simp [look, Bc, *]) ?_
 refine Se rfl (Od rfl rfl rfl (Oa rfl (Aa ?_)))
 first | refine Sf rfl (by decide) ?_ | refine Aw (by simp [look, Bc, *]) ?_
 refine Ac (Se rfl (Od rfl rfl rfl (Oa rfl (Aa ?_))))
 first | refine Sf rfl (by decide) ?_ | refine Aw (by simp [look, Bc, *]) ?_
 refine Ag rfl (Od rfl rfl rfl (Oa rfl (Aa ?_)))
 first | refine Sf rfl (by decide) ?_ | refine Aw (by simp [look, Bc, *]) ?_
 refine Ae (Ak (Ac ?_))
 have hno : (Ex.fn g z s t b).turn = none := by
  first
   | rfl
   | (cases a <;> first | rfl | (cases b <;> rfl))
 refine Ag rfl ?_; refine Bu rfl rfl rfl .free rfl ?_; refine Bt rfl rfl rfl rfl .free ?_; refine Oa rfl (Aa ?_); refine Ad (.c rfl (.tmp rfl .nil)) ?_
 exact ⟨_, L, hle, Ax, SP.none' (by rw [hturn, hno])⟩
set_option maxHeartbeats 1000000 in
theorem Z7 {N : Nat} (ihn : Qy N) {o : U2} {a : Ex} {I : Heap} (ht : Tab I) {cs : List Value} (hlt : SizeOf.sizeOf (Ex.un o a) < N + 1) (h : Rep I (Ex.un o a).tree cs) (hok : (Ex.un o a).ok = true) (L : Bf) :
  Fun Tryz.prog 44 [.agg cs.toArray] I L (SP (Ex.un o a).step L) := by
 obtain ⟨oa, c, oaf, cf, rfl, hf, hcl, hcs⟩ := h.cells
 have hpos : 0 < (Ex.un o a).tree.parts.length := by show 0 < 2; decide
 obtain ⟨xa, rfl⟩ : ∃ xa, oa = some xa := ⟨_, E9 hf.nil hpos⟩
 have hlen : (Ex.un o a).tree.parts.length = 2 := rfl
 have hp := hf.len
 have hev : Tr (Ex.un o a).tree = [1] := by cases o <;> rfl
 simp only [Ex.un.sizeOf_spec] at hlt
 have hok0 := hok
 simp only [Ex.ok, Bool.and_eq_true, decide_eq_true_eq] at hok
 obtain ⟨_, hrl⟩ : ∃ _ : True, RepL I (Ex.un o a).tree.parts _ := ⟨trivial, hcl⟩
 simp only [show (Ex.un o a).tree.parts = [.node o.txt [], a.tree] from rfl, Es, List.cons_append, List.nil_append] at hrl
 refine Ai (by simp) ?_; refine Se rfl ?_; refine Ct rfl rfl .free rfl ?_; intro b1; refine A2 .free rfl ?_; intro b2; refine Oa rfl (Aa (Ac (Se rfl ?_))); refine Az rfl .free rfl ?_; refine Ca rfl (C6 hf.rep _) ?_; rintro _ J0 _ e0 ⟨ok, ck, rfl, hk, rfl⟩
 have hf := hf.mono e0
 have ht := ht.mono e0
 have hle := e0
 rw [hev] at hk; rw [hev]; refine On rfl (Om rfl (Aa (Al ?_))); refine Eh ?_; refine Se rfl (Oc rfl rfl rfl (Aa (Ac ?_))); refine Cj rfl (by first | rfl | decide | (simp; done) | omega) ?_; refine Ae (Ac (Al (Se rfl ?_)))
 first | refine A8 rfl rfl _ rfl .free rfl ?_ | refine A9 rfl rfl _ rfl .free rfl ?_
 refine Dv rfl .free rfl ?_; refine Oa rfl (Aa (Ac (Se rfl (Oh rfl ?_)))); refine Bi rfl .free rfl ?_; refine Om rfl ?_
 first | refine A8 rfl rfl _ rfl .free rfl ?_ | refine A9 rfl rfl _ rfl .free rfl ?_
 refine Dn rfl .free rfl ?_; refine Ca rfl (Fr _ (Nat.lt_succ_self _) (hf.as 1 a.tree (by omega) rfl) hok _) ?_; rintro _ _ _ _ ⟨rfl, rfl, rfl⟩; refine Aa ?_; refine Ar rfl ?_ ?_
 ·intro c1
  try simp only [nb] at c1
  have hva : a.value = true := c1
  refine Bx rfl ?_; refine Ag rfl ?_; refine Or rfl rfl rfl ?_; refine Om rfl (Aa ?_); refine Ce ?_; refine Se rfl (Oc rfl rfl rfl (Aa (Ac ?_))); refine Dj rfl (by first | rfl | decide | (simp; done) | omega) ?_; refine Bx rfl ?_; refine Ac (Ac ?_)
  rcases o with _ | _
  ·skip
   refine Ag rfl ?_; refine Az rfl .free rfl ?_; refine Ca rfl (A7 hf.rep _) ?_; rintro _ _ _ _ ⟨rfl, rfl, rfl⟩; rw [show (Ex.un .fst a).tree.head = [102, 115, 116] from rfl]
   have hturn : (Ex.un .fst a).step = (Ex.un .fst a).turn := by simp only [Ex.step, hva, Bool.true_eq_false, if_false]
   refine Aa (Al (Ac (Se rfl (Od rfl rfl rfl (Oa rfl (Aa ?_))))))
   first | refine Sf rfl (by decide) ?_ | refine Aw (by simp [look, Bc, *]) ?_
   refine Se rfl (Od rfl rfl rfl (Oa rfl (Aa ?_)))
   first | refine Sf rfl (by decide) ?_ | refine Aw (by simp [look, Bc, *]) ?_
   refine Ag rfl (Od rfl rfl rfl (Oa rfl (Aa ?_)))
   first | refine Sf rfl (by decide) ?_ | refine Aw (by simp [look, Bc, *]) ?_
   refine Se rfl (Od rfl rfl rfl (Oa rfl (Aa ?_)))
   first | refine Sf rfl (by decide) ?_ | refine Aw (by simp [look, Bc, *]) ?_
   refine Se rfl (Od rfl rfl rfl (Oa rfl (Aa ?_)))
   first | refine Sf rfl (by decide) ?_ | refine Aw (by simp [look, Bc, *]) ?_
   refine Se rfl (Od rfl rfl rfl (Oa rfl (Aa ?_)))
   first | refine Sf rfl (by decide) ?_ | refine Aw (by simp [look, Bc, *]) ?_
   refine Ac (Se rfl (Od rfl rfl rfl (Oa rfl (Aa ?_))))
   first | refine St rfl (rfl) ?_ | refine Bn (by simp [look, Bc, *]) ?_
   refine Ae ?_
   first | refine St rfl (rfl) ?_ | refine Bn (by simp [look, Bc, *]) ?_
   refine Se rfl (Oh rfl ?_); refine Bi rfl .free rfl ?_
   first | refine A8 rfl rfl 1 rfl .free rfl ?_ | refine A9 rfl rfl 1 rfl .free rfl ?_
   refine Dn rfl .free rfl ?_; refine A2 .free rfl ?_; intro b13; refine Bt rfl rfl rfl rfl .free ?_; refine Aa (Se rfl ?_); refine Az rfl .free rfl ?_; refine Ca rfl (A7 (hf.as 1 a.tree (by omega) rfl) _) ?_; rintro _ _ _ _ ⟨rfl, rfl, rfl⟩; refine Od rfl rfl rfl (Aa ?_); refine Ar rfl ?_ ?_
   ·intro c14
    try simp only [nb] at c14
    obtain ⟨p, q, rfl⟩ := Ex.of_pair (show a.tree.head = Cq from c14)
    have hra := hf.as 1 (Ex.bin .pair p q).tree (by omega) rfl
    obtain ⟨oa2, c2, oaf2, cf2, he2, hf2⟩ := hra.at'
    simp only [List.cons.injEq, Value.slice.injEq, and_true, true_and] at he2
    obtain ⟨rfl, rfl⟩ := he2; obtain ⟨xa2, hxa2⟩ : ∃ x, oaf 1 = some x := ⟨_, E9 hf2.nil (show 0 < 3 by decide)⟩
    have hl2 : (Ex.bin .pair p q).tree.parts.length = 3 := rfl
    refine Ac (Se rfl ?_); refine Az rfl .free rfl ?_; refine Ca rfl (A7 hf.rep _) ?_; rintro _ _ _ _ ⟨rfl, rfl, rfl⟩; rw [show (Ex.un .fst (.bin .pair p q)).tree.head = [102, 115, 116] from rfl]; refine Od rfl rfl rfl (Aa ?_)
    first | refine St rfl (rfl) ?_ | refine Bn (by simp [look, Bc, *]) ?_
    refine Se rfl (Oh rfl ?_); refine Bi rfl .free rfl ?_
    first | refine A8 rfl rfl 1 rfl .free rfl ?_ | refine A9 rfl rfl 1 rfl .free rfl ?_
    refine Dn rfl .free rfl ?_; refine Bt rfl rfl rfl rfl .free ?_; refine Oa rfl (Aa ?_); refine Ad (.c rfl (.tmp rfl .nil)) ?_; refine ⟨_, L, hle, Ax, p.tree, _, by rw [hturn]; rfl, hf2.as 1 p.tree (by omega) rfl, fun e' he' => ?_, rfl⟩; rw [hturn] at he'; obtain rfl := Option.some.inj he'
    rfl
   intro c14
   try simp only [nb] at c14
   have hno : (Ex.un .fst a).turn = none := by
    cases hty : (Ex.un .fst a).turn with
    | none => rfl
    | some e' =>
     obtain ⟨p, q, rfl, rfl⟩ := M2 hty
     exact absurd rfl c14
   refine Ae (Ak (Se rfl ?_)); refine Bu rfl rfl rfl .free rfl ?_; refine Bt rfl rfl rfl rfl .free ?_; refine Oa rfl (Aa ?_); refine Ad (.c rfl (.tmp rfl .nil)) ?_
   exact ⟨_, L, hle, Ax, SP.none' (by rw [hturn, hno])⟩
  ·skip
   refine Ag rfl ?_; refine Az rfl .free rfl ?_; refine Ca rfl (A7 hf.rep _) ?_; rintro _ _ _ _ ⟨rfl, rfl, rfl⟩; rw [show (Ex.un .snd a).tree.head = [115, 110, 100] from rfl]
   have hturn : (Ex.un .snd a).step = (Ex.un .snd a).turn := by simp only [Ex.step, hva, Bool.true_eq_false, if_false]
   refine Aa (Al (Ac (Se rfl (Od rfl rfl rfl (Oa rfl (Aa ?_))))))
   first | refine Sf rfl (by decide) ?_ | refine Aw (by simp [look, Bc, *]) ?_
   refine Se rfl (Od rfl rfl rfl (Oa rfl (Aa ?_)))
   first | refine Sf rfl (by decide) ?_ | refine Aw (by simp [look, Bc, *]) ?_
   refine Ag rfl (Od rfl rfl rfl (Oa rfl (Aa ?_)))
   first | refine Sf rfl (by decide) ?_ | refine Aw (by simp [look, Bc, *]) ?_
   refine Se rfl (Od rfl rfl rfl (Oa rfl (Aa ?_)))
   first | refine Sf rfl (by decide) ?_ | refine Aw (by simp [look, Bc, *]) ?_
   refine Se rfl (Od rfl rfl rfl (Oa rfl (Aa ?_)))
   first | refine Sf rfl (by decide) ?_ | refine Aw (by simp [look, Bc, *]) ?_
   refine Se rfl (Od rfl rfl rfl (Oa rfl (Aa ?_)))
   first | refine Sf rfl (by decide) ?_ | refine Aw (by simp [look, Bc, *]) ?_
   refine Ac (Se rfl (Od rfl rfl rfl (Oa rfl (Aa ?_))))
   first | refine Sf rfl (by decide) ?_ | refine Aw (by simp [look, Bc, *]) ?_
   refine Ag rfl (Od rfl rfl rfl (Oa rfl (Aa ?_)))
   first | refine St rfl (rfl) ?_ | refine Bn (by simp [look, Bc, *]) ?_
   refine Se rfl (Oh rfl ?_); refine Bi rfl .free rfl ?_
   first | refine A8 rfl rfl 1 rfl .free rfl ?_ | refine A9 rfl rfl 1 rfl .free rfl ?_
   refine Dn rfl .free rfl ?_; refine A2 .free rfl ?_; intro b13; refine Bt rfl rfl rfl rfl .free ?_; refine Aa (Se rfl ?_); refine Az rfl .free rfl ?_; refine Ca rfl (A7 (hf.as 1 a.tree (by omega) rfl) _) ?_; rintro _ _ _ _ ⟨rfl, rfl, rfl⟩; refine Od rfl rfl rfl (Aa ?_); refine Ar rfl ?_ ?_
   ·intro c14
    try simp only [nb] at c14
    obtain ⟨p, q, rfl⟩ := Ex.of_pair (show a.tree.head = Cq from c14)
    have hra := hf.as 1 (Ex.bin .pair p q).tree (by omega) rfl
    obtain ⟨oa2, c2, oaf2, cf2, he2, hf2⟩ := hra.at'
    simp only [List.cons.injEq, Value.slice.injEq, and_true, true_and] at he2
    obtain ⟨rfl, rfl⟩ := he2; obtain ⟨xa2, hxa2⟩ : ∃ x, oaf 1 = some x := ⟨_, E9 hf2.nil (show 0 < 3 by decide)⟩
    have hl2 : (Ex.bin .pair p q).tree.parts.length = 3 := rfl
    refine Ac (Se rfl ?_); refine Az rfl .free rfl ?_; refine Ca rfl (A7 hf.rep _) ?_; rintro _ _ _ _ ⟨rfl, rfl, rfl⟩; rw [show (Ex.un .snd (.bin .pair p q)).tree.head = [115, 110, 100] from rfl]; refine Od rfl rfl rfl (Aa ?_)
    first | refine Sf rfl (by decide) ?_ | refine Aw (by simp [look, Bc, *]) ?_
    refine Ae (Se rfl (Oh rfl ?_)); refine Bi rfl .free rfl ?_
    first | refine A8 rfl rfl 2 rfl .free rfl ?_ | refine A9 rfl rfl 2 rfl .free rfl ?_
    refine Dn rfl .free rfl ?_; refine Bt rfl rfl rfl rfl .free ?_; refine Oa rfl (Aa ?_); refine Ad (.c rfl (.tmp rfl .nil)) ?_; refine ⟨_, L, hle, Ax, q.tree, _, by rw [hturn]; rfl, hf2.as 2 q.tree (by omega) rfl, fun e' he' => ?_, rfl⟩; rw [hturn] at he'; obtain rfl := Option.some.inj he'
    rfl
   intro c14
   try simp only [nb] at c14
   have hno : (Ex.un .snd a).turn = none := by
    cases hty : (Ex.un .snd a).turn with
    | none => rfl
    | some e' =>
     obtain ⟨p, q, rfl, rfl⟩ := M2 hty
     exact absurd rfl c14
   refine Ae (Ak (Se rfl ?_)); refine Bu rfl rfl rfl .free rfl ?_; refine Bt rfl rfl rfl rfl .free ?_; refine Oa rfl (Aa ?_); refine Ad (.c rfl (.tmp rfl .nil)) ?_
   exact ⟨_, L, hle, Ax, SP.none' (by rw [hturn, hno])⟩
 intro c1
 try simp only [nb] at c1
 have hva : a.value = false := by simpa using c1
 have hst : (Ex.un o a).step = a.step.map fun q => .un o q := by simp only [Ex.step, hva, if_true]
 refine Ae (Se rfl (Oh rfl ?_)); refine Bi rfl .free rfl ?_; refine Om rfl ?_
 first | refine A8 rfl rfl _ rfl .free rfl ?_ | refine A9 rfl rfl _ rfl .free rfl ?_
 refine Dn rfl .free rfl ?_; refine Ca rfl (ihn ht (by omega) (hf.as 1 a.tree (by omega) rfl) hok _) ?_; rintro _ J1 _ e1 ⟨t1, cs1, rfl, hr, hte, rfl⟩; obtain ⟨o1, k1, _, rfl, -⟩ := hr.open
 have hf := hf.mono e1
 have hle := hle.trans e1
 have hk := hk.mono e1
 refine Om rfl (Oe rfl rfl (Oe rfl rfl ?_)); refine A2 .free rfl ?_; intro b6; refine Bt rfl rfl rfl rfl .free ?_; refine Oa rfl (Aa (Se rfl (Oh rfl ?_))); refine Bi rfl .free rfl ?_; refine Ca rfl (Fs ((hcs _ rfl).mono hle) (by have := hcl.length; omega) hcl.plain hpos hp _) ?_; rintro _ _ _ _ ⟨bc, sp, cc, rfl, hcc, rfl, rfl⟩
 simp only [show (Ex.un o a).tree.parts = [.node o.txt [], a.tree] from rfl, Es, List.cons_append, List.nil_append]
 refine Bu rfl rfl rfl .free rfl ?_; refine A2 .free rfl ?_; intro b8; refine Bt rfl rfl rfl rfl .free ?_; refine Aa (Se rfl (Oh rfl ?_)); refine Bi rfl .free rfl ?_; refine Om rfl ?_; refine Az rfl .free rfl ?_
 first | refine A8 rfl rfl _ rfl .free rfl ?_ | refine A9 rfl rfl _ rfl .free rfl ?_
 refine Bt rfl rfl rfl rfl .free ?_; refine Aa (Se rfl ?_); refine Az rfl .free rfl ?_; refine Om rfl ?_; refine Bt rfl rfl rfl rfl .free ?_; refine Oa rfl (Aa ?_); refine Bd (fun w h => h.f1) (Br ?_); intro hz
 have hf := hf.mono hz
 refine Ad (.c rfl (.tmp rfl .nil)) ?_; refine ⟨_, L, hle.trans hz, Ax, .node [] [.node o.txt [], t1], [.string (str []), .slice (some ⟨bc, 0, none⟩) (Ex.un o a).tree.parts.length cc], ?_, .mk' rfl (.cons (hf.as 0 (.node o.txt []) (by omega) rfl) (.cons (hr.mono hz) (.nil))) (fun y hy => by cases hy; exact Bg (xs := [_, _, _, _])) (by simp) hcc (by simp [Ap]) hp, ?_, rfl⟩
 ·rw [Gw hst]; rfl
 ·intro e' he'; rw [hst] at he'; obtain ⟨q, hq, rfl⟩ := Option.map_eq_some_iff.1 he'; rw [hte q hq]; rfl
theorem Pr {e : Ex} (hb : e.bare = true) {I : Heap} {cs : List Value} (h : Rep I e.tree cs) (L : Bf) : Fun Tryz.prog 44 [.agg cs.toArray] I L (SP e.step L) := by
 obtain ⟨oa, c, oaf, cf, rfl, hf⟩ := h.at'
 have hno : e.step = none := by cases e <;> first | rfl | cases hb
 have hev : Tr e.tree = [] := by cases e <;> first | rfl | cases hb
 have hhd : e.tree.head = [] := by cases e <;> first | rfl | cases hb
 refine Ai (by simp) ?_; refine Se rfl ?_; refine Ct rfl rfl .free rfl ?_; intro b1; refine A2 .free rfl ?_; intro b2; refine Oa rfl (Aa (Ac (Se rfl ?_))); refine Az rfl .free rfl ?_; refine Ca rfl (C6 hf.rep _) ?_; rintro _ J0 _ e0 ⟨ok, ck, rfl, hk, rfl⟩
 have hf := hf.mono e0
 have hle := e0
 rw [hev] at hk; rw [hev]; refine On rfl (Om rfl (Aa (Al ?_))); refine Eh ?_; refine Se rfl (Oc rfl rfl rfl (Aa (Ac ?_))); refine Dj rfl (by first | rfl | decide | (simp; done) | omega) ?_; refine Bx rfl ?_; refine Ac (Se rfl ?_); refine Az rfl .free rfl ?_; refine Ca rfl (A7 hf.rep _) ?_; rintro _ _ _ _ ⟨rfl, rfl, rfl⟩; rw [hhd]; refine Aa (Al (Ac (Se rfl (Od rfl rfl rfl (Oa rfl (Aa ?_))))))
 first | refine Sf rfl (by decide) ?_ | refine Aw (by simp [look, Bc, *]) ?_
 refine Se rfl (Od rfl rfl rfl (Oa rfl (Aa ?_)))
 first | refine Sf rfl (by decide) ?_ | refine Aw (by simp [look, Bc, *]) ?_
 refine Ag rfl (Od rfl rfl rfl (Oa rfl (Aa ?_)))
 first | refine Sf rfl (by decide) ?_ | refine Aw (by simp [look, Bc, *]) ?_
 refine Se rfl (Od rfl rfl rfl (Oa rfl (Aa ?_)))
 first | refine Sf rfl (by decide) ?_ | refine Aw (by simp [look, Bc, *]) ?_
 refine Se rfl (Od rfl rfl rfl (Oa rfl (Aa ?_)))
 first | refine Sf rfl (by decide) ?_ | refine Aw (by simp [look, Bc, *]) ?_
 refine Se rfl (Od rfl rfl rfl (Oa rfl (Aa ?_)))
 first | refine Sf rfl (by decide) ?_ | refine Aw (by simp [look, Bc, *]) ?_
 refine Ac (Se rfl (Od rfl rfl rfl (Oa rfl (Aa ?_))))
 first | refine Sf rfl (by decide) ?_ | refine Aw (by simp [look, Bc, *]) ?_
 refine Ag rfl (Od rfl rfl rfl (Oa rfl (Aa ?_)))
 first | refine Sf rfl (by decide) ?_ | refine Aw (by simp [look, Bc, *]) ?_
 refine Ae (Ak (Se rfl ?_)); refine Bu rfl rfl rfl .free rfl ?_; refine Bt rfl rfl rfl rfl .free ?_; refine Oa rfl (Aa ?_); refine Ad (.c rfl (.tmp rfl .nil)) ?_
 exact ⟨_, L, hle, Ax, SP.none' hno⟩
theorem Yl : ∀ N : Nat, Qy N := by
 intro N
 induction N with
 | zero => intro I ht e cs h; omega
 | succ N ihn =>
  intro I ht e cs hlt h hok L
  cases e with
  | num s => exact Pr rfl h L
  | name s => exact Pr rfl h L
  | bin o p q => exact Ym ihn ht hlt h hok L
  | ite p q r => exact Yn ihn ht hlt h hok L
  | lt z p q => exact Z6 ihn ht hlt h hok L
  | fn h1 z s u q => exact Z5 ihn ht hlt h hok L
  | un o p => exact Z7 ihn ht hlt h hok L
theorem Ui {I : Heap} (ht : Tab I) {e : Ex} {cs : List Value} (h : Rep I e.tree cs) (hok : e.ok = true) (L : Bf) : Fun Tryz.prog 44 [.agg cs.toArray] I L (SP e.step L) := Yl _ ht (Nat.lt_succ_self _) h hok L
def Aek (N : Nat) : Prop := ∀ {I : Heap} {e : Ex} {cs : List Value} (_ : SizeOf.sizeOf e < N) (_ : Rep I e.tree cs) (_ : e.ok = true) (L : Bf), Fun Tryz.prog 37 [.agg cs.toArray] I L (SP e.step L)
def nvT (s : Aq) : Int := bif Cc s then Cg s else 0
theorem SP.same {I : Heap} {o : Option Ex} {t : Tree} {ds : List Value} {L : Bf} (h : Rep I t ds) (ho : o = none) : SP o L (.tuple #[.agg (List.toArray ds), .bool false]) I L :=
 ⟨t, ds, by rw [ho]; rfl, h, fun e' h => (by rw [ho] at h; cases h), rfl⟩
theorem Adu {e e' : Ex} (h : e.step = some e') : e.go = if e'.fine = true then some e' else none := by
 unfold Ex.go
 rw [if_neg (by rw [Hw h]; simp), h]; rfl
theorem SP.go {I : Heap} {e e' : Ex} {ds : List Value} {L : Bf} (hs : e.step = some e') (h : Rep I e'.tree ds) : SP e.go L (.tuple #[.agg (List.toArray ds), .bool e'.fine]) I L := by
 rw [Adu hs]
 cases hf : e'.fine with
 | true => exact ⟨_, ds, rfl, h, fun e2 h2 => by obtain rfl := Option.some.inj h2; rfl, rfl⟩
 | false => exact SP.same h rfl
theorem Uf (s : Aq) (hs : s.length ≤ Ap) {I : Heap} (ht : Tab I) (L : Bf) : Fun Tryz.prog 15 [.string (str s)] I L (fun v I' L' => v = .bool (Lk s) ∧ L = L') := by
 refine Ai (by simp) ?_; refine Se rfl (Oa rfl (Aa (Se rfl (Om rfl ?_)))); refine Ca rfl (Mk s hs _ _) ?_; rintro _ J _ hleJ ⟨t, cs, ok, rfl, hrep, rfl, hpf⟩; obtain ⟨oc, cc, _, rfl, -⟩ := hrep.open; refine Om rfl (Oe rfl rfl (Oe rfl rfl ?_)); refine A2 .free rfl ?_; intro b3; refine Bt rfl rfl rfl rfl .free ?_; refine Oa rfl (Aa (Ac (Ac ?_)))
 rcases hc : Co s with _ | e
 ·skip
  rw [hc] at hpf; obtain rfl := hpf; refine Ag rfl (Om rfl ?_); refine Cw rfl .free rfl ?_; refine Om rfl ?_; refine Ih (t := 12) rfl (v' := .bool true) (by first | rfl | simp [*]) ?_; refine Cd rfl rfl rfl ?_; refine Cd rfl rfl rfl ?_; refine Ot rfl rfl (Aa ?_); refine Bn rfl ?_; refine Se rfl (Oa rfl (Aa (Ad (.tmp rfl .nil) ?_)))
  exact ⟨J, L, hleJ, Ax, by rw [Tj hc]; rfl, rfl⟩
 ·skip
  rw [hc] at hpf; obtain ⟨rfl, rfl⟩ := hpf; obtain ⟨hx, hok, hz, hl, hcl⟩ := Gf hc; refine Ag rfl (Om rfl ?_); refine Cw rfl .free rfl ?_; refine Om rfl ?_; refine Ih (t := 12) rfl (v' := .bool false) (by first | rfl | simp [*]) ?_; refine Az rfl (.met rfl rfl) rfl ?_; refine B9 rfl (.met rfl rfl) rfl (Fr _ (Nat.lt_succ_self _) hrep hok _) ?_; rintro _ _ _ _ ⟨rfl, rfl, rfl⟩; refine Of rfl rfl (Aa ?_); refine Ar rfl ?_ ?_
  ·intro c0
   try simp only [nb] at c0
   refine Se rfl (Oa rfl (Aa (Ad (.tmp rfl .nil) ?_)))
   exact ⟨J, L, hleJ, Ax, by rw [Ki hc, show e.value = true from c0]; rfl, rfl⟩
  intro c0
  try simp only [nb] at c0
  have hv : e.value = false := by simpa using c0
  refine Ae (Se rfl ?_); refine Az rfl .free rfl ?_; refine Ca rfl (Ui (ht.mono hleJ) hrep hok _) ?_; rintro _ J2 _ e2 ⟨t1, cs1, rfl, hr, hte, rfl⟩; obtain ⟨o1, k1, _, rfl, -⟩ := hr.open; refine Om rfl (Oe rfl rfl (Oe rfl rfl (Oa rfl (Aa (Se rfl (Om rfl ?_)))))); refine Cw rfl .free rfl ?_; refine Oa rfl (Aa (Ad (.tmp rfl .nil) ?_)); refine ⟨J2, L, hleJ.trans e2, Ax, ?_, rfl⟩; rw [Ki hc, hv]
  cases e.step <;> rfl
structure SM where
 e : Ex
 i : Nat
 J : Heap
 o : Option Addr
 k : Nat
def SMr (r : Ex × Nat) (L : Bf) : C1 := fun v I' L' => v = .tuple #[.string (str r.1.tree.text), .int .i64 (r.2 : Nat), .bool true] ∧ L = L'
def MN (o : Option (Aq × Nat)) (L : Bf) : C1 := fun v I' L' => v = .tuple #[.string (str ((o.map (·.1)).getD [])), .int .i64 (((o.map (·.2)).getD 0 : Nat)), .bool o.isSome] ∧ L = L'
structure SN where
 e : Ex
 i : Nat
 J : Heap
def Res.fin (r : Res) : Prop := r.v ≠ none ∨ r.stuck = true
def Aea (o : B5) (u w : KV) (q : Nat) : Res := match o, u with
 | .call, .clo f x s t c r => eval q c (.cons x w (.cons f (.clo f x s t c r) r))
 | o, u => .of (o.act u w) q
def Res.at (r : Res) (n m : Nat) : Res := ⟨r.v, m + r.left - n, r.stuck⟩
def Ex.kv (k : KE) : Ex → KV
 | .num s => .num s
 | .bin _ a b => .pair (a.kv k) (b.kv k)
 | .fn f x s t b => .clo f x s t b k
 | _ => .num []
def Ex.cost : Ex → Nat
 | .bin _ a b => 1 + a.cost + b.cost
 | _ => 1
def KV.show : KV → Aq
 | .num s => s
 | .pair a b => [40, 112, 97, 105, 114, 32] ++ a.show ++ [32] ++ b.show ++ [41]
 | .clo _ _ _ _ _ _ => [102, 117, 110]
def KV.wr (m : Nat) : KV → Aq → Aq
 | .num s, o => if m < o.length then o else o ++ s
 | .pair a b, o => if m < o.length then o else b.wr m (a.wr m (o ++ [40, 112, 97, 105, 114, 32]) ++ [32]) ++ [41]
 | .clo _ _ _ _ _ _, o => if m < o.length then o else o ++ [102, 117, 110]
mutual
def KV.high : KV → Nat
 | .num _ => 0
 | .pair a b => 1 + max a.high b.high
 | .clo _ _ _ _ _ r => r.high
def KE.high : KE → Nat
 | .nil => 0
 | .cons _ v up => max v.high up.high
end
mutual
def KV.tall : KV → Nat
 | .num _ => 0
 | .pair a b => max a.tall b.tall
 | .clo _ _ _ _ _ r => r.tall
def KE.tall : KE → Nat
 | .nil => 0
 | .cons _ v up => 1 + max v.tall up.tall
end
def KE.names : KE → List Aq
 | .nil => []
 | .cons n _ up => up.names ++ [n]
def Ads (e : Ex) (n : Nat) : Option (Aq × Nat) := match (eval n e .nil).v with
 | some w => if w.show.length ≤ 12000 then some (w.show, n - (eval n e .nil).left) else none
 | none => none
def Adt (s : Aq) (n : Int) : Option (Aq × Nat) := if 0 ≤ n ∧ n ≤ 2000 then (Co s).bind fun e => Ads e n.toNat else none
def Jz (s : Aq) (n : Int) : Bool := if 0 ≤ n ∧ n ≤ 2000 then (match Co s with | some e => (eval n.toNat e .nil).stuck | none => false) else false
def Aem (s : Aq) : Int := match Adt s 2000 with
 | some r => (r.2 : Nat)
 | none => -1
theorem Sb {s : Aq} {e : Ex} {n : Nat} (h : Co s = some e) (hn : n ≤ 2000) : Jz s (n : Nat) = (eval n e .nil).stuck := by
 unfold Jz; rw [if_pos (by omega), h]; rfl
theorem Mh {s : Aq} {n : Int} (h : Co s = none ∨ ¬ (0 ≤ n ∧ n ≤ 2000)) : Jz s n = false := by
 unfold Jz
 rcases h with h | h
 ·rw [h]; split <;> rfl
 ·rw [if_neg h]
theorem Qk {s : Aq} {e : Ex} (h : Co s = some e) (n : Nat) : (eval n e .nil).says e := by
 obtain ⟨hx, hok, hz, hl, hcl⟩ := Gf h
 have hc : e.occ [] = [] := by simpa [Ex.closed] using hcl
 have := Q3 n e .nil trivial hok (fun y hy => by rw [hc] at hy; cases hy)
 exact this
theorem Goes.ty {e d : Ex} (h : Goes e d) {t : Ty} (hok : e.ok = true) (hc : e.occ [] = []) (ht : e.ty [] [] = some t) : d.ty [] [] = some t ∧ d.ok = true ∧ d.occ [] = [] := by
 induction h with
 | refl => exact ⟨ht, hok, hc⟩
 | next hs _ ih => exact ih (Ex.step_ok hok hs) (Ex.step_closed hc hs) (Hv hok hc hs ht)
theorem Xc {s : Aq} {e : Ex} (h : Co s = some e) {t : Ty} (ht : e.ty [] [] = some t) (n : Nat) : (eval n e .nil).stuck = false := by
 obtain ⟨hx, hok, hz, hl, hcl⟩ := Gf h
 have hc : e.occ [] = [] := by simpa [Ex.closed] using hcl
 have hs := Qk h n
 cases hst : (eval n e .nil).stuck with
 | false => rfl
 | true =>
  unfold Res.says at hs
  split at hs
  ·rw [hs.2.2] at hst; cases hst
  ·obtain ⟨d, hg, hj⟩ := hs hst
   rcases Fn (hg.ty hok hc ht).1 with h1 | ⟨d', hd⟩
   ·rw [hj.1] at h1; cases h1
   ·rw [hj.2] at hd; cases hd
theorem Vy {s : Aq} (h : (Qh s).isSome = true) (hc : (Co s).isSome = true) : Lk s = false ∧ ∀ n, Jz s n = false := by
 obtain ⟨e, he⟩ := Option.isSome_iff_exists.1 hc; obtain ⟨t, ht⟩ := Option.isSome_iff_exists.1 h
 unfold Qh at ht
 rw [(Jg he).1] at ht
 have ht : e.ty [] [] = some t := ht
 refine ⟨?_, fun n => ?_⟩
 ·rw [Ki he]
  rcases Fn ht with h1 | ⟨d, hd⟩
  ·rw [h1]; rfl
  ·rw [hd]; simp
 ·unfold Jz
  split
  ·rw [he]; exact Xc he ht _
  ·rfl
theorem N2 (s : Aq) (hs : s.length ≤ Ap) (n : Int) {I : Heap} (ht : Tab I) (L : Bf) : Fun Tryz.prog 21 [.string (str s), .int .i64 n] I L (fun v I' L' => v = .bool (Jz s n) ∧ L = L') := by
 refine Ai (by simp) ?_; refine Se rfl (Oa rfl (Aa (Se rfl (Om rfl ?_)))); refine Ca rfl (Mk s hs _ _) ?_; rintro _ J _ hleJ ⟨t, cs, ok, rfl, hrep, rfl, hpf⟩; obtain ⟨oc, cc, _, rfl, -⟩ := hrep.open; refine Om rfl (Oe rfl rfl (Oe rfl rfl ?_)); refine A2 .free rfl ?_; intro b5; refine Bt rfl rfl rfl rfl .free ?_; refine Oa rfl (Aa (Ac (Ac ?_)))
 rcases hc : Co s with _ | e
 ·skip
  rw [hc] at hpf; obtain rfl := hpf; refine Ag rfl (Om rfl ?_); refine Cw rfl .free rfl ?_; refine Om rfl ?_; refine Ih (t := 15) rfl (v' := .bool true) (by first | rfl | simp [*]) ?_
  iterate 3 refine Cd rfl rfl rfl ?_
  refine Ot rfl rfl (Aa ?_); refine Bn rfl ?_; refine Se rfl (Oa rfl (Aa (Ad (.tmp rfl .nil) ?_)))
  exact ⟨J, L, hleJ, Ax, by rw [Mh (.inl hc)]; rfl, rfl⟩
 ·skip
  rw [hc] at hpf; obtain ⟨rfl, rfl⟩ := hpf; obtain ⟨hx, hok, hz, hl, hcl⟩ := Gf hc
  have hoe : e.occ [] = [] := by simpa [Ex.closed] using hcl
  refine Ag rfl (Om rfl ?_); refine Cw rfl .free rfl ?_; refine Om rfl ?_; refine Ih (t := 15) rfl (v' := .bool false) (by first | rfl | simp [*]) ?_; refine Ow rfl ?_; refine B9 rfl (.met rfl rfl) rfl (Pm 0 n 2000 _ _) ?_; rintro _ _ _ _ ⟨rfl, rfl, rfl⟩; refine Cw rfl (.met rfl rfl) rfl ?_; refine Of rfl rfl (Aa ?_); refine Ar rfl ?_ ?_
  ·intro c0
   try simp only [nb] at c0
   refine Se rfl (Oa rfl (Aa (Ad (.tmp rfl .nil) ?_)))
   exact ⟨J, L, hleJ, Ax, by rw [Mh (.inr (by simpa using c0))]; rfl, rfl⟩
  intro c0
  try simp only [nb] at c0
  obtain ⟨N, rfl⟩ : ∃ N : Nat, n = (N : Nat) := ⟨n.toNat, by omega⟩
  have hN : N ≤ 2000 := by omega
  have hme := Sb hc hN
  refine Ae (Se rfl (Om rfl ?_)); refine Bu rfl rfl rfl .free rfl ?_; refine Ct rfl rfl .free rfl ?_; intro b22; refine Oa rfl (Aa (Se rfl (Om rfl ?_))); refine Az rfl .free rfl ?_; refine Ca rfl (Mi (ht.mono hleJ) N (by omega) hrep hok .nil trivial (fun y hy => by rw [hoe] at hy; cases hy) b22 _) ?_; rintro _ J2 _ e2 ⟨p, rfl, hp, rfl⟩
  unfold Q5
  have hle2 := hleJ.trans e2
  refine Aa (Se rfl (Om rfl ?_)); refine Bp rfl .free rfl ?_
  first | refine Oh rfl ?_ | refine Oj rfl ?_
  refine Nn rfl .free rfl ?_; refine Oa rfl (Aa (Ad (.tmp rfl .nil) ?_))
  exact ⟨J2, L, hle2, Ax, by rw [hme]; rfl, rfl⟩
theorem Ac1 {s : Aq} {e : Ex} (h : En s = some e) : s.length ≤ 12000 := by
 obtain ⟨_, _, _, h4, h5⟩ := O3 h; rw [h5, Tree.text_len]; exact h4
theorem Acx {a b : Aq} {e f : Ex} (h : En a = some e) (h' : En b = some f) (has : e.as f) : Qh a = Qh b := by
 unfold Qh
 rw [h, h']
 exact has.ty (O3 h).2.1 (O3 h').2.1 rfl
theorem Vx {s : Aq} (h : (Qh s).isSome = true) : ∃ e, En s = some e ∧ Sp s = none ∧ (Co s).isSome = true ∧ (Ua [] [] s).isSome = true ∧ Tc s = some e.plain.tree.text ∧ (Qh e.plain.tree.text).isSome = true ∧ e.plain.tree.text.length ≤ 12000 := by
 obtain ⟨t, ht⟩ := Option.isSome_iff_exists.1 h
 unfold Qh at ht
 cases h1 : En s with
 | none => rw [h1] at ht; cases ht
 | some e =>
  rw [h1] at ht
  have ht' : e.ty [] [] = some t := ht
  unfold Ex.ty at ht'
  cases hc : e.chk [] [] with
  | error x => rw [hc] at ht'; cases ht'
  | ok t' =>
   have h2 := We h1
   have hcl : Co s = some e := by
    have : e.closed = true := by
     unfold Ex.closed
     rw [List.isEmpty_iff]; refine List.eq_nil_iff_forall_not_mem.2 fun x hx => ?_
     have := Ex.chk_occ hc x hx
     cases this
    unfold Co; rw [h1]; simp [this]
   refine ⟨e, rfl, Wk hcl hc, by rw [hcl]; rfl, ?_, Td h1, ?_, Ac1 h2⟩
   ·rw [Ub, Option.isSome_map]; exact h
   ·rw [Acx h2 h1 e.plain_as]; exact h
theorem Px {I : Heap} (ht : Tab I) {oa : Option Addr} {code : List UInt8} {c : Nat} (h : Bytes I oa code c) (L : Bf) : Fun Tryz.prog 5 [.slice oa code.length c] I L (YES L) := by
 have hlen := h.len
 refine Ai (by simp) ?_; refine Se rfl (Oa rfl (Aa (Ac (Se rfl (Om rfl (On rfl (Oc rfl rfl rfl (Aa ?_)))))))); refine Ar rfl ?_ ?_
 ·intro c0
  try simp only [nb] at c0
  refine Se rfl (Oa rfl (Aa (Ad (.tmp rfl .nil) ?_)))
  exact ⟨I, L, .refl _, fun _ h => h, rfl, rfl⟩
 intro c0
 try simp only [nb] at c0
 refine Ae (Se rfl (Om rfl ?_)); refine Ca rfl (Ox h _) ?_; rintro _ J1 _ e1 ⟨s, rfl, hsl, rfl⟩
 have hs : s.length ≤ Ap := by unfold Ap; omega
 refine Oa rfl (Aa (Se rfl (Om rfl ?_))); refine Ca rfl (Ue s hs _ _) ?_; rintro _ J2 _ e2 ⟨rfl, rfl⟩; refine Oa rfl (Aa (Se rfl (Om rfl ?_))); refine Ca rfl (Ur s (Nm hs) _ _) ?_; rintro _ J3 _ e3 ⟨rfl, rfl⟩
 have hle := (e1.trans e2).trans e3
 refine Oa rfl (Aa (Ac (Se rfl (Om rfl (Om rfl ?_))))); refine Aaz rfl rfl rfl .free rfl ?_; refine Om rfl ?_
 apply Gb 18 21 rfl
 ·intro g6_4 hk
  try simp only [nb] at g6_4
  refine Ow rfl ?_; refine Cw rfl (.met rfl rfl) rfl ?_; refine Of rfl rfl ?_
  exact Ay 2 rfl rfl hk
 ·intro _ hk; refine Ba 2 rfl ?_; refine Ot rfl rfl ?_
  exact Ay 2 rfl rfl hk
 refine Aa ?_; refine Ar rfl ?_ ?_
 ·intro c1
  try simp only [nb] at c1
  refine Se rfl (Om rfl (Om rfl ?_)); refine Aaz rfl rfl rfl .free rfl ?_; refine Oa rfl (Aa (Ad (.tmp rfl .nil) ?_)); refine ⟨J3, L, hle, Ax, ?_, rfl⟩
  simp [Cv]
 intro c1
 try simp only [nb] at c1
 have hty : (Qh s).isSome = true := by simpa using c1
 clear c1
 obtain ⟨e, he, hfa, hcl, -⟩ := Vx hty; obtain ⟨hsk, hek⟩ := Vy hty hcl; refine Ae (Se rfl (Om rfl ?_)); refine Ca rfl (Uf s hs (ht.mono hle) _) ?_; rintro _ J4 _ e4 ⟨rfl, rfl⟩
 have hle := hle.trans e4
 refine Cw rfl .free rfl ?_; refine Om rfl ?_
 apply D3 28 32 rfl
 ·intro g8_4 hk
  try simp only [nb] at g8_4
  refine Ow rfl ?_; refine B9 rfl (.met rfl rfl) rfl (N2 s hs 300 (ht.mono hle) _) ?_; rintro _ J5 _ e5 ⟨rfl, rfl⟩; refine Dw (fun w h => Mem.le e5 h) ?_; refine Cw rfl (.met rfl rfl) rfl ?_; refine Ot rfl rfl ?_
  exact Ay 3 rfl rfl hk
 ·intro _ hk; refine Ba 3 rfl ?_; refine Of rfl rfl ?_
  exact Ay 3 rfl rfl hk
 refine Om rfl ?_
 apply D3 33 40 rfl
 ·intro g8_9 hk
  try simp only [nb] at g8_9
  refine Ow rfl (Ow rfl ?_); refine Cu rfl (.met rfl rfl) rfl ?_; refine Aa5 (b := 50) rfl rfl (by omega) (.met rfl rfl) rfl ?_; refine B9 rfl (.met rfl rfl) rfl (N2 s hs _ (ht.mono hle) _) ?_; rintro _ J6 _ e6 ⟨rfl, rfl⟩; refine Dw (fun w h => Mem.le e6 h) ?_; refine Cw rfl (.met rfl rfl) rfl ?_; refine Ot rfl rfl ?_
  exact Ay 6 rfl rfl hk
 ·intro _ hk; refine Ba 6 rfl ?_; refine Of rfl rfl ?_
  exact Ay 6 rfl rfl hk
 refine Oa rfl (Aa (Ad (.tmp rfl .nil) ?_)); refine ⟨J4, L, hle, Ax, ?_, rfl⟩
 simp [Cv, hsk, hek]
def Vt (P : Program) (s : String) : Bool :=
 match P.globalNamed s with
 | some g => match (P.globals[g]?).map (·.type) with
  | some t => match P.underlying t with
   | some (.array n e) => (match P.underlying e with | some (.int .u64) => true | _ => false) && (P.cellsOf e == 1) && (P.cellsOf t == n)
   | _ => false
  | none => false
 | none => false
theorem Adf {laid : List (String × DataW Unit)} {W : World} (h : laidMetH Tryz.prog laid W)
  (hk : (laid.filter fun x => x.1 == "internal/strconv.uint64pow10") = [("internal/strconv.uint64pow10", Lib.tabData .u64 Lib.pow10Tab)]) (ht : Vt Tryz.prog "internal/strconv.uint64pow10" = true) : Tab (O5 W) := by
 have h1 := h.filter (fun x => x.1 == "internal/strconv.uint64pow10")
 rw [hk] at h1
 have h1 : laidMet Tryz.prog [("internal/strconv.uint64pow10", Lib.tabData .u64 Lib.pow10Tab)] W := (laidMetH_iff.1 h1).1
 have h2 : Lib.TabIs Tryz.prog W "internal/strconv.uint64pow10" .u64 Lib.pow10Tab := by
  unfold Vt at ht
  split at ht
  ·rename_i g hg
   split at ht
   ·rename_i t hty
    split at ht
    ·rename_i n e hu
     simp only [Bool.and_eq_true, beq_iff_eq] at ht
     obtain ⟨⟨h3, h4⟩, h5⟩ := ht
     split at h3
     ·rename_i he
      exact Lib.tabIs_of_head hg hty hu he h4 h5 h1
     ·cases h3
    ·cases ht
   ·cases ht
  ·cases ht
 intro L w hm
 unfold Lib.TabIs World.var? at h2 ⊢
 cases hg : Tryz.prog.globalNamed "internal/strconv.uint64pow10" with
 | none => rw [hg] at h2; cases h2
 | some g =>
  rw [hg] at h2
  simp only [Option.bind_some] at h2 ⊢
  cases ho : W.heap[g]? with
  | none => rw [ho] at h2; cases h2
  | some o => rw [ho] at h2; rw [hm.1.1 g o ho]; exact h2
end Go.Proofs.YtfddjcmeejjhiaaGreatDoor
