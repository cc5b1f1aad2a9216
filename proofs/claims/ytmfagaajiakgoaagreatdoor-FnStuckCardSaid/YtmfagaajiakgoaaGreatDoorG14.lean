/- A step, by the program. No conditions. -/
import Derived.Test.YtmfagaajiakgoaaGreatDoorG13

namespace Go.Proofs.YtmfagaajiakgoaaGreatDoor
set_option maxRecDepth 100000
set_option linter.unusedVariables false
set_option linter.unusedSimpArgs false

def SP (o : Option Ex) (L : Bl) : C1 := fun v I' L' => ∃ (t : Tree) (ds : List Value), v = .tuple #[.agg (List.toArray ds), .bool o.isSome] ∧ Rep I' t ds ∧ (∀ e', o = some e' → t = e'.tree) ∧ L = L'
def Q5 (N : Nat) : Prop := ∀ {I : Heap} (_ : Tab I) {e : Ex} {cs : List Value} (_ : SizeOf.sizeOf e < N) (_ : Rep I e.tree cs) (_ : e.ok = true) (L : Bl), Fun Tryz.prog 66 [.agg cs.toArray] I L (SP e.step L)
theorem Ex.of_pair {e : Ex} (h : e.tree.head = Df) : ∃ p q, e = .bin .pair p q := by
 cases e with
 | num s => cases h
 | name s => cases h
 | bin o p q => obtain rfl : o = .pair := B5.txt_inj (o' := .pair) h; exact ⟨p, q, rfl⟩
 | ite a b c => exact absurd h (by decide : ¬ Fs = Df)
 | lt x a b => exact absurd h (by decide : ¬ C4 = Df)
 | fn f x s t b => exact absurd h (by decide : ¬ Dh = Df)
 | un o a => exact absurd (show o.txt = Df from h) (by cases o <;> decide)
theorem Iy {e : Ex} (h : e.tree.parts.isEmpty = true) (hv : e.value = true) : ∃ s, e = .num s := by
 cases e with
 | num s => exact ⟨s, rfl⟩
 | name s => cases hv
 | _ => cases h
theorem Kb (o : B5) (p q : Au) : (K2 o p q).length ≤ As := by have := Iv (Qh o p q).1; unfold As; omega
theorem SP.none' {I : Heap} {o : Option Ex} {L : Bl} (ho : o = none) : SP o L (.tuple #[.agg (List.toArray [.string (str []), .slice none 0 0]), .bool false]) I L :=
 ⟨.node [] [], _, by rw [ho]; rfl, .ofAtom (by decide), fun e' h => (by rw [ho] at h; cases h), rfl⟩
theorem C9 {α β : Type} {o : Option α} {f : α → β} {p : Option β} (h : p = o.map f) : p.isSome = o.isSome := by rw [h]; cases o <;> rfl
set_option maxHeartbeats 1000000 in
theorem Yc {N : Nat} (ihn : Q5 N) {o : B5} {a b : Ex} {I : Heap} (ht : Tab I) {cs : List Value} (hlt : SizeOf.sizeOf (Ex.bin o a b) < N + 1) (h : Rep I (Ex.bin o a b).tree cs) (hok : (Ex.bin o a b).ok = true) (L : Bl) :
  Fun Tryz.prog 66 [.agg cs.toArray] I L (SP (Ex.bin o a b).step L) := by
 obtain ⟨oa, c, oaf, cf, rfl, hf, hcl, hcs⟩ := h.cells
 have hpos : 0 < (Ex.bin o a b).tree.parts.length := by show 0 < 3; decide
 obtain ⟨xa, rfl⟩ : ∃ xa, oa = some xa := ⟨_, Cq hf.nil hpos⟩
 have hlen : (Ex.bin o a b).tree.parts.length = 3 := rfl
 have hp := hf.len
 have hev : Tw (Ex.bin o a b).tree = [1, 2] := by cases o <;> rfl
 simp only [Ex.bin.sizeOf_spec] at hlt
 have hok0 := hok
 simp only [Ex.ok, Bool.and_eq_true, decide_eq_true_eq] at hok
 obtain ⟨_, hrl⟩ : ∃ _ : True, RepL I (Ex.bin o a b).tree.parts _ := ⟨trivial, hcl⟩
 simp only [show (Ex.bin o a b).tree.parts = [.node o.txt [], a.tree, b.tree] from rfl, Co, List.cons_append, List.nil_append] at hrl
 refine Ai (by simp) ?_; refine Se rfl ?_; refine Cd rfl rfl .free rfl ?_; intro b1; refine Ax .free rfl ?_; intro b2; refine Oa rfl (Aa (Ab (Se rfl ?_))); refine Az rfl .free rfl ?_; refine Ca rfl (Dj hf.rep _) ?_; rintro _ J0 _ e0 ⟨ok, ck, rfl, hk, rfl⟩
 have hf := hf.mono e0
 have ht := ht.mono e0
 have hle := e0
 rw [hev] at hk; rw [hev]; refine On rfl (Om rfl (Aa (Aj ?_))); refine Dq ?_; refine Se rfl (Oc rfl rfl rfl (Aa (Ab ?_))); refine B6 rfl (by first | rfl | decide | (simp; done) | omega) ?_; refine Af (Ab (Aj (Se rfl ?_)))
 first | refine A3 rfl rfl _ rfl .free rfl ?_ | refine A4 rfl rfl _ rfl .free rfl ?_
 refine Ej rfl .free rfl ?_; refine Oa rfl (Aa (Ab (Se rfl (Oh rfl ?_)))); refine A6 rfl .free rfl ?_; refine Om rfl ?_
 first | refine A3 rfl rfl _ rfl .free rfl ?_ | refine A4 rfl rfl _ rfl .free rfl ?_
 refine Du rfl .free rfl ?_; refine Ca rfl (E6 _ (Nat.lt_succ_self _) (hf.as 1 a.tree (by omega) rfl) hok.1 _) ?_; rintro _ _ _ _ ⟨rfl, rfl, rfl⟩; refine Aa ?_; refine Ar rfl ?_ ?_
 ·intro c1
  try simp only [nb] at c1
  have hva : a.value = true := c1
  refine Bw rfl ?_; refine Ah rfl ?_; refine Or rfl rfl rfl ?_; refine Om rfl (Aa ?_); refine Bu ?_; refine Se rfl (Oc rfl rfl rfl (Aa (Ab ?_))); refine B6 rfl (by first | rfl | decide | (simp; done) | omega) ?_; refine Af (Ab (Aj (Se rfl ?_)))
  first | refine A3 rfl rfl _ rfl .free rfl ?_ | refine A4 rfl rfl _ rfl .free rfl ?_
  refine Ej rfl .free rfl ?_; refine Oa rfl (Aa (Ab (Se rfl (Oh rfl ?_)))); refine A6 rfl .free rfl ?_; refine Om rfl ?_
  first | refine A3 rfl rfl _ rfl .free rfl ?_ | refine A4 rfl rfl _ rfl .free rfl ?_
  refine Du rfl .free rfl ?_; refine Ca rfl (E6 _ (Nat.lt_succ_self _) (hf.as 2 b.tree (by omega) rfl) hok.2 _) ?_; rintro _ _ _ _ ⟨rfl, rfl, rfl⟩; refine Aa ?_; refine Ar rfl ?_ ?_
  ·intro c1
   try simp only [nb] at c1
   have hvb : b.value = true := c1
   refine Bw rfl ?_; refine Ah rfl ?_; refine Or rfl rfl rfl ?_; refine Om rfl (Aa ?_); refine Bu ?_; refine Se rfl (Oc rfl rfl rfl (Aa (Ab ?_))); refine Cr rfl (by first | rfl | decide | (simp; done) | omega) ?_; refine Bw rfl ?_; refine Ab (Ab ?_)
   rcases o with _ | _ | _ | _ | _
   ·skip
    refine Ah rfl ?_; refine Az rfl .free rfl ?_; refine Ca rfl (Bi hf.rep _) ?_; rintro _ _ _ _ ⟨rfl, rfl, rfl⟩; rw [show (Ex.bin .add a b).tree.head = [43] from rfl]
    have hturn : (Ex.bin .add a b).step = (Ex.bin .add a b).turn := by simp only [Ex.step, hva, hvb, Bool.true_eq_false, if_false]
    refine Aa (Aj (Ab (Se rfl (Od rfl rfl rfl (Oa rfl (Aa ?_))))))
    first | refine St rfl (rfl) ?_ | refine Bj (by simp [look, Ba, *]) ?_
    refine Af ?_
    first | refine St rfl (rfl) ?_ | refine Bj (by simp [look, Ba, *]) ?_
    refine Ab ?_; refine B8 12 rfl rfl ?_; refine Sj (X := Nat × Nat) (fun x => [(1, .pointer (some ⟨b1, 0, none⟩)), (2, .pointer (some ⟨b2, 0, none⟩)), (3, .bool false), (9, .pointer (some ⟨x.1, 0, none⟩)), (10, .pointer (some ⟨x.2, 0, none⟩))]) (fun x => J0) (fun x => [(x.2, .cells [.string (str b.tree.atom), .slice (oaf 2) b.tree.parts.length (cf 2)].toArray 49 (0, 0)), (x.1, .cells [.string (str a.tree.atom), .slice (oaf 1) a.tree.parts.length (cf 1)].toArray 49 (0, 0))]) (fun x => True) ?_ ?_
    ·rintro ⟨b9, b10⟩ -
     simp only [List.cons_append, List.nil_append]
     refine Se rfl ?_; refine Nx rfl .free rfl ?_; refine Ca rfl (By (hf.as 1 a.tree (by omega) rfl) _) ?_; rintro _ _ _ _ ⟨rfl, rfl, rfl⟩; refine Om rfl ?_
     apply Ee 64 67 rfl
     ·intro g15_3 hk
      try simp only [nb] at g15_3
      refine Nx rfl (.met rfl rfl) rfl ?_; refine Ce rfl (.met rfl rfl) rfl (By (hf.as 2 b.tree (by omega) rfl) _) ?_; rintro _ _ _ _ ⟨rfl, rfl, rfl⟩; refine Ot rfl rfl ?_
      exact Bb 2 rfl rfl hk
     ·intro _ hk; refine Bm 2 rfl ?_; refine Of rfl rfl ?_
      exact Bb 2 rfl rfl hk
     refine Aa ?_; refine Ar rfl ?_ ?_
     ·intro c5
      try simp only [nb] at c5
      have hbb : a.tree.parts.isEmpty = true ∧ b.tree.parts.isEmpty = true := by simpa using c5
      obtain ⟨p, rfl⟩ := Iy hbb.1 hva; obtain ⟨q, rfl⟩ := Iy hbb.2 hvb; refine Ab ?_; refine B8 10 rfl rfl ?_; refine Dt 0 [8] rfl (Bx rfl) ?_
      first | refine Da 2 rfl (Ag rfl) ?_ | refine Da 2 rfl (A9 rfl) ?_
      refine Dt 3 [8] rfl (Vy rfl) ?_
      first | refine Da 4 rfl (Ag rfl) ?_ | refine Da 4 rfl (A9 rfl) ?_
      refine Dt 5 [8] rfl (Vy rfl) ?_; refine Dc 1 rfl rfl (Bi hf.rep _) ?_; rintro _ _ _ _ ⟨rfl, rfl, rfl⟩; refine Hx ?_; refine Dc 6 rfl rfl (My ht .add (a := p) (b := q) hok.1 hok.2 _) ?_; rintro _ _ _ _ ⟨rfl, rfl, rfl⟩; refine Hx ?_; refine Dc 7 rfl rfl (Pt (K2 .add p q) (Kb _ _ _) _ _) ?_; rintro _ _ _ _ ⟨rfl, rfl, rfl⟩; refine Hx ?_; refine Dx 8 rfl rfl rfl rfl ?_; refine Db 9 rfl (Aw rfl) ?_; refine Ao (by kernel_rfl) ?_; refine Ad (.c rfl (.tmp rfl .nil)) ?_; refine ⟨_, L, hle, Ay, .node (K2 .add p q) [], _, by rw [hturn]; rfl, .ofAtom (Kb _ _ _), fun e' he' => ?_, rfl⟩
      rw [hturn] at he'; obtain rfl := Option.some.inj he'
      rfl
     intro c5
     try simp only [nb] at c5
     have hno : (Ex.bin .add a b).turn = none := by
      cases hty : (Ex.bin .add a b).turn with
      | none => rfl
      | some e' =>
       rcases Ew hty with ⟨f, y, s, t, g, ho, rfl, rfl⟩ | ⟨p, q, ho, rfl, rfl, rfl⟩
       ·cases ho
       ·exact absurd c5 (by simp [Ex.tree, Tree.parts])
     refine Af (Al (Se rfl ?_)); refine Bn rfl rfl rfl .free rfl ?_; refine Bk rfl rfl rfl rfl .free ?_; refine Oa rfl (Aa ?_); refine Ad (.c rfl (.tmp rfl .nil)) ?_
     exact ⟨_, L, hle, Ay, SP.none' (by rw [hturn, hno])⟩
    ·intro hkk
     skip
     refine Da 0 rfl (Ag rfl) ?_; refine Dt 1 [10] rfl (Bd rfl) ?_
     first | refine Da 2 rfl (A1 rfl rfl 1 rfl) ?_ | refine Da 2 rfl (A2 rfl rfl 1 rfl) ?_
     refine Dt 3 [10] rfl (A8 rfl) ?_; refine Da 4 rfl (Ag rfl) ?_; refine Ij 5 8 9 (by kernel_rfl) ?_ ?_ ?_
     ·skip
      refine Dl 5 rfl rfl (Bd rfl) .free rfl (.inr Am) ?_
      first | refine Da 6 rfl (A1 rfl rfl 2 rfl) ?_ | refine Da 6 rfl (A2 rfl rfl 2 rfl) ?_
      refine Ij 7 8 9 (by kernel_rfl) ?_ ?_ ?_
      ·skip
       refine Dl 7 rfl rfl (A8 rfl) .free rfl (.inr Am) ?_; refine Cm 8 9 (by kernel_rfl) ?_ ?_
       ·skip
        refine B9 8 rfl rfl .free rfl (.inr Am) ?_; intro b9; refine Dz 9 rfl (by kernel_rfl) rfl .free rfl (.inr Am) ?_; intro b10; refine Dx 10 rfl rfl rfl rfl ?_; refine Dx 11 rfl rfl rfl rfl ?_; refine Ao (by kernel_rfl) ?_
        exact Bo (E' := [(1, _), (2, _), (3, _), (9, _), (10, _)]) ⟨rfl, rfl, rfl, rfl, rfl, trivial⟩ (Bg (by first | exact fun _ h => h | exact fun _ h => h.perm2) (hkk ⟨b9, b10⟩ trivial))
       ·skip
        refine B9 9 rfl rfl .free rfl (.inr Am) ?_; intro b10; refine Dz 8 rfl (by kernel_rfl) rfl .free rfl (.inr Am) ?_; intro b9; refine Dx 10 rfl rfl rfl rfl ?_; refine Dx 11 rfl rfl rfl rfl ?_; refine Ao (by kernel_rfl) ?_
        exact Bo (E' := [(1, _), (2, _), (3, _), (9, _), (10, _)]) ⟨rfl, rfl, rfl, rfl, rfl, trivial⟩ (Bg (by first | exact fun _ h => h | exact fun _ h => h.perm2) (hkk ⟨b9, b10⟩ trivial))
      ·skip
       refine B9 8 rfl rfl .free rfl (.inr Am) ?_; intro b9; refine Cm 7 9 (by kernel_rfl) ?_ ?_
       ·skip
        refine Dl 7 rfl rfl (A8 rfl) .free rfl (.inr Am) ?_; refine Dz 9 rfl (by kernel_rfl) rfl .free rfl (.inr Am) ?_; intro b10; refine Dx 10 rfl rfl rfl rfl ?_; refine Dx 11 rfl rfl rfl rfl ?_; refine Ao (by kernel_rfl) ?_
        exact Bo (E' := [(1, _), (2, _), (3, _), (9, _), (10, _)]) ⟨rfl, rfl, rfl, rfl, rfl, trivial⟩ (Bg (by first | exact fun _ h => h | exact fun _ h => h.perm2) (hkk ⟨b9, b10⟩ trivial))
       ·skip
        refine B9 9 rfl rfl .free rfl (.inr Am) ?_; intro b10; refine Cm 7 10 (by kernel_rfl) ?_ ?_
        ·skip
         refine Dl 7 rfl rfl (A8 rfl) .free rfl (.inr Am) ?_; refine Dx 10 rfl rfl rfl rfl ?_; refine Dx 11 rfl rfl rfl rfl ?_; refine Ao (by kernel_rfl) ?_
         exact Bo (E' := [(1, _), (2, _), (3, _), (9, _), (10, _)]) ⟨rfl, rfl, rfl, rfl, rfl, trivial⟩ (Bg (by first | exact fun _ h => h | exact fun _ h => h.perm2) (hkk ⟨b9, b10⟩ trivial))
        ·skip
         refine Hn 10 rfl rfl rfl rfl rfl rfl .free (.inl (by kernel_rfl)) ?_; refine E0 7 rfl (by kernel_rfl) rfl (A8 rfl) .free rfl (.inl (by kernel_rfl)) ?_; refine Dx 11 rfl rfl rfl rfl ?_; refine Ao (by kernel_rfl) ?_
         exact Bo (E' := [(1, _), (2, _), (3, _), (9, _), (10, _)]) ⟨rfl, rfl, rfl, rfl, rfl, trivial⟩ (Bg (by first | exact fun _ h => h | exact fun _ h => h.perm2) (hkk ⟨b9, b10⟩ trivial))
      ·skip
       refine B9 9 rfl rfl .free rfl (.inr Am) ?_; intro b10; refine Cm 7 8 (by kernel_rfl) ?_ ?_
       ·skip
        refine Dl 7 rfl rfl (A8 rfl) .free rfl (.inr Am) ?_; refine Dz 8 rfl (by kernel_rfl) rfl .free rfl (.inr Am) ?_; intro b9; refine Dx 10 rfl rfl rfl rfl ?_; refine Dx 11 rfl rfl rfl rfl ?_; refine Ao (by kernel_rfl) ?_
        exact Bo (E' := [(1, _), (2, _), (3, _), (9, _), (10, _)]) ⟨rfl, rfl, rfl, rfl, rfl, trivial⟩ (Bg (by first | exact fun _ h => h | exact fun _ h => h.perm2) (hkk ⟨b9, b10⟩ trivial))
       ·skip
        refine B9 8 rfl rfl .free rfl (.inr Am) ?_; intro b9; refine Cm 7 10 (by kernel_rfl) ?_ ?_
        ·skip
         refine Dl 7 rfl rfl (A8 rfl) .free rfl (.inr Am) ?_; refine Dx 10 rfl rfl rfl rfl ?_; refine Dx 11 rfl rfl rfl rfl ?_; refine Ao (by kernel_rfl) ?_
         exact Bo (E' := [(1, _), (2, _), (3, _), (9, _), (10, _)]) ⟨rfl, rfl, rfl, rfl, rfl, trivial⟩ (Bg (by first | exact fun _ h => h | exact fun _ h => h.perm2) (hkk ⟨b9, b10⟩ trivial))
        ·skip
         refine Hn 10 rfl rfl rfl rfl rfl rfl .free (.inl (by kernel_rfl)) ?_; refine E0 7 rfl (by kernel_rfl) rfl (A8 rfl) .free rfl (.inl (by kernel_rfl)) ?_; refine Dx 11 rfl rfl rfl rfl ?_; refine Ao (by kernel_rfl) ?_
         exact Bo (E' := [(1, _), (2, _), (3, _), (9, _), (10, _)]) ⟨rfl, rfl, rfl, rfl, rfl, trivial⟩ (Bg (by first | exact fun _ h => h | exact fun _ h => h.perm2) (hkk ⟨b9, b10⟩ trivial))
     ·skip
      refine B9 8 rfl rfl .free rfl (.inr Am) ?_; intro b9; refine Cm 5 9 (by kernel_rfl) ?_ ?_
      ·skip
       refine Dl 5 rfl rfl (Bd rfl) .free rfl (.inr Am) ?_
       first | refine Da 6 rfl (A1 rfl rfl 2 rfl) ?_ | refine Da 6 rfl (A2 rfl rfl 2 rfl) ?_
       refine Cm 7 9 (by kernel_rfl) ?_ ?_
       ·skip
        refine Dl 7 rfl rfl (A8 rfl) .free rfl (.inr Am) ?_; refine Dz 9 rfl (by kernel_rfl) rfl .free rfl (.inr Am) ?_; intro b10; refine Dx 10 rfl rfl rfl rfl ?_; refine Dx 11 rfl rfl rfl rfl ?_; refine Ao (by kernel_rfl) ?_
        exact Bo (E' := [(1, _), (2, _), (3, _), (9, _), (10, _)]) ⟨rfl, rfl, rfl, rfl, rfl, trivial⟩ (Bg (by first | exact fun _ h => h | exact fun _ h => h.perm2) (hkk ⟨b9, b10⟩ trivial))
       ·skip
        refine B9 9 rfl rfl .free rfl (.inr Am) ?_; intro b10; refine Cm 7 10 (by kernel_rfl) ?_ ?_
        ·skip
         refine Dl 7 rfl rfl (A8 rfl) .free rfl (.inr Am) ?_; refine Dx 10 rfl rfl rfl rfl ?_; refine Dx 11 rfl rfl rfl rfl ?_; refine Ao (by kernel_rfl) ?_
         exact Bo (E' := [(1, _), (2, _), (3, _), (9, _), (10, _)]) ⟨rfl, rfl, rfl, rfl, rfl, trivial⟩ (Bg (by first | exact fun _ h => h | exact fun _ h => h.perm2) (hkk ⟨b9, b10⟩ trivial))
        ·skip
         refine Hn 10 rfl rfl rfl rfl rfl rfl .free (.inl (by kernel_rfl)) ?_; refine E0 7 rfl (by kernel_rfl) rfl (A8 rfl) .free rfl (.inl (by kernel_rfl)) ?_; refine Dx 11 rfl rfl rfl rfl ?_; refine Ao (by kernel_rfl) ?_
         exact Bo (E' := [(1, _), (2, _), (3, _), (9, _), (10, _)]) ⟨rfl, rfl, rfl, rfl, rfl, trivial⟩ (Bg (by first | exact fun _ h => h | exact fun _ h => h.perm2) (hkk ⟨b9, b10⟩ trivial))
      ·skip
       refine B9 9 rfl rfl .free rfl (.inr Am) ?_; intro b10; refine Cm 5 10 (by kernel_rfl) ?_ ?_
       ·skip
        refine Dl 5 rfl rfl (Bd rfl) .free rfl (.inr Am) ?_
        first | refine Da 6 rfl (A1 rfl rfl 2 rfl) ?_ | refine Da 6 rfl (A2 rfl rfl 2 rfl) ?_
        refine Cm 7 10 (by kernel_rfl) ?_ ?_
        ·skip
         refine Dl 7 rfl rfl (A8 rfl) .free rfl (.inr Am) ?_; refine Dx 10 rfl rfl rfl rfl ?_; refine Dx 11 rfl rfl rfl rfl ?_; refine Ao (by kernel_rfl) ?_
         exact Bo (E' := [(1, _), (2, _), (3, _), (9, _), (10, _)]) ⟨rfl, rfl, rfl, rfl, rfl, trivial⟩ (Bg (by first | exact fun _ h => h | exact fun _ h => h.perm2) (hkk ⟨b9, b10⟩ trivial))
        ·skip
         refine Hn 10 rfl rfl rfl rfl rfl rfl .free (.inl (by kernel_rfl)) ?_; refine E0 7 rfl (by kernel_rfl) rfl (A8 rfl) .free rfl (.inl (by kernel_rfl)) ?_; refine Dx 11 rfl rfl rfl rfl ?_; refine Ao (by kernel_rfl) ?_
         exact Bo (E' := [(1, _), (2, _), (3, _), (9, _), (10, _)]) ⟨rfl, rfl, rfl, rfl, rfl, trivial⟩ (Bg (by first | exact fun _ h => h | exact fun _ h => h.perm2) (hkk ⟨b9, b10⟩ trivial))
       ·skip
        refine Hn 10 rfl rfl rfl rfl rfl rfl .free (.inl (by kernel_rfl)) ?_; refine E0 5 rfl (by kernel_rfl) rfl (Bd rfl) .free rfl (.inl (by kernel_rfl)) ?_
        first | refine Db 6 rfl (A1 rfl rfl 2 rfl) ?_ | refine Db 6 rfl (A2 rfl rfl 2 rfl) ?_
        refine E0 7 rfl (by kernel_rfl) rfl (A8 rfl) .free rfl (.inl (by kernel_rfl)) ?_; refine Dx 11 rfl rfl rfl rfl ?_; refine Ao (by kernel_rfl) ?_
        exact Bo (E' := [(1, _), (2, _), (3, _), (9, _), (10, _)]) ⟨rfl, rfl, rfl, rfl, rfl, trivial⟩ (Bg (by first | exact fun _ h => h | exact fun _ h => h.perm2) (hkk ⟨b9, b10⟩ trivial))
     ·skip
      refine B9 9 rfl rfl .free rfl (.inr Am) ?_; intro b10; refine Cm 5 8 (by kernel_rfl) ?_ ?_
      ·skip
       refine Dl 5 rfl rfl (Bd rfl) .free rfl (.inr Am) ?_
       first | refine Da 6 rfl (A1 rfl rfl 2 rfl) ?_ | refine Da 6 rfl (A2 rfl rfl 2 rfl) ?_
       refine Cm 7 8 (by kernel_rfl) ?_ ?_
       ·skip
        refine Dl 7 rfl rfl (A8 rfl) .free rfl (.inr Am) ?_; refine Dz 8 rfl (by kernel_rfl) rfl .free rfl (.inr Am) ?_; intro b9; refine Dx 10 rfl rfl rfl rfl ?_; refine Dx 11 rfl rfl rfl rfl ?_; refine Ao (by kernel_rfl) ?_
        exact Bo (E' := [(1, _), (2, _), (3, _), (9, _), (10, _)]) ⟨rfl, rfl, rfl, rfl, rfl, trivial⟩ (Bg (by first | exact fun _ h => h | exact fun _ h => h.perm2) (hkk ⟨b9, b10⟩ trivial))
       ·skip
        refine B9 8 rfl rfl .free rfl (.inr Am) ?_; intro b9; refine Cm 7 10 (by kernel_rfl) ?_ ?_
        ·skip
         refine Dl 7 rfl rfl (A8 rfl) .free rfl (.inr Am) ?_; refine Dx 10 rfl rfl rfl rfl ?_; refine Dx 11 rfl rfl rfl rfl ?_; refine Ao (by kernel_rfl) ?_
         exact Bo (E' := [(1, _), (2, _), (3, _), (9, _), (10, _)]) ⟨rfl, rfl, rfl, rfl, rfl, trivial⟩ (Bg (by first | exact fun _ h => h | exact fun _ h => h.perm2) (hkk ⟨b9, b10⟩ trivial))
        ·skip
         refine Hn 10 rfl rfl rfl rfl rfl rfl .free (.inl (by kernel_rfl)) ?_; refine E0 7 rfl (by kernel_rfl) rfl (A8 rfl) .free rfl (.inl (by kernel_rfl)) ?_; refine Dx 11 rfl rfl rfl rfl ?_; refine Ao (by kernel_rfl) ?_
         exact Bo (E' := [(1, _), (2, _), (3, _), (9, _), (10, _)]) ⟨rfl, rfl, rfl, rfl, rfl, trivial⟩ (Bg (by first | exact fun _ h => h | exact fun _ h => h.perm2) (hkk ⟨b9, b10⟩ trivial))
      ·skip
       refine B9 8 rfl rfl .free rfl (.inr Am) ?_; intro b9; refine Cm 5 10 (by kernel_rfl) ?_ ?_
       ·skip
        refine Dl 5 rfl rfl (Bd rfl) .free rfl (.inr Am) ?_
        first | refine Da 6 rfl (A1 rfl rfl 2 rfl) ?_ | refine Da 6 rfl (A2 rfl rfl 2 rfl) ?_
        refine Cm 7 10 (by kernel_rfl) ?_ ?_
        ·skip
         refine Dl 7 rfl rfl (A8 rfl) .free rfl (.inr Am) ?_; refine Dx 10 rfl rfl rfl rfl ?_; refine Dx 11 rfl rfl rfl rfl ?_; refine Ao (by kernel_rfl) ?_
         exact Bo (E' := [(1, _), (2, _), (3, _), (9, _), (10, _)]) ⟨rfl, rfl, rfl, rfl, rfl, trivial⟩ (Bg (by first | exact fun _ h => h | exact fun _ h => h.perm2) (hkk ⟨b9, b10⟩ trivial))
        ·skip
         refine Hn 10 rfl rfl rfl rfl rfl rfl .free (.inl (by kernel_rfl)) ?_; refine E0 7 rfl (by kernel_rfl) rfl (A8 rfl) .free rfl (.inl (by kernel_rfl)) ?_; refine Dx 11 rfl rfl rfl rfl ?_; refine Ao (by kernel_rfl) ?_
         exact Bo (E' := [(1, _), (2, _), (3, _), (9, _), (10, _)]) ⟨rfl, rfl, rfl, rfl, rfl, trivial⟩ (Bg (by first | exact fun _ h => h | exact fun _ h => h.perm2) (hkk ⟨b9, b10⟩ trivial))
       ·skip
        refine Hn 10 rfl rfl rfl rfl rfl rfl .free (.inl (by kernel_rfl)) ?_; refine E0 5 rfl (by kernel_rfl) rfl (Bd rfl) .free rfl (.inl (by kernel_rfl)) ?_
        first | refine Db 6 rfl (A1 rfl rfl 2 rfl) ?_ | refine Db 6 rfl (A2 rfl rfl 2 rfl) ?_
        refine E0 7 rfl (by kernel_rfl) rfl (A8 rfl) .free rfl (.inl (by kernel_rfl)) ?_; refine Dx 11 rfl rfl rfl rfl ?_; refine Ao (by kernel_rfl) ?_
        exact Bo (E' := [(1, _), (2, _), (3, _), (9, _), (10, _)]) ⟨rfl, rfl, rfl, rfl, rfl, trivial⟩ (Bg (by first | exact fun _ h => h | exact fun _ h => h.perm2) (hkk ⟨b9, b10⟩ trivial))
   ·skip
    refine Ah rfl ?_; refine Az rfl .free rfl ?_; refine Ca rfl (Bi hf.rep _) ?_; rintro _ _ _ _ ⟨rfl, rfl, rfl⟩; rw [show (Ex.bin .sub a b).tree.head = [45] from rfl]
    have hturn : (Ex.bin .sub a b).step = (Ex.bin .sub a b).turn := by simp only [Ex.step, hva, hvb, Bool.true_eq_false, if_false]
    refine Aa (Aj (Ab (Se rfl (Od rfl rfl rfl (Oa rfl (Aa ?_))))))
    first | refine Sf rfl (by decide) ?_ | refine Ap (by simp [look, Ba, *]) ?_
    refine Se rfl (Od rfl rfl rfl (Oa rfl (Aa ?_)))
    first | refine St rfl (rfl) ?_ | refine Bj (by simp [look, Ba, *]) ?_
    refine Af ?_
    first | refine St rfl (rfl) ?_ | refine Bj (by simp [look, Ba, *]) ?_
    refine Ab ?_; refine B8 12 rfl rfl ?_; refine Sj (X := Nat × Nat) (fun x => [(1, .pointer (some ⟨b1, 0, none⟩)), (2, .pointer (some ⟨b2, 0, none⟩)), (3, .bool false), (9, .pointer (some ⟨x.1, 0, none⟩)), (10, .pointer (some ⟨x.2, 0, none⟩))]) (fun x => J0) (fun x => [(x.2, .cells [.string (str b.tree.atom), .slice (oaf 2) b.tree.parts.length (cf 2)].toArray 49 (0, 0)), (x.1, .cells [.string (str a.tree.atom), .slice (oaf 1) a.tree.parts.length (cf 1)].toArray 49 (0, 0))]) (fun x => True) ?_ ?_
    ·rintro ⟨b9, b10⟩ -
     simp only [List.cons_append, List.nil_append]
     refine Se rfl ?_; refine Nx rfl .free rfl ?_; refine Ca rfl (By (hf.as 1 a.tree (by omega) rfl) _) ?_; rintro _ _ _ _ ⟨rfl, rfl, rfl⟩; refine Om rfl ?_
     apply Ee 64 67 rfl
     ·intro g15_3 hk
      try simp only [nb] at g15_3
      refine Nx rfl (.met rfl rfl) rfl ?_; refine Ce rfl (.met rfl rfl) rfl (By (hf.as 2 b.tree (by omega) rfl) _) ?_; rintro _ _ _ _ ⟨rfl, rfl, rfl⟩; refine Ot rfl rfl ?_
      exact Bb 2 rfl rfl hk
     ·intro _ hk; refine Bm 2 rfl ?_; refine Of rfl rfl ?_
      exact Bb 2 rfl rfl hk
     refine Aa ?_; refine Ar rfl ?_ ?_
     ·intro c5
      try simp only [nb] at c5
      have hbb : a.tree.parts.isEmpty = true ∧ b.tree.parts.isEmpty = true := by simpa using c5
      obtain ⟨p, rfl⟩ := Iy hbb.1 hva; obtain ⟨q, rfl⟩ := Iy hbb.2 hvb; refine Ab ?_; refine B8 10 rfl rfl ?_; refine Dt 0 [8] rfl (Bx rfl) ?_
      first | refine Da 2 rfl (Ag rfl) ?_ | refine Da 2 rfl (A9 rfl) ?_
      refine Dt 3 [8] rfl (Vy rfl) ?_
      first | refine Da 4 rfl (Ag rfl) ?_ | refine Da 4 rfl (A9 rfl) ?_
      refine Dt 5 [8] rfl (Vy rfl) ?_; refine Dc 1 rfl rfl (Bi hf.rep _) ?_; rintro _ _ _ _ ⟨rfl, rfl, rfl⟩; refine Hx ?_; refine Dc 6 rfl rfl (My ht .sub (a := p) (b := q) hok.1 hok.2 _) ?_; rintro _ _ _ _ ⟨rfl, rfl, rfl⟩; refine Hx ?_; refine Dc 7 rfl rfl (Pt (K2 .sub p q) (Kb _ _ _) _ _) ?_; rintro _ _ _ _ ⟨rfl, rfl, rfl⟩; refine Hx ?_; refine Dx 8 rfl rfl rfl rfl ?_; refine Db 9 rfl (Aw rfl) ?_; refine Ao (by kernel_rfl) ?_; refine Ad (.c rfl (.tmp rfl .nil)) ?_; refine ⟨_, L, hle, Ay, .node (K2 .sub p q) [], _, by rw [hturn]; rfl, .ofAtom (Kb _ _ _), fun e' he' => ?_, rfl⟩
      rw [hturn] at he'; obtain rfl := Option.some.inj he'
      rfl
     intro c5
     try simp only [nb] at c5
     have hno : (Ex.bin .sub a b).turn = none := by
      cases hty : (Ex.bin .sub a b).turn with
      | none => rfl
      | some e' =>
       rcases Ew hty with ⟨f, y, s, t, g, ho, rfl, rfl⟩ | ⟨p, q, ho, rfl, rfl, rfl⟩
       ·cases ho
       ·exact absurd c5 (by simp [Ex.tree, Tree.parts])
     refine Af (Al (Se rfl ?_)); refine Bn rfl rfl rfl .free rfl ?_; refine Bk rfl rfl rfl rfl .free ?_; refine Oa rfl (Aa ?_); refine Ad (.c rfl (.tmp rfl .nil)) ?_
     exact ⟨_, L, hle, Ay, SP.none' (by rw [hturn, hno])⟩
    ·intro hkk
     skip
     refine Da 0 rfl (Ag rfl) ?_; refine Dt 1 [10] rfl (Bd rfl) ?_
     first | refine Da 2 rfl (A1 rfl rfl 1 rfl) ?_ | refine Da 2 rfl (A2 rfl rfl 1 rfl) ?_
     refine Dt 3 [10] rfl (A8 rfl) ?_; refine Da 4 rfl (Ag rfl) ?_; refine Ij 5 8 9 (by kernel_rfl) ?_ ?_ ?_
     ·skip
      refine Dl 5 rfl rfl (Bd rfl) .free rfl (.inr Am) ?_
      first | refine Da 6 rfl (A1 rfl rfl 2 rfl) ?_ | refine Da 6 rfl (A2 rfl rfl 2 rfl) ?_
      refine Ij 7 8 9 (by kernel_rfl) ?_ ?_ ?_
      ·skip
       refine Dl 7 rfl rfl (A8 rfl) .free rfl (.inr Am) ?_; refine Cm 8 9 (by kernel_rfl) ?_ ?_
       ·skip
        refine B9 8 rfl rfl .free rfl (.inr Am) ?_; intro b9; refine Dz 9 rfl (by kernel_rfl) rfl .free rfl (.inr Am) ?_; intro b10; refine Dx 10 rfl rfl rfl rfl ?_; refine Dx 11 rfl rfl rfl rfl ?_; refine Ao (by kernel_rfl) ?_
        exact Bo (E' := [(1, _), (2, _), (3, _), (9, _), (10, _)]) ⟨rfl, rfl, rfl, rfl, rfl, trivial⟩ (Bg (by first | exact fun _ h => h | exact fun _ h => h.perm2) (hkk ⟨b9, b10⟩ trivial))
       ·skip
        refine B9 9 rfl rfl .free rfl (.inr Am) ?_; intro b10; refine Dz 8 rfl (by kernel_rfl) rfl .free rfl (.inr Am) ?_; intro b9; refine Dx 10 rfl rfl rfl rfl ?_; refine Dx 11 rfl rfl rfl rfl ?_; refine Ao (by kernel_rfl) ?_
        exact Bo (E' := [(1, _), (2, _), (3, _), (9, _), (10, _)]) ⟨rfl, rfl, rfl, rfl, rfl, trivial⟩ (Bg (by first | exact fun _ h => h | exact fun _ h => h.perm2) (hkk ⟨b9, b10⟩ trivial))
      ·skip
       refine B9 8 rfl rfl .free rfl (.inr Am) ?_; intro b9; refine Cm 7 9 (by kernel_rfl) ?_ ?_
       ·skip
        refine Dl 7 rfl rfl (A8 rfl) .free rfl (.inr Am) ?_; refine Dz 9 rfl (by kernel_rfl) rfl .free rfl (.inr Am) ?_; intro b10; refine Dx 10 rfl rfl rfl rfl ?_; refine Dx 11 rfl rfl rfl rfl ?_; refine Ao (by kernel_rfl) ?_
        exact Bo (E' := [(1, _), (2, _), (3, _), (9, _), (10, _)]) ⟨rfl, rfl, rfl, rfl, rfl, trivial⟩ (Bg (by first | exact fun _ h => h | exact fun _ h => h.perm2) (hkk ⟨b9, b10⟩ trivial))
       ·skip
        refine B9 9 rfl rfl .free rfl (.inr Am) ?_; intro b10; refine Cm 7 10 (by kernel_rfl) ?_ ?_
        ·skip
         refine Dl 7 rfl rfl (A8 rfl) .free rfl (.inr Am) ?_; refine Dx 10 rfl rfl rfl rfl ?_; refine Dx 11 rfl rfl rfl rfl ?_; refine Ao (by kernel_rfl) ?_
         exact Bo (E' := [(1, _), (2, _), (3, _), (9, _), (10, _)]) ⟨rfl, rfl, rfl, rfl, rfl, trivial⟩ (Bg (by first | exact fun _ h => h | exact fun _ h => h.perm2) (hkk ⟨b9, b10⟩ trivial))
        ·skip
         refine Hn 10 rfl rfl rfl rfl rfl rfl .free (.inl (by kernel_rfl)) ?_; refine E0 7 rfl (by kernel_rfl) rfl (A8 rfl) .free rfl (.inl (by kernel_rfl)) ?_; refine Dx 11 rfl rfl rfl rfl ?_; refine Ao (by kernel_rfl) ?_
         exact Bo (E' := [(1, _), (2, _), (3, _), (9, _), (10, _)]) ⟨rfl, rfl, rfl, rfl, rfl, trivial⟩ (Bg (by first | exact fun _ h => h | exact fun _ h => h.perm2) (hkk ⟨b9, b10⟩ trivial))
      ·skip
       refine B9 9 rfl rfl .free rfl (.inr Am) ?_; intro b10; refine Cm 7 8 (by kernel_rfl) ?_ ?_
       ·skip
        refine Dl 7 rfl rfl (A8 rfl) .free rfl (.inr Am) ?_; refine Dz 8 rfl (by kernel_rfl) rfl .free rfl (.inr Am) ?_; intro b9; refine Dx 10 rfl rfl rfl rfl ?_; refine Dx 11 rfl rfl rfl rfl ?_; refine Ao (by kernel_rfl) ?_
        exact Bo (E' := [(1, _), (2, _), (3, _), (9, _), (10, _)]) ⟨rfl, rfl, rfl, rfl, rfl, trivial⟩ (Bg (by first | exact fun _ h => h | exact fun _ h => h.perm2) (hkk ⟨b9, b10⟩ trivial))
       ·skip
        refine B9 8 rfl rfl .free rfl (.inr Am) ?_; intro b9; refine Cm 7 10 (by kernel_rfl) ?_ ?_
        ·skip
         refine Dl 7 rfl rfl (A8 rfl) .free rfl (.inr Am) ?_; refine Dx 10 rfl rfl rfl rfl ?_; refine Dx 11 rfl rfl rfl rfl ?_; refine Ao (by kernel_rfl) ?_
         exact Bo (E' := [(1, _), (2, _), (3, _), (9, _), (10, _)]) ⟨rfl, rfl, rfl, rfl, rfl, trivial⟩ (Bg (by first | exact fun _ h => h | exact fun _ h => h.perm2) (hkk ⟨b9, b10⟩ trivial))
        ·skip
         refine Hn 10 rfl rfl rfl rfl rfl rfl .free (.inl (by kernel_rfl)) ?_; refine E0 7 rfl (by kernel_rfl) rfl (A8 rfl) .free rfl (.inl (by kernel_rfl)) ?_; refine Dx 11 rfl rfl rfl rfl ?_; refine Ao (by kernel_rfl) ?_
         exact Bo (E' := [(1, _), (2, _), (3, _), (9, _), (10, _)]) ⟨rfl, rfl, rfl, rfl, rfl, trivial⟩ (Bg (by first | exact fun _ h => h | exact fun _ h => h.perm2) (hkk ⟨b9, b10⟩ trivial))
     ·skip
      refine B9 8 rfl rfl .free rfl (.inr Am) ?_; intro b9; refine Cm 5 9 (by kernel_rfl) ?_ ?_
      ·skip
       refine Dl 5 rfl rfl (Bd rfl) .free rfl (.inr Am) ?_
       first | refine Da 6 rfl (A1 rfl rfl 2 rfl) ?_ | refine Da 6 rfl (A2 rfl rfl 2 rfl) ?_
       refine Cm 7 9 (by kernel_rfl) ?_ ?_
       ·skip
        refine Dl 7 rfl rfl (A8 rfl) .free rfl (.inr Am) ?_; refine Dz 9 rfl (by kernel_rfl) rfl .free rfl (.inr Am) ?_; intro b10; refine Dx 10 rfl rfl rfl rfl ?_; refine Dx 11 rfl rfl rfl rfl ?_; refine Ao (by kernel_rfl) ?_
        exact Bo (E' := [(1, _), (2, _), (3, _), (9, _), (10, _)]) ⟨rfl, rfl, rfl, rfl, rfl, trivial⟩ (Bg (by first | exact fun _ h => h | exact fun _ h => h.perm2) (hkk ⟨b9, b10⟩ trivial))
       ·skip
        refine B9 9 rfl rfl .free rfl (.inr Am) ?_; intro b10; refine Cm 7 10 (by kernel_rfl) ?_ ?_
        ·skip
         refine Dl 7 rfl rfl (A8 rfl) .free rfl (.inr Am) ?_; refine Dx 10 rfl rfl rfl rfl ?_; refine Dx 11 rfl rfl rfl rfl ?_; refine Ao (by kernel_rfl) ?_
         exact Bo (E' := [(1, _), (2, _), (3, _), (9, _), (10, _)]) ⟨rfl, rfl, rfl, rfl, rfl, trivial⟩ (Bg (by first | exact fun _ h => h | exact fun _ h => h.perm2) (hkk ⟨b9, b10⟩ trivial))
        ·skip
         refine Hn 10 rfl rfl rfl rfl rfl rfl .free (.inl (by kernel_rfl)) ?_; refine E0 7 rfl (by kernel_rfl) rfl (A8 rfl) .free rfl (.inl (by kernel_rfl)) ?_; refine Dx 11 rfl rfl rfl rfl ?_; refine Ao (by kernel_rfl) ?_
         exact Bo (E' := [(1, _), (2, _), (3, _), (9, _), (10, _)]) ⟨rfl, rfl, rfl, rfl, rfl, trivial⟩ (Bg (by first | exact fun _ h => h | exact fun _ h => h.perm2) (hkk ⟨b9, b10⟩ trivial))
      ·skip
       refine B9 9 rfl rfl .free rfl (.inr Am) ?_; intro b10; refine Cm 5 10 (by kernel_rfl) ?_ ?_
       ·skip
        refine Dl 5 rfl rfl (Bd rfl) .free rfl (.inr Am) ?_
        first | refine Da 6 rfl (A1 rfl rfl 2 rfl) ?_ | refine Da 6 rfl (A2 rfl rfl 2 rfl) ?_
        refine Cm 7 10 (by kernel_rfl) ?_ ?_
        ·skip
         refine Dl 7 rfl rfl (A8 rfl) .free rfl (.inr Am) ?_; refine Dx 10 rfl rfl rfl rfl ?_; refine Dx 11 rfl rfl rfl rfl ?_; refine Ao (by kernel_rfl) ?_
         exact Bo (E' := [(1, _), (2, _), (3, _), (9, _), (10, _)]) ⟨rfl, rfl, rfl, rfl, rfl, trivial⟩ (Bg (by first | exact fun _ h => h | exact fun _ h => h.perm2) (hkk ⟨b9, b10⟩ trivial))
        ·skip
         refine Hn 10 rfl rfl rfl rfl rfl rfl .free (.inl (by kernel_rfl)) ?_; refine E0 7 rfl (by kernel_rfl) rfl (A8 rfl) .free rfl (.inl (by kernel_rfl)) ?_; refine Dx 11 rfl rfl rfl rfl ?_; refine Ao (by kernel_rfl) ?_
         exact Bo (E' := [(1, _), (2, _), (3, _), (9, _), (10, _)]) ⟨rfl, rfl, rfl, rfl, rfl, trivial⟩ (Bg (by first | exact fun _ h => h | exact fun _ h => h.perm2) (hkk ⟨b9, b10⟩ trivial))
       ·skip
        refine Hn 10 rfl rfl rfl rfl rfl rfl .free (.inl (by kernel_rfl)) ?_; refine E0 5 rfl (by kernel_rfl) rfl (Bd rfl) .free rfl (.inl (by kernel_rfl)) ?_
        first | refine Db 6 rfl (A1 rfl rfl 2 rfl) ?_ | refine Db 6 rfl (A2 rfl rfl 2 rfl) ?_
        refine E0 7 rfl (by kernel_rfl) rfl (A8 rfl) .free rfl (.inl (by kernel_rfl)) ?_; refine Dx 11 rfl rfl rfl rfl ?_; refine Ao (by kernel_rfl) ?_
        exact Bo (E' := [(1, _), (2, _), (3, _), (9, _), (10, _)]) ⟨rfl, rfl, rfl, rfl, rfl, trivial⟩ (Bg (by first | exact fun _ h => h | exact fun _ h => h.perm2) (hkk ⟨b9, b10⟩ trivial))
     ·skip
      refine B9 9 rfl rfl .free rfl (.inr Am) ?_; intro b10; refine Cm 5 8 (by kernel_rfl) ?_ ?_
      ·skip
       refine Dl 5 rfl rfl (Bd rfl) .free rfl (.inr Am) ?_
       first | refine Da 6 rfl (A1 rfl rfl 2 rfl) ?_ | refine Da 6 rfl (A2 rfl rfl 2 rfl) ?_
       refine Cm 7 8 (by kernel_rfl) ?_ ?_
       ·skip
        refine Dl 7 rfl rfl (A8 rfl) .free rfl (.inr Am) ?_; refine Dz 8 rfl (by kernel_rfl) rfl .free rfl (.inr Am) ?_; intro b9; refine Dx 10 rfl rfl rfl rfl ?_; refine Dx 11 rfl rfl rfl rfl ?_; refine Ao (by kernel_rfl) ?_
        exact Bo (E' := [(1, _), (2, _), (3, _), (9, _), (10, _)]) ⟨rfl, rfl, rfl, rfl, rfl, trivial⟩ (Bg (by first | exact fun _ h => h | exact fun _ h => h.perm2) (hkk ⟨b9, b10⟩ trivial))
       ·skip
        refine B9 8 rfl rfl .free rfl (.inr Am) ?_; intro b9; refine Cm 7 10 (by kernel_rfl) ?_ ?_
        ·skip
         refine Dl 7 rfl rfl (A8 rfl) .free rfl (.inr Am) ?_; refine Dx 10 rfl rfl rfl rfl ?_; refine Dx 11 rfl rfl rfl rfl ?_; refine Ao (by kernel_rfl) ?_
         exact Bo (E' := [(1, _), (2, _), (3, _), (9, _), (10, _)]) ⟨rfl, rfl, rfl, rfl, rfl, trivial⟩ (Bg (by first | exact fun _ h => h | exact fun _ h => h.perm2) (hkk ⟨b9, b10⟩ trivial))
        ·skip
         refine Hn 10 rfl rfl rfl rfl rfl rfl .free (.inl (by kernel_rfl)) ?_; refine E0 7 rfl (by kernel_rfl) rfl (A8 rfl) .free rfl (.inl (by kernel_rfl)) ?_; refine Dx 11 rfl rfl rfl rfl ?_; refine Ao (by kernel_rfl) ?_
         exact Bo (E' := [(1, _), (2, _), (3, _), (9, _), (10, _)]) ⟨rfl, rfl, rfl, rfl, rfl, trivial⟩ (Bg (by first | exact fun _ h => h | exact fun _ h => h.perm2) (hkk ⟨b9, b10⟩ trivial))
      ·skip
       refine B9 8 rfl rfl .free rfl (.inr Am) ?_; intro b9; refine Cm 5 10 (by kernel_rfl) ?_ ?_
       ·skip
        refine Dl 5 rfl rfl (Bd rfl) .free rfl (.inr Am) ?_
        first | refine Da 6 rfl (A1 rfl rfl 2 rfl) ?_ | refine Da 6 rfl (A2 rfl rfl 2 rfl) ?_
        refine Cm 7 10 (by kernel_rfl) ?_ ?_
        ·skip
         refine Dl 7 rfl rfl (A8 rfl) .free rfl (.inr Am) ?_; refine Dx 10 rfl rfl rfl rfl ?_; refine Dx 11 rfl rfl rfl rfl ?_; refine Ao (by kernel_rfl) ?_
         exact Bo (E' := [(1, _), (2, _), (3, _), (9, _), (10, _)]) ⟨rfl, rfl, rfl, rfl, rfl, trivial⟩ (Bg (by first | exact fun _ h => h | exact fun _ h => h.perm2) (hkk ⟨b9, b10⟩ trivial))
        ·skip
         refine Hn 10 rfl rfl rfl rfl rfl rfl .free (.inl (by kernel_rfl)) ?_; refine E0 7 rfl (by kernel_rfl) rfl (A8 rfl) .free rfl (.inl (by kernel_rfl)) ?_; refine Dx 11 rfl rfl rfl rfl ?_; refine Ao (by kernel_rfl) ?_
         exact Bo (E' := [(1, _), (2, _), (3, _), (9, _), (10, _)]) ⟨rfl, rfl, rfl, rfl, rfl, trivial⟩ (Bg (by first | exact fun _ h => h | exact fun _ h => h.perm2) (hkk ⟨b9, b10⟩ trivial))
       ·skip
        refine Hn 10 rfl rfl rfl rfl rfl rfl .free (.inl (by kernel_rfl)) ?_; refine E0 5 rfl (by kernel_rfl) rfl (Bd rfl) .free rfl (.inl (by kernel_rfl)) ?_
        first | refine Db 6 rfl (A1 rfl rfl 2 rfl) ?_ | refine Db 6 rfl (A2 rfl rfl 2 rfl) ?_
        refine E0 7 rfl (by kernel_rfl) rfl (A8 rfl) .free rfl (.inl (by kernel_rfl)) ?_; refine Dx 11 rfl rfl rfl rfl ?_; refine Ao (by kernel_rfl) ?_
        exact Bo (E' := [(1, _), (2, _), (3, _), (9, _), (10, _)]) ⟨rfl, rfl, rfl, rfl, rfl, trivial⟩ (Bg (by first | exact fun _ h => h | exact fun _ h => h.perm2) (hkk ⟨b9, b10⟩ trivial))
   ·skip
    refine Ah rfl ?_; refine Az rfl .free rfl ?_; refine Ca rfl (Bi hf.rep _) ?_; rintro _ _ _ _ ⟨rfl, rfl, rfl⟩; rw [show (Ex.bin .mul a b).tree.head = [42] from rfl]
    have hturn : (Ex.bin .mul a b).step = (Ex.bin .mul a b).turn := by simp only [Ex.step, hva, hvb, Bool.true_eq_false, if_false]
    refine Aa (Aj (Ab (Se rfl (Od rfl rfl rfl (Oa rfl (Aa ?_))))))
    first | refine Sf rfl (by decide) ?_ | refine Ap (by simp [look, Ba, *]) ?_
    refine Se rfl (Od rfl rfl rfl (Oa rfl (Aa ?_)))
    first | refine Sf rfl (by decide) ?_ | refine Ap (by simp [look, Ba, *]) ?_
    refine Ah rfl (Od rfl rfl rfl (Oa rfl (Aa ?_)))
    first | refine St rfl (rfl) ?_ | refine Bj (by simp [look, Ba, *]) ?_
    refine Ab ?_; refine B8 12 rfl rfl ?_; refine Sj (X := Nat × Nat) (fun x => [(1, .pointer (some ⟨b1, 0, none⟩)), (2, .pointer (some ⟨b2, 0, none⟩)), (3, .bool false), (9, .pointer (some ⟨x.1, 0, none⟩)), (10, .pointer (some ⟨x.2, 0, none⟩))]) (fun x => J0) (fun x => [(x.2, .cells [.string (str b.tree.atom), .slice (oaf 2) b.tree.parts.length (cf 2)].toArray 49 (0, 0)), (x.1, .cells [.string (str a.tree.atom), .slice (oaf 1) a.tree.parts.length (cf 1)].toArray 49 (0, 0))]) (fun x => True) ?_ ?_
    ·rintro ⟨b9, b10⟩ -
     simp only [List.cons_append, List.nil_append]
     refine Se rfl ?_; refine Nx rfl .free rfl ?_; refine Ca rfl (By (hf.as 1 a.tree (by omega) rfl) _) ?_; rintro _ _ _ _ ⟨rfl, rfl, rfl⟩; refine Om rfl ?_
     apply Ee 64 67 rfl
     ·intro g15_3 hk
      try simp only [nb] at g15_3
      refine Nx rfl (.met rfl rfl) rfl ?_; refine Ce rfl (.met rfl rfl) rfl (By (hf.as 2 b.tree (by omega) rfl) _) ?_; rintro _ _ _ _ ⟨rfl, rfl, rfl⟩; refine Ot rfl rfl ?_
      exact Bb 2 rfl rfl hk
     ·intro _ hk; refine Bm 2 rfl ?_; refine Of rfl rfl ?_
      exact Bb 2 rfl rfl hk
     refine Aa ?_; refine Ar rfl ?_ ?_
     ·intro c5
      try simp only [nb] at c5
      have hbb : a.tree.parts.isEmpty = true ∧ b.tree.parts.isEmpty = true := by simpa using c5
      obtain ⟨p, rfl⟩ := Iy hbb.1 hva; obtain ⟨q, rfl⟩ := Iy hbb.2 hvb; refine Ab ?_; refine B8 10 rfl rfl ?_; refine Dt 0 [8] rfl (Bx rfl) ?_
      first | refine Da 2 rfl (Ag rfl) ?_ | refine Da 2 rfl (A9 rfl) ?_
      refine Dt 3 [8] rfl (Vy rfl) ?_
      first | refine Da 4 rfl (Ag rfl) ?_ | refine Da 4 rfl (A9 rfl) ?_
      refine Dt 5 [8] rfl (Vy rfl) ?_; refine Dc 1 rfl rfl (Bi hf.rep _) ?_; rintro _ _ _ _ ⟨rfl, rfl, rfl⟩; refine Hx ?_; refine Dc 6 rfl rfl (My ht .mul (a := p) (b := q) hok.1 hok.2 _) ?_; rintro _ _ _ _ ⟨rfl, rfl, rfl⟩; refine Hx ?_; refine Dc 7 rfl rfl (Pt (K2 .mul p q) (Kb _ _ _) _ _) ?_; rintro _ _ _ _ ⟨rfl, rfl, rfl⟩; refine Hx ?_; refine Dx 8 rfl rfl rfl rfl ?_; refine Db 9 rfl (Aw rfl) ?_; refine Ao (by kernel_rfl) ?_; refine Ad (.c rfl (.tmp rfl .nil)) ?_; refine ⟨_, L, hle, Ay, .node (K2 .mul p q) [], _, by rw [hturn]; rfl, .ofAtom (Kb _ _ _), fun e' he' => ?_, rfl⟩
      rw [hturn] at he'; obtain rfl := Option.some.inj he'
      rfl
     intro c5
     try simp only [nb] at c5
     have hno : (Ex.bin .mul a b).turn = none := by
      cases hty : (Ex.bin .mul a b).turn with
      | none => rfl
      | some e' =>
       rcases Ew hty with ⟨f, y, s, t, g, ho, rfl, rfl⟩ | ⟨p, q, ho, rfl, rfl, rfl⟩
       ·cases ho
       ·exact absurd c5 (by simp [Ex.tree, Tree.parts])
     refine Af (Al (Se rfl ?_)); refine Bn rfl rfl rfl .free rfl ?_; refine Bk rfl rfl rfl rfl .free ?_; refine Oa rfl (Aa ?_); refine Ad (.c rfl (.tmp rfl .nil)) ?_
     exact ⟨_, L, hle, Ay, SP.none' (by rw [hturn, hno])⟩
    ·intro hkk
     skip
     refine Da 0 rfl (Ag rfl) ?_; refine Dt 1 [10] rfl (Bd rfl) ?_
     first | refine Da 2 rfl (A1 rfl rfl 1 rfl) ?_ | refine Da 2 rfl (A2 rfl rfl 1 rfl) ?_
     refine Dt 3 [10] rfl (A8 rfl) ?_; refine Da 4 rfl (Ag rfl) ?_; refine Ij 5 8 9 (by kernel_rfl) ?_ ?_ ?_
     ·skip
      refine Dl 5 rfl rfl (Bd rfl) .free rfl (.inr Am) ?_
      first | refine Da 6 rfl (A1 rfl rfl 2 rfl) ?_ | refine Da 6 rfl (A2 rfl rfl 2 rfl) ?_
      refine Ij 7 8 9 (by kernel_rfl) ?_ ?_ ?_
      ·skip
       refine Dl 7 rfl rfl (A8 rfl) .free rfl (.inr Am) ?_; refine Cm 8 9 (by kernel_rfl) ?_ ?_
       ·skip
        refine B9 8 rfl rfl .free rfl (.inr Am) ?_; intro b9; refine Dz 9 rfl (by kernel_rfl) rfl .free rfl (.inr Am) ?_; intro b10; refine Dx 10 rfl rfl rfl rfl ?_; refine Dx 11 rfl rfl rfl rfl ?_; refine Ao (by kernel_rfl) ?_
        exact Bo (E' := [(1, _), (2, _), (3, _), (9, _), (10, _)]) ⟨rfl, rfl, rfl, rfl, rfl, trivial⟩ (Bg (by first | exact fun _ h => h | exact fun _ h => h.perm2) (hkk ⟨b9, b10⟩ trivial))
       ·skip
        refine B9 9 rfl rfl .free rfl (.inr Am) ?_; intro b10; refine Dz 8 rfl (by kernel_rfl) rfl .free rfl (.inr Am) ?_; intro b9; refine Dx 10 rfl rfl rfl rfl ?_; refine Dx 11 rfl rfl rfl rfl ?_; refine Ao (by kernel_rfl) ?_
        exact Bo (E' := [(1, _), (2, _), (3, _), (9, _), (10, _)]) ⟨rfl, rfl, rfl, rfl, rfl, trivial⟩ (Bg (by first | exact fun _ h => h | exact fun _ h => h.perm2) (hkk ⟨b9, b10⟩ trivial))
      ·skip
       refine B9 8 rfl rfl .free rfl (.inr Am) ?_; intro b9; refine Cm 7 9 (by kernel_rfl) ?_ ?_
       ·skip
        refine Dl 7 rfl rfl (A8 rfl) .free rfl (.inr Am) ?_; refine Dz 9 rfl (by kernel_rfl) rfl .free rfl (.inr Am) ?_; intro b10; refine Dx 10 rfl rfl rfl rfl ?_; refine Dx 11 rfl rfl rfl rfl ?_; refine Ao (by kernel_rfl) ?_
        exact Bo (E' := [(1, _), (2, _), (3, _), (9, _), (10, _)]) ⟨rfl, rfl, rfl, rfl, rfl, trivial⟩ (Bg (by first | exact fun _ h => h | exact fun _ h => h.perm2) (hkk ⟨b9, b10⟩ trivial))
       ·skip
        refine B9 9 rfl rfl .free rfl (.inr Am) ?_; intro b10; refine Cm 7 10 (by kernel_rfl) ?_ ?_
        ·skip
         refine Dl 7 rfl rfl (A8 rfl) .free rfl (.inr Am) ?_; refine Dx 10 rfl rfl rfl rfl ?_; refine Dx 11 rfl rfl rfl rfl ?_; refine Ao (by kernel_rfl) ?_
         exact Bo (E' := [(1, _), (2, _), (3, _), (9, _), (10, _)]) ⟨rfl, rfl, rfl, rfl, rfl, trivial⟩ (Bg (by first | exact fun _ h => h | exact fun _ h => h.perm2) (hkk ⟨b9, b10⟩ trivial))
        ·skip
         refine Hn 10 rfl rfl rfl rfl rfl rfl .free (.inl (by kernel_rfl)) ?_; refine E0 7 rfl (by kernel_rfl) rfl (A8 rfl) .free rfl (.inl (by kernel_rfl)) ?_; refine Dx 11 rfl rfl rfl rfl ?_; refine Ao (by kernel_rfl) ?_
         exact Bo (E' := [(1, _), (2, _), (3, _), (9, _), (10, _)]) ⟨rfl, rfl, rfl, rfl, rfl, trivial⟩ (Bg (by first | exact fun _ h => h | exact fun _ h => h.perm2) (hkk ⟨b9, b10⟩ trivial))
      ·skip
       refine B9 9 rfl rfl .free rfl (.inr Am) ?_; intro b10; refine Cm 7 8 (by kernel_rfl) ?_ ?_
       ·skip
        refine Dl 7 rfl rfl (A8 rfl) .free rfl (.inr Am) ?_; refine Dz 8 rfl (by kernel_rfl) rfl .free rfl (.inr Am) ?_; intro b9; refine Dx 10 rfl rfl rfl rfl ?_; refine Dx 11 rfl rfl rfl rfl ?_; refine Ao (by kernel_rfl) ?_
        exact Bo (E' := [(1, _), (2, _), (3, _), (9, _), (10, _)]) ⟨rfl, rfl, rfl, rfl, rfl, trivial⟩ (Bg (by first | exact fun _ h => h | exact fun _ h => h.perm2) (hkk ⟨b9, b10⟩ trivial))
       ·skip
        refine B9 8 rfl rfl .free rfl (.inr Am) ?_; intro b9; refine Cm 7 10 (by kernel_rfl) ?_ ?_
        ·skip
         refine Dl 7 rfl rfl (A8 rfl) .free rfl (.inr Am) ?_; refine Dx 10 rfl rfl rfl rfl ?_; refine Dx 11 rfl rfl rfl rfl ?_; refine Ao (by kernel_rfl) ?_
         exact Bo (E' := [(1, _), (2, _), (3, _), (9, _), (10, _)]) ⟨rfl, rfl, rfl, rfl, rfl, trivial⟩ (Bg (by first | exact fun _ h => h | exact fun _ h => h.perm2) (hkk ⟨b9, b10⟩ trivial))
        ·skip
         refine Hn 10 rfl rfl rfl rfl rfl rfl .free (.inl (by kernel_rfl)) ?_; refine E0 7 rfl (by kernel_rfl) rfl (A8 rfl) .free rfl (.inl (by kernel_rfl)) ?_; refine Dx 11 rfl rfl rfl rfl ?_; refine Ao (by kernel_rfl) ?_
         exact Bo (E' := [(1, _), (2, _), (3, _), (9, _), (10, _)]) ⟨rfl, rfl, rfl, rfl, rfl, trivial⟩ (Bg (by first | exact fun _ h => h | exact fun _ h => h.perm2) (hkk ⟨b9, b10⟩ trivial))
     ·skip
      refine B9 8 rfl rfl .free rfl (.inr Am) ?_; intro b9; refine Cm 5 9 (by kernel_rfl) ?_ ?_
      ·skip
       refine Dl 5 rfl rfl (Bd rfl) .free rfl (.inr Am) ?_
       first | refine Da 6 rfl (A1 rfl rfl 2 rfl) ?_ | refine Da 6 rfl (A2 rfl rfl 2 rfl) ?_
       refine Cm 7 9 (by kernel_rfl) ?_ ?_
       ·skip
        refine Dl 7 rfl rfl (A8 rfl) .free rfl (.inr Am) ?_; refine Dz 9 rfl (by kernel_rfl) rfl .free rfl (.inr Am) ?_; intro b10; refine Dx 10 rfl rfl rfl rfl ?_; refine Dx 11 rfl rfl rfl rfl ?_; refine Ao (by kernel_rfl) ?_
        exact Bo (E' := [(1, _), (2, _), (3, _), (9, _), (10, _)]) ⟨rfl, rfl, rfl, rfl, rfl, trivial⟩ (Bg (by first | exact fun _ h => h | exact fun _ h => h.perm2) (hkk ⟨b9, b10⟩ trivial))
       ·skip
        refine B9 9 rfl rfl .free rfl (.inr Am) ?_; intro b10; refine Cm 7 10 (by kernel_rfl) ?_ ?_
        ·skip
         refine Dl 7 rfl rfl (A8 rfl) .free rfl (.inr Am) ?_; refine Dx 10 rfl rfl rfl rfl ?_; refine Dx 11 rfl rfl rfl rfl ?_; refine Ao (by kernel_rfl) ?_
         exact Bo (E' := [(1, _), (2, _), (3, _), (9, _), (10, _)]) ⟨rfl, rfl, rfl, rfl, rfl, trivial⟩ (Bg (by first | exact fun _ h => h | exact fun _ h => h.perm2) (hkk ⟨b9, b10⟩ trivial))
        ·skip
         refine Hn 10 rfl rfl rfl rfl rfl rfl .free (.inl (by kernel_rfl)) ?_; refine E0 7 rfl (by kernel_rfl) rfl (A8 rfl) .free rfl (.inl (by kernel_rfl)) ?_; refine Dx 11 rfl rfl rfl rfl ?_; refine Ao (by kernel_rfl) ?_
         exact Bo (E' := [(1, _), (2, _), (3, _), (9, _), (10, _)]) ⟨rfl, rfl, rfl, rfl, rfl, trivial⟩ (Bg (by first | exact fun _ h => h | exact fun _ h => h.perm2) (hkk ⟨b9, b10⟩ trivial))
      ·skip
       refine B9 9 rfl rfl .free rfl (.inr Am) ?_; intro b10; refine Cm 5 10 (by kernel_rfl) ?_ ?_
       ·skip
        refine Dl 5 rfl rfl (Bd rfl) .free rfl (.inr Am) ?_
        first | refine Da 6 rfl (A1 rfl rfl 2 rfl) ?_ | refine Da 6 rfl (A2 rfl rfl 2 rfl) ?_
        refine Cm 7 10 (by kernel_rfl) ?_ ?_
        ·skip
         refine Dl 7 rfl rfl (A8 rfl) .free rfl (.inr Am) ?_; refine Dx 10 rfl rfl rfl rfl ?_; refine Dx 11 rfl rfl rfl rfl ?_; refine Ao (by kernel_rfl) ?_
         exact Bo (E' := [(1, _), (2, _), (3, _), (9, _), (10, _)]) ⟨rfl, rfl, rfl, rfl, rfl, trivial⟩ (Bg (by first | exact fun _ h => h | exact fun _ h => h.perm2) (hkk ⟨b9, b10⟩ trivial))
        ·skip
         refine Hn 10 rfl rfl rfl rfl rfl rfl .free (.inl (by kernel_rfl)) ?_; refine E0 7 rfl (by kernel_rfl) rfl (A8 rfl) .free rfl (.inl (by kernel_rfl)) ?_; refine Dx 11 rfl rfl rfl rfl ?_; refine Ao (by kernel_rfl) ?_
         exact Bo (E' := [(1, _), (2, _), (3, _), (9, _), (10, _)]) ⟨rfl, rfl, rfl, rfl, rfl, trivial⟩ (Bg (by first | exact fun _ h => h | exact fun _ h => h.perm2) (hkk ⟨b9, b10⟩ trivial))
       ·skip
        refine Hn 10 rfl rfl rfl rfl rfl rfl .free (.inl (by kernel_rfl)) ?_; refine E0 5 rfl (by kernel_rfl) rfl (Bd rfl) .free rfl (.inl (by kernel_rfl)) ?_
        first | refine Db 6 rfl (A1 rfl rfl 2 rfl) ?_ | refine Db 6 rfl (A2 rfl rfl 2 rfl) ?_
        refine E0 7 rfl (by kernel_rfl) rfl (A8 rfl) .free rfl (.inl (by kernel_rfl)) ?_; refine Dx 11 rfl rfl rfl rfl ?_; refine Ao (by kernel_rfl) ?_
        exact Bo (E' := [(1, _), (2, _), (3, _), (9, _), (10, _)]) ⟨rfl, rfl, rfl, rfl, rfl, trivial⟩ (Bg (by first | exact fun _ h => h | exact fun _ h => h.perm2) (hkk ⟨b9, b10⟩ trivial))
     ·skip
      refine B9 9 rfl rfl .free rfl (.inr Am) ?_; intro b10; refine Cm 5 8 (by kernel_rfl) ?_ ?_
      ·skip
       refine Dl 5 rfl rfl (Bd rfl) .free rfl (.inr Am) ?_
       first | refine Da 6 rfl (A1 rfl rfl 2 rfl) ?_ | refine Da 6 rfl (A2 rfl rfl 2 rfl) ?_
       refine Cm 7 8 (by kernel_rfl) ?_ ?_
       ·skip
        refine Dl 7 rfl rfl (A8 rfl) .free rfl (.inr Am) ?_; refine Dz 8 rfl (by kernel_rfl) rfl .free rfl (.inr Am) ?_; intro b9; refine Dx 10 rfl rfl rfl rfl ?_; refine Dx 11 rfl rfl rfl rfl ?_; refine Ao (by kernel_rfl) ?_
        exact Bo (E' := [(1, _), (2, _), (3, _), (9, _), (10, _)]) ⟨rfl, rfl, rfl, rfl, rfl, trivial⟩ (Bg (by first | exact fun _ h => h | exact fun _ h => h.perm2) (hkk ⟨b9, b10⟩ trivial))
       ·skip
        refine B9 8 rfl rfl .free rfl (.inr Am) ?_; intro b9; refine Cm 7 10 (by kernel_rfl) ?_ ?_
        ·skip
         refine Dl 7 rfl rfl (A8 rfl) .free rfl (.inr Am) ?_; refine Dx 10 rfl rfl rfl rfl ?_; refine Dx 11 rfl rfl rfl rfl ?_; refine Ao (by kernel_rfl) ?_
         exact Bo (E' := [(1, _), (2, _), (3, _), (9, _), (10, _)]) ⟨rfl, rfl, rfl, rfl, rfl, trivial⟩ (Bg (by first | exact fun _ h => h | exact fun _ h => h.perm2) (hkk ⟨b9, b10⟩ trivial))
        ·skip
         refine Hn 10 rfl rfl rfl rfl rfl rfl .free (.inl (by kernel_rfl)) ?_; refine E0 7 rfl (by kernel_rfl) rfl (A8 rfl) .free rfl (.inl (by kernel_rfl)) ?_; refine Dx 11 rfl rfl rfl rfl ?_; refine Ao (by kernel_rfl) ?_
         exact Bo (E' := [(1, _), (2, _), (3, _), (9, _), (10, _)]) ⟨rfl, rfl, rfl, rfl, rfl, trivial⟩ (Bg (by first | exact fun _ h => h | exact fun _ h => h.perm2) (hkk ⟨b9, b10⟩ trivial))
      ·skip
       refine B9 8 rfl rfl .free rfl (.inr Am) ?_; intro b9; refine Cm 5 10 (by kernel_rfl) ?_ ?_
       ·skip
        refine Dl 5 rfl rfl (Bd rfl) .free rfl (.inr Am) ?_
        first | refine Da 6 rfl (A1 rfl rfl 2 rfl) ?_ | refine Da 6 rfl (A2 rfl rfl 2 rfl) ?_
        refine Cm 7 10 (by kernel_rfl) ?_ ?_
        ·skip
         refine Dl 7 rfl rfl (A8 rfl) .free rfl (.inr Am) ?_; refine Dx 10 rfl rfl rfl rfl ?_; refine Dx 11 rfl rfl rfl rfl ?_; refine Ao (by kernel_rfl) ?_
         exact Bo (E' := [(1, _), (2, _), (3, _), (9, _), (10, _)]) ⟨rfl, rfl, rfl, rfl, rfl, trivial⟩ (Bg (by first | exact fun _ h => h | exact fun _ h => h.perm2) (hkk ⟨b9, b10⟩ trivial))
        ·skip
         refine Hn 10 rfl rfl rfl rfl rfl rfl .free (.inl (by kernel_rfl)) ?_; refine E0 7 rfl (by kernel_rfl) rfl (A8 rfl) .free rfl (.inl (by kernel_rfl)) ?_; refine Dx 11 rfl rfl rfl rfl ?_; refine Ao (by kernel_rfl) ?_
         exact Bo (E' := [(1, _), (2, _), (3, _), (9, _), (10, _)]) ⟨rfl, rfl, rfl, rfl, rfl, trivial⟩ (Bg (by first | exact fun _ h => h | exact fun _ h => h.perm2) (hkk ⟨b9, b10⟩ trivial))
       ·skip
        refine Hn 10 rfl rfl rfl rfl rfl rfl .free (.inl (by kernel_rfl)) ?_; refine E0 5 rfl (by kernel_rfl) rfl (Bd rfl) .free rfl (.inl (by kernel_rfl)) ?_
        first | refine Db 6 rfl (A1 rfl rfl 2 rfl) ?_ | refine Db 6 rfl (A2 rfl rfl 2 rfl) ?_
        refine E0 7 rfl (by kernel_rfl) rfl (A8 rfl) .free rfl (.inl (by kernel_rfl)) ?_; refine Dx 11 rfl rfl rfl rfl ?_; refine Ao (by kernel_rfl) ?_
        exact Bo (E' := [(1, _), (2, _), (3, _), (9, _), (10, _)]) ⟨rfl, rfl, rfl, rfl, rfl, trivial⟩ (Bg (by first | exact fun _ h => h | exact fun _ h => h.perm2) (hkk ⟨b9, b10⟩ trivial))
   ·skip
    refine Ah rfl ?_; refine Az rfl .free rfl ?_; refine Ca rfl (Bi hf.rep _) ?_; rintro _ _ _ _ ⟨rfl, rfl, rfl⟩; rw [show (Ex.bin .call a b).tree.head = [99, 97, 108, 108] from rfl]
    have hturn : (Ex.bin .call a b).step = (Ex.bin .call a b).turn := by simp only [Ex.step, hva, hvb, Bool.true_eq_false, if_false]
    refine Aa (Aj (Ab (Se rfl (Od rfl rfl rfl (Oa rfl (Aa ?_))))))
    first | refine Sf rfl (by decide) ?_ | refine Ap (by simp [look, Ba, *]) ?_
    refine Se rfl (Od rfl rfl rfl (Oa rfl (Aa ?_)))
    first | refine Sf rfl (by decide) ?_ | refine Ap (by simp [look, Ba, *]) ?_
    refine Ah rfl (Od rfl rfl rfl (Oa rfl (Aa ?_)))
    first | refine Sf rfl (by decide) ?_ | refine Ap (by simp [look, Ba, *]) ?_
    refine Se rfl (Od rfl rfl rfl (Oa rfl (Aa ?_)))
    first | refine Sf rfl (by decide) ?_ | refine Ap (by simp [look, Ba, *]) ?_
    refine Se rfl (Od rfl rfl rfl (Oa rfl (Aa ?_)))
    first | refine Sf rfl (by decide) ?_ | refine Ap (by simp [look, Ba, *]) ?_
    refine Se rfl (Od rfl rfl rfl (Oa rfl (Aa ?_)))
    first | refine St rfl (rfl) ?_ | refine Bj (by simp [look, Ba, *]) ?_
    refine Se rfl (Oh rfl ?_); refine A6 rfl .free rfl ?_
    first | refine A3 rfl rfl 1 rfl .free rfl ?_ | refine A4 rfl rfl 1 rfl .free rfl ?_
    refine Du rfl .free rfl ?_; refine Ax .free rfl ?_; intro b12; refine Bk rfl rfl rfl rfl .free ?_; refine Aa (Se rfl ?_); refine Az rfl .free rfl ?_; refine Ca rfl (Bi (hf.as 1 a.tree (by omega) rfl) _) ?_; rintro _ _ _ _ ⟨rfl, rfl, rfl⟩; refine Od rfl rfl rfl (Aa ?_); refine Ar rfl ?_ ?_
    ·intro c11
     try simp only [nb] at c11
     obtain ⟨f, y, s, t, g, rfl⟩ := Ex.of_fun (show a.tree.head = Dh from c11)
     have hra := hf.as 1 (Ex.fn f y s t g).tree (by omega) rfl
     obtain ⟨oa2, c2, oaf2, cf2, he2, hf2⟩ := hra.at'
     simp only [List.cons.injEq, Value.slice.injEq, and_true, true_and] at he2
     obtain ⟨rfl, rfl⟩ := he2; obtain ⟨xa2, hxa2⟩ : ∃ x, oaf 1 = some x := ⟨_, Cq hf2.nil (show 0 < 6 by decide)⟩
     have hok2 := hok.1
     simp only [Ex.ok, Bool.and_eq_true, decide_eq_true_eq] at hok2
     have hl2 : (Ex.fn f y s t g).tree.parts.length = 6 := rfl
     refine Ab ?_; refine B8 23 rfl rfl ?_; refine Da 0 rfl (Ag rfl) ?_; refine Dt 1 [21] rfl (Bd rfl) ?_
     first | refine Da 2 rfl (A1 rfl rfl 5 rfl) ?_ | refine Da 2 rfl (A2 rfl rfl 5 rfl) ?_
     refine Dt 3 [21] rfl (A8 rfl) ?_; refine Da 4 rfl (Ag rfl) ?_; refine Dt 5 [21] rfl (Bd rfl) ?_
     first | refine Da 6 rfl (A1 rfl rfl 1 rfl) ?_ | refine Da 6 rfl (A2 rfl rfl 1 rfl) ?_
     refine Da 7 rfl (A9 rfl) ?_; refine Dt 8 [21] rfl (Hd rfl) ?_; refine Dt 9 [21] rfl (Bx rfl) ?_; refine Da 11 rfl (Ag rfl) ?_; refine Dt 12 [21] rfl (Bd rfl) ?_
     first | refine Da 13 rfl (A1 rfl rfl 2 rfl) ?_ | refine Da 13 rfl (A2 rfl rfl 2 rfl) ?_
     refine Da 14 rfl (A9 rfl) ?_; refine Dt 15 [21] rfl (Hd rfl) ?_; refine Da 16 rfl (Ag rfl) ?_; refine Dt 17 [21] rfl (Bd rfl) ?_
     first | refine Da 18 rfl (A1 rfl rfl 2 rfl) ?_ | refine Da 18 rfl (A2 rfl rfl 2 rfl) ?_
     refine Dt 19 [21] rfl (A8 rfl) ?_; refine Dc 10 rfl rfl (Md _ (Nat.lt_succ_self _) (hf2.as 5 g.tree (by omega) rfl) hok2.2 f hok2.1.1.1.1.1 hra _) ?_; rintro _ J2 _ e2 ⟨cs2, rfl, hr2, rfl⟩; obtain ⟨o2, k2, _, rfl, -⟩ := hr2.open
     have hf := hf.mono e2
     have hf2 := hf2.mono e2
     have hle := hle.trans e2
     refine Hx ?_; refine Dc 20 rfl rfl (Md _ (Nat.lt_succ_self _) hr2 (Ex.put_ok hok2.2 hok.1) y hok2.1.1.1.1.2 (hf.as 2 b.tree (by omega) rfl) _) ?_; rintro _ J3 _ e3 ⟨cs3, rfl, hr3, rfl⟩; obtain ⟨o3, k3, _, rfl, -⟩ := hr3.open
     have hle := hle.trans e3
     have e23 := e2.trans e3
     refine Hx ?_; refine Dx 21 rfl rfl rfl rfl ?_; refine Db 22 rfl (Aw rfl) ?_; refine Ao (by kernel_rfl) ?_; refine Ad (.c rfl (.tmp rfl .nil)) ?_; refine ⟨_, L, hle, Ay, ((g.put f (.fn f y s t g)).put y b).tree, _, by rw [hturn]; rfl, hr3, fun e' he' => ?_, rfl⟩; rw [hturn] at he'; obtain rfl := Option.some.inj he'
     rfl
    intro c11
    try simp only [nb] at c11
    have hno : (Ex.bin .call a b).turn = none := by
     cases hty : (Ex.bin .call a b).turn with
     | none => rfl
     | some e' =>
      rcases Ew hty with ⟨f, y, s, t, g, ho, rfl, rfl⟩ | ⟨p, q, ho, rfl, rfl, rfl⟩
      ·exact absurd rfl c11
      ·cases ho
    refine Af (Al (Se rfl ?_)); refine Bn rfl rfl rfl .free rfl ?_; refine Bk rfl rfl rfl rfl .free ?_; refine Oa rfl (Aa ?_); refine Ad (.c rfl (.tmp rfl .nil)) ?_
    exact ⟨_, L, hle, Ay, SP.none' (by rw [hturn, hno])⟩
   ·skip
    refine Ah rfl ?_; refine Az rfl .free rfl ?_; refine Ca rfl (Bi hf.rep _) ?_; rintro _ _ _ _ ⟨rfl, rfl, rfl⟩; rw [show (Ex.bin .pair a b).tree.head = [112, 97, 105, 114] from rfl]
    have hturn : (Ex.bin .pair a b).step = (Ex.bin .pair a b).turn := by simp only [Ex.step, hva, hvb, Bool.true_eq_false, if_false]
    refine Aa (Aj (Ab (Se rfl (Od rfl rfl rfl (Oa rfl (Aa ?_))))))
    first | refine Sf rfl (by decide) ?_ | refine Ap (by simp [look, Ba, *]) ?_
    refine Se rfl (Od rfl rfl rfl (Oa rfl (Aa ?_)))
    first | refine Sf rfl (by decide) ?_ | refine Ap (by simp [look, Ba, *]) ?_
    refine Ah rfl (Od rfl rfl rfl (Oa rfl (Aa ?_)))
    first | refine Sf rfl (by decide) ?_ | refine Ap (by simp [look, Ba, *]) ?_
    refine Se rfl (Od rfl rfl rfl (Oa rfl (Aa ?_)))
    first | refine Sf rfl (by decide) ?_ | refine Ap (by simp [look, Ba, *]) ?_
    refine Se rfl (Od rfl rfl rfl (Oa rfl (Aa ?_)))
    first | refine Sf rfl (by decide) ?_ | refine Ap (by simp [look, Ba, *]) ?_
    refine Se rfl (Od rfl rfl rfl (Oa rfl (Aa ?_)))
    first | refine Sf rfl (by decide) ?_ | refine Ap (by simp [look, Ba, *]) ?_
    refine Ab (Se rfl (Od rfl rfl rfl (Oa rfl (Aa ?_))))
    first | refine Sf rfl (by decide) ?_ | refine Ap (by simp [look, Ba, *]) ?_
    refine Ah rfl (Od rfl rfl rfl (Oa rfl (Aa ?_)))
    first | refine Sf rfl (by decide) ?_ | refine Ap (by simp [look, Ba, *]) ?_
    refine Af (Al (Ab ?_))
    have hno : (Ex.bin .pair a b).turn = none := by
     first
      | rfl
      | (cases a <;> first | rfl | (cases b <;> rfl))
    refine Ah rfl ?_; refine Bn rfl rfl rfl .free rfl ?_; refine Bk rfl rfl rfl rfl .free ?_; refine Oa rfl (Aa ?_); refine Ad (.c rfl (.tmp rfl .nil)) ?_
    exact ⟨_, L, hle, Ay, SP.none' (by rw [hturn, hno])⟩
  intro c1
  try simp only [nb] at c1
  have hvb : b.value = false := by simpa using c1
  have hst : (Ex.bin o a b).step = b.step.map fun q => .bin o a q := by simp only [Ex.step, hva, Bool.true_eq_false, if_false, hvb, if_true]
  refine Af (Se rfl (Oh rfl ?_)); refine A6 rfl .free rfl ?_; refine Om rfl ?_
  first | refine A3 rfl rfl _ rfl .free rfl ?_ | refine A4 rfl rfl _ rfl .free rfl ?_
  refine Du rfl .free rfl ?_; refine Ca rfl (ihn ht (by omega) (hf.as 2 b.tree (by omega) rfl) hok.2 _) ?_; rintro _ J1 _ e1 ⟨t1, cs1, rfl, hr, hte, rfl⟩; obtain ⟨o1, k1, _, rfl, -⟩ := hr.open
  have hf := hf.mono e1
  have hle := hle.trans e1
  have hk := hk.mono e1
  refine Om rfl (Oe rfl rfl (Oe rfl rfl ?_)); refine Ax .free rfl ?_; intro b6; refine Bk rfl rfl rfl rfl .free ?_; refine Oa rfl (Aa (Se rfl (Oh rfl ?_))); refine A6 rfl .free rfl ?_; refine Ca rfl (Fv ((hcs _ rfl).mono hle) (by have := hcl.length; omega) hcl.plain hpos hp _) ?_; rintro _ _ _ _ ⟨bc, sp, cc, rfl, hcc, rfl, rfl⟩
  simp only [show (Ex.bin o a b).tree.parts = [.node o.txt [], a.tree, b.tree] from rfl, Co, List.cons_append, List.nil_append]
  refine Bn rfl rfl rfl .free rfl ?_; refine Ax .free rfl ?_; intro b8; refine Bk rfl rfl rfl rfl .free ?_; refine Aa (Se rfl (Oh rfl ?_)); refine A6 rfl .free rfl ?_; refine Om rfl ?_; refine Az rfl .free rfl ?_
  first | refine A3 rfl rfl _ rfl .free rfl ?_ | refine A4 rfl rfl _ rfl .free rfl ?_
  refine Bk rfl rfl rfl rfl .free ?_; refine Aa (Se rfl ?_); refine Az rfl .free rfl ?_; refine Om rfl ?_; refine Bk rfl rfl rfl rfl .free ?_; refine Oa rfl (Aa ?_); refine Bg (fun w h => h.f1) (Be ?_); intro hz
  have hf := hf.mono hz
  refine Ad (.c rfl (.tmp rfl .nil)) ?_; refine ⟨_, L, hle.trans hz, Ay, .node [] [.node o.txt [], a.tree, t1], [.string (str []), .slice (some ⟨bc, 0, none⟩) (Ex.bin o a b).tree.parts.length cc], ?_, .mk' rfl (.cons (hf.as 0 (.node o.txt []) (by omega) rfl) (.cons (hf.as 1 (a.tree) (by omega) rfl) (.cons (hr.mono hz) (.nil)))) (fun y hy => by cases hy; exact A5 (xs := [_, _, _, _, _, _])) (by simp) hcc (by simp [As]) hp, ?_, rfl⟩
  ·rw [C9 hst]; rfl
  ·intro e' he'; rw [hst] at he'; obtain ⟨q, hq, rfl⟩ := Option.map_eq_some_iff.1 he'; rw [hte q hq]; rfl
 intro c1
 try simp only [nb] at c1
 have hva : a.value = false := by simpa using c1
 have hst : (Ex.bin o a b).step = a.step.map fun q => .bin o q b := by simp only [Ex.step, hva, if_true]
 refine Af (Se rfl (Oh rfl ?_)); refine A6 rfl .free rfl ?_; refine Om rfl ?_
 first | refine A3 rfl rfl _ rfl .free rfl ?_ | refine A4 rfl rfl _ rfl .free rfl ?_
 refine Du rfl .free rfl ?_; refine Ca rfl (ihn ht (by omega) (hf.as 1 a.tree (by omega) rfl) hok.1 _) ?_; rintro _ J1 _ e1 ⟨t1, cs1, rfl, hr, hte, rfl⟩; obtain ⟨o1, k1, _, rfl, -⟩ := hr.open
 have hf := hf.mono e1
 have hle := hle.trans e1
 have hk := hk.mono e1
 refine Om rfl (Oe rfl rfl (Oe rfl rfl ?_)); refine Ax .free rfl ?_; intro b6; refine Bk rfl rfl rfl rfl .free ?_; refine Oa rfl (Aa (Se rfl (Oh rfl ?_))); refine A6 rfl .free rfl ?_; refine Ca rfl (Fv ((hcs _ rfl).mono hle) (by have := hcl.length; omega) hcl.plain hpos hp _) ?_; rintro _ _ _ _ ⟨bc, sp, cc, rfl, hcc, rfl, rfl⟩
 simp only [show (Ex.bin o a b).tree.parts = [.node o.txt [], a.tree, b.tree] from rfl, Co, List.cons_append, List.nil_append]
 refine Bn rfl rfl rfl .free rfl ?_; refine Ax .free rfl ?_; intro b8; refine Bk rfl rfl rfl rfl .free ?_; refine Aa (Se rfl (Oh rfl ?_)); refine A6 rfl .free rfl ?_; refine Om rfl ?_; refine Az rfl .free rfl ?_
 first | refine A3 rfl rfl _ rfl .free rfl ?_ | refine A4 rfl rfl _ rfl .free rfl ?_
 refine Bk rfl rfl rfl rfl .free ?_; refine Aa (Se rfl ?_); refine Az rfl .free rfl ?_; refine Om rfl ?_; refine Bk rfl rfl rfl rfl .free ?_; refine Oa rfl (Aa ?_); refine Bg (fun w h => h.f1) (Be ?_); intro hz
 have hf := hf.mono hz
 refine Ad (.c rfl (.tmp rfl .nil)) ?_; refine ⟨_, L, hle.trans hz, Ay, .node [] [.node o.txt [], t1, b.tree], [.string (str []), .slice (some ⟨bc, 0, none⟩) (Ex.bin o a b).tree.parts.length cc], ?_, .mk' rfl (.cons (hf.as 0 (.node o.txt []) (by omega) rfl) (.cons (hr.mono hz) (.cons (hf.as 2 (b.tree) (by omega) rfl) (.nil)))) (fun y hy => by cases hy; exact A5 (xs := [_, _, _, _, _, _])) (by simp) hcc (by simp [As]) hp, ?_, rfl⟩
 ·rw [C9 hst]; rfl
 ·intro e' he'; rw [hst] at he'; obtain ⟨q, hq, rfl⟩ := Option.map_eq_some_iff.1 he'; rw [hte q hq]; rfl
set_option maxHeartbeats 1000000 in
theorem Yd {N : Nat} (ihn : Q5 N) {a b d : Ex} {I : Heap} (ht : Tab I) {cs : List Value} (hlt : SizeOf.sizeOf (Ex.ite a b d) < N + 1) (h : Rep I (Ex.ite a b d).tree cs) (hok : (Ex.ite a b d).ok = true) (L : Bl) :
  Fun Tryz.prog 66 [.agg cs.toArray] I L (SP (Ex.ite a b d).step L) := by
 obtain ⟨oa, c, oaf, cf, rfl, hf, hcl, hcs⟩ := h.cells
 have hpos : 0 < (Ex.ite a b d).tree.parts.length := by show 0 < 4; decide
 obtain ⟨xa, rfl⟩ : ∃ xa, oa = some xa := ⟨_, Cq hf.nil hpos⟩
 have hlen : (Ex.ite a b d).tree.parts.length = 4 := rfl
 have hp := hf.len
 have hev : Tw (Ex.ite a b d).tree = [1] := rfl
 simp only [Ex.ite.sizeOf_spec] at hlt
 have hok0 := hok
 simp only [Ex.ok, Bool.and_eq_true, decide_eq_true_eq] at hok
 obtain ⟨_, hrl⟩ : ∃ _ : True, RepL I (Ex.ite a b d).tree.parts _ := ⟨trivial, hcl⟩
 simp only [show (Ex.ite a b d).tree.parts = [.node Fs [], a.tree, b.tree, d.tree] from rfl, Co, List.cons_append, List.nil_append] at hrl
 refine Ai (by simp) ?_; refine Se rfl ?_; refine Cd rfl rfl .free rfl ?_; intro b1; refine Ax .free rfl ?_; intro b2; refine Oa rfl (Aa (Ab (Se rfl ?_))); refine Az rfl .free rfl ?_; refine Ca rfl (Dj hf.rep _) ?_; rintro _ J0 _ e0 ⟨ok, ck, rfl, hk, rfl⟩
 have hf := hf.mono e0
 have ht := ht.mono e0
 have hle := e0
 rw [hev] at hk; rw [hev]; refine On rfl (Om rfl (Aa (Aj ?_))); refine Dq ?_; refine Se rfl (Oc rfl rfl rfl (Aa (Ab ?_))); refine B6 rfl (by first | rfl | decide | (simp; done) | omega) ?_; refine Af (Ab (Aj (Se rfl ?_)))
 first | refine A3 rfl rfl _ rfl .free rfl ?_ | refine A4 rfl rfl _ rfl .free rfl ?_
 refine Ej rfl .free rfl ?_; refine Oa rfl (Aa (Ab (Se rfl (Oh rfl ?_)))); refine A6 rfl .free rfl ?_; refine Om rfl ?_
 first | refine A3 rfl rfl _ rfl .free rfl ?_ | refine A4 rfl rfl _ rfl .free rfl ?_
 refine Du rfl .free rfl ?_; refine Ca rfl (E6 _ (Nat.lt_succ_self _) (hf.as 1 a.tree (by omega) rfl) hok.1.1 _) ?_; rintro _ _ _ _ ⟨rfl, rfl, rfl⟩; refine Aa ?_; refine Ar rfl ?_ ?_
 ·intro c1
  try simp only [nb] at c1
  have hva : a.value = true := c1
  refine Bw rfl ?_; refine Ah rfl ?_; refine Or rfl rfl rfl ?_; refine Om rfl (Aa ?_); refine Bu ?_; refine Se rfl (Oc rfl rfl rfl (Aa (Ab ?_))); refine Cr rfl (by first | rfl | decide | (simp; done) | omega) ?_; refine Bw rfl ?_; refine Ab (Se rfl ?_); refine Az rfl .free rfl ?_; refine Ca rfl (Bi hf.rep _) ?_; rintro _ _ _ _ ⟨rfl, rfl, rfl⟩; rw [show (Ex.ite a b d).tree.head = [105, 102] from rfl]
  have hturn : (Ex.ite a b d).step = (Ex.ite a b d).turn := by simp only [Ex.step, hva, Bool.true_eq_false, if_false]
  refine Aa (Aj (Ab (Se rfl (Od rfl rfl rfl (Oa rfl (Aa ?_))))))
  first | refine Sf rfl (by decide) ?_ | refine Ap (by simp [look, Ba, *]) ?_
  refine Se rfl (Od rfl rfl rfl (Oa rfl (Aa ?_)))
  first | refine Sf rfl (by decide) ?_ | refine Ap (by simp [look, Ba, *]) ?_
  refine Ah rfl (Od rfl rfl rfl (Oa rfl (Aa ?_)))
  first | refine Sf rfl (by decide) ?_ | refine Ap (by simp [look, Ba, *]) ?_
  refine Se rfl (Od rfl rfl rfl (Oa rfl (Aa ?_)))
  first | refine St rfl (rfl) ?_ | refine Bj (by simp [look, Ba, *]) ?_
  refine Se rfl (Oh rfl ?_); refine A6 rfl .free rfl ?_
  first | refine A3 rfl rfl 1 rfl .free rfl ?_ | refine A4 rfl rfl 1 rfl .free rfl ?_
  refine Du rfl .free rfl ?_; refine Ax .free rfl ?_; intro b11; refine Bk rfl rfl rfl rfl .free ?_; refine Aa (Aj (Se rfl ?_)); refine Az rfl .free rfl ?_; refine Ca rfl (By (hf.as 1 a.tree (by omega) rfl) _) ?_; rintro _ _ _ _ ⟨rfl, rfl, rfl⟩; refine Ck rfl .free rfl ?_; refine Oa rfl (Aa ?_); refine Ar rfl ?_ ?_
  ·intro c7
   try simp only [nb] at c7
   have hno : (Ex.ite a b d).turn = none := by
    cases hty : (Ex.ite a b d).turn with
    | none => rfl
    | some e' =>
     obtain ⟨p, rfl, rfl⟩ := Jc hty
     exact absurd c7 (by simp [Ex.tree, Tree.parts])
   refine Af (Al (Al (Se rfl ?_))); refine Bn rfl rfl rfl .free rfl ?_; refine Bk rfl rfl rfl rfl .free ?_; refine Oa rfl (Aa ?_); refine Ad (.c rfl (.tmp rfl .nil)) ?_
   exact ⟨_, L, hle, Ay, SP.none' (by rw [hturn, hno])⟩
  intro c7
  try simp only [nb] at c7
  obtain ⟨p, rfl⟩ := Iy (show a.tree.parts.isEmpty = true by simpa using c7) hva; refine Se rfl (Oh rfl ?_); refine A6 rfl .free rfl ?_; refine Od rfl rfl rfl (Oa rfl (Aa ?_)); refine Ar rfl ?_ ?_
  ·intro c8
   try simp only [nb] at c8
   refine Se rfl (Oh rfl ?_); refine A6 rfl .free rfl ?_
   first | refine A3 rfl rfl 2 rfl .free rfl ?_ | refine A4 rfl rfl 2 rfl .free rfl ?_
   refine Du rfl .free rfl ?_; refine Bk rfl rfl rfl rfl .free ?_; refine Oa rfl (Aa ?_); refine Ad (.c rfl (.tmp rfl .nil)) ?_; refine ⟨_, L, hle, Ay, b.tree, _, by rw [hturn]; rfl, hf.as 2 b.tree (by omega) rfl, fun e' he' => ?_, rfl⟩; rw [hturn] at he'; obtain rfl := Option.some.inj he'; rw [if_pos (show p = [48] from c8)]
  intro c8
  try simp only [nb] at c8
  refine Se rfl (Oh rfl ?_); refine A6 rfl .free rfl ?_
  first | refine A3 rfl rfl 3 rfl .free rfl ?_ | refine A4 rfl rfl 3 rfl .free rfl ?_
  refine Du rfl .free rfl ?_; refine Bk rfl rfl rfl rfl .free ?_; refine Oa rfl (Aa ?_); refine Ad (.c rfl (.tmp rfl .nil)) ?_; refine ⟨_, L, hle, Ay, d.tree, _, by rw [hturn]; rfl, hf.as 3 d.tree (by omega) rfl, fun e' he' => ?_, rfl⟩; rw [hturn] at he'; obtain rfl := Option.some.inj he'; rw [if_neg (show ¬ p = [48] from c8)]
 intro c1
 try simp only [nb] at c1
 have hva : a.value = false := by simpa using c1
 have hst : (Ex.ite a b d).step = a.step.map fun q => .ite q b d := by simp only [Ex.step, hva, if_true]
 refine Af (Se rfl (Oh rfl ?_)); refine A6 rfl .free rfl ?_; refine Om rfl ?_
 first | refine A3 rfl rfl _ rfl .free rfl ?_ | refine A4 rfl rfl _ rfl .free rfl ?_
 refine Du rfl .free rfl ?_; refine Ca rfl (ihn ht (by omega) (hf.as 1 a.tree (by omega) rfl) hok.1.1 _) ?_; rintro _ J1 _ e1 ⟨t1, cs1, rfl, hr, hte, rfl⟩; obtain ⟨o1, k1, _, rfl, -⟩ := hr.open
 have hf := hf.mono e1
 have hle := hle.trans e1
 have hk := hk.mono e1
 refine Om rfl (Oe rfl rfl (Oe rfl rfl ?_)); refine Ax .free rfl ?_; intro b6; refine Bk rfl rfl rfl rfl .free ?_; refine Oa rfl (Aa (Se rfl (Oh rfl ?_))); refine A6 rfl .free rfl ?_; refine Ca rfl (Fv ((hcs _ rfl).mono hle) (by have := hcl.length; omega) hcl.plain hpos hp _) ?_; rintro _ _ _ _ ⟨bc, sp, cc, rfl, hcc, rfl, rfl⟩
 simp only [show (Ex.ite a b d).tree.parts = [.node Fs [], a.tree, b.tree, d.tree] from rfl, Co, List.cons_append, List.nil_append]
 refine Bn rfl rfl rfl .free rfl ?_; refine Ax .free rfl ?_; intro b8; refine Bk rfl rfl rfl rfl .free ?_; refine Aa (Se rfl (Oh rfl ?_)); refine A6 rfl .free rfl ?_; refine Om rfl ?_; refine Az rfl .free rfl ?_
 first | refine A3 rfl rfl _ rfl .free rfl ?_ | refine A4 rfl rfl _ rfl .free rfl ?_
 refine Bk rfl rfl rfl rfl .free ?_; refine Aa (Se rfl ?_); refine Az rfl .free rfl ?_; refine Om rfl ?_; refine Bk rfl rfl rfl rfl .free ?_; refine Oa rfl (Aa ?_); refine Bg (fun w h => h.f1) (Be ?_); intro hz
 have hf := hf.mono hz
 refine Ad (.c rfl (.tmp rfl .nil)) ?_; refine ⟨_, L, hle.trans hz, Ay, .node [] [.node Fs [], t1, b.tree, d.tree], [.string (str []), .slice (some ⟨bc, 0, none⟩) (Ex.ite a b d).tree.parts.length cc], ?_, .mk' rfl (.cons (hf.as 0 (.node Fs []) (by omega) rfl) (.cons (hr.mono hz) (.cons (hf.as 2 (b.tree) (by omega) rfl) (.cons (hf.as 3 (d.tree) (by omega) rfl) (.nil))))) (fun y hy => by cases hy; exact A5 (xs := [_, _, _, _, _, _, _, _])) (by simp) hcc (by simp [As]) hp, ?_, rfl⟩
 ·rw [C9 hst]; rfl
 ·intro e' he'; rw [hst] at he'; obtain ⟨q, hq, rfl⟩ := Option.map_eq_some_iff.1 he'; rw [hte q hq]; rfl
set_option maxHeartbeats 1000000 in
theorem Z8 {N : Nat} (ihn : Q5 N) {z : Au} {a b : Ex} {I : Heap} (ht : Tab I) {cs : List Value} (hlt : SizeOf.sizeOf (Ex.lt z a b) < N + 1) (h : Rep I (Ex.lt z a b).tree cs) (hok : (Ex.lt z a b).ok = true) (L : Bl) :
  Fun Tryz.prog 66 [.agg cs.toArray] I L (SP (Ex.lt z a b).step L) := by
 obtain ⟨oa, c, oaf, cf, rfl, hf, hcl, hcs⟩ := h.cells
 have hpos : 0 < (Ex.lt z a b).tree.parts.length := by show 0 < 4; decide
 obtain ⟨xa, rfl⟩ : ∃ xa, oa = some xa := ⟨_, Cq hf.nil hpos⟩
 have hlen : (Ex.lt z a b).tree.parts.length = 4 := rfl
 have hp := hf.len
 have hev : Tw (Ex.lt z a b).tree = [2] := rfl
 simp only [Ex.lt.sizeOf_spec] at hlt
 have hok0 := hok
 simp only [Ex.ok, Bool.and_eq_true, decide_eq_true_eq] at hok
 obtain ⟨_, hrl⟩ : ∃ _ : True, RepL I (Ex.lt z a b).tree.parts _ := ⟨trivial, hcl⟩
 simp only [show (Ex.lt z a b).tree.parts = [.node C4 [], .node z [], a.tree, b.tree] from rfl, Co, List.cons_append, List.nil_append] at hrl
 refine Ai (by simp) ?_; refine Se rfl ?_; refine Cd rfl rfl .free rfl ?_; intro b1; refine Ax .free rfl ?_; intro b2; refine Oa rfl (Aa (Ab (Se rfl ?_))); refine Az rfl .free rfl ?_; refine Ca rfl (Dj hf.rep _) ?_; rintro _ J0 _ e0 ⟨ok, ck, rfl, hk, rfl⟩
 have hf := hf.mono e0
 have ht := ht.mono e0
 have hle := e0
 rw [hev] at hk; rw [hev]; refine On rfl (Om rfl (Aa (Aj ?_))); refine Dq ?_; refine Se rfl (Oc rfl rfl rfl (Aa (Ab ?_))); refine B6 rfl (by first | rfl | decide | (simp; done) | omega) ?_; refine Af (Ab (Aj (Se rfl ?_)))
 first | refine A3 rfl rfl _ rfl .free rfl ?_ | refine A4 rfl rfl _ rfl .free rfl ?_
 refine Ej rfl .free rfl ?_; refine Oa rfl (Aa (Ab (Se rfl (Oh rfl ?_)))); refine A6 rfl .free rfl ?_; refine Om rfl ?_
 first | refine A3 rfl rfl _ rfl .free rfl ?_ | refine A4 rfl rfl _ rfl .free rfl ?_
 refine Du rfl .free rfl ?_; refine Ca rfl (E6 _ (Nat.lt_succ_self _) (hf.as 2 a.tree (by omega) rfl) hok.1.2 _) ?_; rintro _ _ _ _ ⟨rfl, rfl, rfl⟩; refine Aa ?_; refine Ar rfl ?_ ?_
 ·intro c1
  try simp only [nb] at c1
  have hva : a.value = true := c1
  refine Bw rfl ?_; refine Ah rfl ?_; refine Or rfl rfl rfl ?_; refine Om rfl (Aa ?_); refine Bu ?_; refine Se rfl (Oc rfl rfl rfl (Aa (Ab ?_))); refine Cr rfl (by first | rfl | decide | (simp; done) | omega) ?_; refine Bw rfl ?_; refine Ab (Se rfl ?_); refine Az rfl .free rfl ?_; refine Ca rfl (Bi hf.rep _) ?_; rintro _ _ _ _ ⟨rfl, rfl, rfl⟩; rw [show (Ex.lt z a b).tree.head = [108, 101, 116] from rfl]
  have hturn : (Ex.lt z a b).step = (Ex.lt z a b).turn := by simp only [Ex.step, hva, Bool.true_eq_false, if_false]
  refine Aa (Aj (Ab (Se rfl (Od rfl rfl rfl (Oa rfl (Aa ?_))))))
  first | refine Sf rfl (by decide) ?_ | refine Ap (by simp [look, Ba, *]) ?_
  refine Se rfl (Od rfl rfl rfl (Oa rfl (Aa ?_)))
  first | refine Sf rfl (by decide) ?_ | refine Ap (by simp [look, Ba, *]) ?_
  refine Ah rfl (Od rfl rfl rfl (Oa rfl (Aa ?_)))
  first | refine Sf rfl (by decide) ?_ | refine Ap (by simp [look, Ba, *]) ?_
  refine Se rfl (Od rfl rfl rfl (Oa rfl (Aa ?_)))
  first | refine Sf rfl (by decide) ?_ | refine Ap (by simp [look, Ba, *]) ?_
  refine Se rfl (Od rfl rfl rfl (Oa rfl (Aa ?_)))
  first | refine St rfl (rfl) ?_ | refine Bj (by simp [look, Ba, *]) ?_
  refine Ab ?_; refine B8 16 rfl rfl ?_; refine Da 0 rfl (Ag rfl) ?_; refine Dt 1 [14] rfl (Bd rfl) ?_
  first | refine Da 2 rfl (A1 rfl rfl 3 rfl) ?_ | refine Da 2 rfl (A2 rfl rfl 3 rfl) ?_
  refine Dt 3 [14] rfl (A8 rfl) ?_; refine Da 4 rfl (Ag rfl) ?_; refine Dt 5 [14] rfl (Bd rfl) ?_
  first | refine Da 6 rfl (A1 rfl rfl 1 rfl) ?_ | refine Da 6 rfl (A2 rfl rfl 1 rfl) ?_
  refine Da 7 rfl (A9 rfl) ?_; refine Dt 8 [14] rfl (Hd rfl) ?_; refine Da 9 rfl (Ag rfl) ?_; refine Dt 10 [14] rfl (Bd rfl) ?_
  first | refine Da 11 rfl (A1 rfl rfl 2 rfl) ?_ | refine Da 11 rfl (A2 rfl rfl 2 rfl) ?_
  refine Dt 12 [14] rfl (A8 rfl) ?_; refine Dc 13 rfl rfl (Md _ (Nat.lt_succ_self _) (hf.as 3 b.tree (by omega) rfl) hok.2 z hok.1.1 (hf.as 2 a.tree (by omega) rfl) _) ?_; rintro _ J2 _ e2 ⟨cs2, rfl, hr2, rfl⟩; obtain ⟨o2, k2, _, rfl, -⟩ := hr2.open
  have hle := hle.trans e2
  refine Hx ?_; refine Dx 14 rfl rfl rfl rfl ?_; refine Db 15 rfl (Aw rfl) ?_; refine Ao (by kernel_rfl) ?_; refine Ad (.c rfl (.tmp rfl .nil)) ?_; refine ⟨_, L, hle, Ay, (b.put z a).tree, _, by rw [hturn]; rfl, hr2, fun e' he' => ?_, rfl⟩; rw [hturn] at he'; obtain rfl := Option.some.inj he'
  rfl
 intro c1
 try simp only [nb] at c1
 have hva : a.value = false := by simpa using c1
 have hst : (Ex.lt z a b).step = a.step.map fun q => .lt z q b := by simp only [Ex.step, hva, if_true]
 refine Af (Se rfl (Oh rfl ?_)); refine A6 rfl .free rfl ?_; refine Om rfl ?_
 first | refine A3 rfl rfl _ rfl .free rfl ?_ | refine A4 rfl rfl _ rfl .free rfl ?_
 refine Du rfl .free rfl ?_; refine Ca rfl (ihn ht (by omega) (hf.as 2 a.tree (by omega) rfl) hok.1.2 _) ?_; rintro _ J1 _ e1 ⟨t1, cs1, rfl, hr, hte, rfl⟩; obtain ⟨o1, k1, _, rfl, -⟩ := hr.open
 have hf := hf.mono e1
 have hle := hle.trans e1
 have hk := hk.mono e1
 refine Om rfl (Oe rfl rfl (Oe rfl rfl ?_)); refine Ax .free rfl ?_; intro b6; refine Bk rfl rfl rfl rfl .free ?_; refine Oa rfl (Aa (Se rfl (Oh rfl ?_))); refine A6 rfl .free rfl ?_; refine Ca rfl (Fv ((hcs _ rfl).mono hle) (by have := hcl.length; omega) hcl.plain hpos hp _) ?_; rintro _ _ _ _ ⟨bc, sp, cc, rfl, hcc, rfl, rfl⟩
 simp only [show (Ex.lt z a b).tree.parts = [.node C4 [], .node z [], a.tree, b.tree] from rfl, Co, List.cons_append, List.nil_append]
 refine Bn rfl rfl rfl .free rfl ?_; refine Ax .free rfl ?_; intro b8; refine Bk rfl rfl rfl rfl .free ?_; refine Aa (Se rfl (Oh rfl ?_)); refine A6 rfl .free rfl ?_; refine Om rfl ?_; refine Az rfl .free rfl ?_
 first | refine A3 rfl rfl _ rfl .free rfl ?_ | refine A4 rfl rfl _ rfl .free rfl ?_
 refine Bk rfl rfl rfl rfl .free ?_; refine Aa (Se rfl ?_); refine Az rfl .free rfl ?_; refine Om rfl ?_; refine Bk rfl rfl rfl rfl .free ?_; refine Oa rfl (Aa ?_); refine Bg (fun w h => h.f1) (Be ?_); intro hz
 have hf := hf.mono hz
 refine Ad (.c rfl (.tmp rfl .nil)) ?_; refine ⟨_, L, hle.trans hz, Ay, .node [] [.node C4 [], .node z [], t1, b.tree], [.string (str []), .slice (some ⟨bc, 0, none⟩) (Ex.lt z a b).tree.parts.length cc], ?_, .mk' rfl (.cons (hf.as 0 (.node C4 []) (by omega) rfl) (.cons (hf.as 1 (.node z []) (by omega) rfl) (.cons (hr.mono hz) (.cons (hf.as 3 (b.tree) (by omega) rfl) (.nil))))) (fun y hy => by cases hy; exact A5 (xs := [_, _, _, _, _, _, _, _])) (by simp) hcc (by simp [As]) hp, ?_, rfl⟩
 ·rw [C9 hst]; rfl
 ·intro e' he'; rw [hst] at he'; obtain ⟨q, hq, rfl⟩ := Option.map_eq_some_iff.1 he'; rw [hte q hq]; rfl
set_option maxHeartbeats 1000000 in
theorem Z7 {N : Nat} (ihn : Q5 N) {g z : Au} {s t : Ty} {b : Ex} {I : Heap} (ht : Tab I) {cs : List Value} (hlt : SizeOf.sizeOf (Ex.fn g z s t b) < N + 1) (h : Rep I (Ex.fn g z s t b).tree cs) (hok : (Ex.fn g z s t b).ok = true) (L : Bl) :
  Fun Tryz.prog 66 [.agg cs.toArray] I L (SP (Ex.fn g z s t b).step L) := by
 obtain ⟨oa, c, oaf, cf, rfl, hf, hcl, hcs⟩ := h.cells
 have hpos : 0 < (Ex.fn g z s t b).tree.parts.length := by show 0 < 6; decide
 obtain ⟨xa, rfl⟩ : ∃ xa, oa = some xa := ⟨_, Cq hf.nil hpos⟩
 have hlen : (Ex.fn g z s t b).tree.parts.length = 6 := rfl
 have hp := hf.len
 have hev : Tw (Ex.fn g z s t b).tree = [] := rfl
 simp only [Ex.fn.sizeOf_spec] at hlt
 have hok0 := hok
 simp only [Ex.ok, Bool.and_eq_true, decide_eq_true_eq] at hok
 obtain ⟨_, hrl⟩ : ∃ _ : True, RepL I (Ex.fn g z s t b).tree.parts _ := ⟨trivial, hcl⟩
 simp only [show (Ex.fn g z s t b).tree.parts = [.node Dh [], .node g [], .node z [], s.tree, t.tree, b.tree] from rfl, Co, List.cons_append, List.nil_append] at hrl
 refine Ai (by simp) ?_; refine Se rfl ?_; refine Cd rfl rfl .free rfl ?_; intro b1; refine Ax .free rfl ?_; intro b2; refine Oa rfl (Aa (Ab (Se rfl ?_))); refine Az rfl .free rfl ?_; refine Ca rfl (Dj hf.rep _) ?_; rintro _ J0 _ e0 ⟨ok, ck, rfl, hk, rfl⟩
 have hf := hf.mono e0
 have ht := ht.mono e0
 have hle := e0
 rw [hev] at hk; rw [hev]; refine On rfl (Om rfl (Aa (Aj ?_))); refine Dq ?_; refine Se rfl (Oc rfl rfl rfl (Aa (Ab ?_))); refine Cr rfl (by first | rfl | decide | (simp; done) | omega) ?_; refine Bw rfl ?_; refine Ab (Se rfl ?_); refine Az rfl .free rfl ?_; refine Ca rfl (Bi hf.rep _) ?_; rintro _ _ _ _ ⟨rfl, rfl, rfl⟩; rw [show (Ex.fn g z s t b).tree.head = [102, 117, 110] from rfl]
 have hturn : (Ex.fn g z s t b).step = (Ex.fn g z s t b).turn := rfl
 refine Aa (Aj (Ab (Se rfl (Od rfl rfl rfl (Oa rfl (Aa ?_))))))
 first | refine Sf rfl (by decide) ?_ | refine Ap (by simp [look, Ba, *]) ?_
 refine Se rfl (Od rfl rfl rfl (Oa rfl (Aa ?_)))
 first | refine Sf rfl (by decide) ?_ | refine Ap (by simp [look, Ba, *]) ?_
 refine Ah rfl (Od rfl rfl rfl (Oa rfl (Aa ?_)))
 first | refine Sf rfl (by decide) ?_ | refine Ap (by simp [look, Ba, *]) ?_
 refine Se rfl (Od rfl rfl rfl (Oa rfl (Aa ?_)))
 first | refine Sf rfl (by decide) ?_ | refine Ap (by simp [look, Ba, *]) ?_
 refine Se rfl (Od rfl rfl rfl (Oa rfl (Aa ?_)))
 first | refine Sf rfl (by decide) ?_ | refine Ap (by simp [look, Ba, *]) ?_
 refine Se rfl (Od rfl rfl rfl (Oa rfl (Aa ?_)))
 first | refine Sf rfl (by decide) ?_ | refine Ap (by simp [look, Ba, *]) ?_
 refine Ab (Se rfl (Od rfl rfl rfl (Oa rfl (Aa ?_))))
 first | refine Sf rfl (by decide) ?_ | refine Ap (by simp [look, Ba, *]) ?_
 refine Ah rfl (Od rfl rfl rfl (Oa rfl (Aa ?_)))
 first | refine Sf rfl (by decide) ?_ | refine Ap (by simp [look, Ba, *]) ?_
 refine Af (Al (Ab ?_))
 have hno : (Ex.fn g z s t b).turn = none := by
  first
   | rfl
   | (cases a <;> first | rfl | (cases b <;> rfl))
 refine Ah rfl ?_; refine Bn rfl rfl rfl .free rfl ?_; refine Bk rfl rfl rfl rfl .free ?_; refine Oa rfl (Aa ?_); refine Ad (.c rfl (.tmp rfl .nil)) ?_
 exact ⟨_, L, hle, Ay, SP.none' (by rw [hturn, hno])⟩
set_option maxHeartbeats 1000000 in
theorem Z9 {N : Nat} (ihn : Q5 N) {o : U2} {a : Ex} {I : Heap} (ht : Tab I) {cs : List Value} (hlt : SizeOf.sizeOf (Ex.un o a) < N + 1) (h : Rep I (Ex.un o a).tree cs) (hok : (Ex.un o a).ok = true) (L : Bl) :
  Fun Tryz.prog 66 [.agg cs.toArray] I L (SP (Ex.un o a).step L) := by
 obtain ⟨oa, c, oaf, cf, rfl, hf, hcl, hcs⟩ := h.cells
 have hpos : 0 < (Ex.un o a).tree.parts.length := by show 0 < 2; decide
 obtain ⟨xa, rfl⟩ : ∃ xa, oa = some xa := ⟨_, Cq hf.nil hpos⟩
 have hlen : (Ex.un o a).tree.parts.length = 2 := rfl
 have hp := hf.len
 have hev : Tw (Ex.un o a).tree = [1] := by cases o <;> rfl
 simp only [Ex.un.sizeOf_spec] at hlt
 have hok0 := hok
 simp only [Ex.ok, Bool.and_eq_true, decide_eq_true_eq] at hok
 obtain ⟨_, hrl⟩ : ∃ _ : True, RepL I (Ex.un o a).tree.parts _ := ⟨trivial, hcl⟩
 simp only [show (Ex.un o a).tree.parts = [.node o.txt [], a.tree] from rfl, Co, List.cons_append, List.nil_append] at hrl
 refine Ai (by simp) ?_; refine Se rfl ?_; refine Cd rfl rfl .free rfl ?_; intro b1; refine Ax .free rfl ?_; intro b2; refine Oa rfl (Aa (Ab (Se rfl ?_))); refine Az rfl .free rfl ?_; refine Ca rfl (Dj hf.rep _) ?_; rintro _ J0 _ e0 ⟨ok, ck, rfl, hk, rfl⟩
 have hf := hf.mono e0
 have ht := ht.mono e0
 have hle := e0
 rw [hev] at hk; rw [hev]; refine On rfl (Om rfl (Aa (Aj ?_))); refine Dq ?_; refine Se rfl (Oc rfl rfl rfl (Aa (Ab ?_))); refine B6 rfl (by first | rfl | decide | (simp; done) | omega) ?_; refine Af (Ab (Aj (Se rfl ?_)))
 first | refine A3 rfl rfl _ rfl .free rfl ?_ | refine A4 rfl rfl _ rfl .free rfl ?_
 refine Ej rfl .free rfl ?_; refine Oa rfl (Aa (Ab (Se rfl (Oh rfl ?_)))); refine A6 rfl .free rfl ?_; refine Om rfl ?_
 first | refine A3 rfl rfl _ rfl .free rfl ?_ | refine A4 rfl rfl _ rfl .free rfl ?_
 refine Du rfl .free rfl ?_; refine Ca rfl (E6 _ (Nat.lt_succ_self _) (hf.as 1 a.tree (by omega) rfl) hok _) ?_; rintro _ _ _ _ ⟨rfl, rfl, rfl⟩; refine Aa ?_; refine Ar rfl ?_ ?_
 ·intro c1
  try simp only [nb] at c1
  have hva : a.value = true := c1
  refine Bw rfl ?_; refine Ah rfl ?_; refine Or rfl rfl rfl ?_; refine Om rfl (Aa ?_); refine Bu ?_; refine Se rfl (Oc rfl rfl rfl (Aa (Ab ?_))); refine Cr rfl (by first | rfl | decide | (simp; done) | omega) ?_; refine Bw rfl ?_; refine Ab (Ab ?_)
  rcases o with _ | _
  ·skip
   refine Ah rfl ?_; refine Az rfl .free rfl ?_; refine Ca rfl (Bi hf.rep _) ?_; rintro _ _ _ _ ⟨rfl, rfl, rfl⟩; rw [show (Ex.un .fst a).tree.head = [102, 115, 116] from rfl]
   have hturn : (Ex.un .fst a).step = (Ex.un .fst a).turn := by simp only [Ex.step, hva, Bool.true_eq_false, if_false]
   refine Aa (Aj (Ab (Se rfl (Od rfl rfl rfl (Oa rfl (Aa ?_))))))
   first | refine Sf rfl (by decide) ?_ | refine Ap (by simp [look, Ba, *]) ?_
   refine Se rfl (Od rfl rfl rfl (Oa rfl (Aa ?_)))
   first | refine Sf rfl (by decide) ?_ | refine Ap (by simp [look, Ba, *]) ?_
   refine Ah rfl (Od rfl rfl rfl (Oa rfl (Aa ?_)))
   first | refine Sf rfl (by decide) ?_ | refine Ap (by simp [look, Ba, *]) ?_
   refine Se rfl (Od rfl rfl rfl (Oa rfl (Aa ?_)))
   first | refine Sf rfl (by decide) ?_ | refine Ap (by simp [look, Ba, *]) ?_
   refine Se rfl (Od rfl rfl rfl (Oa rfl (Aa ?_)))
   first | refine Sf rfl (by decide) ?_ | refine Ap (by simp [look, Ba, *]) ?_
   refine Se rfl (Od rfl rfl rfl (Oa rfl (Aa ?_)))
   first | refine Sf rfl (by decide) ?_ | refine Ap (by simp [look, Ba, *]) ?_
   refine Ab (Se rfl (Od rfl rfl rfl (Oa rfl (Aa ?_))))
   first | refine St rfl (rfl) ?_ | refine Bj (by simp [look, Ba, *]) ?_
   refine Af ?_
   first | refine St rfl (rfl) ?_ | refine Bj (by simp [look, Ba, *]) ?_
   refine Se rfl (Oh rfl ?_); refine A6 rfl .free rfl ?_
   first | refine A3 rfl rfl 1 rfl .free rfl ?_ | refine A4 rfl rfl 1 rfl .free rfl ?_
   refine Du rfl .free rfl ?_; refine Ax .free rfl ?_; intro b13; refine Bk rfl rfl rfl rfl .free ?_; refine Aa (Se rfl ?_); refine Az rfl .free rfl ?_; refine Ca rfl (Bi (hf.as 1 a.tree (by omega) rfl) _) ?_; rintro _ _ _ _ ⟨rfl, rfl, rfl⟩; refine Od rfl rfl rfl (Aa ?_); refine Ar rfl ?_ ?_
   ·intro c14
    try simp only [nb] at c14
    obtain ⟨p, q, rfl⟩ := Ex.of_pair (show a.tree.head = Df from c14)
    have hra := hf.as 1 (Ex.bin .pair p q).tree (by omega) rfl
    obtain ⟨oa2, c2, oaf2, cf2, he2, hf2⟩ := hra.at'
    simp only [List.cons.injEq, Value.slice.injEq, and_true, true_and] at he2
    obtain ⟨rfl, rfl⟩ := he2; obtain ⟨xa2, hxa2⟩ : ∃ x, oaf 1 = some x := ⟨_, Cq hf2.nil (show 0 < 3 by decide)⟩
    have hl2 : (Ex.bin .pair p q).tree.parts.length = 3 := rfl
    refine Ab (Se rfl ?_); refine Az rfl .free rfl ?_; refine Ca rfl (Bi hf.rep _) ?_; rintro _ _ _ _ ⟨rfl, rfl, rfl⟩; rw [show (Ex.un .fst (.bin .pair p q)).tree.head = [102, 115, 116] from rfl]; refine Od rfl rfl rfl (Aa ?_)
    first | refine St rfl (rfl) ?_ | refine Bj (by simp [look, Ba, *]) ?_
    refine Se rfl (Oh rfl ?_); refine A6 rfl .free rfl ?_
    first | refine A3 rfl rfl 1 rfl .free rfl ?_ | refine A4 rfl rfl 1 rfl .free rfl ?_
    refine Du rfl .free rfl ?_; refine Bk rfl rfl rfl rfl .free ?_; refine Oa rfl (Aa ?_); refine Ad (.c rfl (.tmp rfl .nil)) ?_; refine ⟨_, L, hle, Ay, p.tree, _, by rw [hturn]; rfl, hf2.as 1 p.tree (by omega) rfl, fun e' he' => ?_, rfl⟩; rw [hturn] at he'; obtain rfl := Option.some.inj he'
    rfl
   intro c14
   try simp only [nb] at c14
   have hno : (Ex.un .fst a).turn = none := by
    cases hty : (Ex.un .fst a).turn with
    | none => rfl
    | some e' =>
     obtain ⟨p, q, rfl, rfl⟩ := Jj hty
     exact absurd rfl c14
   refine Af (Al (Se rfl ?_)); refine Bn rfl rfl rfl .free rfl ?_; refine Bk rfl rfl rfl rfl .free ?_; refine Oa rfl (Aa ?_); refine Ad (.c rfl (.tmp rfl .nil)) ?_
   exact ⟨_, L, hle, Ay, SP.none' (by rw [hturn, hno])⟩
  ·skip
   refine Ah rfl ?_; refine Az rfl .free rfl ?_; refine Ca rfl (Bi hf.rep _) ?_; rintro _ _ _ _ ⟨rfl, rfl, rfl⟩; rw [show (Ex.un .snd a).tree.head = [115, 110, 100] from rfl]
   have hturn : (Ex.un .snd a).step = (Ex.un .snd a).turn := by simp only [Ex.step, hva, Bool.true_eq_false, if_false]
   refine Aa (Aj (Ab (Se rfl (Od rfl rfl rfl (Oa rfl (Aa ?_))))))
   first | refine Sf rfl (by decide) ?_ | refine Ap (by simp [look, Ba, *]) ?_
   refine Se rfl (Od rfl rfl rfl (Oa rfl (Aa ?_)))
   first | refine Sf rfl (by decide) ?_ | refine Ap (by simp [look, Ba, *]) ?_
   refine Ah rfl (Od rfl rfl rfl (Oa rfl (Aa ?_)))
   first | refine Sf rfl (by decide) ?_ | refine Ap (by simp [look, Ba, *]) ?_
   refine Se rfl (Od rfl rfl rfl (Oa rfl (Aa ?_)))
   first | refine Sf rfl (by decide) ?_ | refine Ap (by simp [look, Ba, *]) ?_
   refine Se rfl (Od rfl rfl rfl (Oa rfl (Aa ?_)))
   first | refine Sf rfl (by decide) ?_ | refine Ap (by simp [look, Ba, *]) ?_
   refine Se rfl (Od rfl rfl rfl (Oa rfl (Aa ?_)))
   first | refine Sf rfl (by decide) ?_ | refine Ap (by simp [look, Ba, *]) ?_
   refine Ab (Se rfl (Od rfl rfl rfl (Oa rfl (Aa ?_))))
   first | refine Sf rfl (by decide) ?_ | refine Ap (by simp [look, Ba, *]) ?_
   refine Ah rfl (Od rfl rfl rfl (Oa rfl (Aa ?_)))
   first | refine St rfl (rfl) ?_ | refine Bj (by simp [look, Ba, *]) ?_
   refine Se rfl (Oh rfl ?_); refine A6 rfl .free rfl ?_
   first | refine A3 rfl rfl 1 rfl .free rfl ?_ | refine A4 rfl rfl 1 rfl .free rfl ?_
   refine Du rfl .free rfl ?_; refine Ax .free rfl ?_; intro b13; refine Bk rfl rfl rfl rfl .free ?_; refine Aa (Se rfl ?_); refine Az rfl .free rfl ?_; refine Ca rfl (Bi (hf.as 1 a.tree (by omega) rfl) _) ?_; rintro _ _ _ _ ⟨rfl, rfl, rfl⟩; refine Od rfl rfl rfl (Aa ?_); refine Ar rfl ?_ ?_
   ·intro c14
    try simp only [nb] at c14
    obtain ⟨p, q, rfl⟩ := Ex.of_pair (show a.tree.head = Df from c14)
    have hra := hf.as 1 (Ex.bin .pair p q).tree (by omega) rfl
    obtain ⟨oa2, c2, oaf2, cf2, he2, hf2⟩ := hra.at'
    simp only [List.cons.injEq, Value.slice.injEq, and_true, true_and] at he2
    obtain ⟨rfl, rfl⟩ := he2; obtain ⟨xa2, hxa2⟩ : ∃ x, oaf 1 = some x := ⟨_, Cq hf2.nil (show 0 < 3 by decide)⟩
    have hl2 : (Ex.bin .pair p q).tree.parts.length = 3 := rfl
    refine Ab (Se rfl ?_); refine Az rfl .free rfl ?_; refine Ca rfl (Bi hf.rep _) ?_; rintro _ _ _ _ ⟨rfl, rfl, rfl⟩; rw [show (Ex.un .snd (.bin .pair p q)).tree.head = [115, 110, 100] from rfl]; refine Od rfl rfl rfl (Aa ?_)
    first | refine Sf rfl (by decide) ?_ | refine Ap (by simp [look, Ba, *]) ?_
    refine Af (Se rfl (Oh rfl ?_)); refine A6 rfl .free rfl ?_
    first | refine A3 rfl rfl 2 rfl .free rfl ?_ | refine A4 rfl rfl 2 rfl .free rfl ?_
    refine Du rfl .free rfl ?_; refine Bk rfl rfl rfl rfl .free ?_; refine Oa rfl (Aa ?_); refine Ad (.c rfl (.tmp rfl .nil)) ?_; refine ⟨_, L, hle, Ay, q.tree, _, by rw [hturn]; rfl, hf2.as 2 q.tree (by omega) rfl, fun e' he' => ?_, rfl⟩; rw [hturn] at he'; obtain rfl := Option.some.inj he'
    rfl
   intro c14
   try simp only [nb] at c14
   have hno : (Ex.un .snd a).turn = none := by
    cases hty : (Ex.un .snd a).turn with
    | none => rfl
    | some e' =>
     obtain ⟨p, q, rfl, rfl⟩ := Jj hty
     exact absurd rfl c14
   refine Af (Al (Se rfl ?_)); refine Bn rfl rfl rfl .free rfl ?_; refine Bk rfl rfl rfl rfl .free ?_; refine Oa rfl (Aa ?_); refine Ad (.c rfl (.tmp rfl .nil)) ?_
   exact ⟨_, L, hle, Ay, SP.none' (by rw [hturn, hno])⟩
 intro c1
 try simp only [nb] at c1
 have hva : a.value = false := by simpa using c1
 have hst : (Ex.un o a).step = a.step.map fun q => .un o q := by simp only [Ex.step, hva, if_true]
 refine Af (Se rfl (Oh rfl ?_)); refine A6 rfl .free rfl ?_; refine Om rfl ?_
 first | refine A3 rfl rfl _ rfl .free rfl ?_ | refine A4 rfl rfl _ rfl .free rfl ?_
 refine Du rfl .free rfl ?_; refine Ca rfl (ihn ht (by omega) (hf.as 1 a.tree (by omega) rfl) hok _) ?_; rintro _ J1 _ e1 ⟨t1, cs1, rfl, hr, hte, rfl⟩; obtain ⟨o1, k1, _, rfl, -⟩ := hr.open
 have hf := hf.mono e1
 have hle := hle.trans e1
 have hk := hk.mono e1
 refine Om rfl (Oe rfl rfl (Oe rfl rfl ?_)); refine Ax .free rfl ?_; intro b6; refine Bk rfl rfl rfl rfl .free ?_; refine Oa rfl (Aa (Se rfl (Oh rfl ?_))); refine A6 rfl .free rfl ?_; refine Ca rfl (Fv ((hcs _ rfl).mono hle) (by have := hcl.length; omega) hcl.plain hpos hp _) ?_; rintro _ _ _ _ ⟨bc, sp, cc, rfl, hcc, rfl, rfl⟩
 simp only [show (Ex.un o a).tree.parts = [.node o.txt [], a.tree] from rfl, Co, List.cons_append, List.nil_append]
 refine Bn rfl rfl rfl .free rfl ?_; refine Ax .free rfl ?_; intro b8; refine Bk rfl rfl rfl rfl .free ?_; refine Aa (Se rfl (Oh rfl ?_)); refine A6 rfl .free rfl ?_; refine Om rfl ?_; refine Az rfl .free rfl ?_
 first | refine A3 rfl rfl _ rfl .free rfl ?_ | refine A4 rfl rfl _ rfl .free rfl ?_
 refine Bk rfl rfl rfl rfl .free ?_; refine Aa (Se rfl ?_); refine Az rfl .free rfl ?_; refine Om rfl ?_; refine Bk rfl rfl rfl rfl .free ?_; refine Oa rfl (Aa ?_); refine Bg (fun w h => h.f1) (Be ?_); intro hz
 have hf := hf.mono hz
 refine Ad (.c rfl (.tmp rfl .nil)) ?_; refine ⟨_, L, hle.trans hz, Ay, .node [] [.node o.txt [], t1], [.string (str []), .slice (some ⟨bc, 0, none⟩) (Ex.un o a).tree.parts.length cc], ?_, .mk' rfl (.cons (hf.as 0 (.node o.txt []) (by omega) rfl) (.cons (hr.mono hz) (.nil))) (fun y hy => by cases hy; exact A5 (xs := [_, _, _, _])) (by simp) hcc (by simp [As]) hp, ?_, rfl⟩
 ·rw [C9 hst]; rfl
 ·intro e' he'; rw [hst] at he'; obtain ⟨q, hq, rfl⟩ := Option.map_eq_some_iff.1 he'; rw [hte q hq]; rfl
theorem P2 {e : Ex} (hb : e.bare = true) {I : Heap} {cs : List Value} (h : Rep I e.tree cs) (L : Bl) : Fun Tryz.prog 66 [.agg cs.toArray] I L (SP e.step L) := by
 obtain ⟨oa, c, oaf, cf, rfl, hf⟩ := h.at'
 have hno : e.step = none := by cases e <;> first | rfl | cases hb
 have hev : Tw e.tree = [] := by cases e <;> first | rfl | cases hb
 have hhd : e.tree.head = [] := by cases e <;> first | rfl | cases hb
 refine Ai (by simp) ?_; refine Se rfl ?_; refine Cd rfl rfl .free rfl ?_; intro b1; refine Ax .free rfl ?_; intro b2; refine Oa rfl (Aa (Ab (Se rfl ?_))); refine Az rfl .free rfl ?_; refine Ca rfl (Dj hf.rep _) ?_; rintro _ J0 _ e0 ⟨ok, ck, rfl, hk, rfl⟩
 have hf := hf.mono e0
 have hle := e0
 rw [hev] at hk; rw [hev]; refine On rfl (Om rfl (Aa (Aj ?_))); refine Dq ?_; refine Se rfl (Oc rfl rfl rfl (Aa (Ab ?_))); refine Cr rfl (by first | rfl | decide | (simp; done) | omega) ?_; refine Bw rfl ?_; refine Ab (Se rfl ?_); refine Az rfl .free rfl ?_; refine Ca rfl (Bi hf.rep _) ?_; rintro _ _ _ _ ⟨rfl, rfl, rfl⟩; rw [hhd]; refine Aa (Aj (Ab (Se rfl (Od rfl rfl rfl (Oa rfl (Aa ?_))))))
 first | refine Sf rfl (by decide) ?_ | refine Ap (by simp [look, Ba, *]) ?_
 refine Se rfl (Od rfl rfl rfl (Oa rfl (Aa ?_)))
 first | refine Sf rfl (by decide) ?_ | refine Ap (by simp [look, Ba, *]) ?_
 refine Ah rfl (Od rfl rfl rfl (Oa rfl (Aa ?_)))
 first | refine Sf rfl (by decide) ?_ | refine Ap (by simp [look, Ba, *]) ?_
 refine Se rfl (Od rfl rfl rfl (Oa rfl (Aa ?_)))
 first | refine Sf rfl (by decide) ?_ | refine Ap (by simp [look, Ba, *]) ?_
 refine Se rfl (Od rfl rfl rfl (Oa rfl (Aa ?_)))
 first | refine Sf rfl (by decide) ?_ | refine Ap (by simp [look, Ba, *]) ?_
 refine Se rfl (Od rfl rfl rfl (Oa rfl (Aa ?_)))
 first | refine Sf rfl (by decide) ?_ | refine Ap (by simp [look, Ba, *]) ?_
 refine Ab (Se rfl (Od rfl rfl rfl (Oa rfl (Aa ?_))))
 first | refine Sf rfl (by decide) ?_ | refine Ap (by simp [look, Ba, *]) ?_
 refine Ah rfl (Od rfl rfl rfl (Oa rfl (Aa ?_)))
 first | refine Sf rfl (by decide) ?_ | refine Ap (by simp [look, Ba, *]) ?_
 refine Af (Al (Se rfl ?_)); refine Bn rfl rfl rfl .free rfl ?_; refine Bk rfl rfl rfl rfl .free ?_; refine Oa rfl (Aa ?_); refine Ad (.c rfl (.tmp rfl .nil)) ?_
 exact ⟨_, L, hle, Ay, SP.none' hno⟩
theorem Yb : ∀ N : Nat, Q5 N := by
 intro N
 induction N with
 | zero => intro I ht e cs h; omega
 | succ N ihn =>
  intro I ht e cs hlt h hok L
  cases e with
  | num s => exact P2 rfl h L
  | name s => exact P2 rfl h L
  | bin o p q => exact Yc ihn ht hlt h hok L
  | ite p q r => exact Yd ihn ht hlt h hok L
  | lt z p q => exact Z8 ihn ht hlt h hok L
  | fn h1 z s u q => exact Z7 ihn ht hlt h hok L
  | un o p => exact Z9 ihn ht hlt h hok L
theorem Ou {I : Heap} (ht : Tab I) {e : Ex} {cs : List Value} (h : Rep I e.tree cs) (hok : e.ok = true) (L : Bl) : Fun Tryz.prog 66 [.agg cs.toArray] I L (SP e.step L) := Yb _ ht (Nat.lt_succ_self _) h hok L
end Go.Proofs.YtmfagaajiakgoaaGreatDoor
