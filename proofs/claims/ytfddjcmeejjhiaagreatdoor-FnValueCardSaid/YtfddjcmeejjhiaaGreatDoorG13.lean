/- A step, by the program. No conditions. -/
import Derived.Test.YtfddjcmeejjhiaaGreatDoorG12

namespace Go.Proofs.YtfddjcmeejjhiaaGreatDoor
set_option maxRecDepth 100000
set_option linter.unusedVariables false
set_option linter.unusedSimpArgs false

def SP (o : Option Ex) (L : Bh) : Cs := fun v I' L' => ∃ (t : Tree) (ds : List Value), v = .tuple #[.agg (List.toArray ds), .bool o.isSome] ∧ Rep I' t ds ∧ (∀ e', o = some e' → t = e'.tree) ∧ L = L'
def Q1 (N : Nat) : Prop := ∀ {I : Heap} (_ : Tab I) {e : Ex} {cs : List Value} (_ : SizeOf.sizeOf e < N) (_ : Rep I e.tree cs) (_ : e.ok = true) (L : Bh), Fun Tryz.prog 44 [.agg cs.toArray] I L (SP e.step L)
theorem Ex.of_pair {e : Ex} (h : e.tree.head = C8) : ∃ p q, e = .bin .pair p q := by
 cases e with
 | num s => cases h
 | name s => cases h
 | bin o p q => obtain rfl : o = .pair := B5.txt_inj (o' := .pair) h; exact ⟨p, q, rfl⟩
 | ite a b c => exact absurd h (by decide : ¬ F5 = C8)
 | lt x a b => exact absurd h (by decide : ¬ Dk = C8)
 | fn f x s t b => exact absurd h (by decide : ¬ Dj = C8)
 | un o a => exact absurd (show o.txt = C8 from h) (by cases o <;> decide)
theorem Ih {e : Ex} (h : e.tree.parts.isEmpty = true) (hv : e.value = true) : ∃ s, e = .num s := by
 cases e with
 | num s => exact ⟨s, rfl⟩
 | name s => cases hv
 | _ => cases h
theorem Jt (o : B5) (p q : Ap) : (Js o p q).length ≤ Az := by have := Hf (Mz o p q).1; unfold Az; omega
theorem SP.none' {I : Heap} {o : Option Ex} {L : Bh} (ho : o = none) : SP o L (.tuple #[.agg (List.toArray [.string (str []), .slice none 0 0]), .bool false]) I L :=
 ⟨.node [] [], _, by rw [ho]; rfl, .ofAtom (by decide), fun e' h => (by rw [ho] at h; cases h), rfl⟩
theorem Gl {α β : Type} {o : Option α} {f : α → β} {p : Option β} (h : p = o.map f) : p.isSome = o.isSome := by rw [h]; cases o <;> rfl
set_option maxHeartbeats 1000000 in
theorem X6 {N : Nat} (ihn : Q1 N) {o : B5} {a b : Ex} {I : Heap} (ht : Tab I) {cs : List Value} (hlt : SizeOf.sizeOf (Ex.bin o a b) < N + 1) (h : Rep I (Ex.bin o a b).tree cs) (hok : (Ex.bin o a b).ok = true) (L : Bh) :
  Fun Tryz.prog 44 [.agg cs.toArray] I L (SP (Ex.bin o a b).step L) := by
 obtain ⟨oa, c, oaf, cf, rfl, hf, hcl, hcs⟩ := h.cells
 have hpos : 0 < (Ex.bin o a b).tree.parts.length := by show 0 < 3; decide
 obtain ⟨xa, rfl⟩ : ∃ xa, oa = some xa := ⟨_, Ct hf.nil hpos⟩
 have hlen : (Ex.bin o a b).tree.parts.length = 3 := rfl
 have hp := hf.len
 have hev : Tr (Ex.bin o a b).tree = [1, 2] := by cases o <;> rfl
 simp only [Ex.bin.sizeOf_spec] at hlt
 have hok0 := hok
 simp only [Ex.ok, Bool.and_eq_true, decide_eq_true_eq] at hok
 obtain ⟨_, hrl⟩ : ∃ _ : True, RepL I (Ex.bin o a b).tree.parts _ := ⟨trivial, hcl⟩
 simp only [show (Ex.bin o a b).tree.parts = [.node o.txt [], a.tree, b.tree] from rfl, El, List.cons_append, List.nil_append] at hrl
 refine Ag (by simp) ?_; refine Se rfl ?_; refine B7 rfl rfl .free rfl ?_; intro b1; refine Aw .free rfl ?_; intro b2; refine Oa rfl (Aa (Ab (Se rfl ?_))); refine A3 rfl .free rfl ?_; refine Ca rfl (Dd hf.rep _) ?_; rintro _ J0 _ e0 ⟨ok, ck, rfl, hk, rfl⟩
 have hf := hf.mono e0
 have ht := ht.mono e0
 have hle := e0
 rw [hev] at hk; rw [hev]; refine On rfl (Om rfl (Aa (Aj ?_))); refine Dz ?_; refine Se rfl (Oc rfl rfl rfl (Aa (Ab ?_))); refine Cc rfl (by first | rfl | decide | (simp; done) | omega) ?_; refine Ae (Ab (Aj (Se rfl ?_)))
 first | refine A5 rfl rfl _ rfl .free rfl ?_ | refine A6 rfl rfl _ rfl .free rfl ?_
 refine Ef rfl .free rfl ?_; refine Oa rfl (Aa (Ab (Se rfl (Oh rfl ?_)))); refine A1 rfl .free rfl ?_; refine Om rfl ?_
 first | refine A5 rfl rfl _ rfl .free rfl ?_ | refine A6 rfl rfl _ rfl .free rfl ?_
 refine D9 rfl .free rfl ?_; refine Ca rfl (Et _ (Nat.lt_succ_self _) (hf.as 1 a.tree (by omega) rfl) hok.1 _) ?_; rintro _ _ _ _ ⟨rfl, rfl, rfl⟩; refine Aa ?_; refine As rfl ?_ ?_
 ·intro c1
  try simp only [nb] at c1
  have hva : a.value = true := c1
  refine Bz rfl ?_; refine Af rfl ?_; refine Or rfl rfl rfl ?_; refine Om rfl (Aa ?_); refine B0 ?_; refine Se rfl (Oc rfl rfl rfl (Aa (Ab ?_))); refine Cc rfl (by first | rfl | decide | (simp; done) | omega) ?_; refine Ae (Ab (Aj (Se rfl ?_)))
  first | refine A5 rfl rfl _ rfl .free rfl ?_ | refine A6 rfl rfl _ rfl .free rfl ?_
  refine Ef rfl .free rfl ?_; refine Oa rfl (Aa (Ab (Se rfl (Oh rfl ?_)))); refine A1 rfl .free rfl ?_; refine Om rfl ?_
  first | refine A5 rfl rfl _ rfl .free rfl ?_ | refine A6 rfl rfl _ rfl .free rfl ?_
  refine D9 rfl .free rfl ?_; refine Ca rfl (Et _ (Nat.lt_succ_self _) (hf.as 2 b.tree (by omega) rfl) hok.2 _) ?_; rintro _ _ _ _ ⟨rfl, rfl, rfl⟩; refine Aa ?_; refine As rfl ?_ ?_
  ·intro c1
   try simp only [nb] at c1
   have hvb : b.value = true := c1
   refine Bz rfl ?_; refine Af rfl ?_; refine Or rfl rfl rfl ?_; refine Om rfl (Aa ?_); refine B0 ?_; refine Se rfl (Oc rfl rfl rfl (Aa (Ab ?_))); refine C5 rfl (by first | rfl | decide | (simp; done) | omega) ?_; refine Bz rfl ?_; refine Ab (Ab ?_)
   rcases o with _ | _ | _ | _ | _
   ·skip
    refine Af rfl ?_; refine A3 rfl .free rfl ?_; refine Ca rfl (Bk hf.rep _) ?_; rintro _ _ _ _ ⟨rfl, rfl, rfl⟩; rw [show (Ex.bin .add a b).tree.head = [43] from rfl]
    have hturn : (Ex.bin .add a b).step = (Ex.bin .add a b).turn := by simp only [Ex.step, hva, hvb, Bool.true_eq_false, if_false]
    refine Aa (Aj (Ab (Se rfl (Od rfl rfl rfl (Oa rfl (Aa ?_))))))
    first | refine St rfl (rfl) ?_ | refine Bj (by simp [look, A7, *]) ?_
    refine Ae ?_
    first | refine St rfl (rfl) ?_ | refine Bj (by simp [look, A7, *]) ?_
    refine Ab ?_; refine Dp 12 rfl rfl ?_; refine Vz (X := Nat × Nat) (fun x => [(1, .pointer (some ⟨b1, 0, none⟩)), (2, .pointer (some ⟨b2, 0, none⟩)), (3, .bool false), (9, .pointer (some ⟨x.1, 0, none⟩)), (10, .pointer (some ⟨x.2, 0, none⟩))]) (fun x => J0) (fun x => [(x.2, .cells [.string (str b.tree.atom), .slice (oaf 2) b.tree.parts.length (cf 2)].toArray 39 (0, 0)), (x.1, .cells [.string (str a.tree.atom), .slice (oaf 1) a.tree.parts.length (cf 1)].toArray 39 (0, 0))]) (fun x => True) ?_ ?_
    ·rintro ⟨b9, b10⟩ -
     simp only [List.cons_append, List.nil_append]
     refine Se rfl ?_; refine F4 rfl .free rfl ?_; refine Ca rfl (Bu (hf.as 1 a.tree (by omega) rfl) _) ?_; rintro _ _ _ _ ⟨rfl, rfl, rfl⟩; refine Om rfl ?_
     apply Ci 64 67 rfl
     ·intro g15_3 hk
      try simp only [nb] at g15_3
      refine F4 rfl (.met rfl rfl) rfl ?_; refine B9 rfl (.met rfl rfl) rfl (Bu (hf.as 2 b.tree (by omega) rfl) _) ?_; rintro _ _ _ _ ⟨rfl, rfl, rfl⟩; refine Ot rfl rfl ?_
      exact Ar 2 rfl rfl hk
     ·intro _ hk; refine A0 2 rfl ?_; refine Of rfl rfl ?_
      exact Ar 2 rfl rfl hk
     refine Aa ?_; refine As rfl ?_ ?_
     ·intro c5
      try simp only [nb] at c5
      have hbb : a.tree.parts.isEmpty = true ∧ b.tree.parts.isEmpty = true := by simpa using c5
      obtain ⟨p, rfl⟩ := Ih hbb.1 hva; obtain ⟨q, rfl⟩ := Ih hbb.2 hvb; refine Ab ?_; refine Dp 10 rfl rfl ?_; refine Dt 0 [8] rfl (Cx rfl) ?_
      first | refine Da 2 rfl (Ai rfl) ?_ | refine Da 2 rfl (Bb rfl) ?_
      refine Dt 3 [8] rfl (Vt rfl) ?_
      first | refine Da 4 rfl (Ai rfl) ?_ | refine Da 4 rfl (Bb rfl) ?_
      refine Dt 5 [8] rfl (Vt rfl) ?_; refine Dc 1 rfl rfl (Bk hf.rep _) ?_; rintro _ _ _ _ ⟨rfl, rfl, rfl⟩; refine Hx ?_; refine Dc 6 rfl rfl (Mn ht .add (a := p) (b := q) hok.1 hok.2 _) ?_; rintro _ _ _ _ ⟨rfl, rfl, rfl⟩; refine Hx ?_; refine Dc 7 rfl rfl (Pu (Js .add p q) (Jt _ _ _) _ _) ?_; rintro _ _ _ _ ⟨rfl, rfl, rfl⟩; refine Hx ?_; refine Dx 8 rfl rfl rfl rfl ?_; refine Db 9 rfl (A2 rfl) ?_; refine At (by kernel_rfl) ?_; refine Ad (.c rfl (.tmp rfl .nil)) ?_; refine ⟨_, L, hle, Bf, .node (Js .add p q) [], _, by rw [hturn]; rfl, .ofAtom (Jt _ _ _), fun e' he' => ?_, rfl⟩
      rw [hturn] at he'; obtain rfl := Option.some.inj he'
      rfl
     intro c5
     try simp only [nb] at c5
     have hno : (Ex.bin .add a b).turn = none := by
      cases hty : (Ex.bin .add a b).turn with
      | none => rfl
      | some e' =>
       rcases Ht hty with ⟨f, y, s, t, g, ho, rfl, rfl⟩ | ⟨p, q, ho, rfl, rfl, rfl⟩
       ·cases ho
       ·exact absurd c5 (by simp [Ex.tree, Tree.parts])
     refine Ae (Ak (Se rfl ?_)); refine Bt rfl rfl rfl .free rfl ?_; refine Bn rfl rfl rfl rfl .free ?_; refine Oa rfl (Aa ?_); refine Ad (.c rfl (.tmp rfl .nil)) ?_
     exact ⟨_, L, hle, Bf, SP.none' (by rw [hturn, hno])⟩
    ·intro hkk
     skip
     refine Da 0 rfl (Ai rfl) ?_; refine Dt 1 [10] rfl (Br rfl) ?_
     first | refine Da 2 rfl (Bl rfl rfl 1 rfl) ?_ | refine Da 2 rfl (Bm rfl rfl 1 rfl) ?_
     refine Dt 3 [10] rfl (Bq rfl) ?_; refine Da 4 rfl (Ai rfl) ?_; refine Ld 5 8 9 (by kernel_rfl) ?_ ?_ ?_
     ·skip
      refine Do 5 rfl rfl (Br rfl) .free rfl (.inr Ao) ?_
      first | refine Da 6 rfl (Bl rfl rfl 2 rfl) ?_ | refine Da 6 rfl (Bm rfl rfl 2 rfl) ?_
      refine Ld 7 8 9 (by kernel_rfl) ?_ ?_ ?_
      ·skip
       refine Do 7 rfl rfl (Bq rfl) .free rfl (.inr Ao) ?_; refine C6 8 9 (by kernel_rfl) ?_ ?_
       ·skip
        refine Cl 8 rfl rfl .free rfl (.inr Ao) ?_; intro b9; refine Eb 9 rfl (by kernel_rfl) rfl .free rfl (.inr Ao) ?_; intro b10; refine Dx 10 rfl rfl rfl rfl ?_; refine Dx 11 rfl rfl rfl rfl ?_; refine At (by kernel_rfl) ?_
        exact Bp (E' := [(1, _), (2, _), (3, _), (9, _), (10, _)]) ⟨rfl, rfl, rfl, rfl, rfl, trivial⟩ (Bg (by first | exact fun _ h => h | exact fun _ h => h.perm2) (hkk ⟨b9, b10⟩ trivial))
       ·skip
        refine Cl 9 rfl rfl .free rfl (.inr Ao) ?_; intro b10; refine Eb 8 rfl (by kernel_rfl) rfl .free rfl (.inr Ao) ?_; intro b9; refine Dx 10 rfl rfl rfl rfl ?_; refine Dx 11 rfl rfl rfl rfl ?_; refine At (by kernel_rfl) ?_
        exact Bp (E' := [(1, _), (2, _), (3, _), (9, _), (10, _)]) ⟨rfl, rfl, rfl, rfl, rfl, trivial⟩ (Bg (by first | exact fun _ h => h | exact fun _ h => h.perm2) (hkk ⟨b9, b10⟩ trivial))
      ·skip
       refine Cl 8 rfl rfl .free rfl (.inr Ao) ?_; intro b9; refine C6 7 9 (by kernel_rfl) ?_ ?_
       ·skip
        refine Do 7 rfl rfl (Bq rfl) .free rfl (.inr Ao) ?_; refine Eb 9 rfl (by kernel_rfl) rfl .free rfl (.inr Ao) ?_; intro b10; refine Dx 10 rfl rfl rfl rfl ?_; refine Dx 11 rfl rfl rfl rfl ?_; refine At (by kernel_rfl) ?_
        exact Bp (E' := [(1, _), (2, _), (3, _), (9, _), (10, _)]) ⟨rfl, rfl, rfl, rfl, rfl, trivial⟩ (Bg (by first | exact fun _ h => h | exact fun _ h => h.perm2) (hkk ⟨b9, b10⟩ trivial))
       ·skip
        refine Cl 9 rfl rfl .free rfl (.inr Ao) ?_; intro b10; refine C6 7 10 (by kernel_rfl) ?_ ?_
        ·skip
         refine Do 7 rfl rfl (Bq rfl) .free rfl (.inr Ao) ?_; refine Dx 10 rfl rfl rfl rfl ?_; refine Dx 11 rfl rfl rfl rfl ?_; refine At (by kernel_rfl) ?_
         exact Bp (E' := [(1, _), (2, _), (3, _), (9, _), (10, _)]) ⟨rfl, rfl, rfl, rfl, rfl, trivial⟩ (Bg (by first | exact fun _ h => h | exact fun _ h => h.perm2) (hkk ⟨b9, b10⟩ trivial))
        ·skip
         refine H6 10 rfl rfl rfl rfl rfl rfl .free (.inl (by kernel_rfl)) ?_; refine E3 7 rfl (by kernel_rfl) rfl (Bq rfl) .free rfl (.inl (by kernel_rfl)) ?_; refine Dx 11 rfl rfl rfl rfl ?_; refine At (by kernel_rfl) ?_
         exact Bp (E' := [(1, _), (2, _), (3, _), (9, _), (10, _)]) ⟨rfl, rfl, rfl, rfl, rfl, trivial⟩ (Bg (by first | exact fun _ h => h | exact fun _ h => h.perm2) (hkk ⟨b9, b10⟩ trivial))
      ·skip
       refine Cl 9 rfl rfl .free rfl (.inr Ao) ?_; intro b10; refine C6 7 8 (by kernel_rfl) ?_ ?_
       ·skip
        refine Do 7 rfl rfl (Bq rfl) .free rfl (.inr Ao) ?_; refine Eb 8 rfl (by kernel_rfl) rfl .free rfl (.inr Ao) ?_; intro b9; refine Dx 10 rfl rfl rfl rfl ?_; refine Dx 11 rfl rfl rfl rfl ?_; refine At (by kernel_rfl) ?_
        exact Bp (E' := [(1, _), (2, _), (3, _), (9, _), (10, _)]) ⟨rfl, rfl, rfl, rfl, rfl, trivial⟩ (Bg (by first | exact fun _ h => h | exact fun _ h => h.perm2) (hkk ⟨b9, b10⟩ trivial))
       ·skip
        refine Cl 8 rfl rfl .free rfl (.inr Ao) ?_; intro b9; refine C6 7 10 (by kernel_rfl) ?_ ?_
        ·skip
         refine Do 7 rfl rfl (Bq rfl) .free rfl (.inr Ao) ?_; refine Dx 10 rfl rfl rfl rfl ?_; refine Dx 11 rfl rfl rfl rfl ?_; refine At (by kernel_rfl) ?_
         exact Bp (E' := [(1, _), (2, _), (3, _), (9, _), (10, _)]) ⟨rfl, rfl, rfl, rfl, rfl, trivial⟩ (Bg (by first | exact fun _ h => h | exact fun _ h => h.perm2) (hkk ⟨b9, b10⟩ trivial))
        ·skip
         refine H6 10 rfl rfl rfl rfl rfl rfl .free (.inl (by kernel_rfl)) ?_; refine E3 7 rfl (by kernel_rfl) rfl (Bq rfl) .free rfl (.inl (by kernel_rfl)) ?_; refine Dx 11 rfl rfl rfl rfl ?_; refine At (by kernel_rfl) ?_
         exact Bp (E' := [(1, _), (2, _), (3, _), (9, _), (10, _)]) ⟨rfl, rfl, rfl, rfl, rfl, trivial⟩ (Bg (by first | exact fun _ h => h | exact fun _ h => h.perm2) (hkk ⟨b9, b10⟩ trivial))
     ·skip
      refine Cl 8 rfl rfl .free rfl (.inr Ao) ?_; intro b9; refine C6 5 9 (by kernel_rfl) ?_ ?_
      ·skip
       refine Do 5 rfl rfl (Br rfl) .free rfl (.inr Ao) ?_
       first | refine Da 6 rfl (Bl rfl rfl 2 rfl) ?_ | refine Da 6 rfl (Bm rfl rfl 2 rfl) ?_
       refine C6 7 9 (by kernel_rfl) ?_ ?_
       ·skip
        refine Do 7 rfl rfl (Bq rfl) .free rfl (.inr Ao) ?_; refine Eb 9 rfl (by kernel_rfl) rfl .free rfl (.inr Ao) ?_; intro b10; refine Dx 10 rfl rfl rfl rfl ?_; refine Dx 11 rfl rfl rfl rfl ?_; refine At (by kernel_rfl) ?_
        exact Bp (E' := [(1, _), (2, _), (3, _), (9, _), (10, _)]) ⟨rfl, rfl, rfl, rfl, rfl, trivial⟩ (Bg (by first | exact fun _ h => h | exact fun _ h => h.perm2) (hkk ⟨b9, b10⟩ trivial))
       ·skip
        refine Cl 9 rfl rfl .free rfl (.inr Ao) ?_; intro b10; refine C6 7 10 (by kernel_rfl) ?_ ?_
        ·skip
         refine Do 7 rfl rfl (Bq rfl) .free rfl (.inr Ao) ?_; refine Dx 10 rfl rfl rfl rfl ?_; refine Dx 11 rfl rfl rfl rfl ?_; refine At (by kernel_rfl) ?_
         exact Bp (E' := [(1, _), (2, _), (3, _), (9, _), (10, _)]) ⟨rfl, rfl, rfl, rfl, rfl, trivial⟩ (Bg (by first | exact fun _ h => h | exact fun _ h => h.perm2) (hkk ⟨b9, b10⟩ trivial))
        ·skip
         refine H6 10 rfl rfl rfl rfl rfl rfl .free (.inl (by kernel_rfl)) ?_; refine E3 7 rfl (by kernel_rfl) rfl (Bq rfl) .free rfl (.inl (by kernel_rfl)) ?_; refine Dx 11 rfl rfl rfl rfl ?_; refine At (by kernel_rfl) ?_
         exact Bp (E' := [(1, _), (2, _), (3, _), (9, _), (10, _)]) ⟨rfl, rfl, rfl, rfl, rfl, trivial⟩ (Bg (by first | exact fun _ h => h | exact fun _ h => h.perm2) (hkk ⟨b9, b10⟩ trivial))
      ·skip
       refine Cl 9 rfl rfl .free rfl (.inr Ao) ?_; intro b10; refine C6 5 10 (by kernel_rfl) ?_ ?_
       ·skip
        refine Do 5 rfl rfl (Br rfl) .free rfl (.inr Ao) ?_
        first | refine Da 6 rfl (Bl rfl rfl 2 rfl) ?_ | refine Da 6 rfl (Bm rfl rfl 2 rfl) ?_
        refine C6 7 10 (by kernel_rfl) ?_ ?_
        ·skip
         refine Do 7 rfl rfl (Bq rfl) .free rfl (.inr Ao) ?_; refine Dx 10 rfl rfl rfl rfl ?_; refine Dx 11 rfl rfl rfl rfl ?_; refine At (by kernel_rfl) ?_
         exact Bp (E' := [(1, _), (2, _), (3, _), (9, _), (10, _)]) ⟨rfl, rfl, rfl, rfl, rfl, trivial⟩ (Bg (by first | exact fun _ h => h | exact fun _ h => h.perm2) (hkk ⟨b9, b10⟩ trivial))
        ·skip
         refine H6 10 rfl rfl rfl rfl rfl rfl .free (.inl (by kernel_rfl)) ?_; refine E3 7 rfl (by kernel_rfl) rfl (Bq rfl) .free rfl (.inl (by kernel_rfl)) ?_; refine Dx 11 rfl rfl rfl rfl ?_; refine At (by kernel_rfl) ?_
         exact Bp (E' := [(1, _), (2, _), (3, _), (9, _), (10, _)]) ⟨rfl, rfl, rfl, rfl, rfl, trivial⟩ (Bg (by first | exact fun _ h => h | exact fun _ h => h.perm2) (hkk ⟨b9, b10⟩ trivial))
       ·skip
        refine H6 10 rfl rfl rfl rfl rfl rfl .free (.inl (by kernel_rfl)) ?_; refine E3 5 rfl (by kernel_rfl) rfl (Br rfl) .free rfl (.inl (by kernel_rfl)) ?_
        first | refine Db 6 rfl (Bl rfl rfl 2 rfl) ?_ | refine Db 6 rfl (Bm rfl rfl 2 rfl) ?_
        refine E3 7 rfl (by kernel_rfl) rfl (Bq rfl) .free rfl (.inl (by kernel_rfl)) ?_; refine Dx 11 rfl rfl rfl rfl ?_; refine At (by kernel_rfl) ?_
        exact Bp (E' := [(1, _), (2, _), (3, _), (9, _), (10, _)]) ⟨rfl, rfl, rfl, rfl, rfl, trivial⟩ (Bg (by first | exact fun _ h => h | exact fun _ h => h.perm2) (hkk ⟨b9, b10⟩ trivial))
     ·skip
      refine Cl 9 rfl rfl .free rfl (.inr Ao) ?_; intro b10; refine C6 5 8 (by kernel_rfl) ?_ ?_
      ·skip
       refine Do 5 rfl rfl (Br rfl) .free rfl (.inr Ao) ?_
       first | refine Da 6 rfl (Bl rfl rfl 2 rfl) ?_ | refine Da 6 rfl (Bm rfl rfl 2 rfl) ?_
       refine C6 7 8 (by kernel_rfl) ?_ ?_
       ·skip
        refine Do 7 rfl rfl (Bq rfl) .free rfl (.inr Ao) ?_; refine Eb 8 rfl (by kernel_rfl) rfl .free rfl (.inr Ao) ?_; intro b9; refine Dx 10 rfl rfl rfl rfl ?_; refine Dx 11 rfl rfl rfl rfl ?_; refine At (by kernel_rfl) ?_
        exact Bp (E' := [(1, _), (2, _), (3, _), (9, _), (10, _)]) ⟨rfl, rfl, rfl, rfl, rfl, trivial⟩ (Bg (by first | exact fun _ h => h | exact fun _ h => h.perm2) (hkk ⟨b9, b10⟩ trivial))
       ·skip
        refine Cl 8 rfl rfl .free rfl (.inr Ao) ?_; intro b9; refine C6 7 10 (by kernel_rfl) ?_ ?_
        ·skip
         refine Do 7 rfl rfl (Bq rfl) .free rfl (.inr Ao) ?_; refine Dx 10 rfl rfl rfl rfl ?_; refine Dx 11 rfl rfl rfl rfl ?_; refine At (by kernel_rfl) ?_
         exact Bp (E' := [(1, _), (2, _), (3, _), (9, _), (10, _)]) ⟨rfl, rfl, rfl, rfl, rfl, trivial⟩ (Bg (by first | exact fun _ h => h | exact fun _ h => h.perm2) (hkk ⟨b9, b10⟩ trivial))
        ·skip
         refine H6 10 rfl rfl rfl rfl rfl rfl .free (.inl (by kernel_rfl)) ?_; refine E3 7 rfl (by kernel_rfl) rfl (Bq rfl) .free rfl (.inl (by kernel_rfl)) ?_; refine Dx 11 rfl rfl rfl rfl ?_; refine At (by kernel_rfl) ?_
         exact Bp (E' := [(1, _), (2, _), (3, _), (9, _), (10, _)]) ⟨rfl, rfl, rfl, rfl, rfl, trivial⟩ (Bg (by first | exact fun _ h => h | exact fun _ h => h.perm2) (hkk ⟨b9, b10⟩ trivial))
      ·skip
       refine Cl 8 rfl rfl .free rfl (.inr Ao) ?_; intro b9; refine C6 5 10 (by kernel_rfl) ?_ ?_
       ·skip
        refine Do 5 rfl rfl (Br rfl) .free rfl (.inr Ao) ?_
        first | refine Da 6 rfl (Bl rfl rfl 2 rfl) ?_ | refine Da 6 rfl (Bm rfl rfl 2 rfl) ?_
        refine C6 7 10 (by kernel_rfl) ?_ ?_
        ·skip
         refine Do 7 rfl rfl (Bq rfl) .free rfl (.inr Ao) ?_; refine Dx 10 rfl rfl rfl rfl ?_; refine Dx 11 rfl rfl rfl rfl ?_; refine At (by kernel_rfl) ?_
         exact Bp (E' := [(1, _), (2, _), (3, _), (9, _), (10, _)]) ⟨rfl, rfl, rfl, rfl, rfl, trivial⟩ (Bg (by first | exact fun _ h => h | exact fun _ h => h.perm2) (hkk ⟨b9, b10⟩ trivial))
        ·skip
         refine H6 10 rfl rfl rfl rfl rfl rfl .free (.inl (by kernel_rfl)) ?_; refine E3 7 rfl (by kernel_rfl) rfl (Bq rfl) .free rfl (.inl (by kernel_rfl)) ?_; refine Dx 11 rfl rfl rfl rfl ?_; refine At (by kernel_rfl) ?_
         exact Bp (E' := [(1, _), (2, _), (3, _), (9, _), (10, _)]) ⟨rfl, rfl, rfl, rfl, rfl, trivial⟩ (Bg (by first | exact fun _ h => h | exact fun _ h => h.perm2) (hkk ⟨b9, b10⟩ trivial))
       ·skip
        refine H6 10 rfl rfl rfl rfl rfl rfl .free (.inl (by kernel_rfl)) ?_; refine E3 5 rfl (by kernel_rfl) rfl (Br rfl) .free rfl (.inl (by kernel_rfl)) ?_
        first | refine Db 6 rfl (Bl rfl rfl 2 rfl) ?_ | refine Db 6 rfl (Bm rfl rfl 2 rfl) ?_
        refine E3 7 rfl (by kernel_rfl) rfl (Bq rfl) .free rfl (.inl (by kernel_rfl)) ?_; refine Dx 11 rfl rfl rfl rfl ?_; refine At (by kernel_rfl) ?_
        exact Bp (E' := [(1, _), (2, _), (3, _), (9, _), (10, _)]) ⟨rfl, rfl, rfl, rfl, rfl, trivial⟩ (Bg (by first | exact fun _ h => h | exact fun _ h => h.perm2) (hkk ⟨b9, b10⟩ trivial))
   ·skip
    refine Af rfl ?_; refine A3 rfl .free rfl ?_; refine Ca rfl (Bk hf.rep _) ?_; rintro _ _ _ _ ⟨rfl, rfl, rfl⟩; rw [show (Ex.bin .sub a b).tree.head = [45] from rfl]
    have hturn : (Ex.bin .sub a b).step = (Ex.bin .sub a b).turn := by simp only [Ex.step, hva, hvb, Bool.true_eq_false, if_false]
    refine Aa (Aj (Ab (Se rfl (Od rfl rfl rfl (Oa rfl (Aa ?_))))))
    first | refine Sf rfl (by decide) ?_ | refine Al (by simp [look, A7, *]) ?_
    refine Se rfl (Od rfl rfl rfl (Oa rfl (Aa ?_)))
    first | refine St rfl (rfl) ?_ | refine Bj (by simp [look, A7, *]) ?_
    refine Ae ?_
    first | refine St rfl (rfl) ?_ | refine Bj (by simp [look, A7, *]) ?_
    refine Ab ?_; refine Dp 12 rfl rfl ?_; refine Vz (X := Nat × Nat) (fun x => [(1, .pointer (some ⟨b1, 0, none⟩)), (2, .pointer (some ⟨b2, 0, none⟩)), (3, .bool false), (9, .pointer (some ⟨x.1, 0, none⟩)), (10, .pointer (some ⟨x.2, 0, none⟩))]) (fun x => J0) (fun x => [(x.2, .cells [.string (str b.tree.atom), .slice (oaf 2) b.tree.parts.length (cf 2)].toArray 39 (0, 0)), (x.1, .cells [.string (str a.tree.atom), .slice (oaf 1) a.tree.parts.length (cf 1)].toArray 39 (0, 0))]) (fun x => True) ?_ ?_
    ·rintro ⟨b9, b10⟩ -
     simp only [List.cons_append, List.nil_append]
     refine Se rfl ?_; refine F4 rfl .free rfl ?_; refine Ca rfl (Bu (hf.as 1 a.tree (by omega) rfl) _) ?_; rintro _ _ _ _ ⟨rfl, rfl, rfl⟩; refine Om rfl ?_
     apply Ci 64 67 rfl
     ·intro g15_3 hk
      try simp only [nb] at g15_3
      refine F4 rfl (.met rfl rfl) rfl ?_; refine B9 rfl (.met rfl rfl) rfl (Bu (hf.as 2 b.tree (by omega) rfl) _) ?_; rintro _ _ _ _ ⟨rfl, rfl, rfl⟩; refine Ot rfl rfl ?_
      exact Ar 2 rfl rfl hk
     ·intro _ hk; refine A0 2 rfl ?_; refine Of rfl rfl ?_
      exact Ar 2 rfl rfl hk
     refine Aa ?_; refine As rfl ?_ ?_
     ·intro c5
      try simp only [nb] at c5
      have hbb : a.tree.parts.isEmpty = true ∧ b.tree.parts.isEmpty = true := by simpa using c5
      obtain ⟨p, rfl⟩ := Ih hbb.1 hva; obtain ⟨q, rfl⟩ := Ih hbb.2 hvb; refine Ab ?_; refine Dp 10 rfl rfl ?_; refine Dt 0 [8] rfl (Cx rfl) ?_
      first | refine Da 2 rfl (Ai rfl) ?_ | refine Da 2 rfl (Bb rfl) ?_
      refine Dt 3 [8] rfl (Vt rfl) ?_
      first | refine Da 4 rfl (Ai rfl) ?_ | refine Da 4 rfl (Bb rfl) ?_
      refine Dt 5 [8] rfl (Vt rfl) ?_; refine Dc 1 rfl rfl (Bk hf.rep _) ?_; rintro _ _ _ _ ⟨rfl, rfl, rfl⟩; refine Hx ?_; refine Dc 6 rfl rfl (Mn ht .sub (a := p) (b := q) hok.1 hok.2 _) ?_; rintro _ _ _ _ ⟨rfl, rfl, rfl⟩; refine Hx ?_; refine Dc 7 rfl rfl (Pu (Js .sub p q) (Jt _ _ _) _ _) ?_; rintro _ _ _ _ ⟨rfl, rfl, rfl⟩; refine Hx ?_; refine Dx 8 rfl rfl rfl rfl ?_; refine Db 9 rfl (A2 rfl) ?_; refine At (by kernel_rfl) ?_; refine Ad (.c rfl (.tmp rfl .nil)) ?_; refine ⟨_, L, hle, Bf, .node (Js .sub p q) [], _, by rw [hturn]; rfl, .ofAtom (Jt _ _ _), fun e' he' => ?_, rfl⟩
      rw [hturn] at he'; obtain rfl := Option.some.inj he'
      rfl
     intro c5
     try simp only [nb] at c5
     have hno : (Ex.bin .sub a b).turn = none := by
      cases hty : (Ex.bin .sub a b).turn with
      | none => rfl
      | some e' =>
       rcases Ht hty with ⟨f, y, s, t, g, ho, rfl, rfl⟩ | ⟨p, q, ho, rfl, rfl, rfl⟩
       ·cases ho
       ·exact absurd c5 (by simp [Ex.tree, Tree.parts])
     refine Ae (Ak (Se rfl ?_)); refine Bt rfl rfl rfl .free rfl ?_; refine Bn rfl rfl rfl rfl .free ?_; refine Oa rfl (Aa ?_); refine Ad (.c rfl (.tmp rfl .nil)) ?_
     exact ⟨_, L, hle, Bf, SP.none' (by rw [hturn, hno])⟩
    ·intro hkk
     skip
     refine Da 0 rfl (Ai rfl) ?_; refine Dt 1 [10] rfl (Br rfl) ?_
     first | refine Da 2 rfl (Bl rfl rfl 1 rfl) ?_ | refine Da 2 rfl (Bm rfl rfl 1 rfl) ?_
     refine Dt 3 [10] rfl (Bq rfl) ?_; refine Da 4 rfl (Ai rfl) ?_; refine Ld 5 8 9 (by kernel_rfl) ?_ ?_ ?_
     ·skip
      refine Do 5 rfl rfl (Br rfl) .free rfl (.inr Ao) ?_
      first | refine Da 6 rfl (Bl rfl rfl 2 rfl) ?_ | refine Da 6 rfl (Bm rfl rfl 2 rfl) ?_
      refine Ld 7 8 9 (by kernel_rfl) ?_ ?_ ?_
      ·skip
       refine Do 7 rfl rfl (Bq rfl) .free rfl (.inr Ao) ?_; refine C6 8 9 (by kernel_rfl) ?_ ?_
       ·skip
        refine Cl 8 rfl rfl .free rfl (.inr Ao) ?_; intro b9; refine Eb 9 rfl (by kernel_rfl) rfl .free rfl (.inr Ao) ?_; intro b10; refine Dx 10 rfl rfl rfl rfl ?_; refine Dx 11 rfl rfl rfl rfl ?_; refine At (by kernel_rfl) ?_
        exact Bp (E' := [(1, _), (2, _), (3, _), (9, _), (10, _)]) ⟨rfl, rfl, rfl, rfl, rfl, trivial⟩ (Bg (by first | exact fun _ h => h | exact fun _ h => h.perm2) (hkk ⟨b9, b10⟩ trivial))
       ·skip
        refine Cl 9 rfl rfl .free rfl (.inr Ao) ?_; intro b10; refine Eb 8 rfl (by kernel_rfl) rfl .free rfl (.inr Ao) ?_; intro b9; refine Dx 10 rfl rfl rfl rfl ?_; refine Dx 11 rfl rfl rfl rfl ?_; refine At (by kernel_rfl) ?_
        exact Bp (E' := [(1, _), (2, _), (3, _), (9, _), (10, _)]) ⟨rfl, rfl, rfl, rfl, rfl, trivial⟩ (Bg (by first | exact fun _ h => h | exact fun _ h => h.perm2) (hkk ⟨b9, b10⟩ trivial))
      ·skip
       refine Cl 8 rfl rfl .free rfl (.inr Ao) ?_; intro b9; refine C6 7 9 (by kernel_rfl) ?_ ?_
       ·skip
        refine Do 7 rfl rfl (Bq rfl) .free rfl (.inr Ao) ?_; refine Eb 9 rfl (by kernel_rfl) rfl .free rfl (.inr Ao) ?_; intro b10; refine Dx 10 rfl rfl rfl rfl ?_; refine Dx 11 rfl rfl rfl rfl ?_; refine At (by kernel_rfl) ?_
        exact Bp (E' := [(1, _), (2, _), (3, _), (9, _), (10, _)]) ⟨rfl, rfl, rfl, rfl, rfl, trivial⟩ (Bg (by first | exact fun _ h => h | exact fun _ h => h.perm2) (hkk ⟨b9, b10⟩ trivial))
       ·skip
        refine Cl 9 rfl rfl .free rfl (.inr Ao) ?_; intro b10; refine C6 7 10 (by kernel_rfl) ?_ ?_
        ·skip
         refine Do 7 rfl rfl (Bq rfl) .free rfl (.inr Ao) ?_; refine Dx 10 rfl rfl rfl rfl ?_; refine Dx 11 rfl rfl rfl rfl ?_; refine At (by kernel_rfl) ?_
         exact Bp (E' := [(1, _), (2, _), (3, _), (9, _), (10, _)]) ⟨rfl, rfl, rfl, rfl, rfl, trivial⟩ (Bg (by first | exact fun _ h => h | exact fun _ h => h.perm2) (hkk ⟨b9, b10⟩ trivial))
        ·skip
         refine H6 10 rfl rfl rfl rfl rfl rfl .free (.inl (by kernel_rfl)) ?_; refine E3 7 rfl (by kernel_rfl) rfl (Bq rfl) .free rfl (.inl (by kernel_rfl)) ?_; refine Dx 11 rfl rfl rfl rfl ?_; refine At (by kernel_rfl) ?_
         exact Bp (E' := [(1, _), (2, _), (3, _), (9, _), (10, _)]) ⟨rfl, rfl, rfl, rfl, rfl, trivial⟩ (Bg (by first | exact fun _ h => h | exact fun _ h => h.perm2) (hkk ⟨b9, b10⟩ trivial))
      ·skip
       refine Cl 9 rfl rfl .free rfl (.inr Ao) ?_; intro b10; refine C6 7 8 (by kernel_rfl) ?_ ?_
       ·skip
        refine Do 7 rfl rfl (Bq rfl) .free rfl (.inr Ao) ?_; refine Eb 8 rfl (by kernel_rfl) rfl .free rfl (.inr Ao) ?_; intro b9; refine Dx 10 rfl rfl rfl rfl ?_; refine Dx 11 rfl rfl rfl rfl ?_; refine At (by kernel_rfl) ?_
        exact Bp (E' := [(1, _), (2, _), (3, _), (9, _), (10, _)]) ⟨rfl, rfl, rfl, rfl, rfl, trivial⟩ (Bg (by first | exact fun _ h => h | exact fun _ h => h.perm2) (hkk ⟨b9, b10⟩ trivial))
       ·skip
        refine Cl 8 rfl rfl .free rfl (.inr Ao) ?_; intro b9; refine C6 7 10 (by kernel_rfl) ?_ ?_
        ·skip
         refine Do 7 rfl rfl (Bq rfl) .free rfl (.inr Ao) ?_; refine Dx 10 rfl rfl rfl rfl ?_; refine Dx 11 rfl rfl rfl rfl ?_; refine At (by kernel_rfl) ?_
         exact Bp (E' := [(1, _), (2, _), (3, _), (9, _), (10, _)]) ⟨rfl, rfl, rfl, rfl, rfl, trivial⟩ (Bg (by first | exact fun _ h => h | exact fun _ h => h.perm2) (hkk ⟨b9, b10⟩ trivial))
        ·skip
         refine H6 10 rfl rfl rfl rfl rfl rfl .free (.inl (by kernel_rfl)) ?_; refine E3 7 rfl (by kernel_rfl) rfl (Bq rfl) .free rfl (.inl (by kernel_rfl)) ?_; refine Dx 11 rfl rfl rfl rfl ?_; refine At (by kernel_rfl) ?_
         exact Bp (E' := [(1, _), (2, _), (3, _), (9, _), (10, _)]) ⟨rfl, rfl, rfl, rfl, rfl, trivial⟩ (Bg (by first | exact fun _ h => h | exact fun _ h => h.perm2) (hkk ⟨b9, b10⟩ trivial))
     ·skip
      refine Cl 8 rfl rfl .free rfl (.inr Ao) ?_; intro b9; refine C6 5 9 (by kernel_rfl) ?_ ?_
      ·skip
       refine Do 5 rfl rfl (Br rfl) .free rfl (.inr Ao) ?_
       first | refine Da 6 rfl (Bl rfl rfl 2 rfl) ?_ | refine Da 6 rfl (Bm rfl rfl 2 rfl) ?_
       refine C6 7 9 (by kernel_rfl) ?_ ?_
       ·skip
        refine Do 7 rfl rfl (Bq rfl) .free rfl (.inr Ao) ?_; refine Eb 9 rfl (by kernel_rfl) rfl .free rfl (.inr Ao) ?_; intro b10; refine Dx 10 rfl rfl rfl rfl ?_; refine Dx 11 rfl rfl rfl rfl ?_; refine At (by kernel_rfl) ?_
        exact Bp (E' := [(1, _), (2, _), (3, _), (9, _), (10, _)]) ⟨rfl, rfl, rfl, rfl, rfl, trivial⟩ (Bg (by first | exact fun _ h => h | exact fun _ h => h.perm2) (hkk ⟨b9, b10⟩ trivial))
       ·skip
        refine Cl 9 rfl rfl .free rfl (.inr Ao) ?_; intro b10; refine C6 7 10 (by kernel_rfl) ?_ ?_
        ·skip
         refine Do 7 rfl rfl (Bq rfl) .free rfl (.inr Ao) ?_; refine Dx 10 rfl rfl rfl rfl ?_; refine Dx 11 rfl rfl rfl rfl ?_; refine At (by kernel_rfl) ?_
         exact Bp (E' := [(1, _), (2, _), (3, _), (9, _), (10, _)]) ⟨rfl, rfl, rfl, rfl, rfl, trivial⟩ (Bg (by first | exact fun _ h => h | exact fun _ h => h.perm2) (hkk ⟨b9, b10⟩ trivial))
        ·skip
         refine H6 10 rfl rfl rfl rfl rfl rfl .free (.inl (by kernel_rfl)) ?_; refine E3 7 rfl (by kernel_rfl) rfl (Bq rfl) .free rfl (.inl (by kernel_rfl)) ?_; refine Dx 11 rfl rfl rfl rfl ?_; refine At (by kernel_rfl) ?_
         exact Bp (E' := [(1, _), (2, _), (3, _), (9, _), (10, _)]) ⟨rfl, rfl, rfl, rfl, rfl, trivial⟩ (Bg (by first | exact fun _ h => h | exact fun _ h => h.perm2) (hkk ⟨b9, b10⟩ trivial))
      ·skip
       refine Cl 9 rfl rfl .free rfl (.inr Ao) ?_; intro b10; refine C6 5 10 (by kernel_rfl) ?_ ?_
       ·skip
        refine Do 5 rfl rfl (Br rfl) .free rfl (.inr Ao) ?_
        first | refine Da 6 rfl (Bl rfl rfl 2 rfl) ?_ | refine Da 6 rfl (Bm rfl rfl 2 rfl) ?_
        refine C6 7 10 (by kernel_rfl) ?_ ?_
        ·skip
         refine Do 7 rfl rfl (Bq rfl) .free rfl (.inr Ao) ?_; refine Dx 10 rfl rfl rfl rfl ?_; refine Dx 11 rfl rfl rfl rfl ?_; refine At (by kernel_rfl) ?_
         exact Bp (E' := [(1, _), (2, _), (3, _), (9, _), (10, _)]) ⟨rfl, rfl, rfl, rfl, rfl, trivial⟩ (Bg (by first | exact fun _ h => h | exact fun _ h => h.perm2) (hkk ⟨b9, b10⟩ trivial))
        ·skip
         refine H6 10 rfl rfl rfl rfl rfl rfl .free (.inl (by kernel_rfl)) ?_; refine E3 7 rfl (by kernel_rfl) rfl (Bq rfl) .free rfl (.inl (by kernel_rfl)) ?_; refine Dx 11 rfl rfl rfl rfl ?_; refine At (by kernel_rfl) ?_
         exact Bp (E' := [(1, _), (2, _), (3, _), (9, _), (10, _)]) ⟨rfl, rfl, rfl, rfl, rfl, trivial⟩ (Bg (by first | exact fun _ h => h | exact fun _ h => h.perm2) (hkk ⟨b9, b10⟩ trivial))
       ·skip
        refine H6 10 rfl rfl rfl rfl rfl rfl .free (.inl (by kernel_rfl)) ?_; refine E3 5 rfl (by kernel_rfl) rfl (Br rfl) .free rfl (.inl (by kernel_rfl)) ?_
        first | refine Db 6 rfl (Bl rfl rfl 2 rfl) ?_ | refine Db 6 rfl (Bm rfl rfl 2 rfl) ?_
        refine E3 7 rfl (by kernel_rfl) rfl (Bq rfl) .free rfl (.inl (by kernel_rfl)) ?_; refine Dx 11 rfl rfl rfl rfl ?_; refine At (by kernel_rfl) ?_
        exact Bp (E' := [(1, _), (2, _), (3, _), (9, _), (10, _)]) ⟨rfl, rfl, rfl, rfl, rfl, trivial⟩ (Bg (by first | exact fun _ h => h | exact fun _ h => h.perm2) (hkk ⟨b9, b10⟩ trivial))
     ·skip
      refine Cl 9 rfl rfl .free rfl (.inr Ao) ?_; intro b10; refine C6 5 8 (by kernel_rfl) ?_ ?_
      ·skip
       refine Do 5 rfl rfl (Br rfl) .free rfl (.inr Ao) ?_
       first | refine Da 6 rfl (Bl rfl rfl 2 rfl) ?_ | refine Da 6 rfl (Bm rfl rfl 2 rfl) ?_
       refine C6 7 8 (by kernel_rfl) ?_ ?_
       ·skip
        refine Do 7 rfl rfl (Bq rfl) .free rfl (.inr Ao) ?_; refine Eb 8 rfl (by kernel_rfl) rfl .free rfl (.inr Ao) ?_; intro b9; refine Dx 10 rfl rfl rfl rfl ?_; refine Dx 11 rfl rfl rfl rfl ?_; refine At (by kernel_rfl) ?_
        exact Bp (E' := [(1, _), (2, _), (3, _), (9, _), (10, _)]) ⟨rfl, rfl, rfl, rfl, rfl, trivial⟩ (Bg (by first | exact fun _ h => h | exact fun _ h => h.perm2) (hkk ⟨b9, b10⟩ trivial))
       ·skip
        refine Cl 8 rfl rfl .free rfl (.inr Ao) ?_; intro b9; refine C6 7 10 (by kernel_rfl) ?_ ?_
        ·skip
         refine Do 7 rfl rfl (Bq rfl) .free rfl (.inr Ao) ?_; refine Dx 10 rfl rfl rfl rfl ?_; refine Dx 11 rfl rfl rfl rfl ?_; refine At (by kernel_rfl) ?_
         exact Bp (E' := [(1, _), (2, _), (3, _), (9, _), (10, _)]) ⟨rfl, rfl, rfl, rfl, rfl, trivial⟩ (Bg (by first | exact fun _ h => h | exact fun _ h => h.perm2) (hkk ⟨b9, b10⟩ trivial))
        ·skip
         refine H6 10 rfl rfl rfl rfl rfl rfl .free (.inl (by kernel_rfl)) ?_; refine E3 7 rfl (by kernel_rfl) rfl (Bq rfl) .free rfl (.inl (by kernel_rfl)) ?_; refine Dx 11 rfl rfl rfl rfl ?_; refine At (by kernel_rfl) ?_
         exact Bp (E' := [(1, _), (2, _), (3, _), (9, _), (10, _)]) ⟨rfl, rfl, rfl, rfl, rfl, trivial⟩ (Bg (by first | exact fun _ h => h | exact fun _ h => h.perm2) (hkk ⟨b9, b10⟩ trivial))
      ·skip
       refine Cl 8 rfl rfl .free rfl (.inr Ao) ?_; intro b9; refine C6 5 10 (by kernel_rfl) ?_ ?_
       ·skip
        refine Do 5 rfl rfl (Br rfl) .free rfl (.inr Ao) ?_
        first | refine Da 6 rfl (Bl rfl rfl 2 rfl) ?_ | refine Da 6 rfl (Bm rfl rfl 2 rfl) ?_
        refine C6 7 10 (by kernel_rfl) ?_ ?_
        ·skip
         refine Do 7 rfl rfl (Bq rfl) .free rfl (.inr Ao) ?_; refine Dx 10 rfl rfl rfl rfl ?_; refine Dx 11 rfl rfl rfl rfl ?_; refine At (by kernel_rfl) ?_
         exact Bp (E' := [(1, _), (2, _), (3, _), (9, _), (10, _)]) ⟨rfl, rfl, rfl, rfl, rfl, trivial⟩ (Bg (by first | exact fun _ h => h | exact fun _ h => h.perm2) (hkk ⟨b9, b10⟩ trivial))
        ·skip
         refine H6 10 rfl rfl rfl rfl rfl rfl .free (.inl (by kernel_rfl)) ?_; refine E3 7 rfl (by kernel_rfl) rfl (Bq rfl) .free rfl (.inl (by kernel_rfl)) ?_; refine Dx 11 rfl rfl rfl rfl ?_; refine At (by kernel_rfl) ?_
         exact Bp (E' := [(1, _), (2, _), (3, _), (9, _), (10, _)]) ⟨rfl, rfl, rfl, rfl, rfl, trivial⟩ (Bg (by first | exact fun _ h => h | exact fun _ h => h.perm2) (hkk ⟨b9, b10⟩ trivial))
       ·skip
        refine H6 10 rfl rfl rfl rfl rfl rfl .free (.inl (by kernel_rfl)) ?_; refine E3 5 rfl (by kernel_rfl) rfl (Br rfl) .free rfl (.inl (by kernel_rfl)) ?_
        first | refine Db 6 rfl (Bl rfl rfl 2 rfl) ?_ | refine Db 6 rfl (Bm rfl rfl 2 rfl) ?_
        refine E3 7 rfl (by kernel_rfl) rfl (Bq rfl) .free rfl (.inl (by kernel_rfl)) ?_; refine Dx 11 rfl rfl rfl rfl ?_; refine At (by kernel_rfl) ?_
        exact Bp (E' := [(1, _), (2, _), (3, _), (9, _), (10, _)]) ⟨rfl, rfl, rfl, rfl, rfl, trivial⟩ (Bg (by first | exact fun _ h => h | exact fun _ h => h.perm2) (hkk ⟨b9, b10⟩ trivial))
   ·skip
    refine Af rfl ?_; refine A3 rfl .free rfl ?_; refine Ca rfl (Bk hf.rep _) ?_; rintro _ _ _ _ ⟨rfl, rfl, rfl⟩; rw [show (Ex.bin .mul a b).tree.head = [42] from rfl]
    have hturn : (Ex.bin .mul a b).step = (Ex.bin .mul a b).turn := by simp only [Ex.step, hva, hvb, Bool.true_eq_false, if_false]
    refine Aa (Aj (Ab (Se rfl (Od rfl rfl rfl (Oa rfl (Aa ?_))))))
    first | refine Sf rfl (by decide) ?_ | refine Al (by simp [look, A7, *]) ?_
    refine Se rfl (Od rfl rfl rfl (Oa rfl (Aa ?_)))
    first | refine Sf rfl (by decide) ?_ | refine Al (by simp [look, A7, *]) ?_
    refine Af rfl (Od rfl rfl rfl (Oa rfl (Aa ?_)))
    first | refine St rfl (rfl) ?_ | refine Bj (by simp [look, A7, *]) ?_
    refine Ab ?_; refine Dp 12 rfl rfl ?_; refine Vz (X := Nat × Nat) (fun x => [(1, .pointer (some ⟨b1, 0, none⟩)), (2, .pointer (some ⟨b2, 0, none⟩)), (3, .bool false), (9, .pointer (some ⟨x.1, 0, none⟩)), (10, .pointer (some ⟨x.2, 0, none⟩))]) (fun x => J0) (fun x => [(x.2, .cells [.string (str b.tree.atom), .slice (oaf 2) b.tree.parts.length (cf 2)].toArray 39 (0, 0)), (x.1, .cells [.string (str a.tree.atom), .slice (oaf 1) a.tree.parts.length (cf 1)].toArray 39 (0, 0))]) (fun x => True) ?_ ?_
    ·rintro ⟨b9, b10⟩ -
     simp only [List.cons_append, List.nil_append]
     refine Se rfl ?_; refine F4 rfl .free rfl ?_; refine Ca rfl (Bu (hf.as 1 a.tree (by omega) rfl) _) ?_; rintro _ _ _ _ ⟨rfl, rfl, rfl⟩; refine Om rfl ?_
     apply Ci 64 67 rfl
     ·intro g15_3 hk
      try simp only [nb] at g15_3
      refine F4 rfl (.met rfl rfl) rfl ?_; refine B9 rfl (.met rfl rfl) rfl (Bu (hf.as 2 b.tree (by omega) rfl) _) ?_; rintro _ _ _ _ ⟨rfl, rfl, rfl⟩; refine Ot rfl rfl ?_
      exact Ar 2 rfl rfl hk
     ·intro _ hk; refine A0 2 rfl ?_; refine Of rfl rfl ?_
      exact Ar 2 rfl rfl hk
     refine Aa ?_; refine As rfl ?_ ?_
     ·intro c5
      try simp only [nb] at c5
      have hbb : a.tree.parts.isEmpty = true ∧ b.tree.parts.isEmpty = true := by simpa using c5
      obtain ⟨p, rfl⟩ := Ih hbb.1 hva; obtain ⟨q, rfl⟩ := Ih hbb.2 hvb; refine Ab ?_; refine Dp 10 rfl rfl ?_; refine Dt 0 [8] rfl (Cx rfl) ?_
      first | refine Da 2 rfl (Ai rfl) ?_ | refine Da 2 rfl (Bb rfl) ?_
      refine Dt 3 [8] rfl (Vt rfl) ?_
      first | refine Da 4 rfl (Ai rfl) ?_ | refine Da 4 rfl (Bb rfl) ?_
      refine Dt 5 [8] rfl (Vt rfl) ?_; refine Dc 1 rfl rfl (Bk hf.rep _) ?_; rintro _ _ _ _ ⟨rfl, rfl, rfl⟩; refine Hx ?_; refine Dc 6 rfl rfl (Mn ht .mul (a := p) (b := q) hok.1 hok.2 _) ?_; rintro _ _ _ _ ⟨rfl, rfl, rfl⟩; refine Hx ?_; refine Dc 7 rfl rfl (Pu (Js .mul p q) (Jt _ _ _) _ _) ?_; rintro _ _ _ _ ⟨rfl, rfl, rfl⟩; refine Hx ?_; refine Dx 8 rfl rfl rfl rfl ?_; refine Db 9 rfl (A2 rfl) ?_; refine At (by kernel_rfl) ?_; refine Ad (.c rfl (.tmp rfl .nil)) ?_; refine ⟨_, L, hle, Bf, .node (Js .mul p q) [], _, by rw [hturn]; rfl, .ofAtom (Jt _ _ _), fun e' he' => ?_, rfl⟩
      rw [hturn] at he'; obtain rfl := Option.some.inj he'
      rfl
     intro c5
     try simp only [nb] at c5
     have hno : (Ex.bin .mul a b).turn = none := by
      cases hty : (Ex.bin .mul a b).turn with
      | none => rfl
      | some e' =>
       rcases Ht hty with ⟨f, y, s, t, g, ho, rfl, rfl⟩ | ⟨p, q, ho, rfl, rfl, rfl⟩
       ·cases ho
       ·exact absurd c5 (by simp [Ex.tree, Tree.parts])
     refine Ae (Ak (Se rfl ?_)); refine Bt rfl rfl rfl .free rfl ?_; refine Bn rfl rfl rfl rfl .free ?_; refine Oa rfl (Aa ?_); refine Ad (.c rfl (.tmp rfl .nil)) ?_
     exact ⟨_, L, hle, Bf, SP.none' (by rw [hturn, hno])⟩
    ·intro hkk
     skip
     refine Da 0 rfl (Ai rfl) ?_; refine Dt 1 [10] rfl (Br rfl) ?_
     first | refine Da 2 rfl (Bl rfl rfl 1 rfl) ?_ | refine Da 2 rfl (Bm rfl rfl 1 rfl) ?_
     refine Dt 3 [10] rfl (Bq rfl) ?_; refine Da 4 rfl (Ai rfl) ?_; refine Ld 5 8 9 (by kernel_rfl) ?_ ?_ ?_
     ·skip
      refine Do 5 rfl rfl (Br rfl) .free rfl (.inr Ao) ?_
      first | refine Da 6 rfl (Bl rfl rfl 2 rfl) ?_ | refine Da 6 rfl (Bm rfl rfl 2 rfl) ?_
      refine Ld 7 8 9 (by kernel_rfl) ?_ ?_ ?_
      ·skip
       refine Do 7 rfl rfl (Bq rfl) .free rfl (.inr Ao) ?_; refine C6 8 9 (by kernel_rfl) ?_ ?_
       ·skip
        refine Cl 8 rfl rfl .free rfl (.inr Ao) ?_; intro b9; refine Eb 9 rfl (by kernel_rfl) rfl .free rfl (.inr Ao) ?_; intro b10; refine Dx 10 rfl rfl rfl rfl ?_; refine Dx 11 rfl rfl rfl rfl ?_; refine At (by kernel_rfl) ?_
        exact Bp (E' := [(1, _), (2, _), (3, _), (9, _), (10, _)]) ⟨rfl, rfl, rfl, rfl, rfl, trivial⟩ (Bg (by first | exact fun _ h => h | exact fun _ h => h.perm2) (hkk ⟨b9, b10⟩ trivial))
       ·skip
        refine Cl 9 rfl rfl .free rfl (.inr Ao) ?_; intro b10; refine Eb 8 rfl (by kernel_rfl) rfl .free rfl (.inr Ao) ?_; intro b9; refine Dx 10 rfl rfl rfl rfl ?_; refine Dx 11 rfl rfl rfl rfl ?_; refine At (by kernel_rfl) ?_
        exact Bp (E' := [(1, _), (2, _), (3, _), (9, _), (10, _)]) ⟨rfl, rfl, rfl, rfl, rfl, trivial⟩ (Bg (by first | exact fun _ h => h | exact fun _ h => h.perm2) (hkk ⟨b9, b10⟩ trivial))
      ·skip
       refine Cl 8 rfl rfl .free rfl (.inr Ao) ?_; intro b9; refine C6 7 9 (by kernel_rfl) ?_ ?_
       ·skip
        refine Do 7 rfl rfl (Bq rfl) .free rfl (.inr Ao) ?_; refine Eb 9 rfl (by kernel_rfl) rfl .free rfl (.inr Ao) ?_; intro b10; refine Dx 10 rfl rfl rfl rfl ?_; refine Dx 11 rfl rfl rfl rfl ?_; refine At (by kernel_rfl) ?_
        exact Bp (E' := [(1, _), (2, _), (3, _), (9, _), (10, _)]) ⟨rfl, rfl, rfl, rfl, rfl, trivial⟩ (Bg (by first | exact fun _ h => h | exact fun _ h => h.perm2) (hkk ⟨b9, b10⟩ trivial))
       ·skip
        refine Cl 9 rfl rfl .free rfl (.inr Ao) ?_; intro b10; refine C6 7 10 (by kernel_rfl) ?_ ?_
        ·skip
         refine Do 7 rfl rfl (Bq rfl) .free rfl (.inr Ao) ?_; refine Dx 10 rfl rfl rfl rfl ?_; refine Dx 11 rfl rfl rfl rfl ?_; refine At (by kernel_rfl) ?_
         exact Bp (E' := [(1, _), (2, _), (3, _), (9, _), (10, _)]) ⟨rfl, rfl, rfl, rfl, rfl, trivial⟩ (Bg (by first | exact fun _ h => h | exact fun _ h => h.perm2) (hkk ⟨b9, b10⟩ trivial))
        ·skip
         refine H6 10 rfl rfl rfl rfl rfl rfl .free (.inl (by kernel_rfl)) ?_; refine E3 7 rfl (by kernel_rfl) rfl (Bq rfl) .free rfl (.inl (by kernel_rfl)) ?_; refine Dx 11 rfl rfl rfl rfl ?_; refine At (by kernel_rfl) ?_
         exact Bp (E' := [(1, _), (2, _), (3, _), (9, _), (10, _)]) ⟨rfl, rfl, rfl, rfl, rfl, trivial⟩ (Bg (by first | exact fun _ h => h | exact fun _ h => h.perm2) (hkk ⟨b9, b10⟩ trivial))
      ·skip
       refine Cl 9 rfl rfl .free rfl (.inr Ao) ?_; intro b10; refine C6 7 8 (by kernel_rfl) ?_ ?_
       ·skip
        refine Do 7 rfl rfl (Bq rfl) .free rfl (.inr Ao) ?_; refine Eb 8 rfl (by kernel_rfl) rfl .free rfl (.inr Ao) ?_; intro b9; refine Dx 10 rfl rfl rfl rfl ?_; refine Dx 11 rfl rfl rfl rfl ?_; refine At (by kernel_rfl) ?_
        exact Bp (E' := [(1, _), (2, _), (3, _), (9, _), (10, _)]) ⟨rfl, rfl, rfl, rfl, rfl, trivial⟩ (Bg (by first | exact fun _ h => h | exact fun _ h => h.perm2) (hkk ⟨b9, b10⟩ trivial))
       ·skip
        refine Cl 8 rfl rfl .free rfl (.inr Ao) ?_; intro b9; refine C6 7 10 (by kernel_rfl) ?_ ?_
        ·skip
         refine Do 7 rfl rfl (Bq rfl) .free rfl (.inr Ao) ?_; refine Dx 10 rfl rfl rfl rfl ?_; refine Dx 11 rfl rfl rfl rfl ?_; refine At (by kernel_rfl) ?_
         exact Bp (E' := [(1, _), (2, _), (3, _), (9, _), (10, _)]) ⟨rfl, rfl, rfl, rfl, rfl, trivial⟩ (Bg (by first | exact fun _ h => h | exact fun _ h => h.perm2) (hkk ⟨b9, b10⟩ trivial))
        ·skip
         refine H6 10 rfl rfl rfl rfl rfl rfl .free (.inl (by kernel_rfl)) ?_; refine E3 7 rfl (by kernel_rfl) rfl (Bq rfl) .free rfl (.inl (by kernel_rfl)) ?_; refine Dx 11 rfl rfl rfl rfl ?_; refine At (by kernel_rfl) ?_
         exact Bp (E' := [(1, _), (2, _), (3, _), (9, _), (10, _)]) ⟨rfl, rfl, rfl, rfl, rfl, trivial⟩ (Bg (by first | exact fun _ h => h | exact fun _ h => h.perm2) (hkk ⟨b9, b10⟩ trivial))
     ·skip
      refine Cl 8 rfl rfl .free rfl (.inr Ao) ?_; intro b9; refine C6 5 9 (by kernel_rfl) ?_ ?_
      ·skip
       refine Do 5 rfl rfl (Br rfl) .free rfl (.inr Ao) ?_
       first | refine Da 6 rfl (Bl rfl rfl 2 rfl) ?_ | refine Da 6 rfl (Bm rfl rfl 2 rfl) ?_
       refine C6 7 9 (by kernel_rfl) ?_ ?_
       ·skip
        refine Do 7 rfl rfl (Bq rfl) .free rfl (.inr Ao) ?_; refine Eb 9 rfl (by kernel_rfl) rfl .free rfl (.inr Ao) ?_; intro b10; refine Dx 10 rfl rfl rfl rfl ?_; refine Dx 11 rfl rfl rfl rfl ?_; refine At (by kernel_rfl) ?_
        exact Bp (E' := [(1, _), (2, _), (3, _), (9, _), (10, _)]) ⟨rfl, rfl, rfl, rfl, rfl, trivial⟩ (Bg (by first | exact fun _ h => h | exact fun _ h => h.perm2) (hkk ⟨b9, b10⟩ trivial))
       ·skip
        refine Cl 9 rfl rfl .free rfl (.inr Ao) ?_; intro b10; refine C6 7 10 (by kernel_rfl) ?_ ?_
        ·skip
         refine Do 7 rfl rfl (Bq rfl) .free rfl (.inr Ao) ?_; refine Dx 10 rfl rfl rfl rfl ?_; refine Dx 11 rfl rfl rfl rfl ?_; refine At (by kernel_rfl) ?_
         exact Bp (E' := [(1, _), (2, _), (3, _), (9, _), (10, _)]) ⟨rfl, rfl, rfl, rfl, rfl, trivial⟩ (Bg (by first | exact fun _ h => h | exact fun _ h => h.perm2) (hkk ⟨b9, b10⟩ trivial))
        ·skip
         refine H6 10 rfl rfl rfl rfl rfl rfl .free (.inl (by kernel_rfl)) ?_; refine E3 7 rfl (by kernel_rfl) rfl (Bq rfl) .free rfl (.inl (by kernel_rfl)) ?_; refine Dx 11 rfl rfl rfl rfl ?_; refine At (by kernel_rfl) ?_
         exact Bp (E' := [(1, _), (2, _), (3, _), (9, _), (10, _)]) ⟨rfl, rfl, rfl, rfl, rfl, trivial⟩ (Bg (by first | exact fun _ h => h | exact fun _ h => h.perm2) (hkk ⟨b9, b10⟩ trivial))
      ·skip
       refine Cl 9 rfl rfl .free rfl (.inr Ao) ?_; intro b10; refine C6 5 10 (by kernel_rfl) ?_ ?_
       ·skip
        refine Do 5 rfl rfl (Br rfl) .free rfl (.inr Ao) ?_
        first | refine Da 6 rfl (Bl rfl rfl 2 rfl) ?_ | refine Da 6 rfl (Bm rfl rfl 2 rfl) ?_
        refine C6 7 10 (by kernel_rfl) ?_ ?_
        ·skip
         refine Do 7 rfl rfl (Bq rfl) .free rfl (.inr Ao) ?_; refine Dx 10 rfl rfl rfl rfl ?_; refine Dx 11 rfl rfl rfl rfl ?_; refine At (by kernel_rfl) ?_
         exact Bp (E' := [(1, _), (2, _), (3, _), (9, _), (10, _)]) ⟨rfl, rfl, rfl, rfl, rfl, trivial⟩ (Bg (by first | exact fun _ h => h | exact fun _ h => h.perm2) (hkk ⟨b9, b10⟩ trivial))
        ·skip
         refine H6 10 rfl rfl rfl rfl rfl rfl .free (.inl (by kernel_rfl)) ?_; refine E3 7 rfl (by kernel_rfl) rfl (Bq rfl) .free rfl (.inl (by kernel_rfl)) ?_; refine Dx 11 rfl rfl rfl rfl ?_; refine At (by kernel_rfl) ?_
         exact Bp (E' := [(1, _), (2, _), (3, _), (9, _), (10, _)]) ⟨rfl, rfl, rfl, rfl, rfl, trivial⟩ (Bg (by first | exact fun _ h => h | exact fun _ h => h.perm2) (hkk ⟨b9, b10⟩ trivial))
       ·skip
        refine H6 10 rfl rfl rfl rfl rfl rfl .free (.inl (by kernel_rfl)) ?_; refine E3 5 rfl (by kernel_rfl) rfl (Br rfl) .free rfl (.inl (by kernel_rfl)) ?_
        first | refine Db 6 rfl (Bl rfl rfl 2 rfl) ?_ | refine Db 6 rfl (Bm rfl rfl 2 rfl) ?_
        refine E3 7 rfl (by kernel_rfl) rfl (Bq rfl) .free rfl (.inl (by kernel_rfl)) ?_; refine Dx 11 rfl rfl rfl rfl ?_; refine At (by kernel_rfl) ?_
        exact Bp (E' := [(1, _), (2, _), (3, _), (9, _), (10, _)]) ⟨rfl, rfl, rfl, rfl, rfl, trivial⟩ (Bg (by first | exact fun _ h => h | exact fun _ h => h.perm2) (hkk ⟨b9, b10⟩ trivial))
     ·skip
      refine Cl 9 rfl rfl .free rfl (.inr Ao) ?_; intro b10; refine C6 5 8 (by kernel_rfl) ?_ ?_
      ·skip
       refine Do 5 rfl rfl (Br rfl) .free rfl (.inr Ao) ?_
       first | refine Da 6 rfl (Bl rfl rfl 2 rfl) ?_ | refine Da 6 rfl (Bm rfl rfl 2 rfl) ?_
       refine C6 7 8 (by kernel_rfl) ?_ ?_
       ·skip
        refine Do 7 rfl rfl (Bq rfl) .free rfl (.inr Ao) ?_; refine Eb 8 rfl (by kernel_rfl) rfl .free rfl (.inr Ao) ?_; intro b9; refine Dx 10 rfl rfl rfl rfl ?_; refine Dx 11 rfl rfl rfl rfl ?_; refine At (by kernel_rfl) ?_
        exact Bp (E' := [(1, _), (2, _), (3, _), (9, _), (10, _)]) ⟨rfl, rfl, rfl, rfl, rfl, trivial⟩ (Bg (by first | exact fun _ h => h | exact fun _ h => h.perm2) (hkk ⟨b9, b10⟩ trivial))
       ·skip
        refine Cl 8 rfl rfl .free rfl (.inr Ao) ?_; intro b9; refine C6 7 10 (by kernel_rfl) ?_ ?_
        ·skip
         refine Do 7 rfl rfl (Bq rfl) .free rfl (.inr Ao) ?_; refine Dx 10 rfl rfl rfl rfl ?_; refine Dx 11 rfl rfl rfl rfl ?_; refine At (by kernel_rfl) ?_
         exact Bp (E' := [(1, _), (2, _), (3, _), (9, _), (10, _)]) ⟨rfl, rfl, rfl, rfl, rfl, trivial⟩ (Bg (by first | exact fun _ h => h | exact fun _ h => h.perm2) (hkk ⟨b9, b10⟩ trivial))
        ·skip
         refine H6 10 rfl rfl rfl rfl rfl rfl .free (.inl (by kernel_rfl)) ?_; refine E3 7 rfl (by kernel_rfl) rfl (Bq rfl) .free rfl (.inl (by kernel_rfl)) ?_; refine Dx 11 rfl rfl rfl rfl ?_; refine At (by kernel_rfl) ?_
         exact Bp (E' := [(1, _), (2, _), (3, _), (9, _), (10, _)]) ⟨rfl, rfl, rfl, rfl, rfl, trivial⟩ (Bg (by first | exact fun _ h => h | exact fun _ h => h.perm2) (hkk ⟨b9, b10⟩ trivial))
      ·skip
       refine Cl 8 rfl rfl .free rfl (.inr Ao) ?_; intro b9; refine C6 5 10 (by kernel_rfl) ?_ ?_
       ·skip
        refine Do 5 rfl rfl (Br rfl) .free rfl (.inr Ao) ?_
        first | refine Da 6 rfl (Bl rfl rfl 2 rfl) ?_ | refine Da 6 rfl (Bm rfl rfl 2 rfl) ?_
        refine C6 7 10 (by kernel_rfl) ?_ ?_
        ·skip
         refine Do 7 rfl rfl (Bq rfl) .free rfl (.inr Ao) ?_; refine Dx 10 rfl rfl rfl rfl ?_; refine Dx 11 rfl rfl rfl rfl ?_; refine At (by kernel_rfl) ?_
         exact Bp (E' := [(1, _), (2, _), (3, _), (9, _), (10, _)]) ⟨rfl, rfl, rfl, rfl, rfl, trivial⟩ (Bg (by first | exact fun _ h => h | exact fun _ h => h.perm2) (hkk ⟨b9, b10⟩ trivial))
        ·skip
         refine H6 10 rfl rfl rfl rfl rfl rfl .free (.inl (by kernel_rfl)) ?_; refine E3 7 rfl (by kernel_rfl) rfl (Bq rfl) .free rfl (.inl (by kernel_rfl)) ?_; refine Dx 11 rfl rfl rfl rfl ?_; refine At (by kernel_rfl) ?_
         exact Bp (E' := [(1, _), (2, _), (3, _), (9, _), (10, _)]) ⟨rfl, rfl, rfl, rfl, rfl, trivial⟩ (Bg (by first | exact fun _ h => h | exact fun _ h => h.perm2) (hkk ⟨b9, b10⟩ trivial))
       ·skip
        refine H6 10 rfl rfl rfl rfl rfl rfl .free (.inl (by kernel_rfl)) ?_; refine E3 5 rfl (by kernel_rfl) rfl (Br rfl) .free rfl (.inl (by kernel_rfl)) ?_
        first | refine Db 6 rfl (Bl rfl rfl 2 rfl) ?_ | refine Db 6 rfl (Bm rfl rfl 2 rfl) ?_
        refine E3 7 rfl (by kernel_rfl) rfl (Bq rfl) .free rfl (.inl (by kernel_rfl)) ?_; refine Dx 11 rfl rfl rfl rfl ?_; refine At (by kernel_rfl) ?_
        exact Bp (E' := [(1, _), (2, _), (3, _), (9, _), (10, _)]) ⟨rfl, rfl, rfl, rfl, rfl, trivial⟩ (Bg (by first | exact fun _ h => h | exact fun _ h => h.perm2) (hkk ⟨b9, b10⟩ trivial))
   ·skip
    refine Af rfl ?_; refine A3 rfl .free rfl ?_; refine Ca rfl (Bk hf.rep _) ?_; rintro _ _ _ _ ⟨rfl, rfl, rfl⟩; rw [show (Ex.bin .call a b).tree.head = [99, 97, 108, 108] from rfl]
    have hturn : (Ex.bin .call a b).step = (Ex.bin .call a b).turn := by simp only [Ex.step, hva, hvb, Bool.true_eq_false, if_false]
    refine Aa (Aj (Ab (Se rfl (Od rfl rfl rfl (Oa rfl (Aa ?_))))))
    first | refine Sf rfl (by decide) ?_ | refine Al (by simp [look, A7, *]) ?_
    refine Se rfl (Od rfl rfl rfl (Oa rfl (Aa ?_)))
    first | refine Sf rfl (by decide) ?_ | refine Al (by simp [look, A7, *]) ?_
    refine Af rfl (Od rfl rfl rfl (Oa rfl (Aa ?_)))
    first | refine Sf rfl (by decide) ?_ | refine Al (by simp [look, A7, *]) ?_
    refine Se rfl (Od rfl rfl rfl (Oa rfl (Aa ?_)))
    first | refine Sf rfl (by decide) ?_ | refine Al (by simp [look, A7, *]) ?_
    refine Se rfl (Od rfl rfl rfl (Oa rfl (Aa ?_)))
    first | refine Sf rfl (by decide) ?_ | refine Al (by simp [look, A7, *]) ?_
    refine Se rfl (Od rfl rfl rfl (Oa rfl (Aa ?_)))
    first | refine St rfl (rfl) ?_ | refine Bj (by simp [look, A7, *]) ?_
    refine Se rfl (Oh rfl ?_); refine A1 rfl .free rfl ?_
    first | refine A5 rfl rfl 1 rfl .free rfl ?_ | refine A6 rfl rfl 1 rfl .free rfl ?_
    refine D9 rfl .free rfl ?_; refine Aw .free rfl ?_; intro b12; refine Bn rfl rfl rfl rfl .free ?_; refine Aa (Se rfl ?_); refine A3 rfl .free rfl ?_; refine Ca rfl (Bk (hf.as 1 a.tree (by omega) rfl) _) ?_; rintro _ _ _ _ ⟨rfl, rfl, rfl⟩; refine Od rfl rfl rfl (Aa ?_); refine As rfl ?_ ?_
    ·intro c11
     try simp only [nb] at c11
     obtain ⟨f, y, s, t, g, rfl⟩ := Ex.of_fun (show a.tree.head = Dj from c11)
     have hra := hf.as 1 (Ex.fn f y s t g).tree (by omega) rfl
     obtain ⟨oa2, c2, oaf2, cf2, he2, hf2⟩ := hra.at'
     simp only [List.cons.injEq, Value.slice.injEq, and_true, true_and] at he2
     obtain ⟨rfl, rfl⟩ := he2; obtain ⟨xa2, hxa2⟩ : ∃ x, oaf 1 = some x := ⟨_, Ct hf2.nil (show 0 < 6 by decide)⟩
     have hok2 := hok.1
     simp only [Ex.ok, Bool.and_eq_true, decide_eq_true_eq] at hok2
     have hl2 : (Ex.fn f y s t g).tree.parts.length = 6 := rfl
     refine Ab ?_; refine Dp 23 rfl rfl ?_; refine Da 0 rfl (Ai rfl) ?_; refine Dt 1 [21] rfl (Br rfl) ?_
     first | refine Da 2 rfl (Bl rfl rfl 5 rfl) ?_ | refine Da 2 rfl (Bm rfl rfl 5 rfl) ?_
     refine Dt 3 [21] rfl (Bq rfl) ?_; refine Da 4 rfl (Ai rfl) ?_; refine Dt 5 [21] rfl (Br rfl) ?_
     first | refine Da 6 rfl (Bl rfl rfl 1 rfl) ?_ | refine Da 6 rfl (Bm rfl rfl 1 rfl) ?_
     refine Da 7 rfl (Bb rfl) ?_; refine Dt 8 [21] rfl (Jd rfl) ?_; refine Dt 9 [21] rfl (Cx rfl) ?_; refine Da 11 rfl (Ai rfl) ?_; refine Dt 12 [21] rfl (Br rfl) ?_
     first | refine Da 13 rfl (Bl rfl rfl 2 rfl) ?_ | refine Da 13 rfl (Bm rfl rfl 2 rfl) ?_
     refine Da 14 rfl (Bb rfl) ?_; refine Dt 15 [21] rfl (Jd rfl) ?_; refine Da 16 rfl (Ai rfl) ?_; refine Dt 17 [21] rfl (Br rfl) ?_
     first | refine Da 18 rfl (Bl rfl rfl 2 rfl) ?_ | refine Da 18 rfl (Bm rfl rfl 2 rfl) ?_
     refine Dt 19 [21] rfl (Bq rfl) ?_; refine Dc 10 rfl rfl (L7 _ (Nat.lt_succ_self _) (hf2.as 5 g.tree (by omega) rfl) hok2.2 f hok2.1.1.1.1.1 hra _) ?_; rintro _ J2 _ e2 ⟨cs2, rfl, hr2, rfl⟩; obtain ⟨o2, k2, _, rfl, -⟩ := hr2.open
     have hf := hf.mono e2
     have hf2 := hf2.mono e2
     have hle := hle.trans e2
     refine Hx ?_; refine Dc 20 rfl rfl (L7 _ (Nat.lt_succ_self _) hr2 (Ex.put_ok hok2.2 hok.1) y hok2.1.1.1.1.2 (hf.as 2 b.tree (by omega) rfl) _) ?_; rintro _ J3 _ e3 ⟨cs3, rfl, hr3, rfl⟩; obtain ⟨o3, k3, _, rfl, -⟩ := hr3.open
     have hle := hle.trans e3
     have e23 := e2.trans e3
     refine Hx ?_; refine Dx 21 rfl rfl rfl rfl ?_; refine Db 22 rfl (A2 rfl) ?_; refine At (by kernel_rfl) ?_; refine Ad (.c rfl (.tmp rfl .nil)) ?_; refine ⟨_, L, hle, Bf, ((g.put f (.fn f y s t g)).put y b).tree, _, by rw [hturn]; rfl, hr3, fun e' he' => ?_, rfl⟩; rw [hturn] at he'; obtain rfl := Option.some.inj he'
     rfl
    intro c11
    try simp only [nb] at c11
    have hno : (Ex.bin .call a b).turn = none := by
     cases hty : (Ex.bin .call a b).turn with
     | none => rfl
     | some e' =>
      rcases Ht hty with ⟨f, y, s, t, g, ho, rfl, rfl⟩ | ⟨p, q, ho, rfl, rfl, rfl⟩
      ·exact absurd rfl c11
      ·cases ho
    refine Ae (Ak (Se rfl ?_)); refine Bt rfl rfl rfl .free rfl ?_; refine Bn rfl rfl rfl rfl .free ?_; refine Oa rfl (Aa ?_); refine Ad (.c rfl (.tmp rfl .nil)) ?_
    exact ⟨_, L, hle, Bf, SP.none' (by rw [hturn, hno])⟩
   ·skip
    refine Af rfl ?_; refine A3 rfl .free rfl ?_; refine Ca rfl (Bk hf.rep _) ?_; rintro _ _ _ _ ⟨rfl, rfl, rfl⟩; rw [show (Ex.bin .pair a b).tree.head = [112, 97, 105, 114] from rfl]
    have hturn : (Ex.bin .pair a b).step = (Ex.bin .pair a b).turn := by simp only [Ex.step, hva, hvb, Bool.true_eq_false, if_false]
    refine Aa (Aj (Ab (Se rfl (Od rfl rfl rfl (Oa rfl (Aa ?_))))))
    first | refine Sf rfl (by decide) ?_ | refine Al (by simp [look, A7, *]) ?_
    refine Se rfl (Od rfl rfl rfl (Oa rfl (Aa ?_)))
    first | refine Sf rfl (by decide) ?_ | refine Al (by simp [look, A7, *]) ?_
    refine Af rfl (Od rfl rfl rfl (Oa rfl (Aa ?_)))
    first | refine Sf rfl (by decide) ?_ | refine Al (by simp [look, A7, *]) ?_
    refine Se rfl (Od rfl rfl rfl (Oa rfl (Aa ?_)))
    first | refine Sf rfl (by decide) ?_ | refine Al (by simp [look, A7, *]) ?_
    refine Se rfl (Od rfl rfl rfl (Oa rfl (Aa ?_)))
    first | refine Sf rfl (by decide) ?_ | refine Al (by simp [look, A7, *]) ?_
    refine Se rfl (Od rfl rfl rfl (Oa rfl (Aa ?_)))
    first | refine Sf rfl (by decide) ?_ | refine Al (by simp [look, A7, *]) ?_
    refine Ab (Se rfl (Od rfl rfl rfl (Oa rfl (Aa ?_))))
    first | refine Sf rfl (by decide) ?_ | refine Al (by simp [look, A7, *]) ?_
    refine Af rfl (Od rfl rfl rfl (Oa rfl (Aa ?_)))
    first | refine Sf rfl (by decide) ?_ | refine Al (by simp [look, A7, *]) ?_
    refine Ae (Ak (Ab ?_))
    have hno : (Ex.bin .pair a b).turn = none := by
     first
      | rfl
      | (cases a <;> first | rfl | (cases b <;> rfl))
    refine Af rfl ?_; refine Bt rfl rfl rfl .free rfl ?_; refine Bn rfl rfl rfl rfl .free ?_; refine Oa rfl (Aa ?_); refine Ad (.c rfl (.tmp rfl .nil)) ?_
    exact ⟨_, L, hle, Bf, SP.none' (by rw [hturn, hno])⟩
  intro c1
  try simp only [nb] at c1
  have hvb : b.value = false := by simpa using c1
  have hst : (Ex.bin o a b).step = b.step.map fun q => .bin o a q := by simp only [Ex.step, hva, Bool.true_eq_false, if_false, hvb, if_true]
  refine Ae (Se rfl (Oh rfl ?_)); refine A1 rfl .free rfl ?_; refine Om rfl ?_
  first | refine A5 rfl rfl _ rfl .free rfl ?_ | refine A6 rfl rfl _ rfl .free rfl ?_
  refine D9 rfl .free rfl ?_; refine Ca rfl (ihn ht (by omega) (hf.as 2 b.tree (by omega) rfl) hok.2 _) ?_; rintro _ J1 _ e1 ⟨t1, cs1, rfl, hr, hte, rfl⟩; obtain ⟨o1, k1, _, rfl, -⟩ := hr.open
  have hf := hf.mono e1
  have hle := hle.trans e1
  have hk := hk.mono e1
  refine Om rfl (Oe rfl rfl (Oe rfl rfl ?_)); refine Aw .free rfl ?_; intro b6; refine Bn rfl rfl rfl rfl .free ?_; refine Oa rfl (Aa (Se rfl (Oh rfl ?_))); refine A1 rfl .free rfl ?_; refine Ca rfl (Fm ((hcs _ rfl).mono hle) (by have := hcl.length; omega) hcl.plain hpos hp _) ?_; rintro _ _ _ _ ⟨bc, sp, cc, rfl, hcc, rfl, rfl⟩
  simp only [show (Ex.bin o a b).tree.parts = [.node o.txt [], a.tree, b.tree] from rfl, El, List.cons_append, List.nil_append]
  refine Bt rfl rfl rfl .free rfl ?_; refine Aw .free rfl ?_; intro b8; refine Bn rfl rfl rfl rfl .free ?_; refine Aa (Se rfl (Oh rfl ?_)); refine A1 rfl .free rfl ?_; refine Om rfl ?_; refine A3 rfl .free rfl ?_
  first | refine A5 rfl rfl _ rfl .free rfl ?_ | refine A6 rfl rfl _ rfl .free rfl ?_
  refine Bn rfl rfl rfl rfl .free ?_; refine Aa (Se rfl ?_); refine A3 rfl .free rfl ?_; refine Om rfl ?_; refine Bn rfl rfl rfl rfl .free ?_; refine Oa rfl (Aa ?_); refine Bg (fun w h => h.f1) (Bi ?_); intro hz
  have hf := hf.mono hz
  refine Ad (.c rfl (.tmp rfl .nil)) ?_; refine ⟨_, L, hle.trans hz, Bf, .node [] [.node o.txt [], a.tree, t1], [.string (str []), .slice (some ⟨bc, 0, none⟩) (Ex.bin o a b).tree.parts.length cc], ?_, .mk' rfl (.cons (hf.as 0 (.node o.txt []) (by omega) rfl) (.cons (hf.as 1 (a.tree) (by omega) rfl) (.cons (hr.mono hz) (.nil)))) (fun y hy => by cases hy; exact Be (xs := [_, _, _, _, _, _])) (by simp) hcc (by simp [Az]) hp, ?_, rfl⟩
  ·rw [Gl hst]; rfl
  ·intro e' he'; rw [hst] at he'; obtain ⟨q, hq, rfl⟩ := Option.map_eq_some_iff.1 he'; rw [hte q hq]; rfl
 intro c1
 try simp only [nb] at c1
 have hva : a.value = false := by simpa using c1
 have hst : (Ex.bin o a b).step = a.step.map fun q => .bin o q b := by simp only [Ex.step, hva, if_true]
 refine Ae (Se rfl (Oh rfl ?_)); refine A1 rfl .free rfl ?_; refine Om rfl ?_
 first | refine A5 rfl rfl _ rfl .free rfl ?_ | refine A6 rfl rfl _ rfl .free rfl ?_
 refine D9 rfl .free rfl ?_; refine Ca rfl (ihn ht (by omega) (hf.as 1 a.tree (by omega) rfl) hok.1 _) ?_; rintro _ J1 _ e1 ⟨t1, cs1, rfl, hr, hte, rfl⟩; obtain ⟨o1, k1, _, rfl, -⟩ := hr.open
 have hf := hf.mono e1
 have hle := hle.trans e1
 have hk := hk.mono e1
 refine Om rfl (Oe rfl rfl (Oe rfl rfl ?_)); refine Aw .free rfl ?_; intro b6; refine Bn rfl rfl rfl rfl .free ?_; refine Oa rfl (Aa (Se rfl (Oh rfl ?_))); refine A1 rfl .free rfl ?_; refine Ca rfl (Fm ((hcs _ rfl).mono hle) (by have := hcl.length; omega) hcl.plain hpos hp _) ?_; rintro _ _ _ _ ⟨bc, sp, cc, rfl, hcc, rfl, rfl⟩
 simp only [show (Ex.bin o a b).tree.parts = [.node o.txt [], a.tree, b.tree] from rfl, El, List.cons_append, List.nil_append]
 refine Bt rfl rfl rfl .free rfl ?_; refine Aw .free rfl ?_; intro b8; refine Bn rfl rfl rfl rfl .free ?_; refine Aa (Se rfl (Oh rfl ?_)); refine A1 rfl .free rfl ?_; refine Om rfl ?_; refine A3 rfl .free rfl ?_
 first | refine A5 rfl rfl _ rfl .free rfl ?_ | refine A6 rfl rfl _ rfl .free rfl ?_
 refine Bn rfl rfl rfl rfl .free ?_; refine Aa (Se rfl ?_); refine A3 rfl .free rfl ?_; refine Om rfl ?_; refine Bn rfl rfl rfl rfl .free ?_; refine Oa rfl (Aa ?_); refine Bg (fun w h => h.f1) (Bi ?_); intro hz
 have hf := hf.mono hz
 refine Ad (.c rfl (.tmp rfl .nil)) ?_; refine ⟨_, L, hle.trans hz, Bf, .node [] [.node o.txt [], t1, b.tree], [.string (str []), .slice (some ⟨bc, 0, none⟩) (Ex.bin o a b).tree.parts.length cc], ?_, .mk' rfl (.cons (hf.as 0 (.node o.txt []) (by omega) rfl) (.cons (hr.mono hz) (.cons (hf.as 2 (b.tree) (by omega) rfl) (.nil)))) (fun y hy => by cases hy; exact Be (xs := [_, _, _, _, _, _])) (by simp) hcc (by simp [Az]) hp, ?_, rfl⟩
 ·rw [Gl hst]; rfl
 ·intro e' he'; rw [hst] at he'; obtain ⟨q, hq, rfl⟩ := Option.map_eq_some_iff.1 he'; rw [hte q hq]; rfl
set_option maxHeartbeats 1000000 in
theorem X7 {N : Nat} (ihn : Q1 N) {a b d : Ex} {I : Heap} (ht : Tab I) {cs : List Value} (hlt : SizeOf.sizeOf (Ex.ite a b d) < N + 1) (h : Rep I (Ex.ite a b d).tree cs) (hok : (Ex.ite a b d).ok = true) (L : Bh) :
  Fun Tryz.prog 44 [.agg cs.toArray] I L (SP (Ex.ite a b d).step L) := by
 obtain ⟨oa, c, oaf, cf, rfl, hf, hcl, hcs⟩ := h.cells
 have hpos : 0 < (Ex.ite a b d).tree.parts.length := by show 0 < 4; decide
 obtain ⟨xa, rfl⟩ : ∃ xa, oa = some xa := ⟨_, Ct hf.nil hpos⟩
 have hlen : (Ex.ite a b d).tree.parts.length = 4 := rfl
 have hp := hf.len
 have hev : Tr (Ex.ite a b d).tree = [1] := rfl
 simp only [Ex.ite.sizeOf_spec] at hlt
 have hok0 := hok
 simp only [Ex.ok, Bool.and_eq_true, decide_eq_true_eq] at hok
 obtain ⟨_, hrl⟩ : ∃ _ : True, RepL I (Ex.ite a b d).tree.parts _ := ⟨trivial, hcl⟩
 simp only [show (Ex.ite a b d).tree.parts = [.node F5 [], a.tree, b.tree, d.tree] from rfl, El, List.cons_append, List.nil_append] at hrl
 refine Ag (by simp) ?_; refine Se rfl ?_; refine B7 rfl rfl .free rfl ?_; intro b1; refine Aw .free rfl ?_; intro b2; refine Oa rfl (Aa (Ab (Se rfl ?_))); refine A3 rfl .free rfl ?_; refine Ca rfl (Dd hf.rep _) ?_; rintro _ J0 _ e0 ⟨ok, ck, rfl, hk, rfl⟩
 have hf := hf.mono e0
 have ht := ht.mono e0
 have hle := e0
 rw [hev] at hk; rw [hev]; refine On rfl (Om rfl (Aa (Aj ?_))); refine Dz ?_; refine Se rfl (Oc rfl rfl rfl (Aa (Ab ?_))); refine Cc rfl (by first | rfl | decide | (simp; done) | omega) ?_; refine Ae (Ab (Aj (Se rfl ?_)))
 first | refine A5 rfl rfl _ rfl .free rfl ?_ | refine A6 rfl rfl _ rfl .free rfl ?_
 refine Ef rfl .free rfl ?_; refine Oa rfl (Aa (Ab (Se rfl (Oh rfl ?_)))); refine A1 rfl .free rfl ?_; refine Om rfl ?_
 first | refine A5 rfl rfl _ rfl .free rfl ?_ | refine A6 rfl rfl _ rfl .free rfl ?_
 refine D9 rfl .free rfl ?_; refine Ca rfl (Et _ (Nat.lt_succ_self _) (hf.as 1 a.tree (by omega) rfl) hok.1.1 _) ?_; rintro _ _ _ _ ⟨rfl, rfl, rfl⟩; refine Aa ?_; refine As rfl ?_ ?_
 ·intro c1
  try simp only [nb] at c1
  have hva : a.value = true := c1
  refine Bz rfl ?_; refine Af rfl ?_; refine Or rfl rfl rfl ?_; refine Om rfl (Aa ?_); refine B0 ?_; refine Se rfl (Oc rfl rfl rfl (Aa (Ab ?_))); refine C5 rfl (by first | rfl | decide | (simp; done) | omega) ?_; refine Bz rfl ?_; refine Ab (Se rfl ?_); refine A3 rfl .free rfl ?_; refine Ca rfl (Bk hf.rep _) ?_; rintro _ _ _ _ ⟨rfl, rfl, rfl⟩; rw [show (Ex.ite a b d).tree.head = [105, 102] from rfl]
  have hturn : (Ex.ite a b d).step = (Ex.ite a b d).turn := by simp only [Ex.step, hva, Bool.true_eq_false, if_false]
  refine Aa (Aj (Ab (Se rfl (Od rfl rfl rfl (Oa rfl (Aa ?_))))))
  first | refine Sf rfl (by decide) ?_ | refine Al (by simp [look, A7, *]) ?_
  refine Se rfl (Od rfl rfl rfl (Oa rfl (Aa ?_)))
  first | refine Sf rfl (by decide) ?_ | refine Al (by simp [look, A7, *]) ?_
  refine Af rfl (Od rfl rfl rfl (Oa rfl (Aa ?_)))
  first | refine Sf rfl (by decide) ?_ | refine Al (by simp [look, A7, *]) ?_
  refine Se rfl (Od rfl rfl rfl (Oa rfl (Aa ?_)))
  first | refine St rfl (rfl) ?_ | refine Bj (by simp [look, A7, *]) ?_
  refine Se rfl (Oh rfl ?_); refine A1 rfl .free rfl ?_
  first | refine A5 rfl rfl 1 rfl .free rfl ?_ | refine A6 rfl rfl 1 rfl .free rfl ?_
  refine D9 rfl .free rfl ?_; refine Aw .free rfl ?_; intro b11; refine Bn rfl rfl rfl rfl .free ?_; refine Aa (Aj (Se rfl ?_)); refine A3 rfl .free rfl ?_; refine Ca rfl (Bu (hf.as 1 a.tree (by omega) rfl) _) ?_; rintro _ _ _ _ ⟨rfl, rfl, rfl⟩; refine Cp rfl .free rfl ?_; refine Oa rfl (Aa ?_); refine As rfl ?_ ?_
  ·intro c7
   try simp only [nb] at c7
   have hno : (Ex.ite a b d).turn = none := by
    cases hty : (Ex.ite a b d).turn with
    | none => rfl
    | some e' =>
     obtain ⟨p, rfl, rfl⟩ := K9 hty
     exact absurd c7 (by simp [Ex.tree, Tree.parts])
   refine Ae (Ak (Ak (Se rfl ?_))); refine Bt rfl rfl rfl .free rfl ?_; refine Bn rfl rfl rfl rfl .free ?_; refine Oa rfl (Aa ?_); refine Ad (.c rfl (.tmp rfl .nil)) ?_
   exact ⟨_, L, hle, Bf, SP.none' (by rw [hturn, hno])⟩
  intro c7
  try simp only [nb] at c7
  obtain ⟨p, rfl⟩ := Ih (show a.tree.parts.isEmpty = true by simpa using c7) hva; refine Se rfl (Oh rfl ?_); refine A1 rfl .free rfl ?_; refine Od rfl rfl rfl (Oa rfl (Aa ?_)); refine As rfl ?_ ?_
  ·intro c8
   try simp only [nb] at c8
   refine Se rfl (Oh rfl ?_); refine A1 rfl .free rfl ?_
   first | refine A5 rfl rfl 2 rfl .free rfl ?_ | refine A6 rfl rfl 2 rfl .free rfl ?_
   refine D9 rfl .free rfl ?_; refine Bn rfl rfl rfl rfl .free ?_; refine Oa rfl (Aa ?_); refine Ad (.c rfl (.tmp rfl .nil)) ?_; refine ⟨_, L, hle, Bf, b.tree, _, by rw [hturn]; rfl, hf.as 2 b.tree (by omega) rfl, fun e' he' => ?_, rfl⟩; rw [hturn] at he'; obtain rfl := Option.some.inj he'; rw [if_pos (show p = [48] from c8)]
  intro c8
  try simp only [nb] at c8
  refine Se rfl (Oh rfl ?_); refine A1 rfl .free rfl ?_
  first | refine A5 rfl rfl 3 rfl .free rfl ?_ | refine A6 rfl rfl 3 rfl .free rfl ?_
  refine D9 rfl .free rfl ?_; refine Bn rfl rfl rfl rfl .free ?_; refine Oa rfl (Aa ?_); refine Ad (.c rfl (.tmp rfl .nil)) ?_; refine ⟨_, L, hle, Bf, d.tree, _, by rw [hturn]; rfl, hf.as 3 d.tree (by omega) rfl, fun e' he' => ?_, rfl⟩; rw [hturn] at he'; obtain rfl := Option.some.inj he'; rw [if_neg (show ¬ p = [48] from c8)]
 intro c1
 try simp only [nb] at c1
 have hva : a.value = false := by simpa using c1
 have hst : (Ex.ite a b d).step = a.step.map fun q => .ite q b d := by simp only [Ex.step, hva, if_true]
 refine Ae (Se rfl (Oh rfl ?_)); refine A1 rfl .free rfl ?_; refine Om rfl ?_
 first | refine A5 rfl rfl _ rfl .free rfl ?_ | refine A6 rfl rfl _ rfl .free rfl ?_
 refine D9 rfl .free rfl ?_; refine Ca rfl (ihn ht (by omega) (hf.as 1 a.tree (by omega) rfl) hok.1.1 _) ?_; rintro _ J1 _ e1 ⟨t1, cs1, rfl, hr, hte, rfl⟩; obtain ⟨o1, k1, _, rfl, -⟩ := hr.open
 have hf := hf.mono e1
 have hle := hle.trans e1
 have hk := hk.mono e1
 refine Om rfl (Oe rfl rfl (Oe rfl rfl ?_)); refine Aw .free rfl ?_; intro b6; refine Bn rfl rfl rfl rfl .free ?_; refine Oa rfl (Aa (Se rfl (Oh rfl ?_))); refine A1 rfl .free rfl ?_; refine Ca rfl (Fm ((hcs _ rfl).mono hle) (by have := hcl.length; omega) hcl.plain hpos hp _) ?_; rintro _ _ _ _ ⟨bc, sp, cc, rfl, hcc, rfl, rfl⟩
 simp only [show (Ex.ite a b d).tree.parts = [.node F5 [], a.tree, b.tree, d.tree] from rfl, El, List.cons_append, List.nil_append]
 refine Bt rfl rfl rfl .free rfl ?_; refine Aw .free rfl ?_; intro b8; refine Bn rfl rfl rfl rfl .free ?_; refine Aa (Se rfl (Oh rfl ?_)); refine A1 rfl .free rfl ?_; refine Om rfl ?_; refine A3 rfl .free rfl ?_
 first | refine A5 rfl rfl _ rfl .free rfl ?_ | refine A6 rfl rfl _ rfl .free rfl ?_
 refine Bn rfl rfl rfl rfl .free ?_; refine Aa (Se rfl ?_); refine A3 rfl .free rfl ?_; refine Om rfl ?_; refine Bn rfl rfl rfl rfl .free ?_; refine Oa rfl (Aa ?_); refine Bg (fun w h => h.f1) (Bi ?_); intro hz
 have hf := hf.mono hz
 refine Ad (.c rfl (.tmp rfl .nil)) ?_; refine ⟨_, L, hle.trans hz, Bf, .node [] [.node F5 [], t1, b.tree, d.tree], [.string (str []), .slice (some ⟨bc, 0, none⟩) (Ex.ite a b d).tree.parts.length cc], ?_, .mk' rfl (.cons (hf.as 0 (.node F5 []) (by omega) rfl) (.cons (hr.mono hz) (.cons (hf.as 2 (b.tree) (by omega) rfl) (.cons (hf.as 3 (d.tree) (by omega) rfl) (.nil))))) (fun y hy => by cases hy; exact Be (xs := [_, _, _, _, _, _, _, _])) (by simp) hcc (by simp [Az]) hp, ?_, rfl⟩
 ·rw [Gl hst]; rfl
 ·intro e' he'; rw [hst] at he'; obtain ⟨q, hq, rfl⟩ := Option.map_eq_some_iff.1 he'; rw [hte q hq]; rfl
set_option maxHeartbeats 1000000 in
theorem Zr {N : Nat} (ihn : Q1 N) {z : Ap} {a b : Ex} {I : Heap} (ht : Tab I) {cs : List Value} (hlt : SizeOf.sizeOf (Ex.lt z a b) < N + 1) (h : Rep I (Ex.lt z a b).tree cs) (hok : (Ex.lt z a b).ok = true) (L : Bh) :
  Fun Tryz.prog 44 [.agg cs.toArray] I L (SP (Ex.lt z a b).step L) := by
 obtain ⟨oa, c, oaf, cf, rfl, hf, hcl, hcs⟩ := h.cells
 have hpos : 0 < (Ex.lt z a b).tree.parts.length := by show 0 < 4; decide
 obtain ⟨xa, rfl⟩ : ∃ xa, oa = some xa := ⟨_, Ct hf.nil hpos⟩
 have hlen : (Ex.lt z a b).tree.parts.length = 4 := rfl
 have hp := hf.len
 have hev : Tr (Ex.lt z a b).tree = [2] := rfl
 simp only [Ex.lt.sizeOf_spec] at hlt
 have hok0 := hok
 simp only [Ex.ok, Bool.and_eq_true, decide_eq_true_eq] at hok
 obtain ⟨_, hrl⟩ : ∃ _ : True, RepL I (Ex.lt z a b).tree.parts _ := ⟨trivial, hcl⟩
 simp only [show (Ex.lt z a b).tree.parts = [.node Dk [], .node z [], a.tree, b.tree] from rfl, El, List.cons_append, List.nil_append] at hrl
 refine Ag (by simp) ?_; refine Se rfl ?_; refine B7 rfl rfl .free rfl ?_; intro b1; refine Aw .free rfl ?_; intro b2; refine Oa rfl (Aa (Ab (Se rfl ?_))); refine A3 rfl .free rfl ?_; refine Ca rfl (Dd hf.rep _) ?_; rintro _ J0 _ e0 ⟨ok, ck, rfl, hk, rfl⟩
 have hf := hf.mono e0
 have ht := ht.mono e0
 have hle := e0
 rw [hev] at hk; rw [hev]; refine On rfl (Om rfl (Aa (Aj ?_))); refine Dz ?_; refine Se rfl (Oc rfl rfl rfl (Aa (Ab ?_))); refine Cc rfl (by first | rfl | decide | (simp; done) | omega) ?_; refine Ae (Ab (Aj (Se rfl ?_)))
 first | refine A5 rfl rfl _ rfl .free rfl ?_ | refine A6 rfl rfl _ rfl .free rfl ?_
 refine Ef rfl .free rfl ?_; refine Oa rfl (Aa (Ab (Se rfl (Oh rfl ?_)))); refine A1 rfl .free rfl ?_; refine Om rfl ?_
 first | refine A5 rfl rfl _ rfl .free rfl ?_ | refine A6 rfl rfl _ rfl .free rfl ?_
 refine D9 rfl .free rfl ?_; refine Ca rfl (Et _ (Nat.lt_succ_self _) (hf.as 2 a.tree (by omega) rfl) hok.1.2 _) ?_; rintro _ _ _ _ ⟨rfl, rfl, rfl⟩; refine Aa ?_; refine As rfl ?_ ?_
 ·intro c1
  try simp only [nb] at c1
  have hva : a.value = true := c1
  refine Bz rfl ?_; refine Af rfl ?_; refine Or rfl rfl rfl ?_; refine Om rfl (Aa ?_); refine B0 ?_; refine Se rfl (Oc rfl rfl rfl (Aa (Ab ?_))); refine C5 rfl (by first | rfl | decide | (simp; done) | omega) ?_; refine Bz rfl ?_; refine Ab (Se rfl ?_); refine A3 rfl .free rfl ?_; refine Ca rfl (Bk hf.rep _) ?_; rintro _ _ _ _ ⟨rfl, rfl, rfl⟩; rw [show (Ex.lt z a b).tree.head = [108, 101, 116] from rfl]
  have hturn : (Ex.lt z a b).step = (Ex.lt z a b).turn := by simp only [Ex.step, hva, Bool.true_eq_false, if_false]
  refine Aa (Aj (Ab (Se rfl (Od rfl rfl rfl (Oa rfl (Aa ?_))))))
  first | refine Sf rfl (by decide) ?_ | refine Al (by simp [look, A7, *]) ?_
  refine Se rfl (Od rfl rfl rfl (Oa rfl (Aa ?_)))
  first | refine Sf rfl (by decide) ?_ | refine Al (by simp [look, A7, *]) ?_
  refine Af rfl (Od rfl rfl rfl (Oa rfl (Aa ?_)))
  first | refine Sf rfl (by decide) ?_ | refine Al (by simp [look, A7, *]) ?_
  refine Se rfl (Od rfl rfl rfl (Oa rfl (Aa ?_)))
  first | refine Sf rfl (by decide) ?_ | refine Al (by simp [look, A7, *]) ?_
  refine Se rfl (Od rfl rfl rfl (Oa rfl (Aa ?_)))
  first | refine St rfl (rfl) ?_ | refine Bj (by simp [look, A7, *]) ?_
  refine Ab ?_; refine Dp 16 rfl rfl ?_; refine Da 0 rfl (Ai rfl) ?_; refine Dt 1 [14] rfl (Br rfl) ?_
  first | refine Da 2 rfl (Bl rfl rfl 3 rfl) ?_ | refine Da 2 rfl (Bm rfl rfl 3 rfl) ?_
  refine Dt 3 [14] rfl (Bq rfl) ?_; refine Da 4 rfl (Ai rfl) ?_; refine Dt 5 [14] rfl (Br rfl) ?_
  first | refine Da 6 rfl (Bl rfl rfl 1 rfl) ?_ | refine Da 6 rfl (Bm rfl rfl 1 rfl) ?_
  refine Da 7 rfl (Bb rfl) ?_; refine Dt 8 [14] rfl (Jd rfl) ?_; refine Da 9 rfl (Ai rfl) ?_; refine Dt 10 [14] rfl (Br rfl) ?_
  first | refine Da 11 rfl (Bl rfl rfl 2 rfl) ?_ | refine Da 11 rfl (Bm rfl rfl 2 rfl) ?_
  refine Dt 12 [14] rfl (Bq rfl) ?_; refine Dc 13 rfl rfl (L7 _ (Nat.lt_succ_self _) (hf.as 3 b.tree (by omega) rfl) hok.2 z hok.1.1 (hf.as 2 a.tree (by omega) rfl) _) ?_; rintro _ J2 _ e2 ⟨cs2, rfl, hr2, rfl⟩; obtain ⟨o2, k2, _, rfl, -⟩ := hr2.open
  have hle := hle.trans e2
  refine Hx ?_; refine Dx 14 rfl rfl rfl rfl ?_; refine Db 15 rfl (A2 rfl) ?_; refine At (by kernel_rfl) ?_; refine Ad (.c rfl (.tmp rfl .nil)) ?_; refine ⟨_, L, hle, Bf, (b.put z a).tree, _, by rw [hturn]; rfl, hr2, fun e' he' => ?_, rfl⟩; rw [hturn] at he'; obtain rfl := Option.some.inj he'
  rfl
 intro c1
 try simp only [nb] at c1
 have hva : a.value = false := by simpa using c1
 have hst : (Ex.lt z a b).step = a.step.map fun q => .lt z q b := by simp only [Ex.step, hva, if_true]
 refine Ae (Se rfl (Oh rfl ?_)); refine A1 rfl .free rfl ?_; refine Om rfl ?_
 first | refine A5 rfl rfl _ rfl .free rfl ?_ | refine A6 rfl rfl _ rfl .free rfl ?_
 refine D9 rfl .free rfl ?_; refine Ca rfl (ihn ht (by omega) (hf.as 2 a.tree (by omega) rfl) hok.1.2 _) ?_; rintro _ J1 _ e1 ⟨t1, cs1, rfl, hr, hte, rfl⟩; obtain ⟨o1, k1, _, rfl, -⟩ := hr.open
 have hf := hf.mono e1
 have hle := hle.trans e1
 have hk := hk.mono e1
 refine Om rfl (Oe rfl rfl (Oe rfl rfl ?_)); refine Aw .free rfl ?_; intro b6; refine Bn rfl rfl rfl rfl .free ?_; refine Oa rfl (Aa (Se rfl (Oh rfl ?_))); refine A1 rfl .free rfl ?_; refine Ca rfl (Fm ((hcs _ rfl).mono hle) (by have := hcl.length; omega) hcl.plain hpos hp _) ?_; rintro _ _ _ _ ⟨bc, sp, cc, rfl, hcc, rfl, rfl⟩
 simp only [show (Ex.lt z a b).tree.parts = [.node Dk [], .node z [], a.tree, b.tree] from rfl, El, List.cons_append, List.nil_append]
 refine Bt rfl rfl rfl .free rfl ?_; refine Aw .free rfl ?_; intro b8; refine Bn rfl rfl rfl rfl .free ?_; refine Aa (Se rfl (Oh rfl ?_)); refine A1 rfl .free rfl ?_; refine Om rfl ?_; refine A3 rfl .free rfl ?_
 first | refine A5 rfl rfl _ rfl .free rfl ?_ | refine A6 rfl rfl _ rfl .free rfl ?_
 refine Bn rfl rfl rfl rfl .free ?_; refine Aa (Se rfl ?_); refine A3 rfl .free rfl ?_; refine Om rfl ?_; refine Bn rfl rfl rfl rfl .free ?_; refine Oa rfl (Aa ?_); refine Bg (fun w h => h.f1) (Bi ?_); intro hz
 have hf := hf.mono hz
 refine Ad (.c rfl (.tmp rfl .nil)) ?_; refine ⟨_, L, hle.trans hz, Bf, .node [] [.node Dk [], .node z [], t1, b.tree], [.string (str []), .slice (some ⟨bc, 0, none⟩) (Ex.lt z a b).tree.parts.length cc], ?_, .mk' rfl (.cons (hf.as 0 (.node Dk []) (by omega) rfl) (.cons (hf.as 1 (.node z []) (by omega) rfl) (.cons (hr.mono hz) (.cons (hf.as 3 (b.tree) (by omega) rfl) (.nil))))) (fun y hy => by cases hy; exact Be (xs := [_, _, _, _, _, _, _, _])) (by simp) hcc (by simp [Az]) hp, ?_, rfl⟩
 ·rw [Gl hst]; rfl
 ·intro e' he'; rw [hst] at he'; obtain ⟨q, hq, rfl⟩ := Option.map_eq_some_iff.1 he'; rw [hte q hq]; rfl
set_option maxHeartbeats 1000000 in
theorem Zq {N : Nat} (ihn : Q1 N) {g z : Ap} {s t : Ty} {b : Ex} {I : Heap} (ht : Tab I) {cs : List Value} (hlt : SizeOf.sizeOf (Ex.fn g z s t b) < N + 1) (h : Rep I (Ex.fn g z s t b).tree cs) (hok : (Ex.fn g z s t b).ok = true) (L : Bh) :
  Fun Tryz.prog 44 [.agg cs.toArray] I L (SP (Ex.fn g z s t b).step L) := by
 obtain ⟨oa, c, oaf, cf, rfl, hf, hcl, hcs⟩ := h.cells
 have hpos : 0 < (Ex.fn g z s t b).tree.parts.length := by show 0 < 6; decide
 obtain ⟨xa, rfl⟩ : ∃ xa, oa = some xa := ⟨_, Ct hf.nil hpos⟩
 have hlen : (Ex.fn g z s t b).tree.parts.length = 6 := rfl
 have hp := hf.len
 have hev : Tr (Ex.fn g z s t b).tree = [] := rfl
 simp only [Ex.fn.sizeOf_spec] at hlt
 have hok0 := hok
 simp only [Ex.ok, Bool.and_eq_true, decide_eq_true_eq] at hok
 obtain ⟨_, hrl⟩ : ∃ _ : True, RepL I (Ex.fn g z s t b).tree.parts _ := ⟨trivial, hcl⟩
 simp only [show (Ex.fn g z s t b).tree.parts = [.node Dj [], .node g [], .node z [], s.tree, t.tree, b.tree] from rfl, El, List.cons_append, List.nil_append] at hrl
 refine Ag (by simp) ?_; refine Se rfl ?_; refine B7 rfl rfl .free rfl ?_; intro b1; refine Aw .free rfl ?_; intro b2; refine Oa rfl (Aa (Ab (Se rfl ?_))); refine A3 rfl .free rfl ?_; refine Ca rfl (Dd hf.rep _) ?_; rintro _ J0 _ e0 ⟨ok, ck, rfl, hk, rfl⟩
 have hf := hf.mono e0
 have ht := ht.mono e0
 have hle := e0
 rw [hev] at hk; rw [hev]; refine On rfl (Om rfl (Aa (Aj ?_))); refine Dz ?_; refine Se rfl (Oc rfl rfl rfl (Aa (Ab ?_))); refine C5 rfl (by first | rfl | decide | (simp; done) | omega) ?_; refine Bz rfl ?_; refine Ab (Se rfl ?_); refine A3 rfl .free rfl ?_; refine Ca rfl (Bk hf.rep _) ?_; rintro _ _ _ _ ⟨rfl, rfl, rfl⟩; rw [show (Ex.fn g z s t b).tree.head = [102, 117, 110] from rfl]
 have hturn : (Ex.fn g z s t b).step = (Ex.fn g z s t b).turn := rfl
 refine Aa (Aj (Ab (Se rfl (Od rfl rfl rfl (Oa rfl (Aa ?_))))))
 first | refine Sf rfl (by decide) ?_ | refine Al (by simp [look, A7, *]) ?_
 refine Se rfl (Od rfl rfl rfl (Oa rfl (Aa ?_)))
 first | refine Sf rfl (by decide) ?_ | refine Al (by simp [look, A7, *]) ?_
 refine Af rfl (Od rfl rfl rfl (Oa rfl (Aa ?_)))
 first | refine Sf rfl (by decide) ?_ | refine Al (by simp [look, A7, *]) ?_
 refine Se rfl (Od rfl rfl rfl (Oa rfl (Aa ?_)))
 first | refine Sf rfl (by decide) ?_ | refine Al (by simp [look, A7, *]) ?_
 refine Se rfl (Od rfl rfl rfl (Oa rfl (Aa ?_)))
 first | refine Sf rfl (by decide) ?_ | refine Al (by simp [look, A7, *]) ?_
 refine Se rfl (Od rfl rfl rfl (Oa rfl (Aa ?_)))
 first | refine Sf rfl (by decide) ?_ | refine Al (by simp [look, A7, *]) ?_
 refine Ab (Se rfl (Od rfl rfl rfl (Oa rfl (Aa ?_))))
 first | refine Sf rfl (by decide) ?_ | refine Al (by simp [look, A7, *]) ?_
 refine Af rfl (Od rfl rfl rfl (Oa rfl (Aa ?_)))
 first | refine Sf rfl (by decide) ?_ | refine Al (by simp [look, A7, *]) ?_
 refine Ae (Ak (Ab ?_))
 have hno : (Ex.fn g z s t b).turn = none := by
  first
   | rfl
   | (cases a <;> first | rfl | (cases b <;> rfl))
 refine Af rfl ?_; refine Bt rfl rfl rfl .free rfl ?_; refine Bn rfl rfl rfl rfl .free ?_; refine Oa rfl (Aa ?_); refine Ad (.c rfl (.tmp rfl .nil)) ?_
 exact ⟨_, L, hle, Bf, SP.none' (by rw [hturn, hno])⟩
set_option maxHeartbeats 1000000 in
theorem Zs {N : Nat} (ihn : Q1 N) {o : U2} {a : Ex} {I : Heap} (ht : Tab I) {cs : List Value} (hlt : SizeOf.sizeOf (Ex.un o a) < N + 1) (h : Rep I (Ex.un o a).tree cs) (hok : (Ex.un o a).ok = true) (L : Bh) :
  Fun Tryz.prog 44 [.agg cs.toArray] I L (SP (Ex.un o a).step L) := by
 obtain ⟨oa, c, oaf, cf, rfl, hf, hcl, hcs⟩ := h.cells
 have hpos : 0 < (Ex.un o a).tree.parts.length := by show 0 < 2; decide
 obtain ⟨xa, rfl⟩ : ∃ xa, oa = some xa := ⟨_, Ct hf.nil hpos⟩
 have hlen : (Ex.un o a).tree.parts.length = 2 := rfl
 have hp := hf.len
 have hev : Tr (Ex.un o a).tree = [1] := by cases o <;> rfl
 simp only [Ex.un.sizeOf_spec] at hlt
 have hok0 := hok
 simp only [Ex.ok, Bool.and_eq_true, decide_eq_true_eq] at hok
 obtain ⟨_, hrl⟩ : ∃ _ : True, RepL I (Ex.un o a).tree.parts _ := ⟨trivial, hcl⟩
 simp only [show (Ex.un o a).tree.parts = [.node o.txt [], a.tree] from rfl, El, List.cons_append, List.nil_append] at hrl
 refine Ag (by simp) ?_; refine Se rfl ?_; refine B7 rfl rfl .free rfl ?_; intro b1; refine Aw .free rfl ?_; intro b2; refine Oa rfl (Aa (Ab (Se rfl ?_))); refine A3 rfl .free rfl ?_; refine Ca rfl (Dd hf.rep _) ?_; rintro _ J0 _ e0 ⟨ok, ck, rfl, hk, rfl⟩
 have hf := hf.mono e0
 have ht := ht.mono e0
 have hle := e0
 rw [hev] at hk; rw [hev]; refine On rfl (Om rfl (Aa (Aj ?_))); refine Dz ?_; refine Se rfl (Oc rfl rfl rfl (Aa (Ab ?_))); refine Cc rfl (by first | rfl | decide | (simp; done) | omega) ?_; refine Ae (Ab (Aj (Se rfl ?_)))
 first | refine A5 rfl rfl _ rfl .free rfl ?_ | refine A6 rfl rfl _ rfl .free rfl ?_
 refine Ef rfl .free rfl ?_; refine Oa rfl (Aa (Ab (Se rfl (Oh rfl ?_)))); refine A1 rfl .free rfl ?_; refine Om rfl ?_
 first | refine A5 rfl rfl _ rfl .free rfl ?_ | refine A6 rfl rfl _ rfl .free rfl ?_
 refine D9 rfl .free rfl ?_; refine Ca rfl (Et _ (Nat.lt_succ_self _) (hf.as 1 a.tree (by omega) rfl) hok _) ?_; rintro _ _ _ _ ⟨rfl, rfl, rfl⟩; refine Aa ?_; refine As rfl ?_ ?_
 ·intro c1
  try simp only [nb] at c1
  have hva : a.value = true := c1
  refine Bz rfl ?_; refine Af rfl ?_; refine Or rfl rfl rfl ?_; refine Om rfl (Aa ?_); refine B0 ?_; refine Se rfl (Oc rfl rfl rfl (Aa (Ab ?_))); refine C5 rfl (by first | rfl | decide | (simp; done) | omega) ?_; refine Bz rfl ?_; refine Ab (Ab ?_)
  rcases o with _ | _
  ·skip
   refine Af rfl ?_; refine A3 rfl .free rfl ?_; refine Ca rfl (Bk hf.rep _) ?_; rintro _ _ _ _ ⟨rfl, rfl, rfl⟩; rw [show (Ex.un .fst a).tree.head = [102, 115, 116] from rfl]
   have hturn : (Ex.un .fst a).step = (Ex.un .fst a).turn := by simp only [Ex.step, hva, Bool.true_eq_false, if_false]
   refine Aa (Aj (Ab (Se rfl (Od rfl rfl rfl (Oa rfl (Aa ?_))))))
   first | refine Sf rfl (by decide) ?_ | refine Al (by simp [look, A7, *]) ?_
   refine Se rfl (Od rfl rfl rfl (Oa rfl (Aa ?_)))
   first | refine Sf rfl (by decide) ?_ | refine Al (by simp [look, A7, *]) ?_
   refine Af rfl (Od rfl rfl rfl (Oa rfl (Aa ?_)))
   first | refine Sf rfl (by decide) ?_ | refine Al (by simp [look, A7, *]) ?_
   refine Se rfl (Od rfl rfl rfl (Oa rfl (Aa ?_)))
   first | refine Sf rfl (by decide) ?_ | refine Al (by simp [look, A7, *]) ?_
   refine Se rfl (Od rfl rfl rfl (Oa rfl (Aa ?_)))
   first | refine Sf rfl (by decide) ?_ | refine Al (by simp [look, A7, *]) ?_
   refine Se rfl (Od rfl rfl rfl (Oa rfl (Aa ?_)))
   first | refine Sf rfl (by decide) ?_ | refine Al (by simp [look, A7, *]) ?_
   refine Ab (Se rfl (Od rfl rfl rfl (Oa rfl (Aa ?_))))
   first | refine St rfl (rfl) ?_ | refine Bj (by simp [look, A7, *]) ?_
   refine Ae ?_
   first | refine St rfl (rfl) ?_ | refine Bj (by simp [look, A7, *]) ?_
   refine Se rfl (Oh rfl ?_); refine A1 rfl .free rfl ?_
   first | refine A5 rfl rfl 1 rfl .free rfl ?_ | refine A6 rfl rfl 1 rfl .free rfl ?_
   refine D9 rfl .free rfl ?_; refine Aw .free rfl ?_; intro b13; refine Bn rfl rfl rfl rfl .free ?_; refine Aa (Se rfl ?_); refine A3 rfl .free rfl ?_; refine Ca rfl (Bk (hf.as 1 a.tree (by omega) rfl) _) ?_; rintro _ _ _ _ ⟨rfl, rfl, rfl⟩; refine Od rfl rfl rfl (Aa ?_); refine As rfl ?_ ?_
   ·intro c14
    try simp only [nb] at c14
    obtain ⟨p, q, rfl⟩ := Ex.of_pair (show a.tree.head = C8 from c14)
    have hra := hf.as 1 (Ex.bin .pair p q).tree (by omega) rfl
    obtain ⟨oa2, c2, oaf2, cf2, he2, hf2⟩ := hra.at'
    simp only [List.cons.injEq, Value.slice.injEq, and_true, true_and] at he2
    obtain ⟨rfl, rfl⟩ := he2; obtain ⟨xa2, hxa2⟩ : ∃ x, oaf 1 = some x := ⟨_, Ct hf2.nil (show 0 < 3 by decide)⟩
    have hl2 : (Ex.bin .pair p q).tree.parts.length = 3 := rfl
    refine Ab (Se rfl ?_); refine A3 rfl .free rfl ?_; refine Ca rfl (Bk hf.rep _) ?_; rintro _ _ _ _ ⟨rfl, rfl, rfl⟩; rw [show (Ex.un .fst (.bin .pair p q)).tree.head = [102, 115, 116] from rfl]; refine Od rfl rfl rfl (Aa ?_)
    first | refine St rfl (rfl) ?_ | refine Bj (by simp [look, A7, *]) ?_
    refine Se rfl (Oh rfl ?_); refine A1 rfl .free rfl ?_
    first | refine A5 rfl rfl 1 rfl .free rfl ?_ | refine A6 rfl rfl 1 rfl .free rfl ?_
    refine D9 rfl .free rfl ?_; refine Bn rfl rfl rfl rfl .free ?_; refine Oa rfl (Aa ?_); refine Ad (.c rfl (.tmp rfl .nil)) ?_; refine ⟨_, L, hle, Bf, p.tree, _, by rw [hturn]; rfl, hf2.as 1 p.tree (by omega) rfl, fun e' he' => ?_, rfl⟩; rw [hturn] at he'; obtain rfl := Option.some.inj he'
    rfl
   intro c14
   try simp only [nb] at c14
   have hno : (Ex.un .fst a).turn = none := by
    cases hty : (Ex.un .fst a).turn with
    | none => rfl
    | some e' =>
     obtain ⟨p, q, rfl, rfl⟩ := Ln hty
     exact absurd rfl c14
   refine Ae (Ak (Se rfl ?_)); refine Bt rfl rfl rfl .free rfl ?_; refine Bn rfl rfl rfl rfl .free ?_; refine Oa rfl (Aa ?_); refine Ad (.c rfl (.tmp rfl .nil)) ?_
   exact ⟨_, L, hle, Bf, SP.none' (by rw [hturn, hno])⟩
  ·skip
   refine Af rfl ?_; refine A3 rfl .free rfl ?_; refine Ca rfl (Bk hf.rep _) ?_; rintro _ _ _ _ ⟨rfl, rfl, rfl⟩; rw [show (Ex.un .snd a).tree.head = [115, 110, 100] from rfl]
   have hturn : (Ex.un .snd a).step = (Ex.un .snd a).turn := by simp only [Ex.step, hva, Bool.true_eq_false, if_false]
   refine Aa (Aj (Ab (Se rfl (Od rfl rfl rfl (Oa rfl (Aa ?_))))))
   first | refine Sf rfl (by decide) ?_ | refine Al (by simp [look, A7, *]) ?_
   refine Se rfl (Od rfl rfl rfl (Oa rfl (Aa ?_)))
   first | refine Sf rfl (by decide) ?_ | refine Al (by simp [look, A7, *]) ?_
   refine Af rfl (Od rfl rfl rfl (Oa rfl (Aa ?_)))
   first | refine Sf rfl (by decide) ?_ | refine Al (by simp [look, A7, *]) ?_
   refine Se rfl (Od rfl rfl rfl (Oa rfl (Aa ?_)))
   first | refine Sf rfl (by decide) ?_ | refine Al (by simp [look, A7, *]) ?_
   refine Se rfl (Od rfl rfl rfl (Oa rfl (Aa ?_)))
   first | refine Sf rfl (by decide) ?_ | refine Al (by simp [look, A7, *]) ?_
   refine Se rfl (Od rfl rfl rfl (Oa rfl (Aa ?_)))
   first | refine Sf rfl (by decide) ?_ | refine Al (by simp [look, A7, *]) ?_
   refine Ab (Se rfl (Od rfl rfl rfl (Oa rfl (Aa ?_))))
   first | refine Sf rfl (by decide) ?_ | refine Al (by simp [look, A7, *]) ?_
   refine Af rfl (Od rfl rfl rfl (Oa rfl (Aa ?_)))
   first | refine St rfl (rfl) ?_ | refine Bj (by simp [look, A7, *]) ?_
   refine Se rfl (Oh rfl ?_); refine A1 rfl .free rfl ?_
   first | refine A5 rfl rfl 1 rfl .free rfl ?_ | refine A6 rfl rfl 1 rfl .free rfl ?_
   refine D9 rfl .free rfl ?_; refine Aw .free rfl ?_; intro b13; refine Bn rfl rfl rfl rfl .free ?_; refine Aa (Se rfl ?_); refine A3 rfl .free rfl ?_; refine Ca rfl (Bk (hf.as 1 a.tree (by omega) rfl) _) ?_; rintro _ _ _ _ ⟨rfl, rfl, rfl⟩; refine Od rfl rfl rfl (Aa ?_); refine As rfl ?_ ?_
   ·intro c14
    try simp only [nb] at c14
    obtain ⟨p, q, rfl⟩ := Ex.of_pair (show a.tree.head = C8 from c14)
    have hra := hf.as 1 (Ex.bin .pair p q).tree (by omega) rfl
    obtain ⟨oa2, c2, oaf2, cf2, he2, hf2⟩ := hra.at'
    simp only [List.cons.injEq, Value.slice.injEq, and_true, true_and] at he2
    obtain ⟨rfl, rfl⟩ := he2; obtain ⟨xa2, hxa2⟩ : ∃ x, oaf 1 = some x := ⟨_, Ct hf2.nil (show 0 < 3 by decide)⟩
    have hl2 : (Ex.bin .pair p q).tree.parts.length = 3 := rfl
    refine Ab (Se rfl ?_); refine A3 rfl .free rfl ?_; refine Ca rfl (Bk hf.rep _) ?_; rintro _ _ _ _ ⟨rfl, rfl, rfl⟩; rw [show (Ex.un .snd (.bin .pair p q)).tree.head = [115, 110, 100] from rfl]; refine Od rfl rfl rfl (Aa ?_)
    first | refine Sf rfl (by decide) ?_ | refine Al (by simp [look, A7, *]) ?_
    refine Ae (Se rfl (Oh rfl ?_)); refine A1 rfl .free rfl ?_
    first | refine A5 rfl rfl 2 rfl .free rfl ?_ | refine A6 rfl rfl 2 rfl .free rfl ?_
    refine D9 rfl .free rfl ?_; refine Bn rfl rfl rfl rfl .free ?_; refine Oa rfl (Aa ?_); refine Ad (.c rfl (.tmp rfl .nil)) ?_; refine ⟨_, L, hle, Bf, q.tree, _, by rw [hturn]; rfl, hf2.as 2 q.tree (by omega) rfl, fun e' he' => ?_, rfl⟩; rw [hturn] at he'; obtain rfl := Option.some.inj he'
    rfl
   intro c14
   try simp only [nb] at c14
   have hno : (Ex.un .snd a).turn = none := by
    cases hty : (Ex.un .snd a).turn with
    | none => rfl
    | some e' =>
     obtain ⟨p, q, rfl, rfl⟩ := Ln hty
     exact absurd rfl c14
   refine Ae (Ak (Se rfl ?_)); refine Bt rfl rfl rfl .free rfl ?_; refine Bn rfl rfl rfl rfl .free ?_; refine Oa rfl (Aa ?_); refine Ad (.c rfl (.tmp rfl .nil)) ?_
   exact ⟨_, L, hle, Bf, SP.none' (by rw [hturn, hno])⟩
 intro c1
 try simp only [nb] at c1
 have hva : a.value = false := by simpa using c1
 have hst : (Ex.un o a).step = a.step.map fun q => .un o q := by simp only [Ex.step, hva, if_true]
 refine Ae (Se rfl (Oh rfl ?_)); refine A1 rfl .free rfl ?_; refine Om rfl ?_
 first | refine A5 rfl rfl _ rfl .free rfl ?_ | refine A6 rfl rfl _ rfl .free rfl ?_
 refine D9 rfl .free rfl ?_; refine Ca rfl (ihn ht (by omega) (hf.as 1 a.tree (by omega) rfl) hok _) ?_; rintro _ J1 _ e1 ⟨t1, cs1, rfl, hr, hte, rfl⟩; obtain ⟨o1, k1, _, rfl, -⟩ := hr.open
 have hf := hf.mono e1
 have hle := hle.trans e1
 have hk := hk.mono e1
 refine Om rfl (Oe rfl rfl (Oe rfl rfl ?_)); refine Aw .free rfl ?_; intro b6; refine Bn rfl rfl rfl rfl .free ?_; refine Oa rfl (Aa (Se rfl (Oh rfl ?_))); refine A1 rfl .free rfl ?_; refine Ca rfl (Fm ((hcs _ rfl).mono hle) (by have := hcl.length; omega) hcl.plain hpos hp _) ?_; rintro _ _ _ _ ⟨bc, sp, cc, rfl, hcc, rfl, rfl⟩
 simp only [show (Ex.un o a).tree.parts = [.node o.txt [], a.tree] from rfl, El, List.cons_append, List.nil_append]
 refine Bt rfl rfl rfl .free rfl ?_; refine Aw .free rfl ?_; intro b8; refine Bn rfl rfl rfl rfl .free ?_; refine Aa (Se rfl (Oh rfl ?_)); refine A1 rfl .free rfl ?_; refine Om rfl ?_; refine A3 rfl .free rfl ?_
 first | refine A5 rfl rfl _ rfl .free rfl ?_ | refine A6 rfl rfl _ rfl .free rfl ?_
 refine Bn rfl rfl rfl rfl .free ?_; refine Aa (Se rfl ?_); refine A3 rfl .free rfl ?_; refine Om rfl ?_; refine Bn rfl rfl rfl rfl .free ?_; refine Oa rfl (Aa ?_); refine Bg (fun w h => h.f1) (Bi ?_); intro hz
 have hf := hf.mono hz
 refine Ad (.c rfl (.tmp rfl .nil)) ?_; refine ⟨_, L, hle.trans hz, Bf, .node [] [.node o.txt [], t1], [.string (str []), .slice (some ⟨bc, 0, none⟩) (Ex.un o a).tree.parts.length cc], ?_, .mk' rfl (.cons (hf.as 0 (.node o.txt []) (by omega) rfl) (.cons (hr.mono hz) (.nil))) (fun y hy => by cases hy; exact Be (xs := [_, _, _, _])) (by simp) hcc (by simp [Az]) hp, ?_, rfl⟩
 ·rw [Gl hst]; rfl
 ·intro e' he'; rw [hst] at he'; obtain ⟨q, hq, rfl⟩ := Option.map_eq_some_iff.1 he'; rw [hte q hq]; rfl
theorem P2 {e : Ex} (hb : e.bare = true) {I : Heap} {cs : List Value} (h : Rep I e.tree cs) (L : Bh) : Fun Tryz.prog 44 [.agg cs.toArray] I L (SP e.step L) := by
 obtain ⟨oa, c, oaf, cf, rfl, hf⟩ := h.at'
 have hno : e.step = none := by cases e <;> first | rfl | cases hb
 have hev : Tr e.tree = [] := by cases e <;> first | rfl | cases hb
 have hhd : e.tree.head = [] := by cases e <;> first | rfl | cases hb
 refine Ag (by simp) ?_; refine Se rfl ?_; refine B7 rfl rfl .free rfl ?_; intro b1; refine Aw .free rfl ?_; intro b2; refine Oa rfl (Aa (Ab (Se rfl ?_))); refine A3 rfl .free rfl ?_; refine Ca rfl (Dd hf.rep _) ?_; rintro _ J0 _ e0 ⟨ok, ck, rfl, hk, rfl⟩
 have hf := hf.mono e0
 have hle := e0
 rw [hev] at hk; rw [hev]; refine On rfl (Om rfl (Aa (Aj ?_))); refine Dz ?_; refine Se rfl (Oc rfl rfl rfl (Aa (Ab ?_))); refine C5 rfl (by first | rfl | decide | (simp; done) | omega) ?_; refine Bz rfl ?_; refine Ab (Se rfl ?_); refine A3 rfl .free rfl ?_; refine Ca rfl (Bk hf.rep _) ?_; rintro _ _ _ _ ⟨rfl, rfl, rfl⟩; rw [hhd]; refine Aa (Aj (Ab (Se rfl (Od rfl rfl rfl (Oa rfl (Aa ?_))))))
 first | refine Sf rfl (by decide) ?_ | refine Al (by simp [look, A7, *]) ?_
 refine Se rfl (Od rfl rfl rfl (Oa rfl (Aa ?_)))
 first | refine Sf rfl (by decide) ?_ | refine Al (by simp [look, A7, *]) ?_
 refine Af rfl (Od rfl rfl rfl (Oa rfl (Aa ?_)))
 first | refine Sf rfl (by decide) ?_ | refine Al (by simp [look, A7, *]) ?_
 refine Se rfl (Od rfl rfl rfl (Oa rfl (Aa ?_)))
 first | refine Sf rfl (by decide) ?_ | refine Al (by simp [look, A7, *]) ?_
 refine Se rfl (Od rfl rfl rfl (Oa rfl (Aa ?_)))
 first | refine Sf rfl (by decide) ?_ | refine Al (by simp [look, A7, *]) ?_
 refine Se rfl (Od rfl rfl rfl (Oa rfl (Aa ?_)))
 first | refine Sf rfl (by decide) ?_ | refine Al (by simp [look, A7, *]) ?_
 refine Ab (Se rfl (Od rfl rfl rfl (Oa rfl (Aa ?_))))
 first | refine Sf rfl (by decide) ?_ | refine Al (by simp [look, A7, *]) ?_
 refine Af rfl (Od rfl rfl rfl (Oa rfl (Aa ?_)))
 first | refine Sf rfl (by decide) ?_ | refine Al (by simp [look, A7, *]) ?_
 refine Ae (Ak (Se rfl ?_)); refine Bt rfl rfl rfl .free rfl ?_; refine Bn rfl rfl rfl rfl .free ?_; refine Oa rfl (Aa ?_); refine Ad (.c rfl (.tmp rfl .nil)) ?_
 exact ⟨_, L, hle, Bf, SP.none' hno⟩
theorem X5 : ∀ N : Nat, Q1 N := by
 intro N
 induction N with
 | zero => intro I ht e cs h; omega
 | succ N ihn =>
  intro I ht e cs hlt h hok L
  cases e with
  | num s => exact P2 rfl h L
  | name s => exact P2 rfl h L
  | bin o p q => exact X6 ihn ht hlt h hok L
  | ite p q r => exact X7 ihn ht hlt h hok L
  | lt z p q => exact Zr ihn ht hlt h hok L
  | fn h1 z s u q => exact Zq ihn ht hlt h hok L
  | un o p => exact Zs ihn ht hlt h hok L
theorem Oo {I : Heap} (ht : Tab I) {e : Ex} {cs : List Value} (h : Rep I e.tree cs) (hok : e.ok = true) (L : Bh) : Fun Tryz.prog 44 [.agg cs.toArray] I L (SP e.step L) := X5 _ ht (Nat.lt_succ_self _) h hok L
def Ad2 (l m : List Ap) (s : Ap) : Ap := match C1 l s with
 | some i => m.getD i []
 | none => s
def Aeb (N : Nat) : Prop := ∀ {I : Heap} {e : Ex} {cs : List Value} (_ : SizeOf.sizeOf e < N) (_ : Rep I e.tree cs) (_ : e.ok = true) (L : Bh), Fun Tryz.prog 37 [.agg cs.toArray] I L (SP e.step L)
def nvT (s : Ap) : Int := bif By s then Bx s else 0
theorem SP.same {I : Heap} {o : Option Ex} {t : Tree} {ds : List Value} {L : Bh} (h : Rep I t ds) (ho : o = none) : SP o L (.tuple #[.agg (List.toArray ds), .bool false]) I L :=
 ⟨t, ds, by rw [ho]; rfl, h, fun e' h => (by rw [ho] at h; cases h), rfl⟩
theorem Aa2 {e e' : Ex} (hok : e.ok = true) (hz : e.size ≤ 120) (h : e.step = some e') : e'.tree.len ≤ 12000000 := by
 have h1 := Ex.len_size (Ex.step_ok hok h)
 have h2 := Ex.step_size hz h
 omega
theorem Abp {e : Ex} (h : e.step = none) : e.go = none := by unfold Ex.go; rw [h]; split <;> rfl
theorem Ade {e e' : Ex} (h : e.step = some e') : e.go = if e'.fine = true then some e' else none := by
 unfold Ex.go
 rw [if_neg (by rw [Hk h]; simp), h]; rfl
theorem SP.go {I : Heap} {e e' : Ex} {ds : List Value} {L : Bh} (hs : e.step = some e') (h : Rep I e'.tree ds) : SP e.go L (.tuple #[.agg (List.toArray ds), .bool e'.fine]) I L := by
 rw [Ade hs]
 cases hf : e'.fine with
 | true => exact ⟨_, ds, rfl, h, fun e2 h2 => by obtain rfl := Option.some.inj h2; rfl, rfl⟩
 | false => exact SP.same h rfl
theorem Pv {I : Heap} (ht : Tab I) {e : Ex} {cs : List Value} (h : Rep I e.tree cs) (hok : e.ok = true) (hz : e.size ≤ 120) (L : Bh) : Fun Tryz.prog 32 [.agg cs.toArray] I L (SP e.go L) := by
 obtain ⟨oa, c, oaf, cf, rfl, hf⟩ := h.at'; refine Ag (by simp) ?_; refine Se rfl ?_; refine B7 rfl rfl .free rfl ?_; intro b1; refine Aw .free rfl ?_; intro b2; refine Oa rfl (Aa (Ab (Se rfl ?_))); refine A3 rfl .free rfl ?_; refine Ca rfl (Et _ (Nat.lt_succ_self _) hf.rep hok _) ?_; rintro _ _ _ _ ⟨rfl, rfl, rfl⟩; refine Aa ?_; refine As rfl ?_ ?_
 ·intro c0
  try simp only [nb] at c0
  refine Se rfl ?_; refine Bt rfl rfl rfl .free rfl ?_; refine Bn rfl rfl rfl rfl .free ?_; refine Oa rfl (Aa ?_); refine Ad (.c rfl (.tmp rfl .nil)) ?_
  exact ⟨_, L, .refl _, Bf, SP.none' (by unfold Ex.go; rw [if_pos c0])⟩
 intro c0
 try simp only [nb] at c0
 refine Ae (Se rfl ?_); refine A3 rfl .free rfl ?_; refine Ca rfl (Oo ht hf.rep hok _) ?_; rintro _ J1 _ e1 ⟨t1, cs1, rfl, hr, hte, rfl⟩; obtain ⟨o1, k1, _, rfl, -⟩ := hr.open; refine Om rfl (Oe rfl rfl (Oe rfl rfl ?_)); refine Aw .free rfl ?_; intro b4; refine Bn rfl rfl rfl rfl .free ?_; refine Oa rfl (Aa (Ab ?_))
 rcases hs : e.step with _ | e'
 ·skip
  have hgo := Abp hs
  refine Dp 8 rfl rfl ?_; refine Dt 0 [6] rfl (Cx rfl) ?_; refine Da 1 rfl (Ah rfl) ?_; refine Da 2 rfl (Ah rfl) ?_; refine Ha (t := 16) rfl (v' := .bool false) (by first | simp [*] | (simp; omega)) ?_; refine Ds 3 rfl rfl rfl ?_; refine Ds 4 rfl rfl rfl ?_; refine Da 5 rfl (Ep rfl rfl) ?_; refine Dx 6 rfl rfl rfl rfl ?_; refine Db 7 rfl (A2 rfl) ?_; refine At (by kernel_rfl) ?_; refine Ad (.c rfl (.tmp rfl .nil)) ?_
  exact ⟨J1, L, e1, Bf, SP.same hr hgo⟩
 ·skip
  obtain rfl := hte e' hs
  have hl2 := Aa2 hok hz hs
  refine Dp 8 rfl rfl ?_; refine Dt 0 [6] rfl (Cx rfl) ?_; refine Da 1 rfl (Ah rfl) ?_; refine Da 2 rfl (Ah rfl) ?_; refine Ha (t := 16) rfl (v' := .bool true) (by first | simp [*] | (simp; omega)) ?_; refine Gi 3 [4, 6] rfl (by kernel_rfl) rfl Ao (Cx rfl) (.met rfl rfl) rfl ?_; refine Jx 4 rfl (by kernel_rfl) rfl rfl (.met rfl rfl) rfl (Acn hr (Ex.step_ok hok hs) hl2 _) ?_; rintro _ _ _ _ ⟨rfl, rfl, rfl⟩; refine Hx ?_; refine Da 5 rfl (E4 rfl rfl) ?_; refine Dx 6 rfl rfl rfl rfl ?_; refine Db 7 rfl (A2 rfl) ?_; refine At (by kernel_rfl) ?_; refine Ad (.c rfl (.tmp rfl .nil)) ?_
  exact ⟨J1, L, e1, Bf, SP.go hs hr⟩
theorem X2 {e : Ex} (h : e.fine = true) : e.ok = true ∧ e.size ≤ 120 ∧ e.tree.len ≤ 12000 := by
 simp only [Ex.fine, Tree.fits, Bool.and_eq_true, decide_eq_true_eq] at h
 exact ⟨h.1.1, h.1.2, h.2.2⟩
theorem Acm (s : Ap) (hs : s.length ≤ Az) {I : Heap} (ht : Tab I) (L : Bh) : Fun Tryz.prog 10 [.string (str s)] I L (EL (N0 s) L) := by
 refine Ag (by simp) ?_; refine Se rfl (Oa rfl (Oa rfl (Aa (Se rfl (Om rfl ?_))))); refine Ca rfl (Gb s hs _ _) ?_; rintro _ J _ hleJ ⟨t, cs, ok, rfl, hrep, rfl, hpf⟩; obtain ⟨oc, cc, _, rfl, -⟩ := hrep.open
 have g1 := Y5 hpf
 refine Om rfl (Oe rfl rfl (Oe rfl rfl ?_)); refine Aw .free rfl ?_; intro b4; refine Bn rfl rfl rfl rfl .free ?_; refine Oa rfl (Aa (Ab (Se rfl (Om rfl ?_)))); refine Cp rfl .free rfl ?_; refine Aa ?_; refine As rfl ?_ ?_
 ·intro c0
  try simp only [nb] at c0
  refine Se rfl (Oa rfl (Oa rfl (Aa ?_))); refine Ad (.tmp rfl (.tmp rfl .nil)) ?_
  exact ⟨J, L, hleJ, Bf, by rw [Vg (g1.1 c0)]; rfl, rfl⟩
 intro c0
 try simp only [nb] at c0
 obtain ⟨e, he, rfl⟩ := g1.2 (by simpa using c0); obtain ⟨hx, hok, hz, hl, hcl⟩ := E6 he
 have hst := O4 he
 refine Ae (Se rfl ?_); refine A3 rfl .free rfl ?_; refine Ca rfl (Pv (ht.mono hleJ) hrep hok hz _) ?_; rintro _ J2 _ e2 ⟨t1, cs1, rfl, hr, hte, rfl⟩; obtain ⟨o1, k1, _, rfl, -⟩ := hr.open
 have hle := hleJ.trans e2
 refine Om rfl (Oe rfl rfl (Oe rfl rfl ?_)); refine Aw .free rfl ?_; intro b6; refine Bn rfl rfl rfl rfl .free ?_; refine Oa rfl (Aa (Ab (Se rfl (Om rfl ?_)))); refine Cp rfl .free rfl ?_; refine Aa ?_; refine As rfl ?_ ?_
 ·intro c1
  try simp only [nb] at c1
  refine Se rfl (Oa rfl (Oa rfl (Aa ?_))); refine Ad (.tmp rfl (.tmp rfl .nil)) ?_
  have hgo : e.go = none := by
   cases hg : e.go with
   | none => rfl
   | some d => rw [hg] at c1; cases c1
  exact ⟨J2, L, hle, Bf, by rw [hst, hgo]; rfl, rfl⟩
 intro c1
 try simp only [nb] at c1
 obtain ⟨d, hd⟩ : ∃ d, e.go = some d := Option.isSome_iff_exists.1 (by simpa using c1); obtain rfl := hte d hd
 have hfl := (X2 (Abq hd).2.2).2.2
 refine Ae (Se rfl ?_); refine A3 rfl .free rfl ?_; refine Ca rfl (Oq hr (by rw [Tree.text_len]; unfold Az; omega) _) ?_; rintro _ _ _ _ ⟨rfl, rfl, rfl⟩; refine Oa rfl (Oa rfl (Aa ?_)); refine Ad (.tmp rfl (.tmp rfl .nil)) ?_
 exact ⟨J2, L, hle, Bf, by rw [hst, hd]; rfl, rfl⟩
theorem Ub (s : Ap) (hs : s.length ≤ Az) {I : Heap} (ht : Tab I) (L : Bh) : Fun Tryz.prog 15 [.string (str s)] I L (fun v I' L' => v = .bool (Lm s) ∧ L = L') := by
 refine Ag (by simp) ?_; refine Se rfl (Oa rfl (Aa (Se rfl (Om rfl ?_)))); refine Ca rfl (Gb s hs _ _) ?_; rintro _ J _ hleJ ⟨t, cs, ok, rfl, hrep, rfl, hpf⟩; obtain ⟨oc, cc, _, rfl, -⟩ := hrep.open; refine Om rfl (Oe rfl rfl (Oe rfl rfl ?_)); refine Aw .free rfl ?_; intro b3; refine Bn rfl rfl rfl rfl .free ?_; refine Oa rfl (Aa (Ab (Ab ?_)))
 rcases hc : Bw s with _ | e
 ·skip
  rw [hc] at hpf; obtain rfl := hpf; refine Af rfl (Om rfl ?_); refine Cp rfl .free rfl ?_; refine Om rfl ?_; refine Cz (t := 12) rfl (v' := .bool true) (by first | rfl | simp [*]) ?_; refine Cd rfl rfl rfl ?_; refine Cd rfl rfl rfl ?_; refine Ot rfl rfl (Aa ?_); refine Bj rfl ?_; refine Se rfl (Oa rfl (Aa (Ad (.tmp rfl .nil) ?_)))
  exact ⟨J, L, hleJ, Bf, by rw [Tj hc]; rfl, rfl⟩
 ·skip
  rw [hc] at hpf; obtain ⟨rfl, rfl⟩ := hpf; obtain ⟨hx, hok, hz, hl, hcl⟩ := E6 hc; refine Af rfl (Om rfl ?_); refine Cp rfl .free rfl ?_; refine Om rfl ?_; refine Cz (t := 12) rfl (v' := .bool false) (by first | rfl | simp [*]) ?_; refine A3 rfl (.met rfl rfl) rfl ?_; refine B9 rfl (.met rfl rfl) rfl (Et _ (Nat.lt_succ_self _) hrep hok _) ?_; rintro _ _ _ _ ⟨rfl, rfl, rfl⟩; refine Of rfl rfl (Aa ?_); refine As rfl ?_ ?_
  ·intro c0
   try simp only [nb] at c0
   refine Se rfl (Oa rfl (Aa (Ad (.tmp rfl .nil) ?_)))
   exact ⟨J, L, hleJ, Bf, by rw [Kk hc, show e.value = true from c0]; rfl, rfl⟩
  intro c0
  try simp only [nb] at c0
  have hv : e.value = false := by simpa using c0
  refine Ae (Se rfl ?_); refine A3 rfl .free rfl ?_; refine Ca rfl (Oo (ht.mono hleJ) hrep hok _) ?_; rintro _ J2 _ e2 ⟨t1, cs1, rfl, hr, hte, rfl⟩; obtain ⟨o1, k1, _, rfl, -⟩ := hr.open; refine Om rfl (Oe rfl rfl (Oe rfl rfl (Oa rfl (Aa (Se rfl (Om rfl ?_)))))); refine Cp rfl .free rfl ?_; refine Oa rfl (Aa (Ad (.tmp rfl .nil) ?_)); refine ⟨J2, L, hleJ.trans e2, Bf, ?_, rfl⟩; rw [Kk hc, hv]
  cases e.step <;> rfl
structure SM where
 e : Ex
 i : Nat
 J : Heap
 o : Option Addr
 k : Nat
def SMr (r : Ex × Nat) (L : Bh) : Cs := fun v I' L' => v = .tuple #[.string (str r.1.tree.text), .int .i64 (r.2 : Nat), .bool true] ∧ L = L'
def MN (o : Option (Ap × Nat)) (L : Bh) : Cs := fun v I' L' => v = .tuple #[.string (str ((o.map (·.1)).getD [])), .int .i64 (((o.map (·.2)).getD 0 : Nat)), .bool o.isSome] ∧ L = L'
structure SN where
 e : Ex
 i : Nat
 J : Heap
def Res.fin (r : Res) : Prop := r.v ≠ none ∨ r.stuck = true
def L2 (o : B5) (u w : KV) (q : Nat) : Res := match o, u with
 | .call, .clo f x s t c r => eval q c (.cons x w (.cons f (.clo f x s t c r) r))
 | o, u => .of (o.act u w) q
theorem Nc (n : Nat) (o : B5) (a b : Ex) (k : KE) : eval (n + 1) (.bin o a b) k =
  match (eval n a k).v with
  | none => eval n a k
  | some u => match (eval (eval n a k).left b k).v with
   | none => eval (eval n a k).left b k
   | some w => L2 o u w (eval (eval n a k).left b k).left := by
 rw [F6]
 cases (eval n a k).v with
 | none => rfl
 | some u =>
  simp only
  cases (eval (eval n a k).left b k).v with
  | none => rfl
  | some w => cases o <;> cases u <;> rfl
theorem Jw {o : B5} {u w : KV} {q : Nat} (h : ¬ ∃ f x s t c r, o = .call ∧ u = .clo f x s t c r) : L2 o u w q = .of (o.act u w) q := by
 cases o <;> first | rfl | (cases u <;> first | rfl | exact absurd ⟨_, _, _, _, _, _, rfl, rfl⟩ h)
theorem N6 {f x : Ap} {s t : Ty} {c : Ex} {r : KE} {w : KV} {q : Nat} : L2 .call (.clo f x s t c r) w q = eval q c (.cons x w (.cons f (.clo f x s t c r) r)) := rfl
def Res.at (r : Res) (n m : Nat) : Res := ⟨r.v, m + r.left - n, r.stuck⟩
def Ex.kv (k : KE) : Ex → KV
 | .num s => .num s
 | .bin _ a b => .pair (a.kv k) (b.kv k)
 | .fn f x s t b => .clo f x s t b k
 | _ => .num []
def Ex.cost : Ex → Nat
 | .bin _ a b => 1 + a.cost + b.cost
 | _ => 1
theorem Ex.cost_size : ∀ e : Ex, e.cost ≤ e.size
 | .num _ => Nat.le_refl _
 | .name _ => Nat.le_refl _
 | .bin _ a b => by have := a.cost_size; have := b.cost_size; simp only [Ex.cost, Ex.size]; omega
 | .ite a b c => by simp only [Ex.cost, Ex.size]; omega
 | .lt x a b => by simp only [Ex.cost, Ex.size]; omega
 | .fn f x s t b => by simp only [Ex.cost, Ex.size]; omega
 | .un _ a => by simp only [Ex.cost, Ex.size]; omega
theorem R0 {o : B5} {a b : Ex} (h : (Ex.bin o a b).value = true) : o = .pair ∧ a.value = true ∧ b.value = true := by
 cases o with
 | pair => exact ⟨rfl, by simpa [Ex.value] using h⟩
 | _ => cases h
theorem L6 : ∀ {e : Ex} {n : Nat} (k : KE), e.value = true → e.cost ≤ n → eval n e k = ⟨some (e.kv k), n - e.cost, false⟩
 | .num s, n, k, hv, hn => by
  obtain ⟨n, rfl⟩ : ∃ q, n = q + 1 := ⟨n - 1, by simp only [Ex.cost] at hn; omega⟩; rw [Jk]; rfl
 | .fn f x s t b, n, k, hv, hn => by
  obtain ⟨n, rfl⟩ : ∃ q, n = q + 1 := ⟨n - 1, by simp only [Ex.cost] at hn; omega⟩; rw [Le]; rfl
 | .bin o a b, n, k, hv, hn => by
  obtain ⟨rfl, ha, hb⟩ := R0 hv
  simp only [Ex.cost] at hn
  obtain ⟨n, rfl⟩ : ∃ q, n = q + 1 := ⟨n - 1, by omega⟩; rw [F6, L6 k ha (show a.cost ≤ n by omega)]
  simp only
  rw [L6 k hb (show b.cost ≤ n - a.cost by omega)]
  simp only [B5.act, Res.of, Ex.kv, Ex.cost, Option.isNone_some, Res.mk.injEq, and_true, true_and]
  omega
 | .name s, n, k, hv, hn => by cases hv
 | .ite a b c, n, k, hv, hn => by cases hv
 | .lt x a b, n, k, hv, hn => by cases hv
 | .un o a, n, k, hv, hn => by cases hv
theorem Aaj : ∀ {e : Ex}, e.value = true → (e.kv .nil).ex = e
 | .num s, _ => rfl
 | .fn f x s t b, _ => rfl
 | .bin o a b, h => by
  obtain ⟨rfl, ha, hb⟩ := R0 h
  simp only [Ex.kv, KV.ex, Aaj ha, Aaj hb]
 | .name s, h => by cases h
 | .ite a b c, h => by cases h
 | .lt x a b, h => by cases h
 | .un o a, h => by cases h
def KV.show : KV → Ap
 | .num s => s
 | .pair a b => [40, 112, 97, 105, 114, 32] ++ a.show ++ [32] ++ b.show ++ [41]
 | .clo _ _ _ _ _ _ => [102, 117, 110]
theorem Th : ∀ w : KV, w.ex.print.text = w.show
 | .num s => rfl
 | .pair a b => by
  simp only [KV.ex, Ex.print, KV.show, ← Th a, ← Th b]
  simp [Tree.text, Ff, C8]
 | .clo f x s t b r => rfl
def KV.wr (m : Nat) : KV → Ap → Ap
 | .num s, o => if m < o.length then o else o ++ s
 | .pair a b, o => if m < o.length then o else b.wr m (a.wr m (o ++ [40, 112, 97, 105, 114, 32]) ++ [32]) ++ [41]
 | .clo _ _ _ _ _ _, o => if m < o.length then o else o ++ [102, 117, 110]
theorem H1 (m : Nat) (w : KV) (o : Ap) (h : m < o.length) : w.wr m o = o := by cases w <;> simp only [KV.wr, if_pos h]
theorem N3 : ∀ (m : Nat) (w : KV) (o : Ap), o.length + w.show.length ≤ m → w.wr m o = o ++ w.show
 | m, .num s, o, h => by simp only [KV.show] at h; simp only [KV.wr, KV.show]; rw [if_neg (by omega)]
 | m, .clo _ _ _ _ _ _, o, h => by simp only [KV.show] at h; simp only [KV.wr, KV.show]; rw [if_neg (by omega)]
 | m, .pair a b, o, h => by
  simp only [KV.show, List.length_append, List.length_cons, List.length_nil] at h
  simp only [KV.wr, KV.show]
  rw [if_neg (by omega)]; rw [N3 m a _ (by simp only [List.length_append, List.length_cons, List.length_nil]; omega)]; rw [N3 m b _ (by simp only [List.length_append, List.length_cons, List.length_nil]; omega)]
  simp only [List.append_assoc]
theorem Tl : ∀ (m : Nat) (w : KV) (o : Ap), o.length ≤ (w.wr m o).length
 | m, .num s, o => by simp only [KV.wr]; split <;> simp
 | m, .clo _ _ _ _ _ _, o => by simp only [KV.wr]; split <;> simp
 | m, .pair a b, o => by
  simp only [KV.wr]
  split
  ·exact Nat.le_refl _
  ·have h1 := Tl m a (o ++ [40, 112, 97, 105, 114, 32])
   have h2 := Tl m b (a.wr m (o ++ [40, 112, 97, 105, 114, 32]) ++ [32])
   simp only [List.length_append, List.length_cons, List.length_nil] at h1 h2 ⊢
   omega
theorem Tm : ∀ (m : Nat) (w : KV) (o : Ap), m < o.length + w.show.length → m < (w.wr m o).length
 | m, .num s, o, h => by
  simp only [KV.show] at h
  simp only [KV.wr]
  split
  ·assumption
  ·simpa using h
 | m, .clo _ _ _ _ _ _, o, h => by
  simp only [KV.show] at h
  simp only [KV.wr]
  split
  ·assumption
  ·simpa using h
 | m, .pair a b, o, h => by
  simp only [KV.show, List.length_append, List.length_cons, List.length_nil] at h
  simp only [KV.wr]
  split
  ·assumption
  ·have h1 := Tl m a (o ++ [40, 112, 97, 105, 114, 32])
   have h2 := Tl m b (a.wr m (o ++ [40, 112, 97, 105, 114, 32]) ++ [32])
   simp only [List.length_append, List.length_cons, List.length_nil] at h1 h2 ⊢
   by_cases ha : m < o.length + 6 + a.show.length
   ·have := Tm m a (o ++ [40, 112, 97, 105, 114, 32]) (by simpa using ha)
    omega
   ·rw [N3 m a _ (by simp only [List.length_append, List.length_cons, List.length_nil]; omega)] at h2 ⊢
    simp only [List.length_append, List.length_cons, List.length_nil] at h2
    by_cases hb : m < o.length + 6 + a.show.length + 1 + b.show.length
    ·have := Tm m b (o ++ [40, 112, 97, 105, 114, 32] ++ a.show ++ [32]) (by simp only [List.length_append, List.length_cons, List.length_nil]; omega)
     omega
    ·rw [N3 m b _ (by simp only [List.length_append, List.length_cons, List.length_nil]; omega)]
     simp only [List.length_append, List.length_cons, List.length_nil]
     omega
mutual
def KV.high : KV → Nat
 | .num _ => 0
 | .pair a b => 1 + max a.high b.high
 | .clo _ _ _ _ _ r => r.high
def KE.high : KE → Nat
 | .nil => 0
 | .cons _ v up => max v.high up.high
end
theorem Tn : ∀ (m : Nat) (w : KV) (o : Ap), w.wf → o.length ≤ m → (w.wr m o).length ≤ m + 6 + 2 * w.high
 | m, .num s, o, hw, h => by
  have := Hf (show By s = true from hw)
  simp only [KV.wr]
  rw [if_neg (by omega)]
  simp only [List.length_append]; omega
 | m, .clo _ _ _ _ _ _, o, hw, h => by
  simp only [KV.wr]
  rw [if_neg (by omega)]
  simp only [List.length_append, List.length_cons, List.length_nil]; omega
 | m, .pair a b, o, hw, h => by
  simp only [KV.wr, KV.high]
  rw [if_neg (by omega)]
  have ha : (a.wr m (o ++ [40, 112, 97, 105, 114, 32])).length ≤ m + 6 + 2 * a.high := by
   by_cases h6 : m < o.length + 6
   ·rw [H1 m a _ (by simpa using h6)]
    simp only [List.length_append, List.length_cons, List.length_nil]; omega
   ·exact Tn m a _ hw.1 (by simp only [List.length_append, List.length_cons, List.length_nil]; omega)
  have hb : (b.wr m (a.wr m (o ++ [40, 112, 97, 105, 114, 32]) ++ [32])).length ≤ m + 7 + 2 * max a.high b.high := by
   by_cases h6 : m < (a.wr m (o ++ [40, 112, 97, 105, 114, 32])).length + 1
   ·rw [H1 m b _ (by simpa using h6)]
    simp only [List.length_append, List.length_cons, List.length_nil]; omega
   ·have := Tn m b (a.wr m (o ++ [40, 112, 97, 105, 114, 32]) ++ [32]) hw.2 (by simp only [List.length_append, List.length_cons, List.length_nil]; omega)
    omega
  simp only [List.length_append, List.length_cons, List.length_nil]; omega
theorem Rj : ∀ {k : KE} {n : Ap} {v : KV}, k.look n = some v → v.high ≤ k.high
 | .nil, n, v, h => by cases h
 | .cons m u up, n, v, h => by
  simp only [KE.look] at h
  simp only [KE.high]
  split at h
  ·obtain rfl := Option.some.inj h; omega
  ·have := Rj h; omega
theorem Y8 {o : B5} {u w v : KV} (h : o.act u w = some v) : v.high ≤ 1 + max u.high w.high := by
 cases o with
 | pair => obtain rfl := Option.some.inj h; exact Nat.le_refl _
 | call => cases h
 | _ =>
  cases u with
  | num s =>
   cases w with
   | num q => obtain rfl := Option.some.inj h; exact Nat.zero_le _
   | _ => cases h
  | _ => cases w <;> cases h
theorem Xn {o : U2} {u v : KV} (h : o.act u = some v) : v.high ≤ u.high := by
 cases u with
 | pair a b => cases o <;> (obtain rfl := Option.some.inj h; simp only [KV.high]; omega)
 | _ => cases o <;> cases h
theorem Q6 : ∀ (n : Nat) (e : Ex) (k : KE) {w : KV}, (eval n e k).v = some w → w.high + (eval n e k).left ≤ k.high + n := by
 intro n
 induction n using Nat.strongRecOn with
 | _ n ih =>
  intro e k w h
  cases n with
  | zero => rw [Jm] at h; cases h
  | succ n =>
   have hl := fun e k => Cv n e k
   cases e with
   | num s => rw [Jk] at h ⊢; obtain rfl := Option.some.inj h; simp only [KV.high]; omega
   | name s => rw [Jj] at h ⊢; have := Rj h; simp only; omega
   | fn f x s t b => rw [Le] at h ⊢; obtain rfl := Option.some.inj h; simp only [KV.high]; omega
   | bin o a b =>
    have hla := hl a k
    have hlb := Cv (eval n a k).left b k
    rw [Nc n] at h ⊢
    cases hp : (eval n a k).v with
    | none => rw [hp] at h; simp only at h; rw [hp] at h; cases h
    | some u =>
     rw [hp] at h
     simp only at h ⊢
     have h1 := ih n (by omega) a k hp
     cases hq : (eval (eval n a k).left b k).v with
     | none => rw [hq] at h; simp only at h; rw [hq] at h; cases h
     | some v =>
      rw [hq] at h
      simp only at h ⊢
      have h2 := ih _ (by omega) b k hq
      by_cases hc : ∃ f x s t c r, o = .call ∧ u = .clo f x s t c r
      ·obtain ⟨f, x, s, t, c, r, rfl, rfl⟩ := hc; rw [N6] at h ⊢
       have h3 := ih _ (by omega) c _ h
       simp only [KE.high, KV.high] at h3 h1
       omega
      ·rw [Jw hc] at h ⊢
       have := Y8 (show o.act u v = some w from h)
       simp only [Res.of]; omega
   | ite a b c =>
    have hla := hl a k
    rw [Io n] at h ⊢
    cases hp : (eval n a k).v with
    | none => rw [hp] at h; simp only at h; rw [hp] at h; cases h
    | some u =>
     rw [hp] at h
     cases u with
     | num s =>
      simp only at h ⊢
      have := ih _ (by omega) _ k h
      omega
     | _ => cases h
   | lt x a b =>
    have hla := hl a k
    rw [Jz n] at h ⊢
    cases hp : (eval n a k).v with
    | none => rw [hp] at h; simp only at h; rw [hp] at h; cases h
    | some u =>
     rw [hp] at h
     simp only at h ⊢
     have h1 := ih n (by omega) a k hp
     have := ih _ (by omega) b _ h
     simp only [KE.high] at this
     omega
   | un o a =>
    have hla := hl a k
    rw [J8 n] at h ⊢
    cases hp : (eval n a k).v with
    | none => rw [hp] at h; simp only at h; rw [hp] at h; cases h
    | some u =>
     rw [hp] at h
     simp only at h ⊢
     have h1 := ih n (by omega) a k hp
     have := Xn (show o.act u = some w from h)
     simp only [Res.of]; omega
mutual
def KV.tall : KV → Nat
 | .num _ => 0
 | .pair a b => max a.tall b.tall
 | .clo _ _ _ _ _ r => r.tall
def KE.tall : KE → Nat
 | .nil => 0
 | .cons _ v up => 1 + max v.tall up.tall
end
def KE.names : KE → List Ap
 | .nil => []
 | .cons n _ up => up.names ++ [n]
theorem Kf : ∀ k : KE, k.names.length ≤ k.tall
 | .nil => Nat.le_refl _
 | .cons n v up => by have := Kf up; simp only [KE.names, KE.tall, List.length_append, List.length_cons, List.length_nil]; omega
theorem Rk : ∀ {k : KE} {n : Ap} {v : KV}, k.look n = some v → v.tall ≤ k.tall
 | .nil, n, v, h => by cases h
 | .cons m u up, n, v, h => by
  simp only [KE.look] at h
  simp only [KE.tall]
  split at h
  ·obtain rfl := Option.some.inj h; omega
  ·have := Rk h; omega
theorem Zb {o : B5} {u w v : KV} (h : o.act u w = some v) : v.tall ≤ max u.tall w.tall := by
 cases o with
 | pair => obtain rfl := Option.some.inj h; exact Nat.le_refl _
 | call => cases h
 | _ =>
  cases u with
  | num s =>
   cases w with
   | num q => obtain rfl := Option.some.inj h; exact Nat.zero_le _
   | _ => cases h
  | _ => cases w <;> cases h
theorem Xp {o : U2} {u v : KV} (h : o.act u = some v) : v.tall ≤ u.tall := by
 cases u with
 | pair a b => cases o <;> (obtain rfl := Option.some.inj h; simp only [KV.tall]; omega)
 | _ => cases o <;> cases h
theorem Jl : ∀ (n : Nat) (e : Ex) (k : KE) {w : KV}, (eval n e k).v = some w → w.tall + 2 * (eval n e k).left ≤ k.tall + 2 * n := by
 intro n
 induction n using Nat.strongRecOn with
 | _ n ih =>
  intro e k w h
  cases n with
  | zero => rw [Jm] at h; cases h
  | succ n =>
   have hl := fun e k => Cv n e k
   cases e with
   | num s => rw [Jk] at h ⊢; obtain rfl := Option.some.inj h; simp only [KV.tall]; omega
   | name s => rw [Jj] at h ⊢; have := Rk h; simp only; omega
   | fn f x s t b => rw [Le] at h ⊢; obtain rfl := Option.some.inj h; simp only [KV.tall]; omega
   | bin o a b =>
    have hla := hl a k
    have hlb := Cv (eval n a k).left b k
    rw [Nc n] at h ⊢
    cases hp : (eval n a k).v with
    | none => rw [hp] at h; simp only at h; rw [hp] at h; cases h
    | some u =>
     rw [hp] at h
     simp only at h ⊢
     have h1 := ih n (by omega) a k hp
     cases hq : (eval (eval n a k).left b k).v with
     | none => rw [hq] at h; simp only at h; rw [hq] at h; cases h
     | some v =>
      rw [hq] at h
      simp only at h ⊢
      have h2 := ih _ (by omega) b k hq
      by_cases hc : ∃ f x s t c r, o = .call ∧ u = .clo f x s t c r
      ·obtain ⟨f, x, s, t, c, r, rfl, rfl⟩ := hc; rw [N6] at h ⊢
       have h3 := ih _ (by omega) c _ h
       simp only [KE.tall, KV.tall] at h3 h1
       omega
      ·rw [Jw hc] at h ⊢
       have := Zb (show o.act u v = some w from h)
       simp only [Res.of]; omega
   | ite a b c =>
    have hla := hl a k
    rw [Io n] at h ⊢
    cases hp : (eval n a k).v with
    | none => rw [hp] at h; simp only at h; rw [hp] at h; cases h
    | some u =>
     rw [hp] at h
     cases u with
     | num s =>
      simp only at h ⊢
      have := ih _ (by omega) _ k h
      omega
     | _ => cases h
   | lt x a b =>
    have hla := hl a k
    rw [Jz n] at h ⊢
    cases hp : (eval n a k).v with
    | none => rw [hp] at h; simp only at h; rw [hp] at h; cases h
    | some u =>
     rw [hp] at h
     simp only at h ⊢
     have h1 := ih n (by omega) a k hp
     have := ih _ (by omega) b _ h
     simp only [KE.tall] at this
     omega
   | un o a =>
    have hla := hl a k
    rw [J8 n] at h ⊢
    cases hp : (eval n a k).v with
    | none => rw [hp] at h; simp only at h; rw [hp] at h; cases h
    | some u =>
     rw [hp] at h
     simp only at h ⊢
     have h1 := ih n (by omega) a k hp
     have := Xp (show o.act u = some w from h)
     simp only [Res.of]; omega
def Ob (e : Ex) (n : Nat) : Option (Ap × Nat) := match (eval n e .nil).v with
 | some w => if w.show.length ≤ 12000 then some (w.show, n - (eval n e .nil).left) else none
 | none => none
def H3 (s : Ap) (n : Int) : Option (Ap × Nat) := if 0 ≤ n ∧ n ≤ 2000 then (Bw s).bind fun e => Ob e n.toNat else none
def Ads (s : Ap) (n : Int) : Bool := if 0 ≤ n ∧ n ≤ 2000 then (match Bw s with | some e => (eval n.toNat e .nil).stuck | none => false) else false
def Rd (s : Ap) : Int := match H3 s 2000 with
 | some r => (r.2 : Nat)
 | none => -1
theorem L5 {s : Ap} {e : Ex} {n : Nat} (h : Bw s = some e) (hn : n ≤ 2000) : H3 s (n : Nat) = Ob e n := by
 unfold H3; rw [if_pos (by omega), h]; rfl
theorem In {s : Ap} {n : Int} (h : Bw s = none ∨ ¬ (0 ≤ n ∧ n ≤ 2000)) : H3 s n = none := by
 unfold H3
 rcases h with h | h
 ·rw [h]; split <;> rfl
 ·rw [if_neg h]
theorem Lv {s : Ap} {e : Ex} (h : Bw s = some e) (n : Nat) : (eval n e .nil).says e := by
 obtain ⟨hx, hok, hz, hl, hcl⟩ := E6 h
 have hc : e.occ [] = [] := by simpa [Ex.closed] using hcl
 have := Nd n e .nil trivial hok (fun y hy => by rw [hc] at hy; cases hy)
 exact this
theorem Pt {e : Ex} {n : Nat} {w : KV} (h : (eval n e .nil).v = some w) (hl : w.show.length ≤ 12000) : Ob e n = some (w.show, n - (eval n e .nil).left) := by
 unfold Ob; rw [h]; simp only; rw [if_pos hl]
theorem Xa {e : Ex} {n : Nat} (h : (eval n e .nil).v = none) : Ob e n = none := by unfold Ob; rw [h]
theorem Uh {s : Ap} {r : Ap × Nat} (h : H3 s 2000 = some r) : Rd s = (r.2 : Nat) := by unfold Rd; rw [h]
theorem Goes.ty {e d : Ex} (h : Goes e d) {t : Ty} (hok : e.ok = true) (hc : e.occ [] = []) (ht : e.ty [] [] = some t) : d.ty [] [] = some t ∧ d.ok = true ∧ d.occ [] = [] := by
 induction h with
 | refl => exact ⟨ht, hok, hc⟩
 | next hs _ ih => exact ih (Ex.step_ok hok hs) (Ex.step_closed hc hs) (Hj hok hc hs ht)
theorem T8 {s : Ap} {e : Ex} (h : Bw s = some e) (hv : e.value = true) : H3 s 2000 = some (e.print.text, e.cost) := by
 obtain ⟨hx, hok, hz, hl, hcl⟩ := E6 h
 have hcs := e.cost_size
 have he := L6 (n := 2000) .nil hv (by omega)
 have hsh : (e.kv .nil).show = e.print.text := by rw [← Th, Aaj hv]
 have hpl := e.print_len
 rw [show (2000 : Int) = ((2000 : Nat) : Int) from rfl, L5 h (Nat.le_refl _), Pt (w := e.kv .nil) (by rw [he]) (by rw [hsh, Tree.text_len]; omega), he, hsh]
 simp only [Option.some.injEq, Prod.mk.injEq, true_and]; omega
theorem Vn {s : Ap} (h : (Eg s).isSome = true) : ∃ e, Eg s = some e ∧ N0 s = none ∧ My s = some e.print.text ∧ H3 s 2000 = some (e.print.text, e.cost) ∧ Lm s = false ∧ Bw s = some e := by
 obtain ⟨e, hve, hx, hc, hval, hok, hl⟩ := M7 h; refine ⟨e, hve, ?_, ?_, T8 hc hval, ?_, hc⟩
 ·rw [O4 hc]
  unfold Ex.go
  rw [if_pos hval]; rfl
 ·unfold My; rw [hve]; rfl
 ·rw [Kk hc, hval]; rfl
theorem Hb (b : Nat) (pre : Bool) (xs : Ap) (B : Ju) (c : Nat) (hB : Y3 xs B c) (I : Heap) (L : Bh) :
  Fun Tryz.prog 52 [.pointer (some ⟨b, 0, none⟩)] I (R8 b pre xs B c L) (fun v I' L' => v = .int .i64 (xs.length : Nat) ∧ I = I' ∧ L' = R8 b pre xs B c L) := by
 cases B with
 | none =>
  obtain ⟨⟨h1, h2, h3⟩, _⟩ := hB; obtain rfl : xs = [] := by simpa using h1
  refine Ag (by simp) ?_; refine Se rfl (Oa rfl (Aa (Ab ?_)))
  simp only [R8, Cf, List.nil_append, B8]
  refine Af rfl (Om rfl ?_); refine Av rfl .free rfl ?_
  first | refine Oh rfl ?_ | refine Oj rfl ?_
  refine Cr rfl .free rfl ?_; refine On rfl (Oa rfl (Aa (Ad (.tmp rfl .nil) ?_)))
  exact ⟨I, _, .refl _, fun _ h => h, rfl, rfl, rfl⟩
 | some p =>
  obtain ⟨bb, sp⟩ := p; refine Ag (by simp) ?_; refine Se rfl (Oa rfl (Aa (Ab ?_)))
  simp only [R8, Cf, List.cons_append, List.nil_append, B8]
  refine Af rfl (Om rfl ?_); refine Av rfl .free rfl ?_
  first | refine Oh rfl ?_ | refine Oj rfl ?_
  refine Cr rfl .free rfl ?_; refine On rfl (Oa rfl (Aa (Ad (.tmp rfl .nil) ?_)))
  exact ⟨I, _, .refl _, fun _ h => h, rfl, rfl, rfl⟩
theorem Aa7 (w : KV) (o : Ap) (hw : w.wf) (hh : w.high ≤ 4000) (ho : o.length ≤ 12010) : (w.wr 12000 o).length ≤ 20010 := by
 by_cases h : 12000 < o.length
 ·rw [H1 _ _ _ h]; omega
 ·have := Tn 12000 w o hw (by omega)
  omega
theorem Jc {a b : KV} {o : Ap} (h : ¬ 12000 < o.length) : (KV.pair a b).wr 12000 o = b.wr 12000 (a.wr 12000 (o ++ [40, 112, 97, 105, 114, 32]) ++ [32]) ++ [41] := by simp only [KV.wr, if_neg h]
theorem Pw : ∀ (N : Nat) {I : Heap} {w : KV} {a : Addr} (_ : SizeOf.sizeOf w < N) (_ : KVat I w a) (_ : w.wf) (_ : w.high ≤ 4000) (b : Nat) (pre : Bool) (xs : Ap) (B : Ju) (c : Nat) (_ : Y3 xs B c) (_ : xs.length ≤ 100000) (L : Bh),
  Fun Tryz.prog 51 [.pointer (some a), .pointer (some ⟨b, 0, none⟩)] I (R8 b pre xs B c L)
  (fun v I' L' => v = .tuple #[] ∧ I = I' ∧ ∃ pre' B' c', Y3 (w.wr 12000 xs) B' c' ∧ L' = R8 b pre' (w.wr 12000 xs) B' c' L) := by
 intro N
 induction N with
 | zero => intro I w a h; omega
 | succ N ihn =>
  intro I w a hlt h hwf hhi b pre xs B c hB hx L; refine Ag (by simp) ?_; refine Aj (Se rfl (Om rfl ?_)); refine Ca rfl (Hb b pre xs B c hB _ _) ?_; rintro _ _ _ _ ⟨rfl, rfl, rfl⟩; refine Oc rfl rfl rfl (Oa rfl (Aa ?_)); refine Si rfl ?_ ?_
  ·intro c0; refine Ae (Ak ?_); refine Jb .nil ?_
   first
   | exact ⟨I, _, .refl _, fun _ h => h, rfl, rfl, pre, B, c, by rw [H1 _ _ _ (by omega)]; exact hB, by rw [H1 _ _ _ (by omega)]⟩
   | exact ⟨I, _, .refl _, fun _ h => h, rfl, rfl, true, B1, c1, by simp only [KV.wr, if_neg hxs]; exact hB1, by simp only [KV.wr, if_neg hxs]⟩
   | exact ⟨I, _, .refl _, fun _ h => h, rfl, rfl, true, B5, c6, by rw [Jc hxs]; exact hB5, by rw [Jc hxs]⟩
  intro c0
  have hxs : ¬ 12000 < xs.length := by omega
  refine Ab ?_
  rcases h with @⟨s, a, hs⟩ | @⟨u1, u2, a, q2, p1, p2, c2, hs, hq2, hc2, h1, h2⟩ | @⟨f, x, s, t, bd, r, a, fa, oo, c2, pr, hs, hf, hrp, he⟩
  ·skip
   have hsl := Hf (show By s = true from hwf)
   refine Af rfl (Om rfl ?_); refine Av rfl .free rfl ?_
   first | refine Oh rfl ?_ | refine Oj rfl ?_
   refine Bs rfl (Ba hs (by rfl) rfl) .free rfl ?_; refine Nr rfl rfl .free rfl ?_; refine Oa rfl (Aa ?_)
   first | refine Sf rfl (by simp) ?_ | refine Al (by simp [look, A7, *]) ?_
   refine Se rfl (Om rfl ?_); refine Av rfl .free rfl ?_
   first | refine Oh rfl ?_ | refine Oj rfl ?_
   refine Bs rfl (Ba hs (by rfl) rfl) .free rfl ?_; refine Lk rfl rfl .free rfl ?_; refine Oa rfl (Aa ?_)
   first | refine Sf rfl (by simp) ?_ | refine Al (by simp [look, A7, *]) ?_
   refine Af rfl (Om rfl (Om rfl ?_)); refine Av rfl .free rfl ?_
   first | refine Oh rfl ?_ | refine Oj rfl ?_
   refine Bs rfl (Ba hs (by rfl) rfl) .free rfl ?_; refine Ca rfl (Cw b pre xs B c s hB (by unfold Az; omega) _ _) ?_; rintro _ _ _ _ ⟨rfl, rfl, B1, c1, hB1, rfl⟩; refine Aa (Ak ?_); refine Jb .nil ?_
   first
   | exact ⟨I, _, .refl _, fun _ h => h, rfl, rfl, pre, B, c, by rw [H1 _ _ _ (by omega)]; exact hB, by rw [H1 _ _ _ (by omega)]⟩
   | exact ⟨I, _, .refl _, fun _ h => h, rfl, rfl, true, B1, c1, by simp only [KV.wr, if_neg hxs]; exact hB1, by simp only [KV.wr, if_neg hxs]⟩
   | exact ⟨I, _, .refl _, fun _ h => h, rfl, rfl, true, B5, c6, by rw [Jc hxs]; exact hB5, by rw [Jc hxs]⟩
  ·skip
   have r0 : Still I (q2.add (0 * 1)) [.pointer (some p1)] := hq2.cellAt 0 rfl
   have r1 : Still I (q2.add (1 * 1)) [.pointer (some p2)] := hq2.cellAt 1 rfl
   simp only [KV.high] at hhi
   simp only [KV.pair.sizeOf_spec] at hlt
   refine Af rfl (Om rfl ?_); refine Av rfl .free rfl ?_
   first | refine Oh rfl ?_ | refine Oj rfl ?_
   refine Bs rfl (Ba hs (by rfl) rfl) .free rfl ?_; refine Nr rfl rfl .free rfl ?_; refine Oa rfl (Aa ?_)
   first | refine St rfl (by simp) ?_ | refine Bj (by simp [look, A7, *]) ?_
   refine Se rfl (Om rfl ?_); refine Ca rfl (Cw b pre xs B c [40, 112, 97, 105, 114, 32] hB (by simp only [List.length_cons, List.length_nil]; unfold Az; omega) _ _) ?_; rintro _ _ _ _ ⟨rfl, rfl, B1, c1, hB1, rfl⟩; refine Aa (Se rfl (Om rfl ?_)); refine Av rfl .free rfl ?_
   first | refine Oh rfl ?_ | refine Oj rfl ?_
   refine Bs rfl (Ba hs (by rfl) rfl) .free rfl ?_; refine Cm rfl rfl 0 rfl (by first | omega | exact Cb (by assumption) (by decide) | (simp; done) | (simp; omega) | decide | (simp at *; omega)) (by first | rfl | assumption) .free rfl ?_; refine Bs rfl (A9 r0 rfl) .free rfl ?_; refine Om rfl ?_; refine Ca rfl (ihn (by omega) h1 hwf.1 (by omega) b true _ B1 c1 hB1 (by simp only [List.length_append, List.length_cons, List.length_nil]; omega) _) ?_; rintro _ _ _ _ ⟨rfl, rfl, pr2, B2, c3, hB2, rfl⟩
   have hw1 := Aa7 u1 (xs ++ [40, 112, 97, 105, 114, 32]) hwf.1 (by omega) (by simp only [List.length_append, List.length_cons, List.length_nil]; omega)
   refine Aa (Se rfl (Om rfl ?_)); refine Ca rfl (Cw b pr2 _ B2 c3 [32] hB2 (by simp only [List.length_cons, List.length_nil]; unfold Az; omega) _ _) ?_; rintro _ _ _ _ ⟨rfl, rfl, B3, c4, hB3, rfl⟩; refine Aa (Se rfl (Om rfl ?_)); refine Av rfl .free rfl ?_
   first | refine Oh rfl ?_ | refine Oj rfl ?_
   refine Bs rfl (Ba hs (by rfl) rfl) .free rfl ?_; refine Cm rfl rfl 1 rfl (by first | omega | exact Cb (by assumption) (by decide) | (simp; done) | (simp; omega) | decide | (simp at *; omega)) (by first | rfl | assumption) .free rfl ?_; refine Bs rfl (A9 r1 rfl) .free rfl ?_; refine Om rfl ?_; refine Ca rfl (ihn (by omega) h2 hwf.2 (by omega) b true _ B3 c4 hB3 (by simp only [List.length_append, List.length_cons, List.length_nil] at hw1 ⊢; omega) _) ?_; rintro _ _ _ _ ⟨rfl, rfl, pr4, B4, c5, hB4, rfl⟩
   have hw2 : (u2.wr 12000 (u1.wr 12000 (xs ++ [40, 112, 97, 105, 114, 32]) ++ [32])).length ≤ 30010 := by
    by_cases hq : 12000 < (u1.wr 12000 (xs ++ [40, 112, 97, 105, 114, 32]) ++ [32]).length
    ·rw [H1 _ _ _ hq]; simp only [List.length_append, List.length_cons, List.length_nil] at hw1 ⊢; omega
    ·have := Aa7 u2 _ hwf.2 (by omega) (show (u1.wr 12000 (xs ++ [40, 112, 97, 105, 114, 32]) ++ [32]).length ≤ 12010 by omega)
     omega
   refine Aa (Af rfl (Om rfl ?_)); refine Ca rfl (Cw b pr4 _ B4 c5 [41] hB4 (by simp only [List.length_cons, List.length_nil]; unfold Az; omega) _ _) ?_; rintro _ _ _ _ ⟨rfl, rfl, B5, c6, hB5, rfl⟩; refine Aa (Ak ?_); refine Jb .nil ?_
   first
   | exact ⟨I, _, .refl _, fun _ h => h, rfl, rfl, pre, B, c, by rw [H1 _ _ _ (by omega)]; exact hB, by rw [H1 _ _ _ (by omega)]⟩
   | exact ⟨I, _, .refl _, fun _ h => h, rfl, rfl, true, B1, c1, by simp only [KV.wr, if_neg hxs]; exact hB1, by simp only [KV.wr, if_neg hxs]⟩
   | exact ⟨I, _, .refl _, fun _ h => h, rfl, rfl, true, B5, c6, by rw [Jc hxs]; exact hB5, by rw [Jc hxs]⟩
  ·skip
   refine Af rfl (Om rfl ?_); refine Av rfl .free rfl ?_
   first | refine Oh rfl ?_ | refine Oj rfl ?_
   refine Bs rfl (Ba hs (by rfl) rfl) .free rfl ?_; refine Nr rfl rfl .free rfl ?_; refine Oa rfl (Aa ?_)
   first | refine Sf rfl (by simp) ?_ | refine Al (by simp [look, A7, *]) ?_
   refine Se rfl (Om rfl ?_); refine Av rfl .free rfl ?_
   first | refine Oh rfl ?_ | refine Oj rfl ?_
   refine Bs rfl (Ba hs (by rfl) rfl) .free rfl ?_; refine Lk rfl rfl .free rfl ?_; refine Oa rfl (Aa ?_)
   first | refine St rfl (by simp) ?_ | refine Bj (by simp [look, A7, *]) ?_
   refine Af rfl (Om rfl ?_); refine Ca rfl (Cw b pre xs B c [102, 117, 110] hB (by simp only [List.length_cons, List.length_nil]; unfold Az; omega) _ _) ?_; rintro _ _ _ _ ⟨rfl, rfl, B1, c1, hB1, rfl⟩; refine Aa (Ak ?_); refine Jb .nil ?_
   first
   | exact ⟨I, _, .refl _, fun _ h => h, rfl, rfl, pre, B, c, by rw [H1 _ _ _ (by omega)]; exact hB, by rw [H1 _ _ _ (by omega)]⟩
   | exact ⟨I, _, .refl _, fun _ h => h, rfl, rfl, true, B1, c1, by simp only [KV.wr, if_neg hxs]; exact hB1, by simp only [KV.wr, if_neg hxs]⟩
   | exact ⟨I, _, .refl _, fun _ h => h, rfl, rfl, true, B5, c6, by rw [Jc hxs]; exact hB5, by rw [Jc hxs]⟩
theorem V2 (s : Ap) (hs : s.length ≤ Az) (n : Int) {I : Heap} (ht : Tab I) (L : Bh) : Fun Tryz.prog 25 [.string (str s), .int .i64 n] I L (MN (H3 s n) L) := by
 refine Ag (by simp) ?_; refine Se rfl ?_
 iterate 3 refine Oa rfl ?_
 refine Aa (Se rfl (Om rfl ?_)); refine Ca rfl (Gb s hs _ _) ?_; rintro _ J _ hleJ ⟨t, cs, ok, rfl, hrep, rfl, hpf⟩; obtain ⟨oc, cc, _, rfl, -⟩ := hrep.open; refine Om rfl (Oe rfl rfl (Oe rfl rfl ?_)); refine Aw .free rfl ?_; intro b7; refine Bn rfl rfl rfl rfl .free ?_; refine Oa rfl (Aa (Ab (Ab ?_)))
 rcases hc : Bw s with _ | e
 ·skip
  rw [hc] at hpf; obtain rfl := hpf; refine Af rfl (Om rfl ?_); refine Cp rfl .free rfl ?_; refine Om rfl ?_; refine Cz (t := 19) rfl (v' := .bool true) (by first | rfl | simp [*]) ?_
  iterate 3 refine Cd rfl rfl rfl ?_
  refine Ot rfl rfl (Aa ?_); refine Bj rfl ?_; refine Se rfl ?_
  iterate 3 refine Oa rfl ?_
  refine Aa ?_; refine Ad (.tmp rfl (.tmp rfl (.tmp rfl .nil))) ?_
  exact ⟨J, L, hleJ, Bf, by rw [In (.inl hc)]; rfl, rfl⟩
 ·skip
  rw [hc] at hpf; obtain ⟨rfl, rfl⟩ := hpf; obtain ⟨hx, hok, hz, hl, hcl⟩ := E6 hc
  have hoe : e.occ [] = [] := by simpa [Ex.closed] using hcl
  refine Af rfl (Om rfl ?_); refine Cp rfl .free rfl ?_; refine Om rfl ?_; refine Cz (t := 19) rfl (v' := .bool false) (by first | rfl | simp [*]) ?_; refine Ow rfl ?_; refine B9 rfl (.met rfl rfl) rfl (Pz 0 n 2000 _ _) ?_; rintro _ _ _ _ ⟨rfl, rfl, rfl⟩; refine Cp rfl (.met rfl rfl) rfl ?_; refine Of rfl rfl (Aa ?_); refine As rfl ?_ ?_
  ·intro c0
   try simp only [nb] at c0
   refine Se rfl ?_
   iterate 3 refine Oa rfl ?_
   refine Aa ?_; refine Ad (.tmp rfl (.tmp rfl (.tmp rfl .nil))) ?_
   exact ⟨J, L, hleJ, Bf, by rw [In (.inr (by simpa using c0))]; rfl, rfl⟩
  intro c0
  try simp only [nb] at c0
  obtain ⟨N, rfl⟩ : ∃ N : Nat, n = (N : Nat) := ⟨n.toNat, by omega⟩
  have hN : N ≤ 2000 := by omega
  have hme := L5 hc hN
  have hhi := fun w (h : (eval N e .nil).v = some w) => Q6 N e .nil h
  have hle := Cv N e .nil
  refine Ae (Se rfl (Om rfl ?_)); refine Bt rfl rfl rfl .free rfl ?_; refine B7 rfl rfl .free rfl ?_; intro b26; refine Oa rfl (Aa (Se rfl (Om rfl ?_))); refine A3 rfl .free rfl ?_; refine Ca rfl (Mk (ht.mono hleJ) N (by omega) hrep hok .nil trivial (fun y hy => by rw [hoe] at hy; cases hy) b26 _) ?_; rintro _ J2 _ e2 ⟨p, rfl, hp, rfl⟩
  unfold Q7
  have hle2 := hleJ.trans e2
  refine Oa rfl (Aa (Ab (Se rfl (Om rfl ?_)))); refine Gd rfl rfl .free rfl ?_; refine Aa ?_; refine As rfl ?_ ?_
  ·intro c1
   try simp only [nb] at c1
   obtain ⟨hv, rfl⟩ := I7 hp c1; refine Se rfl ?_
   iterate 3 refine Oa rfl ?_
   refine Aa ?_; refine Ad (.tmp rfl (.tmp rfl (.tmp rfl .nil))) ?_
   exact ⟨J2, L, hle2, Bf, by rw [hme, Xa hv]; rfl, rfl⟩
  intro c1
  try simp only [nb] at c1
  obtain ⟨w, x, hv, rfl, hw⟩ := I8 hp (by simpa using c1); obtain ⟨hwf, -⟩ := Res.says.some hv (Lv hc N)
  have hhi := hhi w hv
  simp only [KE.high] at hhi
  refine Ae (Se rfl ?_); refine Aw .free rfl ?_; intro b11; refine Aa (Se rfl (Om rfl ?_)); refine Ca rfl (Pw _ (Nat.lt_succ_self _) hw hwf (by omega) b11 false [] none 0 ⟨⟨rfl, rfl, rfl⟩, .inl rfl⟩ (by simp) _) ?_; rintro _ _ _ _ ⟨rfl, rfl, pre1, B1, k1, hB1, rfl⟩; refine Aa (Ab (Se rfl ?_)); refine Ca rfl (Hb b11 pre1 _ B1 k1 hB1 _ _) ?_; rintro _ _ _ _ ⟨rfl, rfl, rfl⟩; refine Oc rfl rfl rfl (Aa ?_); refine As rfl ?_ ?_
  ·intro c2
   try simp only [nb] at c2
   refine Se rfl ?_
   iterate 3 refine Oa rfl ?_
   refine Aa ?_; refine Ad (.tmp rfl (.tmp rfl (.tmp rfl .nil))) ?_
   exact ⟨J2, L, hle2, (fun w h => (Mem.sub (List.sublist_append_right _ _) h.drop).drop.drop), by
    have hno : ¬ w.show.length ≤ 12000 := fun h => by
     rw [N3 12000 w [] (by simpa using h)] at c2
     simp at c2; omega
    rw [hme]; unfold Ob; rw [hv]; simp only; rw [if_neg hno]; rfl, rfl⟩
  intro c2
  try simp only [nb] at c2
  have hsl : w.show.length ≤ 12000 := by
   rcases Nat.lt_or_ge 12000 w.show.length with h | h
   ·have := Tm 12000 w [] (by simpa using h)
    omega
   ·exact h
  have hwr : w.wr 12000 [] = w.show := by rw [N3 12000 w [] (by simpa using hsl)]; rfl
  rw [hwr] at hB1 ⊢; refine Ae (Ab ?_)
  unfold R8
  refine Sh J2 ((b26, .cells [.int .i64 ((eval N e .nil).left : Nat), .bool (eval N e .nil).stuck].toArray 63 (0, 0)) :: (b7, .cells [.string (str e.tree.atom), .slice oc e.tree.parts.length cc].toArray 39 (0, 0)) :: L) 10 rfl rfl ?_; refine Da 1 rfl (Ah rfl) ?_; refine Da 2 rfl (Ah rfl) ?_; refine Da 3 rfl (Dn rfl) ?_
  first | refine Da 4 rfl (Ai rfl) ?_ | refine Da 4 rfl (Bb rfl) ?_
  refine Dt 5 [10] rfl (Vt rfl) ?_; refine Da 6 rfl (Gf rfl rfl rfl (by omega)) ?_; refine Dc 0 rfl rfl (Gj b11 pre1 _ B1 k1 hB1 (by unfold Az; omega) _ _) ?_; rintro _ _ _ _ ⟨rfl, rfl, rfl⟩; refine Hx ?_; refine Da 7 rfl (A2 rfl) ?_; refine Da 8 rfl (A2 rfl) ?_; refine Da 9 rfl (A2 rfl) ?_; refine At (by kernel_rfl) ?_; refine Ad (.tmp rfl (.tmp rfl (.tmp rfl .nil))) ?_
  exact ⟨J2, L, hle2, Bf, by rw [hme, Pt hv hsl]; simp only [Option.map_some, Option.getD_some, Option.isSome_some]; rw [show ((N - (eval N e .nil).left : Nat) : Int) = (N : Int) - ((eval N e .nil).left : Nat) by omega]; rfl, rfl⟩
theorem V3 (s : Ap) (hs : s.length ≤ Az) {I : Heap} (ht : Tab I) (L : Bh) : Fun Tryz.prog 28 [.string (str s)] I L (fun v I' L' => v = .int .i64 (Rd s) ∧ L = L') := by
 refine Ag (by simp) ?_; refine Se rfl (Oa rfl (Aa (Se rfl (Om rfl ?_)))); refine Ca rfl (V2 s hs 2000 ht _) ?_; rintro _ J _ e1 ⟨rfl, rfl⟩; refine Om rfl ?_
 iterate 3 refine Oe rfl rfl ?_
 iterate 3 refine Oa rfl ?_
 refine Aa (Ab (Se rfl (Om rfl ?_))); refine Cp rfl .free rfl ?_; refine Aa ?_; refine As rfl ?_ ?_
 ·intro c0
  try simp only [nb] at c0
  have hn : H3 s 2000 = none := by
   cases h : H3 s 2000 with
   | none => rfl
   | some r => rw [h] at c0; cases c0
  refine Se rfl (Oa rfl (Aa (Ad (.tmp rfl .nil) ?_)))
  exact ⟨J, L, e1, Bf, by unfold Rd; rw [hn]; rfl, rfl⟩
 intro c0
 try simp only [nb] at c0
 obtain ⟨r, hr⟩ : ∃ r, H3 s 2000 = some r := Option.isSome_iff_exists.1 (by simpa using c0); refine Ae (Se rfl (Om rfl (Oa rfl (Aa (Ad (.tmp rfl .nil) ?_)))))
 exact ⟨J, L, e1, Bf, by rw [Uh hr, hr]; rfl, rfl⟩
theorem Xu {m d : Nat} (hm : 1 ≤ m) (hd : d < 10) : Iy (10 * m + d) = Iy m ++ [UInt8.ofNat (48 + d)] := by
 rw [Il (by omega), show (10 * m + d) / 10 = m by omega, show (10 * m + d) % 10 = d by omega]
theorem Ps {b : UInt8} (h : D8 b = true) : 48 ≤ b.toNat ∧ b.toNat ≤ 57 := by simpa [D8] using h
theorem Pr {b : UInt8} (h : 48 ≤ b.toNat) : UInt8.ofNat (48 + (b.toNat - 48)) = b := by
 rw [show 48 + (b.toNat - 48) = b.toNat by omega]; simp
theorem Q4 : ∀ (l : Ap) (a : Nat), 1 ≤ a → l.all D8 = true → Iy (l.foldl (fun n b => 10 * n + (b.toNat - 48)) a) = Iy a ++ l
 | [], a, _, _ => by simp
 | b :: r, a, ha, h => by
  simp only [List.all_cons, Bool.and_eq_true] at h
  have hb := Ps h.1
  rw [List.foldl_cons, Q4 r _ (by omega) h.2, Xu ha (by omega), Pr hb.1]
  simp
theorem Xt {u : Ap} (h : u.all D8 = true) (h0 : 49 ≤ (u.getD 0 0).toNat) : Iy (Dl u) = u := by
 cases u with
 | nil => simp at h0
 | cons b r =>
  simp only [List.all_cons, Bool.and_eq_true] at h
  have hb := Ps h.1
  have h1 : 49 ≤ b.toNat := by simpa using h0
  unfold Dl
  rw [List.foldl_cons, Q4 r _ (by omega) h.2, show 10 * 0 + (b.toNat - 48) = b.toNat - 48 by omega, Gr (by omega), Pr hb.1]
  rfl
theorem Ov {s : Ap} (h : By s = true) : Mp (Bx s) = s := by
 by_cases h0 : s = [48]
 ·rw [(I4 h).2 h0, show (0 : Int) = ((0 : Nat) : Int) from rfl, P6, Gr (by decide), h0]; rfl
 ·have hz : Bx s ≠ 0 := fun e => h0 ((I4 h).1 e)
  simp only [By, h0, decide_false, Bool.false_or, Bool.and_eq_true, decide_eq_true_eq, Bool.not_eq_true', decide_eq_false_iff_not] at h
  have hd : 49 ≤ ((Cy s).getD 0 0).toNat := by
   cases hu : Cy s with
   | nil => rw [hu] at h; simp at h
   | cons b r =>
    rw [hu] at h
    have h1 := h.1.2
    simp only [List.all_cons, Bool.and_eq_true] at h1
    have hb := Ps h1.1
    have h2 : ¬ b.toNat = 48 := by simpa using h.2
    simp only [List.getD_cons_zero]; omega
  have hu := Xt h.1.2 hd
  unfold Bx at hz ⊢
  rw [if_neg h0] at hz ⊢
  by_cases h45 : (s.getD 0 0).toNat = 45
  ·have hs : s = 45 :: Cy s := by
    unfold Cy
    rw [if_pos h45]
    cases s with
    | nil => simp at h45
    | cons b r =>
     have hb : b.toNat = 45 := by simpa using h45
     have : b = 45 := UInt8.toNat_inj.1 hb
     rw [this]; rfl
   rw [if_pos h45] at hz ⊢
   unfold Mp
   rw [if_pos (by omega), show (-1 * ((Dl (Cy s) : Nat) : Int)).natAbs = Dl (Cy s) by omega, hu]
   exact hs.symm
  ·have hs : Cy s = s := by unfold Cy; rw [if_neg h45]
   rw [if_neg h45, Int.one_mul, P6, hu, hs]
end Go.Proofs.YtfddjcmeejjhiaaGreatDoor
