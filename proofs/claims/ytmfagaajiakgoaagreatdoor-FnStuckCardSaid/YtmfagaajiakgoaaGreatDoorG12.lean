/- An expression put for a name. No conditions. -/
import Derived.Test.YtmfagaajiakgoaaGreatDoorG11
import Derived.Laws.Small
import Derived.Shelf.Strconv.Itoa3
import Derived.Test.YtmfagaajiakgoaaGreatDoorProg
import Derived.Shelf.Strconv.Atoi

namespace Go.Proofs.YtmfagaajiakgoaaGreatDoor
set_option maxRecDepth 100000
set_option linter.unusedVariables false
set_option linter.unusedSimpArgs false

theorem Md         : ∀ (n : Nat) {I : Heap} {e : Ex} {cs : List Value} (_ : SizeOf.sizeOf e < n) (_ : Rep I e.tree cs) (_ : e.ok = true) (nm : Au ) (_ : Bs     nm = true) {v : Ex} {ds : List Value} (_ : Rep I v.tree ds) (L : Bl ),
    Fun Tryz.prog 116 [.agg cs.toArray, .string (str nm), .agg ds.toArray] I L (RP (e.put nm v).tree L) := by
  intro n
  induction n with
  | zero => intro I e cs h; omega
  | succ n ihn =>
    intro I e cs hlt h hok nm hnm v ds hv L
    obtain ⟨oa, c, oaf, cf, rfl, hf, hcl, hcs⟩ := h.cells
    obtain ⟨ov, cv, _, rfl, -⟩ := hv.open
    have hle : HLe I I := .refl _
    refine Ai        (by simp) ?_
    refine Se rfl ?_
    refine Cd    rfl rfl .free rfl ?_
    intro b3
    refine Cd    rfl rfl .free rfl ?_
    intro b5
    refine Ax      .free rfl ?_
    intro b6
    refine Aa     (Ab    (Se rfl ?_))
    refine Az    rfl .free rfl ?_
    refine Ca rfl (By            hf.rep _) ?_
    rintro _ _ _ _ ⟨rfl, rfl, rfl⟩
    refine Aa     ?_
    refine Ar     rfl ?_ ?_
    · intro c0
      try simp only [nb] at c0
      have hb : e.bare = true := by rw [Ex.bare_parts]; exact c0
      refine Ab    (Se rfl (Oh rfl ?_))
      refine A6    rfl .free rfl ?_
      refine Om rfl (Od rfl rfl rfl (Aa     ?_))
      refine Ar     rfl ?_ ?_
      · intro c1
        try simp only [nb] at c1
        refine Se rfl ?_
        refine Az    rfl .free rfl ?_
        refine Bk   rfl rfl rfl rfl .free ?_
        refine Aa     ?_
        refine Ad    (.c rfl .nil) ?_
        refine ⟨I, L, .refl _, Ay   , _, rfl, ?_, rfl⟩
        have : e.put nm v = v := by
          cases e with
          | num s =>
            have c1 : s = nm := c1
            subst c1
            have h2 := E3           hnm
            rw [show Bt    s = true from hok] at h2; cases h2
          | name s => exact if_pos c1
          | _ => cases hb
        rw [this]; exact hv
      intro c1
      try simp only [nb] at c1
      refine Af     (Se rfl ?_)
      refine Az    rfl .free rfl ?_
      refine Bk   rfl rfl rfl rfl .free ?_
      refine Aa     ?_
      refine Ad    (.c rfl .nil) ?_
      refine ⟨I, L, .refl _, Ay   , _, rfl, ?_, rfl⟩
      have : e.put nm v = e := by
        cases e with
        | num s => rfl
        | name s => exact if_neg c1
        | _ => cases hb
      rw [this]; exact hf.rep
    intro c0
    try simp only [nb] at c0
    have hb : e.bare = false := by rw [Ex.bare_parts]; exact c0
    have hsh := e.shapes hb
    have hok0 := hok
    have hpos : 0 < e.tree.parts.length := by
      rw [Ex.bare_parts] at hb
      have : e.tree.parts ≠ [] := by intro hh; rw [hh] at hb; cases hb
      exact List.length_pos_iff.2 this
    obtain ⟨xa, rfl⟩ : ∃ xa, oa = some xa := ⟨_, Cq       hf.nil hpos⟩
    have hp := hf.len
    refine Af     (Se rfl (Oh rfl ?_))
    refine A6    rfl .free rfl ?_
    refine Ca rfl (Fv             (hcs _ rfl) (by have := hcl.length; omega) hcl.plain hpos hp _) ?_
    rintro _ _ _ _ ⟨bc, sp, cc, rfl, hcc, rfl, rfl⟩
    refine Bn       rfl rfl rfl .free rfl ?_
    refine Ax      .free rfl ?_
    intro b7
    refine Bk   rfl rfl rfl rfl .free ?_
    refine Aa     (Ab    (Ab    ?_))
    rcases hsh with ⟨o, a, b, rfl⟩ | ⟨a, b, d, rfl⟩ | ⟨z, a, b, rfl⟩ | ⟨g, z, s, t, b, rfl⟩ | ⟨o, a, rfl⟩
    · skip
      have hlen : (Ex.bin o a b).tree.parts.length = 3 := rfl
      have hki := Fw       o a b
      simp only [Ex.bin.sizeOf_spec] at hlt
      simp only [Ex.ok, Bool.and_eq_true] at hok
      obtain ⟨_, hrl⟩ : ∃ _ : True, RepL I (Ex.bin o a b).tree.parts _ := ⟨trivial, hcl⟩
      simp only [show (Ex.bin o a b).tree.parts = [.node o.txt [], a.tree, b.tree] from rfl, Co    , List.cons_append, List.nil_append] at hrl ⊢
      refine Ah      rfl ?_
      refine Az    rfl .free rfl ?_
      refine Ca rfl (Ec          hf.rep _) ?_
      rintro _ J _ e0 ⟨ok, ck, rfl, hk, rfl⟩
      have hf := hf.mono e0
      have hv := hv.mono e0
      have hle := e0
      rw [hki] at hk
      rw [hki]
      refine On rfl (Om rfl (Aa     (Aj      ?_)))
      refine Dq     ?_
      refine Se rfl (Oc rfl rfl rfl (Aa     (Ab    ?_)))
      refine B6      rfl (by first | rfl | decide | (simp; done) | omega) ?_
      refine Af     (Ab    (Aj      (Se rfl ?_)))
      first | refine A3    rfl rfl _ rfl .free rfl ?_ | refine A4    rfl rfl _ rfl .free rfl ?_
      refine Ej    rfl .free rfl ?_
      refine Oa rfl (Aa     (Se rfl ?_))
      refine Az    rfl .free rfl ?_
      refine Om rfl ?_
      refine Ca rfl (Cy           hf.rep hok0 _ _) ?_
      rintro _ J1 _ e1 ⟨o1, k1, rfl, hs1, rfl⟩
      refine Om rfl ?_
      refine Ca rfl (C6                (hs1.rd _) k1 nm) ?_
      rintro _ _ _ _ ⟨rfl, rfl, rfl⟩
      refine Ck    rfl .free rfl ?_
      refine Dv    (fun w h => Mem.le e1 h) ?_
      refine Aa     ?_
      first | refine Ks   rfl (by simp [Ex.binds]) ?_ | refine Kr   rfl (by simp [Ex.binds]) ?_ | refine Bj     (by simp [look, Ba , *]) ?_
      refine B8    13 rfl rfl ?_
      refine Da 0 rfl (Ag          rfl) ?_
      refine Dt 1 [12] rfl (Bd    rfl) ?_
      refine Da 2 rfl (Ae     rfl) ?_
      refine Da 3 rfl (Ag          rfl) ?_
      refine Dt 4 [12] rfl (Bd    rfl) ?_
      refine Da 5 rfl (Ae     rfl) ?_
      first | refine Da 6 rfl (A1    rfl rfl _ rfl) ?_ | refine Da 6 rfl (A2    rfl rfl _ rfl) ?_
      refine Dt 7 [12] rfl (A8    rfl) ?_
      refine Da 8 rfl (Ae     rfl) ?_
      refine Dt 9 [12] rfl (Bx    rfl) ?_
      refine Dc 10 rfl rfl (ihn (by omega) (hf.as 1 a.tree (by omega) rfl) hok.1 nm hnm hv _) ?_
      rintro _ J2 _ e2 ⟨cs2, rfl, hr_0, rfl⟩
      obtain ⟨o2, k2, _, rfl, -⟩ := hr_0.open
      have hf := hf.mono e2
      have hv := hv.mono e2
      have hle := hle.trans e2
      have hk := hk.mono e2
      refine Hx ?_
      first | refine Da 11 rfl (A1    rfl rfl _ rfl) ?_ | refine Da 11 rfl (A2    rfl rfl _ rfl) ?_
      refine Dx 12 rfl rfl rfl rfl ?_
      refine Ao     (by kernel_rfl) ?_
      refine Al        (Ah      rfl ?_)
      refine Or rfl rfl rfl ?_
      refine Om rfl (Aa     ?_)
      refine Bu      ?_
      refine Se rfl (Oc rfl rfl rfl (Aa     (Ab    ?_)))
      refine B6      rfl (by first | rfl | decide | (simp; done) | omega) ?_
      refine Af     (Ab    (Aj      (Se rfl ?_)))
      first | refine A3    rfl rfl _ rfl .free rfl ?_ | refine A4    rfl rfl _ rfl .free rfl ?_
      refine Ej    rfl .free rfl ?_
      refine Oa rfl (Aa     (Se rfl ?_))
      refine Az    rfl .free rfl ?_
      refine Om rfl ?_
      refine Ca rfl (Cy           hf.rep hok0 _ _) ?_
      rintro _ J1 _ e1 ⟨o1, k1, rfl, hs1, rfl⟩
      refine Om rfl ?_
      refine Ca rfl (C6                (hs1.rd _) k1 nm) ?_
      rintro _ _ _ _ ⟨rfl, rfl, rfl⟩
      refine Ck    rfl .free rfl ?_
      refine Dv    (fun w h => Mem.le e1 h) ?_
      refine Aa     ?_
      first | refine Ks   rfl (by simp [Ex.binds]) ?_ | refine Kr   rfl (by simp [Ex.binds]) ?_ | refine Bj     (by simp [look, Ba , *]) ?_
      refine B8    13 rfl rfl ?_
      refine Da 0 rfl (Ag          rfl) ?_
      refine Dt 1 [12] rfl (Bd    rfl) ?_
      refine Da 2 rfl (Ae     rfl) ?_
      refine Da 3 rfl (Ag          rfl) ?_
      refine Dt 4 [12] rfl (Bd    rfl) ?_
      refine Da 5 rfl (Ae     rfl) ?_
      first | refine Da 6 rfl (A1    rfl rfl _ rfl) ?_ | refine Da 6 rfl (A2    rfl rfl _ rfl) ?_
      refine Dt 7 [12] rfl (A8    rfl) ?_
      refine Da 8 rfl (Ae     rfl) ?_
      refine Dt 9 [12] rfl (Bx    rfl) ?_
      refine Dc 10 rfl rfl (ihn (by omega) (hf.as 2 b.tree (by omega) rfl) hok.2 nm hnm hv _) ?_
      rintro _ J2 _ e2 ⟨cs2, rfl, hr_1, rfl⟩
      obtain ⟨o2, k2, _, rfl, -⟩ := hr_1.open
      have hf := hf.mono e2
      have hv := hv.mono e2
      have hle := hle.trans e2
      have hk := hk.mono e2
      have hr_0 := hr_0.mono e2
      refine Hx ?_
      first | refine Da 11 rfl (A1    rfl rfl _ rfl) ?_ | refine Da 11 rfl (A2    rfl rfl _ rfl) ?_
      refine Dx 12 rfl rfl rfl rfl ?_
      refine Ao     (by kernel_rfl) ?_
      refine Al        (Ah      rfl ?_)
      refine Or rfl rfl rfl ?_
      refine Om rfl (Aa     ?_)
      refine Bu      ?_
      refine Se rfl (Oc rfl rfl rfl (Aa     (Ab    ?_)))
      refine Cr      rfl (by first | rfl | decide | (simp; done) | omega) ?_
      refine Bw     rfl ?_
      refine Se rfl ?_
      refine Az    rfl .free rfl ?_
      refine Bk   rfl rfl rfl rfl .free ?_
      refine Aa     ?_
      refine Bg    (fun w h => h.f1) (Be       ?_)
      intro hz
      have hf := hf.mono hz
      refine Ad    (.c rfl .nil) ?_
      exact ⟨_, L, hle.trans hz, Ay   , _, rfl, .mk' rfl (.cons (hf.as 0 (.node o.txt []) (by omega) rfl) (.cons (hr_0.mono hz) (.cons (hr_1.mono hz) .nil))) (fun y hy => by cases hy; exact A5        (xs := [_, _, _, _, _, _])) (by simp) hcc (by simp [As  ]) (by simp [As  ]), rfl⟩
    · skip
      have hlen : (Ex.ite a b d).tree.parts.length = 4 := rfl
      have hki := Jy       a b d
      simp only [Ex.ite.sizeOf_spec] at hlt
      simp only [Ex.ok, Bool.and_eq_true] at hok
      obtain ⟨_, hrl⟩ : ∃ _ : True, RepL I (Ex.ite a b d).tree.parts _ := ⟨trivial, hcl⟩
      simp only [show (Ex.ite a b d).tree.parts = [.node Fs  [], a.tree, b.tree, d.tree] from rfl, Co    , List.cons_append, List.nil_append] at hrl ⊢
      refine Ah      rfl ?_
      refine Az    rfl .free rfl ?_
      refine Ca rfl (Ec          hf.rep _) ?_
      rintro _ J _ e0 ⟨ok, ck, rfl, hk, rfl⟩
      have hf := hf.mono e0
      have hv := hv.mono e0
      have hle := e0
      rw [hki] at hk
      rw [hki]
      refine On rfl (Om rfl (Aa     (Aj      ?_)))
      refine Dq     ?_
      refine Se rfl (Oc rfl rfl rfl (Aa     (Ab    ?_)))
      refine B6      rfl (by first | rfl | decide | (simp; done) | omega) ?_
      refine Af     (Ab    (Aj      (Se rfl ?_)))
      first | refine A3    rfl rfl _ rfl .free rfl ?_ | refine A4    rfl rfl _ rfl .free rfl ?_
      refine Ej    rfl .free rfl ?_
      refine Oa rfl (Aa     (Se rfl ?_))
      refine Az    rfl .free rfl ?_
      refine Om rfl ?_
      refine Ca rfl (Cy           hf.rep hok0 _ _) ?_
      rintro _ J1 _ e1 ⟨o1, k1, rfl, hs1, rfl⟩
      refine Om rfl ?_
      refine Ca rfl (C6                (hs1.rd _) k1 nm) ?_
      rintro _ _ _ _ ⟨rfl, rfl, rfl⟩
      refine Ck    rfl .free rfl ?_
      refine Dv    (fun w h => Mem.le e1 h) ?_
      refine Aa     ?_
      first | refine Ks   rfl (by simp [Ex.binds]) ?_ | refine Kr   rfl (by simp [Ex.binds]) ?_ | refine Bj     (by simp [look, Ba , *]) ?_
      refine B8    13 rfl rfl ?_
      refine Da 0 rfl (Ag          rfl) ?_
      refine Dt 1 [12] rfl (Bd    rfl) ?_
      refine Da 2 rfl (Ae     rfl) ?_
      refine Da 3 rfl (Ag          rfl) ?_
      refine Dt 4 [12] rfl (Bd    rfl) ?_
      refine Da 5 rfl (Ae     rfl) ?_
      first | refine Da 6 rfl (A1    rfl rfl _ rfl) ?_ | refine Da 6 rfl (A2    rfl rfl _ rfl) ?_
      refine Dt 7 [12] rfl (A8    rfl) ?_
      refine Da 8 rfl (Ae     rfl) ?_
      refine Dt 9 [12] rfl (Bx    rfl) ?_
      refine Dc 10 rfl rfl (ihn (by omega) (hf.as 1 a.tree (by omega) rfl) hok.1.1 nm hnm hv _) ?_
      rintro _ J2 _ e2 ⟨cs2, rfl, hr_0, rfl⟩
      obtain ⟨o2, k2, _, rfl, -⟩ := hr_0.open
      have hf := hf.mono e2
      have hv := hv.mono e2
      have hle := hle.trans e2
      have hk := hk.mono e2
      refine Hx ?_
      first | refine Da 11 rfl (A1    rfl rfl _ rfl) ?_ | refine Da 11 rfl (A2    rfl rfl _ rfl) ?_
      refine Dx 12 rfl rfl rfl rfl ?_
      refine Ao     (by kernel_rfl) ?_
      refine Al        (Ah      rfl ?_)
      refine Or rfl rfl rfl ?_
      refine Om rfl (Aa     ?_)
      refine Bu      ?_
      refine Se rfl (Oc rfl rfl rfl (Aa     (Ab    ?_)))
      refine B6      rfl (by first | rfl | decide | (simp; done) | omega) ?_
      refine Af     (Ab    (Aj      (Se rfl ?_)))
      first | refine A3    rfl rfl _ rfl .free rfl ?_ | refine A4    rfl rfl _ rfl .free rfl ?_
      refine Ej    rfl .free rfl ?_
      refine Oa rfl (Aa     (Se rfl ?_))
      refine Az    rfl .free rfl ?_
      refine Om rfl ?_
      refine Ca rfl (Cy           hf.rep hok0 _ _) ?_
      rintro _ J1 _ e1 ⟨o1, k1, rfl, hs1, rfl⟩
      refine Om rfl ?_
      refine Ca rfl (C6                (hs1.rd _) k1 nm) ?_
      rintro _ _ _ _ ⟨rfl, rfl, rfl⟩
      refine Ck    rfl .free rfl ?_
      refine Dv    (fun w h => Mem.le e1 h) ?_
      refine Aa     ?_
      first | refine Ks   rfl (by simp [Ex.binds]) ?_ | refine Kr   rfl (by simp [Ex.binds]) ?_ | refine Bj     (by simp [look, Ba , *]) ?_
      refine B8    13 rfl rfl ?_
      refine Da 0 rfl (Ag          rfl) ?_
      refine Dt 1 [12] rfl (Bd    rfl) ?_
      refine Da 2 rfl (Ae     rfl) ?_
      refine Da 3 rfl (Ag          rfl) ?_
      refine Dt 4 [12] rfl (Bd    rfl) ?_
      refine Da 5 rfl (Ae     rfl) ?_
      first | refine Da 6 rfl (A1    rfl rfl _ rfl) ?_ | refine Da 6 rfl (A2    rfl rfl _ rfl) ?_
      refine Dt 7 [12] rfl (A8    rfl) ?_
      refine Da 8 rfl (Ae     rfl) ?_
      refine Dt 9 [12] rfl (Bx    rfl) ?_
      refine Dc 10 rfl rfl (ihn (by omega) (hf.as 2 b.tree (by omega) rfl) hok.1.2 nm hnm hv _) ?_
      rintro _ J2 _ e2 ⟨cs2, rfl, hr_1, rfl⟩
      obtain ⟨o2, k2, _, rfl, -⟩ := hr_1.open
      have hf := hf.mono e2
      have hv := hv.mono e2
      have hle := hle.trans e2
      have hk := hk.mono e2
      have hr_0 := hr_0.mono e2
      refine Hx ?_
      first | refine Da 11 rfl (A1    rfl rfl _ rfl) ?_ | refine Da 11 rfl (A2    rfl rfl _ rfl) ?_
      refine Dx 12 rfl rfl rfl rfl ?_
      refine Ao     (by kernel_rfl) ?_
      refine Al        (Ah      rfl ?_)
      refine Or rfl rfl rfl ?_
      refine Om rfl (Aa     ?_)
      refine Bu      ?_
      refine Se rfl (Oc rfl rfl rfl (Aa     (Ab    ?_)))
      refine B6      rfl (by first | rfl | decide | (simp; done) | omega) ?_
      refine Af     (Ab    (Aj      (Se rfl ?_)))
      first | refine A3    rfl rfl _ rfl .free rfl ?_ | refine A4    rfl rfl _ rfl .free rfl ?_
      refine Ej    rfl .free rfl ?_
      refine Oa rfl (Aa     (Se rfl ?_))
      refine Az    rfl .free rfl ?_
      refine Om rfl ?_
      refine Ca rfl (Cy           hf.rep hok0 _ _) ?_
      rintro _ J1 _ e1 ⟨o1, k1, rfl, hs1, rfl⟩
      refine Om rfl ?_
      refine Ca rfl (C6                (hs1.rd _) k1 nm) ?_
      rintro _ _ _ _ ⟨rfl, rfl, rfl⟩
      refine Ck    rfl .free rfl ?_
      refine Dv    (fun w h => Mem.le e1 h) ?_
      refine Aa     ?_
      first | refine Ks   rfl (by simp [Ex.binds]) ?_ | refine Kr   rfl (by simp [Ex.binds]) ?_ | refine Bj     (by simp [look, Ba , *]) ?_
      refine B8    13 rfl rfl ?_
      refine Da 0 rfl (Ag          rfl) ?_
      refine Dt 1 [12] rfl (Bd    rfl) ?_
      refine Da 2 rfl (Ae     rfl) ?_
      refine Da 3 rfl (Ag          rfl) ?_
      refine Dt 4 [12] rfl (Bd    rfl) ?_
      refine Da 5 rfl (Ae     rfl) ?_
      first | refine Da 6 rfl (A1    rfl rfl _ rfl) ?_ | refine Da 6 rfl (A2    rfl rfl _ rfl) ?_
      refine Dt 7 [12] rfl (A8    rfl) ?_
      refine Da 8 rfl (Ae     rfl) ?_
      refine Dt 9 [12] rfl (Bx    rfl) ?_
      refine Dc 10 rfl rfl (ihn (by omega) (hf.as 3 d.tree (by omega) rfl) hok.2 nm hnm hv _) ?_
      rintro _ J2 _ e2 ⟨cs2, rfl, hr_2, rfl⟩
      obtain ⟨o2, k2, _, rfl, -⟩ := hr_2.open
      have hf := hf.mono e2
      have hv := hv.mono e2
      have hle := hle.trans e2
      have hk := hk.mono e2
      have hr_0 := hr_0.mono e2
      have hr_1 := hr_1.mono e2
      refine Hx ?_
      first | refine Da 11 rfl (A1    rfl rfl _ rfl) ?_ | refine Da 11 rfl (A2    rfl rfl _ rfl) ?_
      refine Dx 12 rfl rfl rfl rfl ?_
      refine Ao     (by kernel_rfl) ?_
      refine Al        (Ah      rfl ?_)
      refine Or rfl rfl rfl ?_
      refine Om rfl (Aa     ?_)
      refine Bu      ?_
      refine Se rfl (Oc rfl rfl rfl (Aa     (Ab    ?_)))
      refine Cr      rfl (by first | rfl | decide | (simp; done) | omega) ?_
      refine Bw     rfl ?_
      refine Se rfl ?_
      refine Az    rfl .free rfl ?_
      refine Bk   rfl rfl rfl rfl .free ?_
      refine Aa     ?_
      refine Bg    (fun w h => h.f1) (Be       ?_)
      intro hz
      have hf := hf.mono hz
      refine Ad    (.c rfl .nil) ?_
      exact ⟨_, L, hle.trans hz, Ay   , _, rfl, .mk' rfl (.cons (hf.as 0 (.node Fs  []) (by omega) rfl) (.cons (hr_0.mono hz) (.cons (hr_1.mono hz) (.cons (hr_2.mono hz) .nil)))) (fun y hy => by cases hy; exact A5        (xs := [_, _, _, _, _, _, _, _])) (by simp) hcc (by simp [As  ]) (by simp [As  ]), rfl⟩
    · skip
      have hlen : (Ex.lt z a b).tree.parts.length = 4 := rfl
      have hki := Jz       z a b
      simp only [Ex.lt.sizeOf_spec] at hlt
      simp only [Ex.ok, Bool.and_eq_true] at hok
      obtain ⟨_, hrl⟩ : ∃ _ : True, RepL I (Ex.lt z a b).tree.parts _ := ⟨trivial, hcl⟩
      simp only [show (Ex.lt z a b).tree.parts = [.node C4   [], .node z [], a.tree, b.tree] from rfl, Co    , List.cons_append, List.nil_append] at hrl ⊢
      refine Ah      rfl ?_
      refine Az    rfl .free rfl ?_
      refine Ca rfl (Ec          hf.rep _) ?_
      rintro _ J _ e0 ⟨ok, ck, rfl, hk, rfl⟩
      have hf := hf.mono e0
      have hv := hv.mono e0
      have hle := e0
      rw [hki] at hk
      rw [hki]
      refine On rfl (Om rfl (Aa     (Aj      ?_)))
      refine Dq     ?_
      refine Se rfl (Oc rfl rfl rfl (Aa     (Ab    ?_)))
      refine B6      rfl (by first | rfl | decide | (simp; done) | omega) ?_
      refine Af     (Ab    (Aj      (Se rfl ?_)))
      first | refine A3    rfl rfl _ rfl .free rfl ?_ | refine A4    rfl rfl _ rfl .free rfl ?_
      refine Ej    rfl .free rfl ?_
      refine Oa rfl (Aa     (Se rfl ?_))
      refine Az    rfl .free rfl ?_
      refine Om rfl ?_
      refine Ca rfl (Cy           hf.rep hok0 _ _) ?_
      rintro _ J1 _ e1 ⟨o1, k1, rfl, hs1, rfl⟩
      refine Om rfl ?_
      refine Ca rfl (C6                (hs1.rd _) k1 nm) ?_
      rintro _ _ _ _ ⟨rfl, rfl, rfl⟩
      refine Ck    rfl .free rfl ?_
      refine Dv    (fun w h => Mem.le e1 h) ?_
      refine Aa     ?_
      first | refine Ks   rfl (by simp [Ex.binds]) ?_ | refine Kr   rfl (by simp [Ex.binds]) ?_ | refine Bj     (by simp [look, Ba , *]) ?_
      refine B8    13 rfl rfl ?_
      refine Da 0 rfl (Ag          rfl) ?_
      refine Dt 1 [12] rfl (Bd    rfl) ?_
      refine Da 2 rfl (Ae     rfl) ?_
      refine Da 3 rfl (Ag          rfl) ?_
      refine Dt 4 [12] rfl (Bd    rfl) ?_
      refine Da 5 rfl (Ae     rfl) ?_
      first | refine Da 6 rfl (A1    rfl rfl _ rfl) ?_ | refine Da 6 rfl (A2    rfl rfl _ rfl) ?_
      refine Dt 7 [12] rfl (A8    rfl) ?_
      refine Da 8 rfl (Ae     rfl) ?_
      refine Dt 9 [12] rfl (Bx    rfl) ?_
      refine Dc 10 rfl rfl (ihn (by omega) (hf.as 2 a.tree (by omega) rfl) hok.1.2 nm hnm hv _) ?_
      rintro _ J2 _ e2 ⟨cs2, rfl, hr_0, rfl⟩
      obtain ⟨o2, k2, _, rfl, -⟩ := hr_0.open
      have hf := hf.mono e2
      have hv := hv.mono e2
      have hle := hle.trans e2
      have hk := hk.mono e2
      refine Hx ?_
      first | refine Da 11 rfl (A1    rfl rfl _ rfl) ?_ | refine Da 11 rfl (A2    rfl rfl _ rfl) ?_
      refine Dx 12 rfl rfl rfl rfl ?_
      refine Ao     (by kernel_rfl) ?_
      refine Al        (Ah      rfl ?_)
      refine Or rfl rfl rfl ?_
      refine Om rfl (Aa     ?_)
      refine Bu      ?_
      refine Se rfl (Oc rfl rfl rfl (Aa     (Ab    ?_)))
      refine B6      rfl (by first | rfl | decide | (simp; done) | omega) ?_
      refine Af     (Ab    (Aj      (Se rfl ?_)))
      first | refine A3    rfl rfl _ rfl .free rfl ?_ | refine A4    rfl rfl _ rfl .free rfl ?_
      refine Ej    rfl .free rfl ?_
      refine Oa rfl (Aa     (Se rfl ?_))
      refine Az    rfl .free rfl ?_
      refine Om rfl ?_
      refine Ca rfl (Cy           hf.rep hok0 _ _) ?_
      rintro _ J1 _ e1 ⟨o1, k1, rfl, hs1, rfl⟩
      refine Om rfl ?_
      refine Ca rfl (C6                (hs1.rd _) k1 nm) ?_
      rintro _ _ _ _ ⟨rfl, rfl, rfl⟩
      refine Ck    rfl .free rfl ?_
      refine Dv    (fun w h => Mem.le e1 h) ?_
      refine Aa     ?_
      refine Ar     rfl ?_ ?_
      · intro c3
        try simp only [nb] at c3
        have c3 : ¬ nm ∈ [z] := c3
        refine B8    13 rfl rfl ?_
        refine Da 0 rfl (Ag          rfl) ?_
        refine Dt 1 [12] rfl (Bd    rfl) ?_
        refine Da 2 rfl (Ae     rfl) ?_
        refine Da 3 rfl (Ag          rfl) ?_
        refine Dt 4 [12] rfl (Bd    rfl) ?_
        refine Da 5 rfl (Ae     rfl) ?_
        first | refine Da 6 rfl (A1    rfl rfl _ rfl) ?_ | refine Da 6 rfl (A2    rfl rfl _ rfl) ?_
        refine Dt 7 [12] rfl (A8    rfl) ?_
        refine Da 8 rfl (Ae     rfl) ?_
        refine Dt 9 [12] rfl (Bx    rfl) ?_
        refine Dc 10 rfl rfl (ihn (by omega) (hf.as 3 b.tree (by omega) rfl) hok.2 nm hnm hv _) ?_
        rintro _ J2 _ e2 ⟨cs2, rfl, hr_1, rfl⟩
        obtain ⟨o2, k2, _, rfl, -⟩ := hr_1.open
        have hf := hf.mono e2
        have hv := hv.mono e2
        have hle := hle.trans e2
        have hk := hk.mono e2
        have hr_0 := hr_0.mono e2
        refine Hx ?_
        first | refine Da 11 rfl (A1    rfl rfl _ rfl) ?_ | refine Da 11 rfl (A2    rfl rfl _ rfl) ?_
        refine Dx 12 rfl rfl rfl rfl ?_
        refine Ao     (by kernel_rfl) ?_
        refine Al        (Ah      rfl ?_)
        refine Or rfl rfl rfl ?_
        refine Om rfl (Aa     ?_)
        refine Bu      ?_
        refine Se rfl (Oc rfl rfl rfl (Aa     (Ab    ?_)))
        refine Cr      rfl (by first | rfl | decide | (simp; done) | omega) ?_
        refine Bw     rfl ?_
        refine Se rfl ?_
        refine Az    rfl .free rfl ?_
        refine Bk   rfl rfl rfl rfl .free ?_
        refine Aa     ?_
        refine Bg    (fun w h => h.f1) (Be       ?_)
        intro hz
        have hf := hf.mono hz
        refine Ad    (.c rfl .nil) ?_
        first
          | (have hput : (Ex.lt z a b).put nm v = .lt z (a.put nm v) (b.put nm v) := by
               have : ¬ z = nm := fun h => c3 (by simp [h])
               simp [Ex.put, this]
             rw [hput]
             exact ⟨_, L, hle.trans hz, Ay   , _, rfl, .mk' rfl (.cons (hf.as 0 (.node C4   []) (by omega) rfl) (.cons (hf.as 1 (.node z []) (by omega) rfl) (.cons (hr_0.mono hz) (.cons (hr_1.mono hz) .nil)))) (fun y hy => by cases hy; exact A5        (xs := [_, _, _, _, _, _, _, _])) (by simp) hcc (by simp [As  ]) (by simp [As  ]), rfl⟩)
          | (have hput : (Ex.lt z a b).put nm v = .lt z (a.put nm v) b := by
               have : nm = z := by simpa using c3
               simp [Ex.put, this]
             rw [hput]
             exact ⟨_, L, hle.trans hz, Ay   , _, rfl, .mk' rfl (.cons (hf.as 0 (.node C4   []) (by omega) rfl) (.cons (hf.as 1 (.node z []) (by omega) rfl) (.cons (hr_0.mono hz) (.cons (hf.as 3 b.tree (by omega) rfl) .nil)))) (fun y hy => by cases hy; exact A5        (xs := [_, _, _, _, _, _, _, _])) (by simp) hcc (by simp [As  ]) (by simp [As  ]), rfl⟩)
      intro c3
      try simp only [nb] at c3
      have c3 : nm ∈ [z] := c3
      refine Af     (Al        (Ah      rfl ?_))
      refine Or rfl rfl rfl ?_
      refine Om rfl (Aa     ?_)
      refine Bu      ?_
      refine Se rfl (Oc rfl rfl rfl (Aa     (Ab    ?_)))
      refine Cr      rfl (by first | rfl | decide | (simp; done) | omega) ?_
      refine Bw     rfl ?_
      refine Se rfl ?_
      refine Az    rfl .free rfl ?_
      refine Bk   rfl rfl rfl rfl .free ?_
      refine Aa     ?_
      refine Bg    (fun w h => h.f1) (Be       ?_)
      intro hz
      have hf := hf.mono hz
      refine Ad    (.c rfl .nil) ?_
      first
        | (have hput : (Ex.lt z a b).put nm v = .lt z (a.put nm v) (b.put nm v) := by
             have : ¬ z = nm := fun h => c3 (by simp [h])
             simp [Ex.put, this]
           rw [hput]
           exact ⟨_, L, hle.trans hz, Ay   , _, rfl, .mk' rfl (.cons (hf.as 0 (.node C4   []) (by omega) rfl) (.cons (hf.as 1 (.node z []) (by omega) rfl) (.cons (hr_0.mono hz) (.cons (hr_1.mono hz) .nil)))) (fun y hy => by cases hy; exact A5        (xs := [_, _, _, _, _, _, _, _])) (by simp) hcc (by simp [As  ]) (by simp [As  ]), rfl⟩)
        | (have hput : (Ex.lt z a b).put nm v = .lt z (a.put nm v) b := by
             have : nm = z := by simpa using c3
             simp [Ex.put, this]
           rw [hput]
           exact ⟨_, L, hle.trans hz, Ay   , _, rfl, .mk' rfl (.cons (hf.as 0 (.node C4   []) (by omega) rfl) (.cons (hf.as 1 (.node z []) (by omega) rfl) (.cons (hr_0.mono hz) (.cons (hf.as 3 b.tree (by omega) rfl) .nil)))) (fun y hy => by cases hy; exact A5        (xs := [_, _, _, _, _, _, _, _])) (by simp) hcc (by simp [As  ]) (by simp [As  ]), rfl⟩)
    · skip
      have hlen : (Ex.fn g z s t b).tree.parts.length = 6 := rfl
      have hki := Ki      g z s t b
      simp only [Ex.fn.sizeOf_spec] at hlt
      simp only [Ex.ok, Bool.and_eq_true] at hok
      obtain ⟨_, hrl⟩ : ∃ _ : True, RepL I (Ex.fn g z s t b).tree.parts _ := ⟨trivial, hcl⟩
      simp only [show (Ex.fn g z s t b).tree.parts = [.node Dh   [], .node g [], .node z [], s.tree, t.tree, b.tree] from rfl, Co    , List.cons_append, List.nil_append] at hrl ⊢
      refine Ah      rfl ?_
      refine Az    rfl .free rfl ?_
      refine Ca rfl (Ec          hf.rep _) ?_
      rintro _ J _ e0 ⟨ok, ck, rfl, hk, rfl⟩
      have hf := hf.mono e0
      have hv := hv.mono e0
      have hle := e0
      rw [hki] at hk
      rw [hki]
      refine On rfl (Om rfl (Aa     (Aj      ?_)))
      refine Dq     ?_
      refine Se rfl (Oc rfl rfl rfl (Aa     (Ab    ?_)))
      refine B6      rfl (by first | rfl | decide | (simp; done) | omega) ?_
      refine Af     (Ab    (Aj      (Se rfl ?_)))
      first | refine A3    rfl rfl _ rfl .free rfl ?_ | refine A4    rfl rfl _ rfl .free rfl ?_
      refine Ej    rfl .free rfl ?_
      refine Oa rfl (Aa     (Se rfl ?_))
      refine Az    rfl .free rfl ?_
      refine Om rfl ?_
      refine Ca rfl (Cy           hf.rep hok0 _ _) ?_
      rintro _ J1 _ e1 ⟨o1, k1, rfl, hs1, rfl⟩
      refine Om rfl ?_
      refine Ca rfl (C6                (hs1.rd _) k1 nm) ?_
      rintro _ _ _ _ ⟨rfl, rfl, rfl⟩
      refine Ck    rfl .free rfl ?_
      refine Dv    (fun w h => Mem.le e1 h) ?_
      refine Aa     ?_
      refine Ar     rfl ?_ ?_
      · intro c3
        try simp only [nb] at c3
        have c3 : ¬ nm ∈ [g, z] := c3
        refine B8    13 rfl rfl ?_
        refine Da 0 rfl (Ag          rfl) ?_
        refine Dt 1 [12] rfl (Bd    rfl) ?_
        refine Da 2 rfl (Ae     rfl) ?_
        refine Da 3 rfl (Ag          rfl) ?_
        refine Dt 4 [12] rfl (Bd    rfl) ?_
        refine Da 5 rfl (Ae     rfl) ?_
        first | refine Da 6 rfl (A1    rfl rfl _ rfl) ?_ | refine Da 6 rfl (A2    rfl rfl _ rfl) ?_
        refine Dt 7 [12] rfl (A8    rfl) ?_
        refine Da 8 rfl (Ae     rfl) ?_
        refine Dt 9 [12] rfl (Bx    rfl) ?_
        refine Dc 10 rfl rfl (ihn (by omega) (hf.as 5 b.tree (by omega) rfl) hok.2 nm hnm hv _) ?_
        rintro _ J2 _ e2 ⟨cs2, rfl, hr_0, rfl⟩
        obtain ⟨o2, k2, _, rfl, -⟩ := hr_0.open
        have hf := hf.mono e2
        have hv := hv.mono e2
        have hle := hle.trans e2
        have hk := hk.mono e2
        refine Hx ?_
        first | refine Da 11 rfl (A1    rfl rfl _ rfl) ?_ | refine Da 11 rfl (A2    rfl rfl _ rfl) ?_
        refine Dx 12 rfl rfl rfl rfl ?_
        refine Ao     (by kernel_rfl) ?_
        refine Al        (Ah      rfl ?_)
        refine Or rfl rfl rfl ?_
        refine Om rfl (Aa     ?_)
        refine Bu      ?_
        refine Se rfl (Oc rfl rfl rfl (Aa     (Ab    ?_)))
        refine Cr      rfl (by first | rfl | decide | (simp; done) | omega) ?_
        refine Bw     rfl ?_
        refine Se rfl ?_
        refine Az    rfl .free rfl ?_
        refine Bk   rfl rfl rfl rfl .free ?_
        refine Aa     ?_
        refine Bg    (fun w h => h.f1) (Be       ?_)
        intro hz
        have hf := hf.mono hz
        refine Ad    (.c rfl .nil) ?_
        first
          | (have hput : (Ex.fn g z s t b).put nm v = .fn g z s t (b.put nm v) := by
               have h1 : ¬ (g = nm ∨ z = nm) := by rintro (h | h) <;> exact c3 (by simp [h])
               simp only [Ex.put]; rw [if_neg h1]
             rw [hput]
             exact ⟨_, L, hle.trans hz, Ay   , _, rfl, .mk' rfl (.cons (hf.as 0 (.node Dh   []) (by omega) rfl) (.cons (hf.as 1 (.node g []) (by omega) rfl) (.cons (hf.as 2 (.node z []) (by omega) rfl) (.cons (hf.as 3 (s.tree) (by omega) rfl) (.cons (hf.as 4 (t.tree) (by omega) rfl) (.cons (hr_0.mono hz) .nil)))))) (fun y hy => by cases hy; exact A5        (xs := [_, _, _, _, _, _, _, _, _, _, _, _])) (by simp) hcc (by simp [As  ]) (by simp [As  ]), rfl⟩)
          | (have hput : (Ex.fn g z s t b).put nm v = .fn g z s t b := by
               have h1 : g = nm ∨ z = nm := by simp at c3; rcases c3 with h | h <;> simp [h]
               simp only [Ex.put]; rw [if_pos h1]
             rw [hput]
             exact ⟨_, L, hle.trans hz, Ay   , _, rfl, .mk' rfl (.cons (hf.as 0 (.node Dh   []) (by omega) rfl) (.cons (hf.as 1 (.node g []) (by omega) rfl) (.cons (hf.as 2 (.node z []) (by omega) rfl) (.cons (hf.as 3 (s.tree) (by omega) rfl) (.cons (hf.as 4 (t.tree) (by omega) rfl) (.cons (hf.as 5 b.tree (by omega) rfl) .nil)))))) (fun y hy => by cases hy; exact A5        (xs := [_, _, _, _, _, _, _, _, _, _, _, _])) (by simp) hcc (by simp [As  ]) (by simp [As  ]), rfl⟩)
      intro c3
      try simp only [nb] at c3
      have c3 : nm ∈ [g, z] := c3
      refine Af     (Al        (Ah      rfl ?_))
      refine Or rfl rfl rfl ?_
      refine Om rfl (Aa     ?_)
      refine Bu      ?_
      refine Se rfl (Oc rfl rfl rfl (Aa     (Ab    ?_)))
      refine Cr      rfl (by first | rfl | decide | (simp; done) | omega) ?_
      refine Bw     rfl ?_
      refine Se rfl ?_
      refine Az    rfl .free rfl ?_
      refine Bk   rfl rfl rfl rfl .free ?_
      refine Aa     ?_
      refine Bg    (fun w h => h.f1) (Be       ?_)
      intro hz
      have hf := hf.mono hz
      refine Ad    (.c rfl .nil) ?_
      first
        | (have hput : (Ex.fn g z s t b).put nm v = .fn g z s t (b.put nm v) := by
             have h1 : ¬ (g = nm ∨ z = nm) := by rintro (h | h) <;> exact c3 (by simp [h])
             simp only [Ex.put]; rw [if_neg h1]
           rw [hput]
           exact ⟨_, L, hle.trans hz, Ay   , _, rfl, .mk' rfl (.cons (hf.as 0 (.node Dh   []) (by omega) rfl) (.cons (hf.as 1 (.node g []) (by omega) rfl) (.cons (hf.as 2 (.node z []) (by omega) rfl) (.cons (hf.as 3 (s.tree) (by omega) rfl) (.cons (hf.as 4 (t.tree) (by omega) rfl) (.cons (hr_0.mono hz) .nil)))))) (fun y hy => by cases hy; exact A5        (xs := [_, _, _, _, _, _, _, _, _, _, _, _])) (by simp) hcc (by simp [As  ]) (by simp [As  ]), rfl⟩)
        | (have hput : (Ex.fn g z s t b).put nm v = .fn g z s t b := by
             have h1 : g = nm ∨ z = nm := by simp at c3; rcases c3 with h | h <;> simp [h]
             simp only [Ex.put]; rw [if_pos h1]
           rw [hput]
           exact ⟨_, L, hle.trans hz, Ay   , _, rfl, .mk' rfl (.cons (hf.as 0 (.node Dh   []) (by omega) rfl) (.cons (hf.as 1 (.node g []) (by omega) rfl) (.cons (hf.as 2 (.node z []) (by omega) rfl) (.cons (hf.as 3 (s.tree) (by omega) rfl) (.cons (hf.as 4 (t.tree) (by omega) rfl) (.cons (hf.as 5 b.tree (by omega) rfl) .nil)))))) (fun y hy => by cases hy; exact A5        (xs := [_, _, _, _, _, _, _, _, _, _, _, _])) (by simp) hcc (by simp [As  ]) (by simp [As  ]), rfl⟩)
    · skip
      have hlen : (Ex.un o a).tree.parts.length = 2 := rfl
      have hki := In      o a
      simp only [Ex.un.sizeOf_spec] at hlt
      simp only [Ex.ok, Bool.and_eq_true] at hok
      obtain ⟨_, hrl⟩ : ∃ _ : True, RepL I (Ex.un o a).tree.parts _ := ⟨trivial, hcl⟩
      simp only [show (Ex.un o a).tree.parts = [.node o.txt [], a.tree] from rfl, Co    , List.cons_append, List.nil_append] at hrl ⊢
      refine Ah      rfl ?_
      refine Az    rfl .free rfl ?_
      refine Ca rfl (Ec          hf.rep _) ?_
      rintro _ J _ e0 ⟨ok, ck, rfl, hk, rfl⟩
      have hf := hf.mono e0
      have hv := hv.mono e0
      have hle := e0
      rw [hki] at hk
      rw [hki]
      refine On rfl (Om rfl (Aa     (Aj      ?_)))
      refine Dq     ?_
      refine Se rfl (Oc rfl rfl rfl (Aa     (Ab    ?_)))
      refine B6      rfl (by first | rfl | decide | (simp; done) | omega) ?_
      refine Af     (Ab    (Aj      (Se rfl ?_)))
      first | refine A3    rfl rfl _ rfl .free rfl ?_ | refine A4    rfl rfl _ rfl .free rfl ?_
      refine Ej    rfl .free rfl ?_
      refine Oa rfl (Aa     (Se rfl ?_))
      refine Az    rfl .free rfl ?_
      refine Om rfl ?_
      refine Ca rfl (Cy           hf.rep hok0 _ _) ?_
      rintro _ J1 _ e1 ⟨o1, k1, rfl, hs1, rfl⟩
      refine Om rfl ?_
      refine Ca rfl (C6                (hs1.rd _) k1 nm) ?_
      rintro _ _ _ _ ⟨rfl, rfl, rfl⟩
      refine Ck    rfl .free rfl ?_
      refine Dv    (fun w h => Mem.le e1 h) ?_
      refine Aa     ?_
      first | refine Ks   rfl (by simp [Ex.binds]) ?_ | refine Kr   rfl (by simp [Ex.binds]) ?_ | refine Bj     (by simp [look, Ba , *]) ?_
      refine B8    13 rfl rfl ?_
      refine Da 0 rfl (Ag          rfl) ?_
      refine Dt 1 [12] rfl (Bd    rfl) ?_
      refine Da 2 rfl (Ae     rfl) ?_
      refine Da 3 rfl (Ag          rfl) ?_
      refine Dt 4 [12] rfl (Bd    rfl) ?_
      refine Da 5 rfl (Ae     rfl) ?_
      first | refine Da 6 rfl (A1    rfl rfl _ rfl) ?_ | refine Da 6 rfl (A2    rfl rfl _ rfl) ?_
      refine Dt 7 [12] rfl (A8    rfl) ?_
      refine Da 8 rfl (Ae     rfl) ?_
      refine Dt 9 [12] rfl (Bx    rfl) ?_
      refine Dc 10 rfl rfl (ihn (by omega) (hf.as 1 a.tree (by omega) rfl) hok nm hnm hv _) ?_
      rintro _ J2 _ e2 ⟨cs2, rfl, hr_0, rfl⟩
      obtain ⟨o2, k2, _, rfl, -⟩ := hr_0.open
      have hf := hf.mono e2
      have hv := hv.mono e2
      have hle := hle.trans e2
      have hk := hk.mono e2
      refine Hx ?_
      first | refine Da 11 rfl (A1    rfl rfl _ rfl) ?_ | refine Da 11 rfl (A2    rfl rfl _ rfl) ?_
      refine Dx 12 rfl rfl rfl rfl ?_
      refine Ao     (by kernel_rfl) ?_
      refine Al        (Ah      rfl ?_)
      refine Or rfl rfl rfl ?_
      refine Om rfl (Aa     ?_)
      refine Bu      ?_
      refine Se rfl (Oc rfl rfl rfl (Aa     (Ab    ?_)))
      refine Cr      rfl (by first | rfl | decide | (simp; done) | omega) ?_
      refine Bw     rfl ?_
      refine Se rfl ?_
      refine Az    rfl .free rfl ?_
      refine Bk   rfl rfl rfl rfl .free ?_
      refine Aa     ?_
      refine Bg    (fun w h => h.f1) (Be       ?_)
      intro hz
      have hf := hf.mono hz
      refine Ad    (.c rfl .nil) ?_
      exact ⟨_, L, hle.trans hz, Ay   , _, rfl, .mk' rfl (.cons (hf.as 0 (.node o.txt []) (by omega) rfl) (.cons (hr_0.mono hz) .nil)) (fun y hy => by cases hy; exact A5        (xs := [_, _, _, _])) (by simp) hcc (by simp [As  ]) (by simp [As  ]), rfl⟩

theorem S1      : ∀ (n : Nat) {I : Heap} {e : Ex} {cs : List Value} (_ : SizeOf.sizeOf e < n) (_ : Rep I e.tree cs) (_ : e.ok = true) (nm : Au ) (_ : Bs     nm = true) {v : Ex} {ds : List Value} (_ : Rep I v.tree ds) (L : Bl ),
    Fun Tryz.prog 161 [.agg cs.toArray, .string (str nm), .agg ds.toArray] I L (RP (e.put nm v).tree L) := by
  intro n
  induction n with
  | zero => intro I e cs h; omega
  | succ n ihn =>
    intro I e cs hlt h hok nm hnm v ds hv L
    obtain ⟨oa, c, oaf, cf, rfl, hf, hcl, hcs⟩ := h.cells
    obtain ⟨ov, cv, _, rfl, -⟩ := hv.open
    have hle : HLe I I := .refl _
    refine Ai        (by simp) ?_
    refine Se rfl ?_
    refine Cd    rfl rfl .free rfl ?_
    intro b3
    refine Cd    rfl rfl .free rfl ?_
    intro b5
    refine Ax      .free rfl ?_
    intro b6
    refine Aa     (Ab    (Se rfl (Oh rfl ?_)))
    refine A6    rfl .free rfl ?_
    refine Od rfl rfl rfl (Aa     ?_)
    refine Ar     rfl ?_ ?_
    · intro c0
      try simp only [nb] at c0
      have hb : e.bare = true := by
        cases hb : e.bare with
        | true => rfl
        | false => exact absurd ((Ex.atom_iff hok).2 hb) c0
      refine Ab    (Se rfl (Oh rfl ?_))
      refine A6    rfl .free rfl ?_
      refine Om rfl (Od rfl rfl rfl (Aa     ?_))
      refine Ar     rfl ?_ ?_
      · intro c1
        try simp only [nb] at c1
        refine Se rfl ?_
        refine Az    rfl .free rfl ?_
        refine Bk   rfl rfl rfl rfl .free ?_
        refine Aa     ?_
        refine Ad    (.c rfl .nil) ?_
        refine ⟨I, L, .refl _, Ay   , _, rfl, ?_, rfl⟩
        have : e.put nm v = v := by
          cases e with
          | num s =>
            have c1 : s = nm := c1
            subst c1
            have h2 := E3           hnm
            rw [show Bt    s = true from hok] at h2; cases h2
          | name s => exact if_pos c1
          | _ => cases hb
        rw [this]; exact hv
      intro c1
      try simp only [nb] at c1
      refine Af     (Se rfl ?_)
      refine Az    rfl .free rfl ?_
      refine Bk   rfl rfl rfl rfl .free ?_
      refine Aa     ?_
      refine Ad    (.c rfl .nil) ?_
      refine ⟨I, L, .refl _, Ay   , _, rfl, ?_, rfl⟩
      have : e.put nm v = e := by
        cases e with
        | num s => rfl
        | name s => exact if_neg c1
        | _ => cases hb
      rw [this]; exact hf.rep
    intro c0
    try simp only [nb] at c0
    have hb : e.bare = false := (Ex.atom_iff hok).1 (by simpa using c0)
    have hsh := e.shapes hb
    have hok0 := hok
    have hpos : 0 < e.tree.parts.length := by
      rw [Ex.bare_parts] at hb
      have : e.tree.parts ≠ [] := by intro hh; rw [hh] at hb; cases hb
      exact List.length_pos_iff.2 this
    have hhd := Il      hpos
    obtain ⟨xa, rfl⟩ : ∃ xa, oa = some xa := ⟨_, Cq       hf.nil hpos⟩
    have hp := hf.len
    unfold As   at hp
    refine Af     (Se rfl ?_)
    refine Dp      .free rfl ?_
    intro b20
    refine Oh rfl ?_
    refine A6    rfl .free rfl ?_
    refine C2       (B := some (b20, [])) (xs := []) (ys := Co     oaf cf 0 e.tree.parts) (m := 0) (c := 0) (by intro kk; simp) (by rfl) rfl rfl ⟨rfl, Nat.le_refl _, rfl⟩ (fun _ h => h) (by have := hcl.length; omega) (fun a ha => by cases ha; exact (hcs _ rfl).reads) (by simp) hcl.plain hpos (by decide) (by omega) (by decide) .free rfl ?_
    intro bc sp cc hB'
    have hcc : e.tree.parts.length ≤ cc := by have := hB'.2.1; omega
    refine C3    (t := 23) (v' := .slice (some ⟨bc, 0, none⟩) e.tree.parts.length cc) rfl (by rw [Nat.zero_add]) ?_
    simp only [List.nil_append]
    refine Bn       rfl rfl rfl .free rfl ?_
    refine Ax      .free rfl ?_
    intro b7
    refine Bk   rfl rfl rfl rfl .free ?_
    refine Aa     (Se rfl (Oh rfl ?_))
    refine A6    rfl .free rfl ?_
    first | refine A3    rfl rfl 0 rfl .free rfl ?_ | refine A4    rfl rfl 0 rfl .free rfl ?_
    refine Av           rfl .free rfl ?_
    refine Dk    rfl .free rfl ?_
    refine Ca rfl (P4       (e.tree.pt 0).atom _ _) ?_
    rw [← hhd]; rintro _ _ _ _ ⟨rfl, rfl, rfl⟩
    refine Om rfl (Oe rfl rfl (Oe rfl rfl (Oa rfl (Oa rfl (Aa     (Ab    (Ab    ?_)))))))
    rcases hsh with ⟨o, a, b, rfl⟩ | ⟨a, b, d, rfl⟩ | ⟨z, a, b, rfl⟩ | ⟨g, z, s, t, b, rfl⟩ | ⟨o, a, rfl⟩
    · skip
      have hkr : A0       (Ex.bin o a b).tree.head = (1, 3) := by cases o <;> rfl
      rw [hkr]
      have hlen : (Ex.bin o a b).tree.parts.length = 3 := rfl
      have hki := Fw       o a b
      simp only [Ex.bin.sizeOf_spec] at hlt
      simp only [Ex.ok, Bool.and_eq_true] at hok
      simp only [show (Ex.bin o a b).tree.parts = [.node o.txt [], a.tree, b.tree] from rfl, Co    , List.cons_append, List.nil_append]
      refine Ah      rfl (Om rfl (Oa rfl (Aa     (Aj      ?_))))
      refine Dq     ?_
      refine Ab    (Se rfl (Om rfl (Om rfl (Oc rfl rfl rfl (Aa     ?_)))))
      refine B6      rfl (by first | rfl | decide | (simp; done) | omega) ?_
      refine Af     (Ab    (Aj      (Se rfl ?_)))
      refine Az    rfl .free rfl ?_
      refine Om rfl ?_
      refine Ca rfl (D7        hf.rep hok0 hb _ (by rw [hki]; decide) _) ?_
      rintro _ J1 _ e1 ⟨o1, k1, rfl, hs1, rfl⟩
      refine Om rfl ?_
      refine Ca rfl (Hj      (hs1.rd _) k1 nm) ?_
      rintro _ _ _ _ ⟨rfl, rfl, rfl⟩
      refine Ck    rfl .free rfl ?_
      refine Dv    (fun w h => Mem.le e1 h) ?_
      refine Aa     ?_
      first | refine Ks   rfl (by simp [Ex.binds]) ?_ | refine Kr   rfl (by simp [Ex.binds]) ?_ | refine Bj     (by simp [look, Ba , *]) ?_
      refine B8    13 rfl rfl ?_
      refine Da 0 rfl (Ag          rfl) ?_
      refine Dt 1 [12] rfl (Bd    rfl) ?_
      refine Da 2 rfl (Ae     rfl) ?_
      refine Da 3 rfl (Ag          rfl) ?_
      refine Dt 4 [12] rfl (Bd    rfl) ?_
      refine Da 5 rfl (Ae     rfl) ?_
      first | refine Da 6 rfl (A1    rfl rfl _ rfl) ?_ | refine Da 6 rfl (A2    rfl rfl _ rfl) ?_
      refine Dt 7 [12] rfl (A8    rfl) ?_
      refine Da 8 rfl (Ae     rfl) ?_
      refine Dt 9 [12] rfl (Bx    rfl) ?_
      refine Dc 10 rfl rfl (ihn (by omega) (hf.as 1 a.tree (by omega) rfl) hok.1 nm hnm hv _) ?_
      rintro _ J2 _ e2 ⟨cs2, rfl, hr_0, rfl⟩
      obtain ⟨o2, k2, _, rfl, -⟩ := hr_0.open
      have hf := hf.mono e2
      have hv := hv.mono e2
      have hle := hle.trans e2
      refine Hx ?_
      first | refine Da 11 rfl (A1    rfl rfl _ rfl) ?_ | refine Da 11 rfl (A2    rfl rfl _ rfl) ?_
      refine Dx 12 rfl rfl rfl rfl ?_
      refine Ao     (by kernel_rfl) ?_
      refine Al        (Ah      rfl (Om rfl ?_))
      refine Or rfl rfl rfl ?_
      refine Oa rfl (Aa     ?_)
      refine Bu      ?_
      refine Ab    (Se rfl (Om rfl (Om rfl (Oc rfl rfl rfl (Aa     ?_)))))
      refine B6      rfl (by first | rfl | decide | (simp; done) | omega) ?_
      refine Af     (Ab    (Aj      (Se rfl ?_)))
      refine Az    rfl .free rfl ?_
      refine Om rfl ?_
      refine Ca rfl (D7        hf.rep hok0 hb _ (by rw [hki]; decide) _) ?_
      rintro _ J1 _ e1 ⟨o1, k1, rfl, hs1, rfl⟩
      refine Om rfl ?_
      refine Ca rfl (Hj      (hs1.rd _) k1 nm) ?_
      rintro _ _ _ _ ⟨rfl, rfl, rfl⟩
      refine Ck    rfl .free rfl ?_
      refine Dv    (fun w h => Mem.le e1 h) ?_
      refine Aa     ?_
      first | refine Ks   rfl (by simp [Ex.binds]) ?_ | refine Kr   rfl (by simp [Ex.binds]) ?_ | refine Bj     (by simp [look, Ba , *]) ?_
      refine B8    13 rfl rfl ?_
      refine Da 0 rfl (Ag          rfl) ?_
      refine Dt 1 [12] rfl (Bd    rfl) ?_
      refine Da 2 rfl (Ae     rfl) ?_
      refine Da 3 rfl (Ag          rfl) ?_
      refine Dt 4 [12] rfl (Bd    rfl) ?_
      refine Da 5 rfl (Ae     rfl) ?_
      first | refine Da 6 rfl (A1    rfl rfl _ rfl) ?_ | refine Da 6 rfl (A2    rfl rfl _ rfl) ?_
      refine Dt 7 [12] rfl (A8    rfl) ?_
      refine Da 8 rfl (Ae     rfl) ?_
      refine Dt 9 [12] rfl (Bx    rfl) ?_
      refine Dc 10 rfl rfl (ihn (by omega) (hf.as 2 b.tree (by omega) rfl) hok.2 nm hnm hv _) ?_
      rintro _ J2 _ e2 ⟨cs2, rfl, hr_1, rfl⟩
      obtain ⟨o2, k2, _, rfl, -⟩ := hr_1.open
      have hf := hf.mono e2
      have hv := hv.mono e2
      have hle := hle.trans e2
      have hr_0 := hr_0.mono e2
      refine Hx ?_
      first | refine Da 11 rfl (A1    rfl rfl _ rfl) ?_ | refine Da 11 rfl (A2    rfl rfl _ rfl) ?_
      refine Dx 12 rfl rfl rfl rfl ?_
      refine Ao     (by kernel_rfl) ?_
      refine Al        (Ah      rfl (Om rfl ?_))
      refine Or rfl rfl rfl ?_
      refine Oa rfl (Aa     ?_)
      refine Bu      ?_
      refine Ab    (Se rfl (Om rfl (Om rfl (Oc rfl rfl rfl (Aa     ?_)))))
      refine Cr      rfl (by first | rfl | decide | (simp; done) | omega) ?_
      refine Bw     rfl ?_
      refine Se rfl ?_
      refine Az    rfl .free rfl ?_
      refine Bk   rfl rfl rfl rfl .free ?_
      refine Aa     ?_
      refine Bg    (fun w h => h.f1) (Be       ?_)
      intro hz
      have hf := hf.mono hz
      refine Ad    (.c rfl .nil) ?_
      exact ⟨_, L, hle.trans hz, Ay   , _, rfl, .mk' rfl (.cons (hf.as 0 (.node o.txt []) (by omega) rfl) (.cons (hr_0.mono hz) (.cons (hr_1.mono hz) .nil))) (fun y hy => by cases hy; exact A5        (xs := [_, _, _, _, _, _])) (by simp) hcc (by simp [As  ]) (by simp [As  ]), rfl⟩
    · skip
      have hkr : A0       (Ex.ite a b d).tree.head = (1, 4) := rfl
      rw [hkr]
      have hlen : (Ex.ite a b d).tree.parts.length = 4 := rfl
      have hki := Jy       a b d
      simp only [Ex.ite.sizeOf_spec] at hlt
      simp only [Ex.ok, Bool.and_eq_true] at hok
      simp only [show (Ex.ite a b d).tree.parts = [.node Fs  [], a.tree, b.tree, d.tree] from rfl, Co    , List.cons_append, List.nil_append]
      refine Ah      rfl (Om rfl (Oa rfl (Aa     (Aj      ?_))))
      refine Dq     ?_
      refine Ab    (Se rfl (Om rfl (Om rfl (Oc rfl rfl rfl (Aa     ?_)))))
      refine B6      rfl (by first | rfl | decide | (simp; done) | omega) ?_
      refine Af     (Ab    (Aj      (Se rfl ?_)))
      refine Az    rfl .free rfl ?_
      refine Om rfl ?_
      refine Ca rfl (D7        hf.rep hok0 hb _ (by rw [hki]; decide) _) ?_
      rintro _ J1 _ e1 ⟨o1, k1, rfl, hs1, rfl⟩
      refine Om rfl ?_
      refine Ca rfl (Hj      (hs1.rd _) k1 nm) ?_
      rintro _ _ _ _ ⟨rfl, rfl, rfl⟩
      refine Ck    rfl .free rfl ?_
      refine Dv    (fun w h => Mem.le e1 h) ?_
      refine Aa     ?_
      first | refine Ks   rfl (by simp [Ex.binds]) ?_ | refine Kr   rfl (by simp [Ex.binds]) ?_ | refine Bj     (by simp [look, Ba , *]) ?_
      refine B8    13 rfl rfl ?_
      refine Da 0 rfl (Ag          rfl) ?_
      refine Dt 1 [12] rfl (Bd    rfl) ?_
      refine Da 2 rfl (Ae     rfl) ?_
      refine Da 3 rfl (Ag          rfl) ?_
      refine Dt 4 [12] rfl (Bd    rfl) ?_
      refine Da 5 rfl (Ae     rfl) ?_
      first | refine Da 6 rfl (A1    rfl rfl _ rfl) ?_ | refine Da 6 rfl (A2    rfl rfl _ rfl) ?_
      refine Dt 7 [12] rfl (A8    rfl) ?_
      refine Da 8 rfl (Ae     rfl) ?_
      refine Dt 9 [12] rfl (Bx    rfl) ?_
      refine Dc 10 rfl rfl (ihn (by omega) (hf.as 1 a.tree (by omega) rfl) hok.1.1 nm hnm hv _) ?_
      rintro _ J2 _ e2 ⟨cs2, rfl, hr_0, rfl⟩
      obtain ⟨o2, k2, _, rfl, -⟩ := hr_0.open
      have hf := hf.mono e2
      have hv := hv.mono e2
      have hle := hle.trans e2
      refine Hx ?_
      first | refine Da 11 rfl (A1    rfl rfl _ rfl) ?_ | refine Da 11 rfl (A2    rfl rfl _ rfl) ?_
      refine Dx 12 rfl rfl rfl rfl ?_
      refine Ao     (by kernel_rfl) ?_
      refine Al        (Ah      rfl (Om rfl ?_))
      refine Or rfl rfl rfl ?_
      refine Oa rfl (Aa     ?_)
      refine Bu      ?_
      refine Ab    (Se rfl (Om rfl (Om rfl (Oc rfl rfl rfl (Aa     ?_)))))
      refine B6      rfl (by first | rfl | decide | (simp; done) | omega) ?_
      refine Af     (Ab    (Aj      (Se rfl ?_)))
      refine Az    rfl .free rfl ?_
      refine Om rfl ?_
      refine Ca rfl (D7        hf.rep hok0 hb _ (by rw [hki]; decide) _) ?_
      rintro _ J1 _ e1 ⟨o1, k1, rfl, hs1, rfl⟩
      refine Om rfl ?_
      refine Ca rfl (Hj      (hs1.rd _) k1 nm) ?_
      rintro _ _ _ _ ⟨rfl, rfl, rfl⟩
      refine Ck    rfl .free rfl ?_
      refine Dv    (fun w h => Mem.le e1 h) ?_
      refine Aa     ?_
      first | refine Ks   rfl (by simp [Ex.binds]) ?_ | refine Kr   rfl (by simp [Ex.binds]) ?_ | refine Bj     (by simp [look, Ba , *]) ?_
      refine B8    13 rfl rfl ?_
      refine Da 0 rfl (Ag          rfl) ?_
      refine Dt 1 [12] rfl (Bd    rfl) ?_
      refine Da 2 rfl (Ae     rfl) ?_
      refine Da 3 rfl (Ag          rfl) ?_
      refine Dt 4 [12] rfl (Bd    rfl) ?_
      refine Da 5 rfl (Ae     rfl) ?_
      first | refine Da 6 rfl (A1    rfl rfl _ rfl) ?_ | refine Da 6 rfl (A2    rfl rfl _ rfl) ?_
      refine Dt 7 [12] rfl (A8    rfl) ?_
      refine Da 8 rfl (Ae     rfl) ?_
      refine Dt 9 [12] rfl (Bx    rfl) ?_
      refine Dc 10 rfl rfl (ihn (by omega) (hf.as 2 b.tree (by omega) rfl) hok.1.2 nm hnm hv _) ?_
      rintro _ J2 _ e2 ⟨cs2, rfl, hr_1, rfl⟩
      obtain ⟨o2, k2, _, rfl, -⟩ := hr_1.open
      have hf := hf.mono e2
      have hv := hv.mono e2
      have hle := hle.trans e2
      have hr_0 := hr_0.mono e2
      refine Hx ?_
      first | refine Da 11 rfl (A1    rfl rfl _ rfl) ?_ | refine Da 11 rfl (A2    rfl rfl _ rfl) ?_
      refine Dx 12 rfl rfl rfl rfl ?_
      refine Ao     (by kernel_rfl) ?_
      refine Al        (Ah      rfl (Om rfl ?_))
      refine Or rfl rfl rfl ?_
      refine Oa rfl (Aa     ?_)
      refine Bu      ?_
      refine Ab    (Se rfl (Om rfl (Om rfl (Oc rfl rfl rfl (Aa     ?_)))))
      refine B6      rfl (by first | rfl | decide | (simp; done) | omega) ?_
      refine Af     (Ab    (Aj      (Se rfl ?_)))
      refine Az    rfl .free rfl ?_
      refine Om rfl ?_
      refine Ca rfl (D7        hf.rep hok0 hb _ (by rw [hki]; decide) _) ?_
      rintro _ J1 _ e1 ⟨o1, k1, rfl, hs1, rfl⟩
      refine Om rfl ?_
      refine Ca rfl (Hj      (hs1.rd _) k1 nm) ?_
      rintro _ _ _ _ ⟨rfl, rfl, rfl⟩
      refine Ck    rfl .free rfl ?_
      refine Dv    (fun w h => Mem.le e1 h) ?_
      refine Aa     ?_
      first | refine Ks   rfl (by simp [Ex.binds]) ?_ | refine Kr   rfl (by simp [Ex.binds]) ?_ | refine Bj     (by simp [look, Ba , *]) ?_
      refine B8    13 rfl rfl ?_
      refine Da 0 rfl (Ag          rfl) ?_
      refine Dt 1 [12] rfl (Bd    rfl) ?_
      refine Da 2 rfl (Ae     rfl) ?_
      refine Da 3 rfl (Ag          rfl) ?_
      refine Dt 4 [12] rfl (Bd    rfl) ?_
      refine Da 5 rfl (Ae     rfl) ?_
      first | refine Da 6 rfl (A1    rfl rfl _ rfl) ?_ | refine Da 6 rfl (A2    rfl rfl _ rfl) ?_
      refine Dt 7 [12] rfl (A8    rfl) ?_
      refine Da 8 rfl (Ae     rfl) ?_
      refine Dt 9 [12] rfl (Bx    rfl) ?_
      refine Dc 10 rfl rfl (ihn (by omega) (hf.as 3 d.tree (by omega) rfl) hok.2 nm hnm hv _) ?_
      rintro _ J2 _ e2 ⟨cs2, rfl, hr_2, rfl⟩
      obtain ⟨o2, k2, _, rfl, -⟩ := hr_2.open
      have hf := hf.mono e2
      have hv := hv.mono e2
      have hle := hle.trans e2
      have hr_0 := hr_0.mono e2
      have hr_1 := hr_1.mono e2
      refine Hx ?_
      first | refine Da 11 rfl (A1    rfl rfl _ rfl) ?_ | refine Da 11 rfl (A2    rfl rfl _ rfl) ?_
      refine Dx 12 rfl rfl rfl rfl ?_
      refine Ao     (by kernel_rfl) ?_
      refine Al        (Ah      rfl (Om rfl ?_))
      refine Or rfl rfl rfl ?_
      refine Oa rfl (Aa     ?_)
      refine Bu      ?_
      refine Ab    (Se rfl (Om rfl (Om rfl (Oc rfl rfl rfl (Aa     ?_)))))
      refine Cr      rfl (by first | rfl | decide | (simp; done) | omega) ?_
      refine Bw     rfl ?_
      refine Se rfl ?_
      refine Az    rfl .free rfl ?_
      refine Bk   rfl rfl rfl rfl .free ?_
      refine Aa     ?_
      refine Bg    (fun w h => h.f1) (Be       ?_)
      intro hz
      have hf := hf.mono hz
      refine Ad    (.c rfl .nil) ?_
      exact ⟨_, L, hle.trans hz, Ay   , _, rfl, .mk' rfl (.cons (hf.as 0 (.node Fs  []) (by omega) rfl) (.cons (hr_0.mono hz) (.cons (hr_1.mono hz) (.cons (hr_2.mono hz) .nil)))) (fun y hy => by cases hy; exact A5        (xs := [_, _, _, _, _, _, _, _])) (by simp) hcc (by simp [As  ]) (by simp [As  ]), rfl⟩
    · skip
      have hkr : A0       (Ex.lt z a b).tree.head = (2, 4) := rfl
      rw [hkr]
      have hlen : (Ex.lt z a b).tree.parts.length = 4 := rfl
      have hki := Jz       z a b
      simp only [Ex.lt.sizeOf_spec] at hlt
      simp only [Ex.ok, Bool.and_eq_true] at hok
      simp only [show (Ex.lt z a b).tree.parts = [.node C4   [], .node z [], a.tree, b.tree] from rfl, Co    , List.cons_append, List.nil_append]
      refine Ah      rfl (Om rfl (Oa rfl (Aa     (Aj      ?_))))
      refine Dq     ?_
      refine Ab    (Se rfl (Om rfl (Om rfl (Oc rfl rfl rfl (Aa     ?_)))))
      refine B6      rfl (by first | rfl | decide | (simp; done) | omega) ?_
      refine Af     (Ab    (Aj      (Se rfl ?_)))
      refine Az    rfl .free rfl ?_
      refine Om rfl ?_
      refine Ca rfl (D7        hf.rep hok0 hb _ (by rw [hki]; decide) _) ?_
      rintro _ J1 _ e1 ⟨o1, k1, rfl, hs1, rfl⟩
      refine Om rfl ?_
      refine Ca rfl (Hj      (hs1.rd _) k1 nm) ?_
      rintro _ _ _ _ ⟨rfl, rfl, rfl⟩
      refine Ck    rfl .free rfl ?_
      refine Dv    (fun w h => Mem.le e1 h) ?_
      refine Aa     ?_
      first | refine Ks   rfl (by simp [Ex.binds]) ?_ | refine Kr   rfl (by simp [Ex.binds]) ?_ | refine Bj     (by simp [look, Ba , *]) ?_
      refine B8    13 rfl rfl ?_
      refine Da 0 rfl (Ag          rfl) ?_
      refine Dt 1 [12] rfl (Bd    rfl) ?_
      refine Da 2 rfl (Ae     rfl) ?_
      refine Da 3 rfl (Ag          rfl) ?_
      refine Dt 4 [12] rfl (Bd    rfl) ?_
      refine Da 5 rfl (Ae     rfl) ?_
      first | refine Da 6 rfl (A1    rfl rfl _ rfl) ?_ | refine Da 6 rfl (A2    rfl rfl _ rfl) ?_
      refine Dt 7 [12] rfl (A8    rfl) ?_
      refine Da 8 rfl (Ae     rfl) ?_
      refine Dt 9 [12] rfl (Bx    rfl) ?_
      refine Dc 10 rfl rfl (ihn (by omega) (hf.as 2 a.tree (by omega) rfl) hok.1.2 nm hnm hv _) ?_
      rintro _ J2 _ e2 ⟨cs2, rfl, hr_0, rfl⟩
      obtain ⟨o2, k2, _, rfl, -⟩ := hr_0.open
      have hf := hf.mono e2
      have hv := hv.mono e2
      have hle := hle.trans e2
      refine Hx ?_
      first | refine Da 11 rfl (A1    rfl rfl _ rfl) ?_ | refine Da 11 rfl (A2    rfl rfl _ rfl) ?_
      refine Dx 12 rfl rfl rfl rfl ?_
      refine Ao     (by kernel_rfl) ?_
      refine Al        (Ah      rfl (Om rfl ?_))
      refine Or rfl rfl rfl ?_
      refine Oa rfl (Aa     ?_)
      refine Bu      ?_
      refine Ab    (Se rfl (Om rfl (Om rfl (Oc rfl rfl rfl (Aa     ?_)))))
      refine B6      rfl (by first | rfl | decide | (simp; done) | omega) ?_
      refine Af     (Ab    (Aj      (Se rfl ?_)))
      refine Az    rfl .free rfl ?_
      refine Om rfl ?_
      refine Ca rfl (D7        hf.rep hok0 hb _ (by rw [hki]; decide) _) ?_
      rintro _ J1 _ e1 ⟨o1, k1, rfl, hs1, rfl⟩
      refine Om rfl ?_
      refine Ca rfl (Hj      (hs1.rd _) k1 nm) ?_
      rintro _ _ _ _ ⟨rfl, rfl, rfl⟩
      refine Ck    rfl .free rfl ?_
      refine Dv    (fun w h => Mem.le e1 h) ?_
      refine Aa     ?_
      refine Ar     rfl ?_ ?_
      · intro c3
        try simp only [nb] at c3
        have c3 : ¬ nm ∈ [z] := c3
        refine B8    13 rfl rfl ?_
        refine Da 0 rfl (Ag          rfl) ?_
        refine Dt 1 [12] rfl (Bd    rfl) ?_
        refine Da 2 rfl (Ae     rfl) ?_
        refine Da 3 rfl (Ag          rfl) ?_
        refine Dt 4 [12] rfl (Bd    rfl) ?_
        refine Da 5 rfl (Ae     rfl) ?_
        first | refine Da 6 rfl (A1    rfl rfl _ rfl) ?_ | refine Da 6 rfl (A2    rfl rfl _ rfl) ?_
        refine Dt 7 [12] rfl (A8    rfl) ?_
        refine Da 8 rfl (Ae     rfl) ?_
        refine Dt 9 [12] rfl (Bx    rfl) ?_
        refine Dc 10 rfl rfl (ihn (by omega) (hf.as 3 b.tree (by omega) rfl) hok.2 nm hnm hv _) ?_
        rintro _ J2 _ e2 ⟨cs2, rfl, hr_1, rfl⟩
        obtain ⟨o2, k2, _, rfl, -⟩ := hr_1.open
        have hf := hf.mono e2
        have hv := hv.mono e2
        have hle := hle.trans e2
        have hr_0 := hr_0.mono e2
        refine Hx ?_
        first | refine Da 11 rfl (A1    rfl rfl _ rfl) ?_ | refine Da 11 rfl (A2    rfl rfl _ rfl) ?_
        refine Dx 12 rfl rfl rfl rfl ?_
        refine Ao     (by kernel_rfl) ?_
        refine Al        (Ah      rfl (Om rfl ?_))
        refine Or rfl rfl rfl ?_
        refine Oa rfl (Aa     ?_)
        refine Bu      ?_
        refine Ab    (Se rfl (Om rfl (Om rfl (Oc rfl rfl rfl (Aa     ?_)))))
        refine Cr      rfl (by first | rfl | decide | (simp; done) | omega) ?_
        refine Bw     rfl ?_
        refine Se rfl ?_
        refine Az    rfl .free rfl ?_
        refine Bk   rfl rfl rfl rfl .free ?_
        refine Aa     ?_
        refine Bg    (fun w h => h.f1) (Be       ?_)
        intro hz
        have hf := hf.mono hz
        refine Ad    (.c rfl .nil) ?_
        first
          | (have hput : (Ex.lt z a b).put nm v = .lt z (a.put nm v) (b.put nm v) := by
               have : ¬ z = nm := fun h => c3 (by simp [h])
               simp [Ex.put, this]
             rw [hput]
             exact ⟨_, L, hle.trans hz, Ay   , _, rfl, .mk' rfl (.cons (hf.as 0 (.node C4   []) (by omega) rfl) (.cons (hf.as 1 (.node z []) (by omega) rfl) (.cons (hr_0.mono hz) (.cons (hr_1.mono hz) .nil)))) (fun y hy => by cases hy; exact A5        (xs := [_, _, _, _, _, _, _, _])) (by simp) hcc (by simp [As  ]) (by simp [As  ]), rfl⟩)
          | (have hput : (Ex.lt z a b).put nm v = .lt z (a.put nm v) b := by
               have : nm = z := by simpa using c3
               simp [Ex.put, this]
             rw [hput]
             exact ⟨_, L, hle.trans hz, Ay   , _, rfl, .mk' rfl (.cons (hf.as 0 (.node C4   []) (by omega) rfl) (.cons (hf.as 1 (.node z []) (by omega) rfl) (.cons (hr_0.mono hz) (.cons (hf.as 3 b.tree (by omega) rfl) .nil)))) (fun y hy => by cases hy; exact A5        (xs := [_, _, _, _, _, _, _, _])) (by simp) hcc (by simp [As  ]) (by simp [As  ]), rfl⟩)
      intro c3
      try simp only [nb] at c3
      have c3 : nm ∈ [z] := c3
      refine Af     (Al        (Ah      rfl (Om rfl ?_)))
      refine Or rfl rfl rfl ?_
      refine Oa rfl (Aa     ?_)
      refine Bu      ?_
      refine Ab    (Se rfl (Om rfl (Om rfl (Oc rfl rfl rfl (Aa     ?_)))))
      refine Cr      rfl (by first | rfl | decide | (simp; done) | omega) ?_
      refine Bw     rfl ?_
      refine Se rfl ?_
      refine Az    rfl .free rfl ?_
      refine Bk   rfl rfl rfl rfl .free ?_
      refine Aa     ?_
      refine Bg    (fun w h => h.f1) (Be       ?_)
      intro hz
      have hf := hf.mono hz
      refine Ad    (.c rfl .nil) ?_
      first
        | (have hput : (Ex.lt z a b).put nm v = .lt z (a.put nm v) (b.put nm v) := by
             have : ¬ z = nm := fun h => c3 (by simp [h])
             simp [Ex.put, this]
           rw [hput]
           exact ⟨_, L, hle.trans hz, Ay   , _, rfl, .mk' rfl (.cons (hf.as 0 (.node C4   []) (by omega) rfl) (.cons (hf.as 1 (.node z []) (by omega) rfl) (.cons (hr_0.mono hz) (.cons (hr_1.mono hz) .nil)))) (fun y hy => by cases hy; exact A5        (xs := [_, _, _, _, _, _, _, _])) (by simp) hcc (by simp [As  ]) (by simp [As  ]), rfl⟩)
        | (have hput : (Ex.lt z a b).put nm v = .lt z (a.put nm v) b := by
             have : nm = z := by simpa using c3
             simp [Ex.put, this]
           rw [hput]
           exact ⟨_, L, hle.trans hz, Ay   , _, rfl, .mk' rfl (.cons (hf.as 0 (.node C4   []) (by omega) rfl) (.cons (hf.as 1 (.node z []) (by omega) rfl) (.cons (hr_0.mono hz) (.cons (hf.as 3 b.tree (by omega) rfl) .nil)))) (fun y hy => by cases hy; exact A5        (xs := [_, _, _, _, _, _, _, _])) (by simp) hcc (by simp [As  ]) (by simp [As  ]), rfl⟩)
    · skip
      have hkr : A0       (Ex.fn g z s t b).tree.head = (5, 6) := rfl
      rw [hkr]
      have hlen : (Ex.fn g z s t b).tree.parts.length = 6 := rfl
      have hki := Ki      g z s t b
      simp only [Ex.fn.sizeOf_spec] at hlt
      simp only [Ex.ok, Bool.and_eq_true] at hok
      simp only [show (Ex.fn g z s t b).tree.parts = [.node Dh   [], .node g [], .node z [], s.tree, t.tree, b.tree] from rfl, Co    , List.cons_append, List.nil_append]
      refine Ah      rfl (Om rfl (Oa rfl (Aa     (Aj      ?_))))
      refine Dq     ?_
      refine Ab    (Se rfl (Om rfl (Om rfl (Oc rfl rfl rfl (Aa     ?_)))))
      refine B6      rfl (by first | rfl | decide | (simp; done) | omega) ?_
      refine Af     (Ab    (Aj      (Se rfl ?_)))
      refine Az    rfl .free rfl ?_
      refine Om rfl ?_
      refine Ca rfl (D7        hf.rep hok0 hb _ (by rw [hki]; decide) _) ?_
      rintro _ J1 _ e1 ⟨o1, k1, rfl, hs1, rfl⟩
      refine Om rfl ?_
      refine Ca rfl (Hj      (hs1.rd _) k1 nm) ?_
      rintro _ _ _ _ ⟨rfl, rfl, rfl⟩
      refine Ck    rfl .free rfl ?_
      refine Dv    (fun w h => Mem.le e1 h) ?_
      refine Aa     ?_
      refine Ar     rfl ?_ ?_
      · intro c3
        try simp only [nb] at c3
        have c3 : ¬ nm ∈ [g, z] := c3
        refine B8    13 rfl rfl ?_
        refine Da 0 rfl (Ag          rfl) ?_
        refine Dt 1 [12] rfl (Bd    rfl) ?_
        refine Da 2 rfl (Ae     rfl) ?_
        refine Da 3 rfl (Ag          rfl) ?_
        refine Dt 4 [12] rfl (Bd    rfl) ?_
        refine Da 5 rfl (Ae     rfl) ?_
        first | refine Da 6 rfl (A1    rfl rfl _ rfl) ?_ | refine Da 6 rfl (A2    rfl rfl _ rfl) ?_
        refine Dt 7 [12] rfl (A8    rfl) ?_
        refine Da 8 rfl (Ae     rfl) ?_
        refine Dt 9 [12] rfl (Bx    rfl) ?_
        refine Dc 10 rfl rfl (ihn (by omega) (hf.as 5 b.tree (by omega) rfl) hok.2 nm hnm hv _) ?_
        rintro _ J2 _ e2 ⟨cs2, rfl, hr_0, rfl⟩
        obtain ⟨o2, k2, _, rfl, -⟩ := hr_0.open
        have hf := hf.mono e2
        have hv := hv.mono e2
        have hle := hle.trans e2
        refine Hx ?_
        first | refine Da 11 rfl (A1    rfl rfl _ rfl) ?_ | refine Da 11 rfl (A2    rfl rfl _ rfl) ?_
        refine Dx 12 rfl rfl rfl rfl ?_
        refine Ao     (by kernel_rfl) ?_
        refine Al        (Ah      rfl (Om rfl ?_))
        refine Or rfl rfl rfl ?_
        refine Oa rfl (Aa     ?_)
        refine Bu      ?_
        refine Ab    (Se rfl (Om rfl (Om rfl (Oc rfl rfl rfl (Aa     ?_)))))
        refine Cr      rfl (by first | rfl | decide | (simp; done) | omega) ?_
        refine Bw     rfl ?_
        refine Se rfl ?_
        refine Az    rfl .free rfl ?_
        refine Bk   rfl rfl rfl rfl .free ?_
        refine Aa     ?_
        refine Bg    (fun w h => h.f1) (Be       ?_)
        intro hz
        have hf := hf.mono hz
        refine Ad    (.c rfl .nil) ?_
        first
          | (have hput : (Ex.fn g z s t b).put nm v = .fn g z s t (b.put nm v) := by
               have h1 : ¬ (g = nm ∨ z = nm) := by rintro (h | h) <;> exact c3 (by simp [h])
               simp only [Ex.put]; rw [if_neg h1]
             rw [hput]
             exact ⟨_, L, hle.trans hz, Ay   , _, rfl, .mk' rfl (.cons (hf.as 0 (.node Dh   []) (by omega) rfl) (.cons (hf.as 1 (.node g []) (by omega) rfl) (.cons (hf.as 2 (.node z []) (by omega) rfl) (.cons (hf.as 3 (s.tree) (by omega) rfl) (.cons (hf.as 4 (t.tree) (by omega) rfl) (.cons (hr_0.mono hz) .nil)))))) (fun y hy => by cases hy; exact A5        (xs := [_, _, _, _, _, _, _, _, _, _, _, _])) (by simp) hcc (by simp [As  ]) (by simp [As  ]), rfl⟩)
          | (have hput : (Ex.fn g z s t b).put nm v = .fn g z s t b := by
               have h1 : g = nm ∨ z = nm := by simp at c3; rcases c3 with h | h <;> simp [h]
               simp only [Ex.put]; rw [if_pos h1]
             rw [hput]
             exact ⟨_, L, hle.trans hz, Ay   , _, rfl, .mk' rfl (.cons (hf.as 0 (.node Dh   []) (by omega) rfl) (.cons (hf.as 1 (.node g []) (by omega) rfl) (.cons (hf.as 2 (.node z []) (by omega) rfl) (.cons (hf.as 3 (s.tree) (by omega) rfl) (.cons (hf.as 4 (t.tree) (by omega) rfl) (.cons (hf.as 5 b.tree (by omega) rfl) .nil)))))) (fun y hy => by cases hy; exact A5        (xs := [_, _, _, _, _, _, _, _, _, _, _, _])) (by simp) hcc (by simp [As  ]) (by simp [As  ]), rfl⟩)
      intro c3
      try simp only [nb] at c3
      have c3 : nm ∈ [g, z] := c3
      refine Af     (Al        (Ah      rfl (Om rfl ?_)))
      refine Or rfl rfl rfl ?_
      refine Oa rfl (Aa     ?_)
      refine Bu      ?_
      refine Ab    (Se rfl (Om rfl (Om rfl (Oc rfl rfl rfl (Aa     ?_)))))
      refine Cr      rfl (by first | rfl | decide | (simp; done) | omega) ?_
      refine Bw     rfl ?_
      refine Se rfl ?_
      refine Az    rfl .free rfl ?_
      refine Bk   rfl rfl rfl rfl .free ?_
      refine Aa     ?_
      refine Bg    (fun w h => h.f1) (Be       ?_)
      intro hz
      have hf := hf.mono hz
      refine Ad    (.c rfl .nil) ?_
      first
        | (have hput : (Ex.fn g z s t b).put nm v = .fn g z s t (b.put nm v) := by
             have h1 : ¬ (g = nm ∨ z = nm) := by rintro (h | h) <;> exact c3 (by simp [h])
             simp only [Ex.put]; rw [if_neg h1]
           rw [hput]
           exact ⟨_, L, hle.trans hz, Ay   , _, rfl, .mk' rfl (.cons (hf.as 0 (.node Dh   []) (by omega) rfl) (.cons (hf.as 1 (.node g []) (by omega) rfl) (.cons (hf.as 2 (.node z []) (by omega) rfl) (.cons (hf.as 3 (s.tree) (by omega) rfl) (.cons (hf.as 4 (t.tree) (by omega) rfl) (.cons (hr_0.mono hz) .nil)))))) (fun y hy => by cases hy; exact A5        (xs := [_, _, _, _, _, _, _, _, _, _, _, _])) (by simp) hcc (by simp [As  ]) (by simp [As  ]), rfl⟩)
        | (have hput : (Ex.fn g z s t b).put nm v = .fn g z s t b := by
             have h1 : g = nm ∨ z = nm := by simp at c3; rcases c3 with h | h <;> simp [h]
             simp only [Ex.put]; rw [if_pos h1]
           rw [hput]
           exact ⟨_, L, hle.trans hz, Ay   , _, rfl, .mk' rfl (.cons (hf.as 0 (.node Dh   []) (by omega) rfl) (.cons (hf.as 1 (.node g []) (by omega) rfl) (.cons (hf.as 2 (.node z []) (by omega) rfl) (.cons (hf.as 3 (s.tree) (by omega) rfl) (.cons (hf.as 4 (t.tree) (by omega) rfl) (.cons (hf.as 5 b.tree (by omega) rfl) .nil)))))) (fun y hy => by cases hy; exact A5        (xs := [_, _, _, _, _, _, _, _, _, _, _, _])) (by simp) hcc (by simp [As  ]) (by simp [As  ]), rfl⟩)
    · skip
      have hkr : A0       (Ex.un o a).tree.head = (1, 2) := by cases o <;> rfl
      rw [hkr]
      have hlen : (Ex.un o a).tree.parts.length = 2 := rfl
      have hki := In      o a
      simp only [Ex.un.sizeOf_spec] at hlt
      simp only [Ex.ok, Bool.and_eq_true] at hok
      simp only [show (Ex.un o a).tree.parts = [.node o.txt [], a.tree] from rfl, Co    , List.cons_append, List.nil_append]
      refine Ah      rfl (Om rfl (Oa rfl (Aa     (Aj      ?_))))
      refine Dq     ?_
      refine Ab    (Se rfl (Om rfl (Om rfl (Oc rfl rfl rfl (Aa     ?_)))))
      refine B6      rfl (by first | rfl | decide | (simp; done) | omega) ?_
      refine Af     (Ab    (Aj      (Se rfl ?_)))
      refine Az    rfl .free rfl ?_
      refine Om rfl ?_
      refine Ca rfl (D7        hf.rep hok0 hb _ (by rw [hki]; decide) _) ?_
      rintro _ J1 _ e1 ⟨o1, k1, rfl, hs1, rfl⟩
      refine Om rfl ?_
      refine Ca rfl (Hj      (hs1.rd _) k1 nm) ?_
      rintro _ _ _ _ ⟨rfl, rfl, rfl⟩
      refine Ck    rfl .free rfl ?_
      refine Dv    (fun w h => Mem.le e1 h) ?_
      refine Aa     ?_
      first | refine Ks   rfl (by simp [Ex.binds]) ?_ | refine Kr   rfl (by simp [Ex.binds]) ?_ | refine Bj     (by simp [look, Ba , *]) ?_
      refine B8    13 rfl rfl ?_
      refine Da 0 rfl (Ag          rfl) ?_
      refine Dt 1 [12] rfl (Bd    rfl) ?_
      refine Da 2 rfl (Ae     rfl) ?_
      refine Da 3 rfl (Ag          rfl) ?_
      refine Dt 4 [12] rfl (Bd    rfl) ?_
      refine Da 5 rfl (Ae     rfl) ?_
      first | refine Da 6 rfl (A1    rfl rfl _ rfl) ?_ | refine Da 6 rfl (A2    rfl rfl _ rfl) ?_
      refine Dt 7 [12] rfl (A8    rfl) ?_
      refine Da 8 rfl (Ae     rfl) ?_
      refine Dt 9 [12] rfl (Bx    rfl) ?_
      refine Dc 10 rfl rfl (ihn (by omega) (hf.as 1 a.tree (by omega) rfl) hok nm hnm hv _) ?_
      rintro _ J2 _ e2 ⟨cs2, rfl, hr_0, rfl⟩
      obtain ⟨o2, k2, _, rfl, -⟩ := hr_0.open
      have hf := hf.mono e2
      have hv := hv.mono e2
      have hle := hle.trans e2
      refine Hx ?_
      first | refine Da 11 rfl (A1    rfl rfl _ rfl) ?_ | refine Da 11 rfl (A2    rfl rfl _ rfl) ?_
      refine Dx 12 rfl rfl rfl rfl ?_
      refine Ao     (by kernel_rfl) ?_
      refine Al        (Ah      rfl (Om rfl ?_))
      refine Or rfl rfl rfl ?_
      refine Oa rfl (Aa     ?_)
      refine Bu      ?_
      refine Ab    (Se rfl (Om rfl (Om rfl (Oc rfl rfl rfl (Aa     ?_)))))
      refine Cr      rfl (by first | rfl | decide | (simp; done) | omega) ?_
      refine Bw     rfl ?_
      refine Se rfl ?_
      refine Az    rfl .free rfl ?_
      refine Bk   rfl rfl rfl rfl .free ?_
      refine Aa     ?_
      refine Bg    (fun w h => h.f1) (Be       ?_)
      intro hz
      have hf := hf.mono hz
      refine Ad    (.c rfl .nil) ?_
      exact ⟨_, L, hle.trans hz, Ay   , _, rfl, .mk' rfl (.cons (hf.as 0 (.node o.txt []) (by omega) rfl) (.cons (hr_0.mono hz) .nil)) (fun y hy => by cases hy; exact A5        (xs := [_, _, _, _])) (by simp) hcc (by simp [As  ]) (by simp [As  ]), rfl⟩
section
variable {I : Heap} {A B C D L : Bl} {w : World}
end
structure G11 where
 b6 : Nat
 b14 : Nat
 b16 : Nat
 b20 : Nat
 B : Kd
 c : Nat
 D : Kd
 e : Nat
def PR (b : Nat) (oa : Option Addr) (av : List Au) (c : Nat) (p : Ex × Nat) (L : Bl) : C1 := fun v I' L' => ∃ cs, v = .agg (List.toArray cs) ∧ Rep I' p.1.tree cs ∧ L' = rn b oa av c p.2 :: L
def Aei (n : Nat) : Prop := ∀ {I : Heap} {e : Ex} {cs : List Value} (_ : SizeOf.sizeOf e < n) (_ : Rep I e.tree cs) (_ : e.ok = true) {f t : List Au} {of ot : Option Addr} {cf ct : Nat} (_ : Strs I of f cf) (_ : Strs I ot t ct) (_ : f.length = t.length) (_ : f.length + 2 * e.size ≤ 100000)
  {oa : Option Addr} {av : List Au} {c : Nat} (_ : Strs I oa av c) (b k : Nat) (_ : k + e.nb + av.length ≤ 90 + Aem 120 av k) (_ : av.length ≤ 500) (L : Bl),
  Fun Tryz.prog 169 [.agg cs.toArray, .slice of f.length cf, .slice ot t.length ct, .pointer (some ⟨b, 0, none⟩)] I (rn b oa av c k :: L) (PR b oa av c (e.pl av f t k) L)
def Ae2 (s nm by' : Au) : Option Au := match E9 s, B7 by' with
 | some e, some v => if Bs nm = true ∧ (e.put nm v).fine = true then some (e.put nm v).tree.text else none
 | _, _ => none
def DX2 (L : Bl) : C1 := fun v I' L' => ∃ s t, v = .tuple #[.string (str s), .string (str t)] ∧ List.length s ≤ 400001 ∧ List.length t ≤ 400001 ∧ L = L'
def DX3 (L : Bl) : C1 := fun v I' L' => ∃ s t u, v = .tuple #[.string (str s), .string (str t), .string (str u)] ∧ List.length s ≤ 400001 ∧ List.length t ≤ 400001 ∧ List.length u ≤ 400001 ∧ L = L'
section
variable {P : Program} {f : FuncId} {n : Nat} {I₀ : Heap} {Q : C1} {k : List Item} {E : G7} {I : Heap} {L : Bl} {ops : Array Oper} {d : Nat} {ty : TypeId} {pos : String} {af : Array Edge} {g : Option (Nat × Bool)} {l : List Oper}
end
def DXI (L : Bl) : C1 := fun v I' L' => ∃ (s : Au) (n : Int), v = .tuple #[.string (str s), .int .i64 n] ∧ List.length s ≤ 400100 ∧ -10000 ≤ n ∧ n ≤ 10000 ∧ L = L'
theorem Wi {I : Heap} {oa : Option Addr} {l : List UInt8} {c : Nat} (h : Bytes I oa l c) (hl : l.length ≤ 2000) (b p : Nat) (hp : p + 10 ≤ 1099511627776) (s : Au) (hs : s.length ≤ 400001) (L : Bl) :
  Fun Tryz.prog 65 [.pointer (some ⟨b, 0, none⟩), .string (str s)] I (rd b oa l c p :: L) (DT b oa l c p 10 400100 L) := by
 refine Ai (by simp) ?_; refine Se rfl (Oa rfl (Aa (Se rfl (Om rfl ?_)))); refine Ol rfl rfl ?_; intro b7
 refine D6 [[40, 99, 97, 108, 108, 32, 49, 32, 50, 41], [40, 102, 115, 116, 32, 51, 41], [40, 115, 110, 100, 32, 40, 102, 117, 110, 32, 102, 32, 120, 32, 105, 32, 105, 32, 120, 41, 41], [40, 43, 32, 49, 32, 40, 112, 97, 105, 114, 32, 49, 32, 50, 41, 41], [40, 105, 102, 32, 40, 112, 97, 105, 114, 32, 48, 32, 49, 41, 32, 49, 32, 50, 41], [40, 42, 32, 40, 102, 117, 110, 32, 102, 32, 120, 32, 105, 32, 105, 32, 120, 41, 32, 50, 41], [40, 45, 32, 40, 112, 97, 105, 114, 32, 49, 32, 49, 41, 32, 49, 41]] (by decide) (by decide) ?_; intro J1 e1 k1
 refine Ca rfl (Ed (h.mono e1) hl b _ (by omega) k1 (by simp) L) ?_; rintro _ _ _ _ ⟨w, rfl, hw, rfl, rfl⟩
 have hwl : w.length ≤ 30 := by revert w; decide
 refine Oa rfl (Aa (Ab (Se rfl (Om rfl ?_)))); refine Ca rfl (De (h.mono e1) hl b _ 6 (by omega) (by decide) L) ?_; rintro _ _ _ _ ⟨r, rfl, rfl, rfl, hr⟩; refine Aa (Aj (Se rfl (Oc rfl rfl rfl (Oa rfl (Aa ?_))))); refine Ar rfl ?_ ?_
 ·intro c0
  try simp only [nb] at c0
  refine Se rfl (Om rfl ?_); refine Ok rfl rfl ?_; refine Ok rfl rfl ?_; refine Oa rfl (Aa (Ad (.tmp rfl .nil) ?_)); refine ⟨J1, _, e1, fun _ h => h, _, _, rfl, ?_, by omega, by omega, rfl⟩
  first | omega | (simp; omega)
 intro c0
 try simp only [nb] at c0
 refine Se rfl (Oc rfl rfl rfl (Oa rfl (Aa ?_))); refine Ar rfl ?_ ?_
 ·intro c1
  try simp only [nb] at c1
  refine Se rfl (Om rfl ?_); refine Ok rfl rfl ?_; refine Ok rfl rfl ?_; refine Oa rfl (Aa (Ad (.tmp rfl .nil) ?_)); refine ⟨J1, _, e1, fun _ h => h, _, _, rfl, ?_, by omega, by omega, rfl⟩
  first | omega | (simp; omega)
 intro c1
 try simp only [nb] at c1
 refine Se rfl (Oc rfl rfl rfl (Oa rfl (Aa ?_))); refine Ar rfl ?_ ?_
 ·intro c2
  try simp only [nb] at c2
  refine Se rfl (Om rfl ?_); refine Ok rfl rfl ?_; refine Ok rfl rfl ?_; refine Oa rfl (Aa (Ad (.tmp rfl .nil) ?_)); refine ⟨J1, _, e1, fun _ h => h, _, _, rfl, ?_, by omega, by omega, rfl⟩
  first | omega | (simp; omega)
 intro c2
 try simp only [nb] at c2
 refine Se rfl (Oc rfl rfl rfl (Oa rfl (Aa ?_))); refine Ar rfl ?_ ?_
 ·intro c3
  try simp only [nb] at c3
  refine Se rfl (Om rfl ?_); refine Ok rfl rfl ?_; refine Ok rfl rfl ?_; refine Om rfl ?_; refine Ok rfl rfl ?_; refine Ok rfl rfl ?_; refine Oa rfl (Aa (Ad (.tmp rfl .nil) ?_)); refine ⟨J1, _, e1, fun _ h => h, _, _, rfl, ?_, by omega, by omega, rfl⟩
  first | omega | (simp; omega)
 intro c3
 try simp only [nb] at c3
 refine Se rfl (Oc rfl rfl rfl (Oa rfl (Aa ?_))); refine Ar rfl ?_ ?_
 ·intro c4
  try simp only [nb] at c4
  refine Se rfl (Om rfl ?_); refine Ok rfl rfl ?_; refine Ok rfl rfl ?_; refine Oa rfl (Aa (Ad (.tmp rfl .nil) ?_)); refine ⟨J1, _, e1, fun _ h => h, _, _, rfl, ?_, by omega, by omega, rfl⟩
  first | omega | (simp; omega)
 intro c4
 try simp only [nb] at c4
 refine Af (Al (Se rfl (Om rfl (Oa rfl (Aa (Ad (.tmp rfl .nil) ?_)))))); refine ⟨J1, _, e1, fun _ h => h, _, _, rfl, ?_, by omega, by omega, rfl⟩
 first | omega | (simp; omega)
theorem O8 {I : Heap} {oa : Option Addr} {l : List UInt8} {c : Nat} (h : Bytes I oa l c) (L : Bl) : Fun Tryz.prog 22 [.slice oa l.length c] I L (fun v I' L' => ∃ s : Au, v = .string (str s) ∧ List.length s ≤ 400100 ∧ L = L') := by
 refine Ai (by simp) ?_; refine Se rfl (Oa rfl (Aa (Se rfl (Om rfl ?_)))); refine Ca rfl (Aaj h _) ?_; rintro _ J1 _ e1 ⟨b, oa1, l1, c1, rfl, h1, hl1, rfl⟩; refine Oa rfl (Aa (Se rfl (Om rfl ?_))); refine Ca rfl (Aak h1 hl1 b 0 (by decide) L) ?_; rintro _ J2 _ e2 ⟨s, p', rfl, hs, hp1, hp2, rfl⟩
 have h1 := h1.mono e2
 refine Oa rfl (Aa (Ab (Se rfl (Om rfl ?_)))); refine Ca rfl (De h1 hl1 b _ 4 (by omega) (by decide) _) ?_; rintro _ _ _ _ ⟨r, rfl, rfl, rfl, hr⟩; refine Oc rfl rfl rfl (Aa ?_); refine Ar rfl ?_ ?_
 ·intro c0
  try simp only [nb] at c0
  refine Se rfl (Om rfl (Oa rfl (Aa (Ad (.tmp rfl .nil) ?_))))
  exact ⟨J2, L, e1.trans e2, fun _ h => h.drop, s, rfl, by omega, rfl⟩
 intro c0
 try simp only [nb] at c0
 refine Af (Se rfl (Om rfl (Om rfl ?_))); refine Ca rfl (Wi h1 hl1 b _ (by omega) s hs _) ?_; rintro _ J3 _ e3 ⟨w, p2, rfl, hw, hp3, hp4, rfl⟩; refine Oa rfl (Aa (Ad (.tmp rfl .nil) ?_))
 exact ⟨J3, L, (e1.trans e2).trans e3, fun _ h => h.drop, w, rfl, hw, rfl⟩
open Go.Shelf
def S6 : Go.Shelf.Ren := ⟨fun | 171 => 158 | 243 => 193 | 246 => 205 | 283 => 212 | 284 => 213 | 285 => 214 | 286 => 215 | 129 => 217 | 317 => 216 | 318 => 218 | 319 => 219 | 320 => 220 | 337 => 221 | 338 => 222 | n => n, fun | 3 => 3 | 9 => 9 | 2 => 2 | 4 => 4 | 171 => 215 | 0 => 0 | 53 => 201 | 37 => 22 | 5 => 5 | 173 => 218 | 212 => 221 | 51 => 222 | 20 => 20 | 213 => 223 | 46 => 204 | 232 => 227 | 233 => 228 | n => n, fun | 17 => 2 | 18 => 3 | 19 => 4 | n => n⟩
theorem Aaz : Go.Proofs.LaysM.n171 Tryz.prog S6 := {
 mixed := by kernel_rfl
 f129 := Tryz.func217.trans (congrArg some (by kernel_rfl))
 f171 := Tryz.func158.trans (congrArg some (by kernel_rfl))
 f243 := Tryz.func193.trans (congrArg some (by kernel_rfl))
 f246 := Tryz.func205.trans (congrArg some (by kernel_rfl))
 f283 := Tryz.func212.trans (congrArg some (by kernel_rfl))
 f284 := Tryz.func213.trans (congrArg some (by kernel_rfl))
 f285 := Tryz.func214.trans (congrArg some (by kernel_rfl))
 f286 := Tryz.func215.trans (congrArg some (by kernel_rfl))
 f317 := Tryz.func216.trans (congrArg some (by kernel_rfl))
 f318 := Tryz.func218.trans (congrArg some (by kernel_rfl))
 f319 := Tryz.func219.trans (congrArg some (by kernel_rfl))
 f320 := Tryz.func220.trans (congrArg some (by kernel_rfl))
 f337 := Tryz.func221.trans (congrArg some (by kernel_rfl))
 f338 := Tryz.func222.trans (congrArg some (by kernel_rfl))
 t0 := Tryz.underlying0
 a0 := Tryz.isAgg0
 z0 := Tryz.sizeOf0
 v0 := Tryz.zeroValue0
 t2 := Tryz.underlying2
 a2 := Tryz.isAgg2
 z2 := Tryz.sizeOf2
 v2 := Tryz.zeroValue2
 t3 := Tryz.underlying3
 a3 := Tryz.isAgg3
 z3 := Tryz.sizeOf3
 v3 := Tryz.zeroValue3
 t4 := Tryz.underlying4
 a4 := Tryz.isAgg4
 z4 := Tryz.sizeOf4
 v4 := Tryz.zeroValue4
 t5 := Tryz.underlying5
 a5 := Tryz.isAgg5
 z5 := Tryz.sizeOf5
 v5 := Tryz.zeroValue5
 t9 := Tryz.underlying9
 a9 := Tryz.isAgg9
 z9 := Tryz.sizeOf9
 v9 := Tryz.zeroValue9
 t20 := Tryz.underlying20
 a20 := Tryz.isAgg20
 z20 := Tryz.sizeOf20
 v20 := Tryz.zeroValue20
 t37 := Tryz.underlying22
 a37 := Tryz.isAgg22
 z37 := Tryz.sizeOf22
 v37 := Tryz.zeroValue22
 t46 := Tryz.underlying204
 a46 := Tryz.isAgg204
 z46 := Tryz.sizeOf204
 v46 := Tryz.zeroValue204
 t51 := Tryz.underlying222
 a51 := Tryz.isAgg222
 z51 := Tryz.sizeOf222
 v51 := Tryz.zeroValue222
 t53 := Tryz.underlying201
 a53 := Tryz.isAgg201
 z53 := Tryz.sizeOf201
 v53 := Tryz.zeroValue201
 t171 := Tryz.underlying215
 a171 := Tryz.isAgg215
 z171 := Tryz.sizeOf215
 v171 := Tryz.zeroValue215
 t173 := Tryz.underlying218
 a173 := Tryz.isAgg218
 z173 := Tryz.sizeOf218
 v173 := Tryz.zeroValue218
 t212 := Tryz.underlying221
 a212 := Tryz.isAgg221
 z212 := Tryz.sizeOf221
 v212 := Tryz.zeroValue221
 t213 := Tryz.underlying223
 a213 := Tryz.isAgg223
 z213 := Tryz.sizeOf223
 t232 := Tryz.underlying227
 a232 := Tryz.isAgg227
 z232 := Tryz.sizeOf227
 v232 := Tryz.zeroValue227
 t233 := Tryz.underlying228
 a233 := Tryz.isAgg228
 z233 := Tryz.sizeOf228
 v233 := Tryz.zeroValue228
 g17 := by kernel_rfl
 g18 := by kernel_rfl
 g19 := by kernel_rfl
 i0 := by kernel_rfl
 i2 := by kernel_rfl
 i3 := by kernel_rfl
 i4 := by kernel_rfl
 i5 := by kernel_rfl
 i9 := by kernel_rfl
 i20 := by kernel_rfl
 i37 := by kernel_rfl
 i46 := by kernel_rfl
 i51 := by kernel_rfl
 i53 := by kernel_rfl
 i171 := by kernel_rfl
 i173 := by kernel_rfl
 i212 := by kernel_rfl
 i232 := by kernel_rfl
 i233 := by kernel_rfl
 m17 := by kernel_rfl
 m18 := by kernel_rfl
 m19 := by kernel_rfl }
open Go.Shelf
def Acx : Go.Shelf.Ren := ⟨fun | 171 => 158 | 243 => 193 | 246 => 205 | 283 => 212 | 284 => 213 | 285 => 214 | 286 => 215 | 129 => 217 | 317 => 216 | 318 => 218 | 319 => 219 | 320 => 220 | 337 => 221 | 338 => 222 | n => n, fun | 3 => 3 | 9 => 9 | 2 => 2 | 4 => 4 | 171 => 215 | 0 => 0 | 53 => 201 | 37 => 22 | 5 => 5 | 173 => 218 | 212 => 221 | 51 => 222 | 20 => 20 | 213 => 223 | 46 => 204 | 232 => 227 | 233 => 228 | n => n, fun | 17 => 2 | 18 => 3 | 19 => 4 | n => n⟩
def Tab (I : Heap) : Prop := ∀ L w, Mem I L w → Lib.TabIs Tryz.prog w "internal/strconv.uint64pow10" .u64 Lib.pow10Tab
theorem Tab.mono {I I' : Heap} (h : Tab I) (hle : HLe I I') : Tab I' := fun L w hm => h L w (hm.le hle)
theorem Xj (n : Nat) : Lib.decDigits n = K6 n := by
 induction n using Nat.strongRecOn with
 | _ n ih =>
  rw [Lib.decDigits]
  by_cases h : n < 10
  ·rw [dif_pos h, I3 h]
  ·rw [dif_neg h, Jp h, ih (n / 10) (by omega)]
def K1 (n : Int) : Au := if n < 0 then 45 :: K6 n.natAbs else K6 n.toNat
theorem Aau (n : Nat) : K1 (n : Nat) = K6 n := by unfold K1; rw [if_neg (by omega)]; rfl
theorem Yz (n : Int) : Lib.itoa n = K1 n := by unfold Lib.itoa K1; rw [Xj, Xj]
theorem Mem.grow {I : Heap} {L : Bl} {w : World} (h : Mem I L w) (k : Nat) (os : Array Obj) : Mem I L (Sort.grow (w.drewN k) os) := by
 have hk : ∀ b o, w.heap[b]? = some o → (w.heap ++ os)[b]? = some o := fun b o hb => by
  have hlt : b < w.heap.size := by
   rcases Nat.lt_or_ge b w.heap.size with g | g
   ·exact g
   ·rw [Array.getElem?_eq_none g] at hb; cases hb
  rw [Array.getElem?_append_left hlt]; exact hb
 exact ⟨⟨fun b o hb => hk b o (h.1.1 b o hb), h.1.2⟩, fun p hp => ⟨hk _ _ (h.2.1 p hp).1, (h.2.1 p hp).2⟩, h.2.2⟩
theorem Id {I : Heap} (ht : Tab I) (n : Int) (h0 : -9223372036854775808 ≤ n) (h1 : n ≤ 9223372036854775807) (L : Bl) : Fun Tryz.prog 158 [.int .i64 n] I L (D2 (.string (str (K1 n))) I L) := by
 refine ⟨fun w hm => (Any.strconv_Itoa Aaz n h0 h1 w (ht L w hm)).mono ?_⟩; rintro e w' ⟨rfl, k, os, rfl⟩; refine ⟨_, I, L, rfl, .refl _, hm.grow k os, ?_⟩; rw [Yz]
 exact ⟨rfl, rfl, rfl⟩
theorem P9 {l r : List Au} {y : Au} : ∀ {n : Nat}, n ≤ l.length → Gc (l ++ r) y n = Gc l y n
 | 0, _ => rfl
 | n + 1, h => by
  simp only [Gc]
  rw [show (l ++ r).getD n [] = l.getD n [] by simp [List.getElem?_append_left (show n < l.length by omega)], P9 (by omega)]
theorem Jf (l : List Au) (x y : Au) : Cj (l ++ [x]) y = if x = y then some l.length else Cj l y := by
 unfold Cj
 rw [show (l ++ [x]).length = l.length + 1 by simp]
 simp only [Gc]
 rw [show (l ++ [x]).getD l.length [] = x by simp, P9 (Nat.le_refl _)]
theorem H3 {l : List Au} {m : List Ty} (h : l.length = m.length) (x y : Au) (s : Ty) : Fb (l ++ [x]) (m ++ [s]) y = if x = y then some s else Fb l m y := by
 unfold Fb
 rw [Jf]
 by_cases hx : x = y
 ·rw [if_pos hx, if_pos hx]; simp [h]
 ·rw [if_neg hx, if_neg hx]
  cases hi : Cj l y with
  | none => rfl
  | some i =>
   have h1 := (J8 (show Gc l y l.length = some i from hi)).1
   simp [List.getElem?_append_left (show i < m.length by omega)]
theorem Ia {l : List Au} {m : List Ty} (h : l.length = m.length) (f x y : Au) (s t : Ty) : Fb (l ++ [f, x]) (m ++ [s, t]) y = if x = y then some t else if f = y then some s else Fb l m y := by
 have h1 := H3 (l := l ++ [f]) (m := m ++ [s]) (by simp [h]) x y t
 rw [H3 h, List.append_assoc, List.append_assoc] at h1
 exact h1
theorem Ex.chk_congr : ∀ {e : Ex} {l l' : List Au} {m m' : List Ty}, l.length = m.length → l'.length = m'.length → (∀ x ∈ e.occ [], Fb l m x = Fb l' m' x) → e.chk l m = e.chk l' m'
 | .num _, l, l', m, m', _, _, _ => rfl
 | .name s, l, l', m, m', _, _, h => by
  have := h s (by simp [Ex.occ])
  simp only [Ex.chk, this]
 | .bin o a b, l, l', m, m', h1, h2, h => by
  simp only [Ex.occ, List.mem_append] at h
  simp only [Ex.chk, Ex.chk_congr h1 h2 fun x hx => h x (.inl hx), Ex.chk_congr h1 h2 fun x hx => h x (.inr hx)]
 | .ite a b c, l, l', m, m', h1, h2, h => by
  simp only [Ex.occ, List.mem_append] at h
  simp only [Ex.chk, Ex.chk_congr h1 h2 fun x hx => h x (.inl (.inl hx)), Ex.chk_congr h1 h2 fun x hx => h x (.inl (.inr hx)), Ex.chk_congr h1 h2 fun x hx => h x (.inr hx)]
 | .lt y a b, l, l', m, m', h1, h2, h => by
  simp only [Ex.occ, List.mem_append, List.nil_append] at h
  simp only [Ex.chk, Ex.chk_congr h1 h2 fun x hx => h x (.inl hx)]
  cases a.chk l' m' with
  | error x => rfl
  | ok s =>
   refine Ex.chk_congr (by simp [h1]) (by simp [h2]) fun x hx => ?_
   rw [H3 h1, H3 h2]
   by_cases hy : y = x
   ·rw [if_pos hy, if_pos hy]
   ·rw [if_neg hy, if_neg hy]
    exact h x (.inr (Ex.occ_mem.2 ⟨hx, by simp only [List.mem_singleton]; exact fun e => hy e.symm⟩))
 | .fn f y s t b, l, l', m, m', h1, h2, h => by
  simp only [Ex.occ, List.nil_append] at h
  simp only [Ex.chk]
  rw [Ex.chk_congr (e := b) (l := l ++ [f, y]) (l' := l' ++ [f, y]) (m := m ++ [.fn s t, s]) (m' := m' ++ [.fn s t, s]) (by simp [h1]) (by simp [h2]) fun x hx => ?_]; rw [Ia h1, Ia h2]
  by_cases hy : y = x
  ·rw [if_pos hy, if_pos hy]
  ·rw [if_neg hy, if_neg hy]
   by_cases hf : f = x
   ·rw [if_pos hf, if_pos hf]
   ·rw [if_neg hf, if_neg hf]; refine h x (Ex.occ_mem.2 ⟨hx, ?_⟩)
    simp only [List.mem_cons, List.not_mem_nil, or_false]
    rintro (e | e)
    ·exact hf e.symm
    ·exact hy e.symm
 | .un o a, l, l', m, m', h1, h2, h => by
  simp only [Ex.occ] at h
  simp only [Ex.chk, Ex.chk_congr h1 h2 h]
theorem Ex.chk_closed {e : Ex} {t : Ty} (h : e.chk [] [] = .ok t) {l : List Au} {m : List Ty} (hl : l.length = m.length) : e.chk l m = .ok t := by
 rw [← h]; refine (Ex.chk_congr (l := []) (m := []) rfl hl fun x hx => ?_).symm
 have := Ex.chk_occ h x hx
 cases this
theorem Ex.put_chk : ∀ {e : Ex} {n : Au} {v : Ex} {k t : Ty} {l : List Au} {m : List Ty}, l.length = m.length → v.chk [] [] = .ok k → Fb l m n = some k → e.chk l m = .ok t → (e.put n v).chk l m = .ok t
 | .num _, n, v, k, t, l, m, _, _, _, h => h
 | .name s, n, v, k, t, l, m, hl, hv, hn, h => by
  simp only [Ex.put]
  split
  ·rename_i e; subst e
   simp only [Ex.chk, hn] at h
   cases h
   exact Ex.chk_closed hv hl
  ·exact h
 | .bin o a b, n, v, k, t, l, m, hl, hv, hn, h => by
  simp only [Ex.chk] at h
  split at h
  ·cases h
  ·rename_i s h1
   split at h
   ·cases h
   ·rename_i u h2
    simp only [Ex.put, Ex.chk, Ex.put_chk hl hv hn h1, Ex.put_chk hl hv hn h2]
    split at h
    ·rename_i w h3; cases h; simp only [h3]
    ·cases h
 | .ite a b c, n, v, k, t, l, m, hl, hv, hn, h => by
  simp only [Ex.chk] at h
  split at h
  ·cases h
  ·rename_i s h1
   split at h
   ·cases h
   ·rename_i u h2
    split at h
    ·cases h
    ·rename_i w h3
     simp only [Ex.put, Ex.chk, Ex.put_chk hl hv hn h1, Ex.put_chk hl hv hn h2, Ex.put_chk hl hv hn h3]
     split at h
     ·rename_i h4; cases h; rw [if_pos h4]
     ·cases h
 | .lt y a b, n, v, k, t, l, m, hl, hv, hn, h => by
  simp only [Ex.chk] at h
  split at h
  ·cases h
  ·rename_i s h1
   simp only [Ex.put, Ex.chk, Ex.put_chk hl hv hn h1]
   by_cases hy : y = n
   ·rw [if_pos hy]; exact h
   ·rw [if_neg hy]
    exact Ex.put_chk (by simp [hl]) hv (by rw [H3 hl, if_neg hy]; exact hn) h
 | .fn f y s u b, n, v, k, t, l, m, hl, hv, hn, h => by
  simp only [Ex.chk] at h
  split at h
  ·rename_i hz
   split at h
   ·cases h
   ·rename_i w h1
    simp only [Ex.put, Ex.chk, hz, if_true]
    have h2 : (if f = n ∨ y = n then b else b.put n v).chk (l ++ [f, y]) (m ++ [.fn s u, s]) = .ok w := by
     by_cases hy : f = n ∨ y = n
     ·rw [if_pos hy]; exact h1
     ·rw [if_neg hy]; refine Ex.put_chk (by simp [hl]) hv ?_ h1; rw [Ia hl, if_neg fun e => hy (.inr e), if_neg fun e => hy (.inl e)]; exact hn
    rw [h2]
    simp only
    split at h
    ·rename_i h3; cases h; rw [if_pos h3]
    ·cases h
  ·cases h
 | .un o a, n, v, k, t, l, m, hl, hv, hn, h => by
  simp only [Ex.chk] at h
  split at h
  ·cases h
  ·rename_i s h1
   simp only [Ex.put, Ex.chk, Ex.put_chk hl hv hn h1]
   split at h
   ·rename_i w h3; cases h; simp only [h3]
   ·cases h
theorem Lc (l : List Au) (y : Au) : ∀ (a : List Au), Cj (l ++ a) y = match Cj a y with | some i => some (l.length + i) | none => Cj l y := by
 intro a
 induction a generalizing l with
 | nil => rw [List.append_nil]; rfl
 | cons x a ih =>
  have h1 := ih (l ++ [x])
  have h2 := ih [x]
  rw [List.append_assoc] at h1
  simp only [List.cons_append, List.nil_append] at h1 h2
  rw [h1, h2, Jf]
  have h3 := Jf [] x y
  simp only [List.nil_append, List.length_nil] at h3
  rw [h3]
  cases Cj a y with
  | some i => simp only [List.length_append, List.length_cons, List.length_nil]; congr 1; omega
  | none =>
   simp only
   by_cases e : x = y
   ·rw [if_pos e, if_pos e]; simp
   ·rw [if_neg e, if_neg e]; rfl
theorem Wm {l : List Au} {y : Au} {i : Nat} (h : Cj l y = some i) : i < l.length ∧ l.getD i [] = y := J8 h
theorem Io {l : List Au} {y : Au} : Cj l y = none ↔ y ∉ l := by
 induction l with
 | nil => simp [Cj, Gc]
 | cons x l ih =>
  have h := Lc [x] y l
  simp only [List.cons_append, List.nil_append] at h
  rw [h]
  have h3 := Jf [] x y
  simp only [List.nil_append, List.length_nil] at h3
  rw [h3]
  cases hl : Cj l y with
  | some i =>
   have := I6 hl
   simp [this]
  | none =>
   rw [hl] at ih
   have h4 : y ∉ l := ih.1 rfl
   by_cases e : x = y
   ·simp [e]
   ·rw [if_neg e]
    simp only [List.mem_cons, not_or]
    exact ⟨fun _ => ⟨fun e' => e e'.symm, h4⟩, fun _ => rfl⟩
def bnd (i : Nat) : Au := 0 :: List.replicate i 0
theorem Xf {i j : Nat} (h : bnd i = bnd j) : i = j := by
 have := congrArg List.length h
 simpa [bnd] using this
theorem T3 (i : Nat) : Bs (bnd i) = false := by simp [bnd, Bs, Oz]
theorem Sd {s : Au} (h : Bs s = true) (i : Nat) : bnd i ≠ s := fun e => by rw [← e, T3] at h; cases h
def Ex.db : Ex → List Au → Ex
 | .num s, _ => .num s
 | .name s, a => .name (match Cj a s with | some i => bnd i | none => s)
 | .bin o a b, l => .bin o (a.db l) (b.db l)
 | .ite a b c, l => .ite (a.db l) (b.db l) (c.db l)
 | .lt x a b, l => .lt [] (a.db l) (b.db (l ++ [x]))
 | .fn g x s t b, l => .fn [] [] s t (b.db (l ++ [g, x]))
 | .un o a, l => .un o (a.db l)
def Ex.alk : Ex → Ex → List Au → List Au → Bool
 | .num s, .num t, _, _ => decide (s = t)
 | .name s, .name t, a, b => decide (Cj a s = Cj b t) && ((Cj a s).isSome || decide (s = t))
 | .bin o p q, .bin o' p' q', a, b => decide (o.txt = o'.txt) && p.alk p' a b && q.alk q' a b
 | .ite p q r, .ite p' q' r', a, b => p.alk p' a b && q.alk q' a b && r.alk r' a b
 | .lt x p q, .lt x' p' q', a, b => p.alk p' a b && q.alk q' (a ++ [x]) (b ++ [x'])
 | .fn g x s t q, .fn g' x' s' t' q', a, b => decide (s = s') && decide (t = t') && q.alk q' (a ++ [g, x]) (b ++ [g', x'])
 | .un o p, .un o' p', a, b => decide (o.txt = o'.txt) && p.alk p' a b
 | _, _, _, _ => false
def freshT (av t : List Au) (n : Nat) : Prop := t.Nodup ∧ ∀ x ∈ t, x ∉ av ∧ ∃ k, k < n ∧ x = nm 120 k
theorem freshT.up {av t : List Au} {n m : Nat} (h : freshT av t n) (hm : n ≤ m) : freshT av t m := ⟨h.1, fun x hx => by obtain ⟨h1, k, h2, h3⟩ := h.2 x hx; exact ⟨h1, k, by omega, h3⟩⟩
theorem freshT.add {av t : List Au} {n k : Nat} (h : freshT av t n) (hk : n ≤ k) (ha : nm 120 k ∉ av) : freshT av (t ++ [nm 120 k]) (k + 1) := by
 refine ⟨?_, fun x hx => ?_⟩
 ·rw [List.nodup_append]; refine ⟨h.1, by simp, ?_⟩; intro x hx y hy e
  simp only [List.mem_singleton] at hy
  subst hy; subst e; obtain ⟨_, j, hj, e⟩ := h.2 _ hx
  have := Ade e
  omega
 ·rcases List.mem_append.1 hx with hx | hx
  ·obtain ⟨h1, j, h2, h3⟩ := h.2 x hx; exact ⟨h1, j, by omega, h3⟩
  ·simp only [List.mem_singleton] at hx; subst hx; exact ⟨ha, k, by omega, rfl⟩
def Ex.fv : Ex → List Au
 | .num _ => []
 | .name s => if Bs s = true then [s] else []
 | .bin _ a b => a.fv ++ b.fv
 | .ite a b c => a.fv ++ b.fv ++ c.fv
 | .lt _ a b => a.fv ++ b.fv
 | .fn _ _ _ _ b => b.fv
 | .un _ a => a.fv
theorem Ex.occ_db : ∀ {e : Ex} {a : List Au}, e.ok = true → e.occ a = (e.db a).fv := by
 intro e
 induction e with
 | num s => intro a _; rfl
 | name s =>
  intro a h
  simp only [Ex.ok] at h
  simp only [Ex.occ, Ex.db, Ex.fv]
  cases hs : Cj a s with
  | none => simp only [if_pos h]; rw [if_neg (Io.1 hs)]
  | some i => simp only [T3, Bool.false_eq_true, if_false]; rw [if_pos (I6 hs)]
 | bin o p q ih1 ih2 => intro a h; simp only [Ex.ok, Bool.and_eq_true] at h; simp only [Ex.occ, Ex.db, Ex.fv, ih1 h.1, ih2 h.2]
 | ite p q r ih1 ih2 ih3 => intro a h; simp only [Ex.ok, Bool.and_eq_true] at h; simp only [Ex.occ, Ex.db, Ex.fv, ih1 h.1.1, ih2 h.1.2, ih3 h.2]
 | lt x p q ih1 ih2 => intro a h; simp only [Ex.ok, Bool.and_eq_true] at h; simp only [Ex.occ, Ex.db, Ex.fv, ih1 h.1.2, ih2 h.2]
 | fn g x s u q ih => intro a h; simp only [Ex.ok, Bool.and_eq_true] at h; simp only [Ex.occ, Ex.db, Ex.fv, ih h.2]
 | un o p ih => intro a h; simp only [Ex.ok] at h; simp only [Ex.occ, Ex.db, Ex.fv, ih h]
def Ex.as (e e' : Ex) : Prop := e.db [] = e'.db []
theorem Ex.as.free {e e' : Ex} (h : e.as e') (ho : e.ok = true) (ho' : e'.ok = true) : e.free = e'.free ∧ e.occ [] = e'.occ [] := by
 have h1 : e.occ [] = e'.occ [] := by rw [Ex.occ_db ho, Ex.occ_db ho', show e.db [] = e'.db [] from h]
 exact ⟨by unfold Ex.free; rw [h1], h1⟩
theorem Ex.db_size : ∀ (e : Ex) (a : List Au), (e.db a).size = e.size ∧ (e.db a).tree.depth = e.tree.depth := by
 intro e
 induction e with
 | num s => intro a; exact ⟨rfl, rfl⟩
 | name s => intro a; exact ⟨rfl, rfl⟩
 | bin o p q ih1 ih2 => intro a; obtain ⟨h1, h2⟩ := ih1 a; obtain ⟨h3, h4⟩ := ih2 a; simp only [Ex.db, Ex.size, Ex.tree, Tree.depth, D3, List.isEmpty_cons, cond_false, h1, h2, h3, h4, and_self]
 | ite p q r ih1 ih2 ih3 => intro a; obtain ⟨h1, h2⟩ := ih1 a; obtain ⟨h3, h4⟩ := ih2 a; obtain ⟨h5, h6⟩ := ih3 a; simp only [Ex.db, Ex.size, Ex.tree, Tree.depth, D3, List.isEmpty_cons, cond_false, h1, h2, h3, h4, h5, h6, and_self]
 | lt x p q ih1 ih2 => intro a; obtain ⟨h1, h2⟩ := ih1 a; obtain ⟨h3, h4⟩ := ih2 (a ++ [x]); simp only [Ex.db, Ex.size, Ex.tree, Tree.depth, D3, List.isEmpty_cons, List.isEmpty_nil, cond_true, cond_false, h1, h2, h3, h4, and_self]
 | fn g x s u q ih => intro a; obtain ⟨h1, h2⟩ := ih (a ++ [g, x]); simp only [Ex.db, Ex.size, Ex.tree, Tree.depth, D3, List.isEmpty_cons, List.isEmpty_nil, cond_true, cond_false, h1, h2, and_self]
 | un o p ih => intro a; obtain ⟨h1, h2⟩ := ih a; simp only [Ex.db, Ex.size, Ex.tree, Tree.depth, D3, List.isEmpty_cons, cond_false, h1, h2, and_self]
theorem Ex.as.size {e e' : Ex} (h : e.as e') : e.size = e'.size ∧ e.tree.depth = e'.tree.depth := by
 have h1 := e.db_size []
 have h2 := e'.db_size []
 rw [show e.db [] = e'.db [] from h] at h1
 exact ⟨h1.1.symm.trans h2.1, h1.2.symm.trans h2.2⟩
theorem Ex.db_in : ∀ {v : Ex} {a b c : List Au}, a.length = b.length → v.occ c = [] → v.db (a ++ c) = v.db (b ++ c) := by
 intro v
 induction v with
 | num s => intro a b c _ _; rfl
 | name s =>
  intro a b c hl h
  simp only [Ex.occ] at h
  have hc : s ∈ c := by
   by_cases hm : s ∈ c
   ·exact hm
   ·rw [if_neg hm] at h; cases h
  simp only [Ex.db, Lc]
  cases hs : Cj c s with
  | none => exact absurd hc (Io.1 hs)
  | some i => simp only [hl]
 | bin o p q ih1 ih2 => intro a b c hl h; simp only [Ex.occ, List.append_eq_nil_iff] at h; simp only [Ex.db, ih1 hl h.1, ih2 hl h.2]
 | ite p q r ih1 ih2 ih3 => intro a b c hl h; simp only [Ex.occ, List.append_eq_nil_iff] at h; simp only [Ex.db, ih1 hl h.1.1, ih2 hl h.1.2, ih3 hl h.2]
 | lt x p q ih1 ih2 => intro a b c hl h; simp only [Ex.occ, List.append_eq_nil_iff] at h; simp only [Ex.db, List.append_assoc, ih1 hl h.1, ih2 hl h.2]
 | fn g x s u q ih => intro a b c hl h; simp only [Ex.occ] at h; simp only [Ex.db, List.append_assoc, ih hl h]
 | un o p ih => intro a b c hl h; simp only [Ex.occ] at h; simp only [Ex.db, ih hl h]
theorem Ex.db_cl {v : Ex} (h : v.occ [] = []) {a b : List Au} (hl : a.length = b.length) : v.db a = v.db b := by
 have := Ex.db_in (v := v) (c := []) hl h
 simpa using this
def Ex.putIf (e : Ex) (n : Au) (v : Ex) (a : List Au) : Ex := if n ∈ a then e else e.put n v
theorem I9 {e : Ex} {n : Au} {v : Ex} {a : List Au} (h : n ∈ a) : e.putIf n v a = e := if_pos h
theorem E8 {e : Ex} {n : Au} {v : Ex} {a : List Au} (h : n ∉ a) : e.putIf n v a = e.put n v := if_neg h
theorem Ru (o : B5) (p q : Ex) (n : Au) (v : Ex) (a : List Au) : (Ex.bin o p q).putIf n v a = .bin o (p.putIf n v a) (q.putIf n v a) := by unfold Ex.putIf; split <;> rfl
theorem Rv (p q r : Ex) (n : Au) (v : Ex) (a : List Au) : (Ex.ite p q r).putIf n v a = .ite (p.putIf n v a) (q.putIf n v a) (r.putIf n v a) := by unfold Ex.putIf; split <;> rfl
theorem Vd (o : U2) (p : Ex) (n : Au) (v : Ex) (a : List Au) : (Ex.un o p).putIf n v a = .un o (p.putIf n v a) := by unfold Ex.putIf; split <;> rfl
theorem Vc (x : Au) (p q : Ex) (n : Au) (v : Ex) (a : List Au) : (Ex.lt x p q).putIf n v a = .lt x (p.putIf n v a) (q.putIf n v (a ++ [x])) := by
 unfold Ex.putIf
 simp only [List.mem_append, List.mem_singleton, Ex.put]
 by_cases h : n ∈ a
 ·simp [h]
 ·by_cases h2 : x = n
  ·subst h2; simp [h]
  ·have h3 : ¬ n = x := fun e => h2 e.symm
   simp [h, h2, h3]
theorem Vb (g x : Au) (s u : Ty) (q : Ex) (n : Au) (v : Ex) (a : List Au) : (Ex.fn g x s u q).putIf n v a = .fn g x s u (q.putIf n v (a ++ [g, x])) := by
 unfold Ex.putIf
 simp only [List.mem_append, List.mem_cons, List.not_mem_nil, or_false, Ex.put]
 by_cases h : n ∈ a
 ·simp [h]
 ·by_cases h2 : g = n ∨ x = n
  ·have : n = g ∨ n = x := h2.imp Eq.symm Eq.symm
   simp [h, h2, this]
  ·have : ¬ (n = g ∨ n = x) := fun e => h2 (e.imp Eq.symm Eq.symm)
   simp [h, h2, this]
theorem Ex.put_db {n : Au} {v : Ex} (hv : v.occ [] = []) : ∀ {e e' : Ex} {a b : List Au}, a.length = b.length → e.ok = true → e'.ok = true → e.db a = e'.db b → (e.putIf n v a).db a = (e'.putIf n v b).db b := by
 intro e
 induction e with
 | num s => intro e' a b hl h h' hd; cases e' <;> simp only [Ex.db, reduceCtorEq] at hd; cases hd; unfold Ex.putIf; split <;> split <;> rfl
 | name s =>
  intro e' a b hl h h' hd
  cases e' <;> simp only [Ex.db, reduceCtorEq] at hd
  rename_i s'
  simp only [Ex.ok] at h h'
  simp only [Ex.name.injEq] at hd
  cases hs : Cj a s with
  | none => cases ht : Cj b s' with
   | none =>
    rw [hs, ht] at hd; simp only at hd; subst hd
    have h1 := Io.1 hs
    have h2 := Io.1 ht
    by_cases e : s = n
    ·subst e; rw [E8 h1, E8 h2]
     simp only [Ex.put, if_true]
     exact Ex.db_cl hv hl
    ·have h3 : ∀ c, (Ex.name s).putIf n v c = .name s := fun c => by unfold Ex.putIf; split <;> simp [Ex.put, e]
     rw [h3, h3]; simp only [Ex.db, hs, ht]
   | some j => rw [hs, ht] at hd; exact absurd hd.symm (Sd h j)
  | some i => cases ht : Cj b s' with
   | none => rw [hs, ht] at hd; exact absurd hd (Sd h' i)
   | some j =>
    rw [hs, ht] at hd
    have h3 : ∀ {c : List Au} {z : Au}, z ∈ c → (Ex.name z).putIf n v c = .name z := fun {c z} hz => by
     by_cases e : z = n
     ·subst e; exact I9 hz
     ·unfold Ex.putIf; split <;> simp [Ex.put, e]
    rw [h3 (I6 hs), h3 (I6 ht)]
    simp only [Ex.db, hs, ht, Xf hd]
 | bin o p q ih1 ih2 =>
  intro e' a b hl h h' hd
  cases e' <;> simp only [Ex.db, reduceCtorEq] at hd
  simp only [Ex.ok, Bool.and_eq_true] at h h'
  simp only [Ex.bin.injEq] at hd
  simp only [Ru, Ex.db, ih1 hl h.1 h'.1 hd.2.1, ih2 hl h.2 h'.2 hd.2.2, hd.1]
 | ite p q r ih1 ih2 ih3 =>
  intro e' a b hl h h' hd
  cases e' <;> simp only [Ex.db, reduceCtorEq] at hd
  simp only [Ex.ok, Bool.and_eq_true] at h h'
  simp only [Ex.ite.injEq] at hd
  simp only [Rv, Ex.db, ih1 hl h.1.1 h'.1.1 hd.1, ih2 hl h.1.2 h'.1.2 hd.2.1, ih3 hl h.2 h'.2 hd.2.2]
 | lt x p q ih1 ih2 =>
  intro e' a b hl h h' hd
  cases e' <;> simp only [Ex.db, reduceCtorEq] at hd
  rename_i x' p' q'
  simp only [Ex.ok, Bool.and_eq_true] at h h'
  simp only [Ex.lt.injEq] at hd
  simp only [Vc, Ex.db, ih1 hl h.1.2 h'.1.2 hd.2.1, ih2 (a := a ++ [x]) (b := b ++ [x']) (by simp [hl]) h.2 h'.2 hd.2.2]
 | fn g x s u q ih =>
  intro e' a b hl h h' hd
  cases e' <;> simp only [Ex.db, reduceCtorEq] at hd
  rename_i g' x' s' u' q'
  simp only [Ex.ok, Bool.and_eq_true] at h h'
  simp only [Ex.fn.injEq] at hd
  simp only [Vb, Ex.db, ih (a := a ++ [g, x]) (b := b ++ [g', x']) (by simp [hl]) h.2 h'.2 hd.2.2.2.2, hd.2.2.1, hd.2.2.2.1]
 | un o p ih =>
  intro e' a b hl h h' hd
  cases e' <;> simp only [Ex.db, reduceCtorEq] at hd
  simp only [Ex.ok] at h h'
  simp only [Ex.un.injEq] at hd
  simp only [Vd, Ex.db, ih hl h h' hd.2, hd.1]
theorem Ex.as.put {e e' : Ex} (h : e.as e') (ho : e.ok = true) (ho' : e'.ok = true) {n : Au} {v : Ex} (hv : v.occ [] = []) : (e.put n v).as (e'.put n v) := by
 have := Ex.put_db (n := n) hv (a := []) (b := []) rfl ho ho' h
 rwa [E8 (by simp), E8 (by simp)] at this
/- Types of alike expressions. -/
theorem ty_bin (o : B5) (a b : Ex) (l : List Au) (m : List Ty) : (Ex.bin o a b).ty l m = (a.ty l m).bind fun s => (b.ty l m).bind fun t => o.ty s t := by
 unfold Ex.ty; simp only [Ex.chk]
 cases a.chk l m with
 | error x => rfl
 | ok s => cases b.chk l m with
  | error x => rfl
  | ok t => simp only [Option.bind_some]; cases o.ty s t <;> rfl
theorem ty_ite (a b c : Ex) (l : List Au) (m : List Ty) : (Ex.ite a b c).ty l m = (a.ty l m).bind fun s => (b.ty l m).bind fun t => (c.ty l m).bind fun u => if s = .i ∧ t = u then some t else none := by
 unfold Ex.ty; simp only [Ex.chk]
 cases a.chk l m with
 | error x => rfl
 | ok s => cases b.chk l m with
  | error x => rfl
  | ok t => cases c.chk l m with
   | error x => rfl
   | ok u =>
    simp only [Option.bind_some]
    by_cases h : s = .i ∧ t = u
    ·rw [if_pos h, if_pos h]
    ·rw [if_neg h, if_neg h]
theorem ty_lt (x : Au) (a b : Ex) (l : List Au) (m : List Ty) : (Ex.lt x a b).ty l m = (a.ty l m).bind fun s => b.ty (l ++ [x]) (m ++ [s]) := by
 unfold Ex.ty; simp only [Ex.chk]
 cases a.chk l m <;> rfl
theorem ty_fn (f x : Au) (s t : Ty) (b : Ex) (l : List Au) (m : List Ty) : (Ex.fn f x s t b).ty l m = if (Ty.fn s t).size ≤ 16 then (b.ty (l ++ [f, x]) (m ++ [.fn s t, s])).bind fun u => if u = t then some (.fn s t) else none else none := by
 unfold Ex.ty; simp only [Ex.chk]
 by_cases h : (Ty.fn s t).size ≤ 16
 ·rw [if_pos h, if_pos h]
  cases b.chk (l ++ [f, x]) (m ++ [.fn s t, s]) with
  | error x => rfl
  | ok u =>
   simp only [Option.bind_some]
   by_cases h : u = t
   ·rw [if_pos h, if_pos h]
   ·rw [if_neg h, if_neg h]
 ·rw [if_neg h, if_neg h]
theorem ty_un (o : U2) (a : Ex) (l : List Au) (m : List Ty) : (Ex.un o a).ty l m = (a.ty l m).bind fun s => o.ty s := by
 unfold Ex.ty; simp only [Ex.chk]
 cases a.chk l m with
 | error x => rfl
 | ok s => simp only [Option.bind_some]; cases o.ty s <;> rfl
theorem ty_name (s : Au) (l : List Au) (m : List Ty) : (Ex.name s).ty l m = Fb l m s := by
 unfold Ex.ty; simp only [Ex.chk]
 cases Fb l m s <;> rfl
theorem Qp {l a : List Au} {m k : List Ty} (h : l.length = m.length) (s : Au) : Fb (l ++ a) (m ++ k) s = match Cj a s with | some i => k[i]? | none => Fb l m s := by
 unfold Fb
 rw [Lc]
 cases hs : Cj a s with
 | some i => simp only [Option.bind_some, h]; rw [List.getElem?_append_right (by omega)]; congr 1; omega
 | none =>
  simp only
  cases hi : Cj l s with
  | none => rfl
  | some i =>
   have := (Wm hi).1
   simp only [Option.bind_some]; rw [List.getElem?_append_left (by omega)]
theorem Ex.ty_db {l : List Au} {m : List Ty} (hlm : l.length = m.length) : ∀ {e e' : Ex} {a b : List Au} {k : List Ty}, a.length = k.length → b.length = k.length → e.ok = true → e'.ok = true → e.db a = e'.db b → e.ty (l ++ a) (m ++ k) = e'.ty (l ++ b) (m ++ k) := by
 intro e
 induction e with
 | num s => intro e' a b k h1 h2 h h' hd; cases e' <;> simp only [Ex.db, reduceCtorEq] at hd; rfl
 | name s =>
  intro e' a b k h1 h2 h h' hd
  cases e' <;> simp only [Ex.db, reduceCtorEq] at hd
  rename_i s'
  simp only [Ex.ok] at h h'
  simp only [Ex.name.injEq] at hd
  rw [ty_name, ty_name, Qp hlm, Qp hlm]
  cases hs : Cj a s with
  | none => cases ht : Cj b s' with
   | none => rw [hs, ht] at hd; simp only at hd; subst hd; rfl
   | some j => rw [hs, ht] at hd; exact absurd hd.symm (Sd h j)
  | some i => cases ht : Cj b s' with
   | none => rw [hs, ht] at hd; exact absurd hd (Sd h' i)
   | some j => rw [hs, ht] at hd; rw [Xf hd]
 | bin o p q ih1 ih2 =>
  intro e' a b k h1 h2 h h' hd
  cases e' <;> simp only [Ex.db, reduceCtorEq] at hd
  simp only [Ex.ok, Bool.and_eq_true] at h h'
  simp only [Ex.bin.injEq] at hd
  rw [ty_bin, ty_bin, ih1 h1 h2 h.1 h'.1 hd.2.1, ih2 h1 h2 h.2 h'.2 hd.2.2, hd.1]
 | ite p q r ih1 ih2 ih3 =>
  intro e' a b k h1 h2 h h' hd
  cases e' <;> simp only [Ex.db, reduceCtorEq] at hd
  simp only [Ex.ok, Bool.and_eq_true] at h h'
  simp only [Ex.ite.injEq] at hd
  rw [ty_ite, ty_ite, ih1 h1 h2 h.1.1 h'.1.1 hd.1, ih2 h1 h2 h.1.2 h'.1.2 hd.2.1, ih3 h1 h2 h.2 h'.2 hd.2.2]
 | lt x p q ih1 ih2 =>
  intro e' a b k h1 h2 h h' hd
  cases e' <;> simp only [Ex.db, reduceCtorEq] at hd
  rename_i x' p' q'
  simp only [Ex.ok, Bool.and_eq_true] at h h'
  simp only [Ex.lt.injEq] at hd
  rw [ty_lt, ty_lt, ih1 h1 h2 h.1.2 h'.1.2 hd.2.1]
  congr 1; funext s
  have := ih2 (a := a ++ [x]) (b := b ++ [x']) (k := k ++ [s]) (by simp [h1]) (by simp [h2]) h.2 h'.2 hd.2.2
  simpa only [List.append_assoc] using this
 | fn g x s u q ih =>
  intro e' a b k h1 h2 h h' hd
  cases e' <;> simp only [Ex.db, reduceCtorEq] at hd
  rename_i g' x' s' u' q'
  simp only [Ex.ok, Bool.and_eq_true] at h h'
  simp only [Ex.fn.injEq] at hd
  obtain ⟨-, -, rfl, rfl, hd⟩ := hd
  have := ih (a := a ++ [g, x]) (b := b ++ [g', x']) (k := k ++ [.fn s u, s]) (by simp [h1]) (by simp [h2]) h.2 h'.2 hd
  simp only [← List.append_assoc] at this
  rw [ty_fn, ty_fn, this]
 | un o p ih =>
  intro e' a b k h1 h2 h h' hd
  cases e' <;> simp only [Ex.db, reduceCtorEq] at hd
  simp only [Ex.ok] at h h'
  simp only [Ex.un.injEq] at hd
  rw [ty_un, ty_un, ih h1 h2 h h' hd.2, hd.1]
theorem Ex.as.ty {e e' : Ex} (h : e.as e') (ho : e.ok = true) (ho' : e'.ok = true) {l : List Au} {m : List Ty} (hlm : l.length = m.length) : e.ty l m = e'.ty l m := by
 have := Ex.ty_db hlm (a := []) (b := []) (k := []) rfl rfl ho ho' h
 simpa using this
theorem Ex.as.hd {e e' : Ex} (h : e.as e') : e.hd = e'.hd := by
 have h : e.db [] = e'.db [] := h
 cases e <;> cases e' <;> simp only [Ex.db, reduceCtorEq] at h <;> first
  | rfl
  | (simp only [Ex.bin.injEq] at h; simp only [Ex.hd, h.1]; rfl)
  | (simp only [Ex.un.injEq] at h; simp only [Ex.hd, h.1]; rfl)
theorem Ex.as.symm {e e' : Ex} (h : e.as e') : e'.as e := Eq.symm h
theorem Ex.as.trans {e e' e'' : Ex} (h : e.as e') (h' : e'.as e'') : e.as e'' := Eq.trans h h'
theorem V4 {e : Ex} (h : e.closed = true) : e.occ [] = [] := by unfold Ex.closed at h; simpa using h
theorem closed_free {s : Au} {e : Ex} (h : B7 s = some e) : Hs s = some [] := by
 obtain ⟨h1, h2, h3, h4, h5⟩ := En h
 unfold Hs
 rw [h1]
 have : e.free = [] := by unfold Ex.free; rw [V4 h5]; rfl
 simp [this]
def nul : Ex := .num [48]
theorem Ex.put0_occ : ∀ {e : Ex} {n x : Au}, x ∈ (e.put n nul).occ [] ↔ x ∈ e.occ [] ∧ x ≠ n
 | .num s, n, x => by simp [Ex.put, Ex.occ]
 | .name s, n, x => by
  simp only [Ex.put]
  by_cases h : s = n
  ·subst h; simp [Ex.occ, nul]
  ·rw [if_neg h]
   simp only [Ex.occ, List.not_mem_nil, if_false, List.mem_singleton]
   constructor
   ·rintro rfl; exact ⟨rfl, h⟩
   ·exact fun hh => hh.1
 | .bin o a b, n, x => by
  simp only [Ex.put, Ex.occ, List.mem_append, Ex.put0_occ (e := a), Ex.put0_occ (e := b)]
  constructor
  ·rintro (⟨h1, h2⟩ | ⟨h1, h2⟩)
   ·exact ⟨.inl h1, h2⟩
   ·exact ⟨.inr h1, h2⟩
  ·rintro ⟨h1 | h1, h2⟩
   ·exact .inl ⟨h1, h2⟩
   ·exact .inr ⟨h1, h2⟩
 | .ite a b c, n, x => by
  simp only [Ex.put, Ex.occ, List.mem_append, Ex.put0_occ (e := a), Ex.put0_occ (e := b), Ex.put0_occ (e := c)]
  constructor
  ·rintro ((⟨h1, h2⟩ | ⟨h1, h2⟩) | ⟨h1, h2⟩)
   ·exact ⟨.inl (.inl h1), h2⟩
   ·exact ⟨.inl (.inr h1), h2⟩
   ·exact ⟨.inr h1, h2⟩
  ·rintro ⟨(h1 | h1) | h1, h2⟩
   ·exact .inl (.inl ⟨h1, h2⟩)
   ·exact .inl (.inr ⟨h1, h2⟩)
   ·exact .inr ⟨h1, h2⟩
 | .lt y a b, n, x => by
  simp only [Ex.put, Ex.occ, List.mem_append, List.nil_append, Ex.put0_occ (e := a)]
  rw [Ex.occ_mem (bd := [y]), Ex.occ_mem (e := b) (bd := [y])]
  simp only [List.mem_singleton]
  by_cases h : y = n
  ·subst h; rw [if_pos rfl]
   constructor
   ·rintro (⟨h1, h2⟩ | ⟨h1, h2⟩)
    ·exact ⟨.inl h1, h2⟩
    ·exact ⟨.inr ⟨h1, h2⟩, h2⟩
   ·rintro ⟨h1 | h1, h2⟩
    ·exact .inl ⟨h1, h2⟩
    ·exact .inr h1
  ·rw [if_neg h, Ex.put0_occ (e := b)]
   constructor
   ·rintro (⟨h1, h2⟩ | ⟨⟨h1, h3⟩, h2⟩)
    ·exact ⟨.inl h1, h2⟩
    ·exact ⟨.inr ⟨h1, h2⟩, h3⟩
   ·rintro ⟨h1 | ⟨h1, h3⟩, h2⟩
    ·exact .inl ⟨h1, h2⟩
    ·exact .inr ⟨⟨h1, h2⟩, h3⟩
 | .fn f y s t b, n, x => by
  simp only [Ex.put, Ex.occ, List.nil_append]
  rw [Ex.occ_mem (bd := [f, y]), Ex.occ_mem (e := b) (bd := [f, y])]
  simp only [List.mem_cons, List.not_mem_nil, or_false, not_or]
  by_cases h : f = n ∨ y = n
  ·rw [if_pos h]
   constructor
   ·rintro ⟨h1, h2, h3⟩; refine ⟨⟨h1, h2, h3⟩, ?_⟩
    rcases h with rfl | rfl
    ·exact h2
    ·exact h3
   ·exact fun hh => hh.1
  ·rw [if_neg h, Ex.put0_occ (e := b)]
   constructor
   ·rintro ⟨⟨h1, h4⟩, h2⟩; exact ⟨⟨h1, h2⟩, h4⟩
   ·rintro ⟨⟨h1, h2⟩, h4⟩; exact ⟨⟨h1, h4⟩, h2⟩
 | .un o a, n, x => by
  simp only [Ex.put, Ex.occ, Ex.put0_occ (e := a)]
def Ex.puts (e : Ex) (l : List Au) : Ex := l.foldl (fun e n => e.put n nul) e
def Aea (s n : Au) : Int := match E9 s with
 | some e => if Bs n = true then (((e.occ []).count n : Nat) : Int) else -1
 | none => -1
theorem Ex.putSize : ∀ (e : Ex) (n : Au) (v : Ex), (e.put n v).size + e.count n = e.size + e.count n * v.size
 | .num s, n, v => by simp [Ex.put, Ex.count]
 | .name s, n, v => by
  simp only [Ex.put, Ex.count]
  by_cases h : s = n
  ·rw [if_pos h, if_pos h]; simp only [Ex.size]; omega
  ·rw [if_neg h, if_neg h]; simp
 | .bin o a b, n, v => by have := a.putSize n v; have := b.putSize n v; simp only [Ex.put, Ex.size, Ex.count, Nat.add_mul]; omega
 | .ite a b c, n, v => by have := a.putSize n v; have := b.putSize n v; have := c.putSize n v; simp only [Ex.put, Ex.size, Ex.count, Nat.add_mul]; omega
 | .lt x a b, n, v => by
  have := a.putSize n v; have := b.putSize n v
  simp only [Ex.put, Ex.size, Ex.count]
  by_cases h : x = n
  ·rw [if_pos h, if_pos h]; simp only [Nat.add_zero]; omega
  ·rw [if_neg h, if_neg h]; simp only [Nat.add_mul]; omega
 | .fn f x s t b, n, v => by
  have := b.putSize n v
  simp only [Ex.put, Ex.size, Ex.count]
  by_cases h : f = n ∨ x = n
  ·rw [if_pos h, if_pos h]; simp
  ·rw [if_neg h, if_neg h]; omega
 | .un o a, n, v => by have := a.putSize n v; simp only [Ex.put, Ex.size, Ex.count]; omega
theorem Ace {v : Ex} (h : v.occ [] = []) (bd : List Au) : v.occ bd = [] := by rw [Ex.occ_filter, h]; rfl
theorem Ex.put_occ0 {n : Au} {v : Ex} (hv : v.occ [] = []) : ∀ (e : Ex) (bd : List Au), (e.put n v).occ bd = (e.put n nul).occ bd
 | .num s, bd => rfl
 | .name s, bd => by
  simp only [Ex.put]
  by_cases h : s = n
  ·rw [if_pos h, if_pos h, Ace hv]; rfl
  ·rw [if_neg h, if_neg h]
 | .bin o a b, bd => by simp only [Ex.put, Ex.occ, Ex.put_occ0 hv a, Ex.put_occ0 hv b]
 | .ite a b c, bd => by simp only [Ex.put, Ex.occ, Ex.put_occ0 hv a, Ex.put_occ0 hv b, Ex.put_occ0 hv c]
 | .lt x a b, bd => by simp only [Ex.put, Ex.occ, Ex.put_occ0 hv a]; split <;> simp only [Ex.put_occ0 hv b]
 | .fn f x s t b, bd => by simp only [Ex.put, Ex.occ]; split <;> simp only [Ex.put_occ0 hv b]
 | .un o a, bd => by simp only [Ex.put, Ex.occ, Ex.put_occ0 hv a]
theorem Ex.put_occ {n x : Au} {v e : Ex} (hv : v.occ [] = []) : x ∈ (e.put n v).occ [] ↔ x ∈ e.occ [] ∧ x ≠ n := by rw [Ex.put_occ0 hv e, Ex.put0_occ]
def Ad9 (a b : Au) : Bool := match E9 a, E9 b with
 | some e, some f => e.alk f [] []
 | _, _ => false
def F2 (n : Int) : Int := (n + 500) % 1000 - 500
theorem Rz (n : Int) : ((n + 500).tmod 1000 + 1000).tmod 1000 - 500 = F2 n := by
 unfold F2
 rw [Int.tmod_eq_emod_of_nonneg (a := (n + 500).tmod 1000 + 1000) (by have := Int.lt_tmod_of_pos (n + 500) (b := 1000) (by decide); omega)]; rw [Int.tmod_eq_emod]
 split <;> omega
theorem Cu (n : Int) : -500 ≤ F2 n ∧ F2 n ≤ 499 := by unfold F2; omega
def B5.calc (o : B5) (x y : Int) : Int := match o with
 | .add => x + y
 | .sub => x - y
 | _ => x * y
def B5.nums : B5 → Bool
 | .call => false
 | .pair => false
 | _ => true
def K2 (o : B5) (a b : Au) : Au := K1 (F2 (o.calc (Cc a) (Cc b)))
theorem Vj : ∀ k : Nat, k < 1000 → Bt (K1 ((k : Int) - 500)) = true ∧ Cc (K1 ((k : Int) - 500)) = (k : Int) - 500 := by decide +kernel
theorem M1 {n : Int} (h0 : -500 ≤ n) (h1 : n ≤ 499) : Bt (K1 n) = true ∧ Cc (K1 n) = n := by
 have := Vj (n + 500).toNat (by omega)
 rw [show ((n + 500).toNat : Int) - 500 = n by omega] at this
 exact this
theorem Qh (o : B5) (a b : Au) : Bt (K2 o a b) = true ∧ Cc (K2 o a b) = F2 (o.calc (Cc a) (Cc b)) := M1 (Cu _).1 (Cu _).2
theorem X1 : ∀ (l : Au), l.all E1 = true → Eb l < 10 ^ l.length := by
 have key : ∀ (l : Au) (a : Nat), l.all E1 = true → l.foldl (fun n b => 10 * n + (b.toNat - 48)) a < (a + 1) * 10 ^ l.length := by
  intro l
  induction l with
  | nil => intro a _; simp
  | cons b r ih =>
   intro a h
   simp only [List.all_cons, Bool.and_eq_true] at h
   have hb : b.toNat - 48 ≤ 9 := by have := h.1; simp [E1] at this; omega
   refine Nat.lt_of_lt_of_le (ih _ h.2) ?_; rw [List.length_cons, Nat.pow_succ]
   calc (10 * a + (b.toNat - 48) + 1) * 10 ^ r.length ≤ ((a + 1) * 10) * 10 ^ r.length := Nat.mul_le_mul_right _ (by omega)
    _ = (a + 1) * (10 ^ r.length * 10) := by rw [Nat.mul_assoc, Nat.mul_comm 10]
 intro l h
 have := key l 0 h
 simpa [Eb] using this
theorem Nv {s : Au} (h : Bt s = true) : -999 ≤ Cc s ∧ Cc s ≤ 999 := by
 unfold Cc
 split
 ·omega
 ·rename_i h0
  simp only [Bt, h0, decide_false, Bool.false_or, Bool.and_eq_true, decide_eq_true_eq] at h
  have h1 := X1 (Dw s) h.1.2
  have h2 : 10 ^ (Dw s).length ≤ 10 ^ 3 := Nat.pow_le_pow_right (by decide) h.1.1.2
  split <;> omega
theorem O0 {s : Au} (h : Bt s = true) : Cc s = 0 ↔ s = [48] := by
 unfold Cc
 split
 ·rename_i h0; simp [h0]
 ·rename_i h0
  simp only [h0, iff_false]
  simp only [Bt, h0, decide_false, Bool.false_or, Bool.and_eq_true, decide_eq_true_eq, Bool.not_eq_true', decide_eq_false_iff_not] at h
  have h1 : 1 ≤ Eb (Dw s) := by
   cases hu : Dw s with
   | nil => rw [hu] at h; simp at h
   | cons b r =>
    rw [hu] at h
    have hb : 49 ≤ b.toNat := by
     have h3 := h.1.2
     have h4 := h.2
     simp [E1] at h3 h4
     omega
    have hm : ∀ (r : Au) (a : Nat), 1 ≤ a → 1 ≤ r.foldl (fun n b => 10 * n + (b.toNat - 48)) a := by
     intro r
     induction r with
     | nil => intro a ha; exact ha
     | cons c r ih => intro a ha; exact ih (10 * a + (c.toNat - 48)) (by omega)
    exact hm r (10 * 0 + (b.toNat - 48)) (by omega)
  split <;> omega
def Ex.turn : Ex → Option Ex
 | .bin .call (.fn f x s t b) v => some ((b.put f (.fn f x s t b)).put x v)
 | .bin o (.num a) (.num b) => if o.nums = true then some (.num (K2 o a b)) else none
 | .ite (.num a) b c => some (if a = [48] then b else c)
 | .lt x a b => some (b.put x a)
 | .un .fst (.bin .pair a b) => some a
 | .un .snd (.bin .pair a b) => some b
 | _ => none
def Ex.step : Ex → Option Ex
 | .bin o a b => if a.value = false then a.step.map fun c => .bin o c b else if b.value = false then b.step.map fun c => .bin o a c else (Ex.bin o a b).turn
 | .ite a b c => if a.value = false then a.step.map fun d => .ite d b c else (Ex.ite a b c).turn
 | .lt x a b => if a.value = false then a.step.map fun d => .lt x d b else (Ex.lt x a b).turn
 | .un o a => if a.value = false then a.step.map fun d => .un o d else (Ex.un o a).turn
 | _ => none
theorem Ew {o : B5} {a b e' : Ex} (h : (Ex.bin o a b).turn = some e') : (∃ f x s t c, o = .call ∧ a = .fn f x s t c ∧ e' = (c.put f (.fn f x s t c)).put x b) ∨ (∃ p q, o.nums = true ∧ a = .num p ∧ b = .num q ∧ e' = .num (K2 o p q)) := by
 cases a with
 | fn f x s t c =>
  cases o <;> first
   | (exact .inl ⟨f, x, s, t, c, rfl, rfl, (Option.some.inj h).symm⟩)
   | (cases b <;> cases h)
 | num p =>
  cases b with
  | num q =>
   have h : (if o.nums = true then some (Ex.num (K2 o p q)) else none) = some e' := by cases o <;> exact h
   split at h
   ·rename_i ho; exact .inr ⟨p, q, ho, rfl, rfl, (Option.some.inj h).symm⟩
   ·cases h
  | _ => cases o <;> cases h
 | _ => cases o <;> first | cases h | (cases b <;> cases h)
theorem Jc {a b c e' : Ex} (h : (Ex.ite a b c).turn = some e') : ∃ p, a = .num p ∧ e' = if p = [48] then b else c := by
 cases a <;> first | exact ⟨_, rfl, (Option.some.inj h).symm⟩ | cases h
def U2.pick (o : U2) (p q : Ex) : Ex := match o with
 | .fst => p
 | .snd => q
theorem Jj {o : U2} {a e' : Ex} (h : (Ex.un o a).turn = some e') : ∃ p q, a = .bin .pair p q ∧ e' = o.pick p q := by
 cases a with
 | bin k p q => cases k <;> cases o <;> first | exact ⟨p, q, rfl, (Option.some.inj h).symm⟩ | cases h
 | _ => cases o <;> cases h
theorem Ex.step_ok : ∀ {e e' : Ex}, e.ok = true → e.step = some e' → e'.ok = true
 | .num _, e', h, hs => by cases hs
 | .name _, e', h, hs => by cases hs
 | .fn _ _ _ _ _, e', h, hs => by cases hs
 | .bin o a b, e', h, hs => by
  simp only [Ex.ok, Bool.and_eq_true] at h
  simp only [Ex.step] at hs
  split at hs
  ·obtain ⟨c, hc, rfl⟩ := Option.map_eq_some_iff.1 hs
   simp only [Ex.ok, Bool.and_eq_true]; exact ⟨Ex.step_ok h.1 hc, h.2⟩
  ·split at hs
   ·obtain ⟨c, hc, rfl⟩ := Option.map_eq_some_iff.1 hs
    simp only [Ex.ok, Bool.and_eq_true]; exact ⟨h.1, Ex.step_ok h.2 hc⟩
   ·rcases Ew hs with ⟨f, x, s, t, c, rfl, rfl, rfl⟩ | ⟨p, q, ho, rfl, rfl, rfl⟩
    ·have hc : c.ok = true := by have := h.1; simp only [Ex.ok, Bool.and_eq_true] at this; exact this.2
     exact Ex.put_ok (Ex.put_ok hc h.1) h.2
    ·exact (Qh o p q).1
 | .ite a b c, e', h, hs => by
  simp only [Ex.ok, Bool.and_eq_true] at h
  simp only [Ex.step] at hs
  split at hs
  ·obtain ⟨d, hd, rfl⟩ := Option.map_eq_some_iff.1 hs
   simp only [Ex.ok, Bool.and_eq_true]; exact ⟨⟨Ex.step_ok h.1.1 hd, h.1.2⟩, h.2⟩
  ·obtain ⟨p, rfl, rfl⟩ := Jc hs
   split
   ·exact h.1.2
   ·exact h.2
 | .lt x a b, e', h, hs => by
  simp only [Ex.ok, Bool.and_eq_true] at h
  simp only [Ex.step] at hs
  split at hs
  ·obtain ⟨d, hd, rfl⟩ := Option.map_eq_some_iff.1 hs
   simp only [Ex.ok, Bool.and_eq_true]; exact ⟨⟨h.1.1, Ex.step_ok h.1.2 hd⟩, h.2⟩
  ·obtain rfl := (Option.some.inj hs).symm
   exact Ex.put_ok h.2 h.1.2
 | .un o a, e', h, hs => by
  have h1 : a.ok = true := h
  simp only [Ex.step] at hs
  split at hs
  ·obtain ⟨d, hd, rfl⟩ := Option.map_eq_some_iff.1 hs
   show d.ok = true
   exact Ex.step_ok h1 hd
  ·obtain ⟨p, q, rfl, rfl⟩ := Jj hs
   simp only [Ex.ok, Bool.and_eq_true] at h1
   cases o
   ·exact h1.1
   ·exact h1.2
theorem Ey {a b : List Au} (h : a ++ b = []) : a = [] ∧ b = [] := List.append_eq_nil_iff.1 h
theorem Qc {e : Ex} {bd : List Au} : e.occ bd = [] ↔ ∀ x ∈ e.occ [], x ∈ bd := by
 rw [Ex.occ_filter, List.filter_eq_nil_iff]
 constructor
 ·intro h x hx; have := h x hx; simpa using this
 ·intro h x hx; simpa using h x hx
theorem Ex.step_closed : ∀ {e e' : Ex}, e.occ [] = [] → e.step = some e' → e'.occ [] = []
 | .num _, e', h, hs => by cases hs
 | .name _, e', h, hs => by cases hs
 | .fn _ _ _ _ _, e', h, hs => by cases hs
 | .bin o a b, e', h, hs => by
  obtain ⟨h1, h2⟩ := Ey (show a.occ [] ++ b.occ [] = [] from h)
  simp only [Ex.step] at hs
  split at hs
  ·obtain ⟨c, hc, rfl⟩ := Option.map_eq_some_iff.1 hs
   simp only [Ex.occ, Ex.step_closed h1 hc, h2, List.append_nil]
  ·split at hs
   ·obtain ⟨c, hc, rfl⟩ := Option.map_eq_some_iff.1 hs
    simp only [Ex.occ, Ex.step_closed h2 hc, h1, List.append_nil]
   ·rcases Ew hs with ⟨f, x, s, t, c, rfl, rfl, rfl⟩ | ⟨p, q, ho, rfl, rfl, rfl⟩
    ·have hc : ∀ y ∈ c.occ [], y ∈ [f, x] := Qc.1 (show c.occ ([] ++ [f, x]) = [] from h1)
     rw [List.eq_nil_iff_forall_not_mem]; intro y hy; obtain ⟨hy, hx⟩ := (Ex.put_occ h2).1 hy; obtain ⟨hy, hf⟩ := (Ex.put_occ h1).1 hy
     have := hc y hy
     simp only [List.mem_cons, List.not_mem_nil, or_false] at this
     exact this.elim hf hx
    ·rfl
 | .ite a b c, e', h, hs => by
  obtain ⟨h1, h3⟩ := Ey (show (a.occ [] ++ b.occ []) ++ c.occ [] = [] from h); obtain ⟨h1, h2⟩ := Ey h1
  simp only [Ex.step] at hs
  split at hs
  ·obtain ⟨d, hd, rfl⟩ := Option.map_eq_some_iff.1 hs
   simp only [Ex.occ, Ex.step_closed h1 hd, h2, h3, List.append_nil]
  ·obtain ⟨p, rfl, rfl⟩ := Jc hs
   split
   ·exact h2
   ·exact h3
 | .lt x a b, e', h, hs => by
  obtain ⟨h1, h2⟩ := Ey (show a.occ [] ++ b.occ ([] ++ [x]) = [] from h)
  simp only [Ex.step] at hs
  split at hs
  ·obtain ⟨d, hd, rfl⟩ := Option.map_eq_some_iff.1 hs
   simp only [Ex.occ, Ex.step_closed h1 hd, List.nil_append]; exact h2
  ·obtain rfl := (Option.some.inj hs).symm
   have hc := Qc.1 h2
   rw [List.eq_nil_iff_forall_not_mem]; intro y hy; obtain ⟨hy, hx⟩ := (Ex.put_occ h1).1 hy
   have := hc y hy
   simp only [List.nil_append, List.mem_cons, List.not_mem_nil, or_false] at this
   exact hx this
 | .un o a, e', h, hs => by
  have h : a.occ [] = [] := h
  simp only [Ex.step] at hs
  split at hs
  ·obtain ⟨d, hd, rfl⟩ := Option.map_eq_some_iff.1 hs
   show d.occ [] = []
   exact Ex.step_closed h hd
  ·obtain ⟨p, q, rfl, rfl⟩ := Jj hs; obtain ⟨h1, h2⟩ := Ey (show p.occ [] ++ q.occ [] = [] from h)
   cases o
   ·exact h1
   ·exact h2
theorem R1 : ∀ F : Nat, F < 120 → F * (1 + F) * (121 - F) ≤ 300000 := by decide +kernel
theorem Le (e : Ex) (n : Au) (v : Ex) (hc : e.count n ≤ e.size) : (e.put n v).size ≤ e.size * (1 + v.size) := by
 have h := e.putSize n v
 have h2 : e.count n * v.size ≤ e.size * v.size := Nat.mul_le_mul_right _ hc
 rw [Nat.mul_add, Nat.mul_one]; omega
theorem Ex.count_size (n : Au) : ∀ e : Ex, e.count n ≤ e.size
 | .num _ => by simp [Ex.count]
 | .name s => by simp only [Ex.count, Ex.size]; split <;> omega
 | .bin _ a b => by have := a.count_size n; have := b.count_size n; simp only [Ex.count, Ex.size]; omega
 | .ite a b c => by have := a.count_size n; have := b.count_size n; have := c.count_size n; simp only [Ex.count, Ex.size]; omega
 | .lt x a b => by have := a.count_size n; have := b.count_size n; simp only [Ex.count, Ex.size]; split <;> omega
 | .fn f x s t b => by have := b.count_size n; simp only [Ex.count, Ex.size]; split <;> omega
 | .un _ a => by have := a.count_size n; simp only [Ex.count, Ex.size]; omega
theorem Ex.step_size : ∀ {e e' : Ex}, e.size ≤ 120 → e.step = some e' → e'.size ≤ e.size + 300000
 | .num _, e', h, hs => by cases hs
 | .name _, e', h, hs => by cases hs
 | .fn _ _ _ _ _, e', h, hs => by cases hs
 | .bin o a b, e', h, hs => by
  simp only [Ex.size] at h
  simp only [Ex.step] at hs
  split at hs
  ·obtain ⟨c, hc, rfl⟩ := Option.map_eq_some_iff.1 hs
   have := Ex.step_size (e := a) (by omega) hc
   simp only [Ex.size]; omega
  ·split at hs
   ·obtain ⟨c, hc, rfl⟩ := Option.map_eq_some_iff.1 hs
    have := Ex.step_size (e := b) (by omega) hc
    simp only [Ex.size]; omega
   ·rcases Ew hs with ⟨f, x, s, t, c, rfl, rfl, rfl⟩ | ⟨p, q, ho, rfl, rfl, rfl⟩
    ·generalize hF : (Ex.fn f x s t c).size = F at h ⊢
     have hcF : c.size ≤ F := by rw [← hF]; simp only [Ex.size]; omega
     have h1 := Le c f (.fn f x s t c) (c.count_size f)
     rw [hF] at h1
     have h2 := Le (c.put f (.fn f x s t c)) x b (Ex.count_size x _)
     have h3 := R1 F (by omega)
     have h4 : (c.put f (.fn f x s t c)).size * (1 + b.size) ≤ F * (1 + F) * (121 - F) := Nat.mul_le_mul (Nat.le_trans h1 (Nat.mul_le_mul_right _ hcF)) (by omega)
     omega
    ·simp only [Ex.size]; omega
 | .ite a b c, e', h, hs => by
  simp only [Ex.size] at h
  simp only [Ex.step] at hs
  split at hs
  ·obtain ⟨d, hd, rfl⟩ := Option.map_eq_some_iff.1 hs
   have := Ex.step_size (e := a) (by omega) hd
   simp only [Ex.size]; omega
  ·obtain ⟨p, rfl, rfl⟩ := Jc hs
   simp only [Ex.size]
   split <;> omega
 | .lt x a b, e', h, hs => by
  simp only [Ex.size] at h
  simp only [Ex.step] at hs
  split at hs
  ·obtain ⟨d, hd, rfl⟩ := Option.map_eq_some_iff.1 hs
   have := Ex.step_size (e := a) (by omega) hd
   simp only [Ex.size]; omega
  ·obtain rfl := (Option.some.inj hs).symm
   have h2 := Le b x a (b.count_size x)
   have h3 := R1 b.size (by omega)
   have h4 : b.size * (1 + a.size) ≤ b.size * (121 - b.size) := Nat.mul_le_mul_left _ (by omega)
   have h5 : b.size * (121 - b.size) ≤ b.size * (1 + b.size) * (121 - b.size) := Nat.mul_le_mul_right _ (Nat.le_mul_of_pos_right _ (by omega))
   simp only [Ex.size]; omega
 | .un o a, e', h, hs => by
  simp only [Ex.size] at h
  simp only [Ex.step] at hs
  split at hs
  ·obtain ⟨d, hd, rfl⟩ := Option.map_eq_some_iff.1 hs
   have := Ex.step_size (e := a) (by omega) hd
   simp only [Ex.size]; omega
  ·obtain ⟨p, q, rfl, rfl⟩ := Jj hs
   simp only [Ex.size] at h ⊢
   cases o <;> simp only [U2.pick] <;> omega
def Ex.go (e : Ex) : Option Ex := if e.value = true then none else e.step.bind fun e' => if e'.fine = true then some e' else none
def N6 (s : Au) : Option Au := (B7 s).bind fun e => e.go.map fun e' => e'.tree.text
def Ji (s : Au) : Bool := match B7 s with
 | some e => !e.value && e.step.isNone
 | none => false
def Ex.goes (e : Ex) : Nat → Ex × Nat
 | 0 => (e, 0)
 | n + 1 => match e.go with
  | some e' => ((e'.goes n).1, (e'.goes n).2 + 1)
  | none => (e, 0)
theorem Ab6 {e e' : Ex} (h : e.go = some e') : e.value = false ∧ e.step = some e' ∧ e'.fine = true := by
 unfold Ex.go at h
 split at h
 ·cases h
 ·rename_i hv
  cases hs : e.step with
  | none => rw [hs] at h; cases h
  | some d =>
   rw [hs] at h
   simp only [Option.bind_some] at h
   split at h
   ·rename_i hf; obtain rfl := Option.some.inj h; exact ⟨by simpa using hv, rfl, hf⟩
   ·cases h
theorem O5 {s : Au} {e : Ex} (h : B7 s = some e) : N6 s = e.go.map fun e' => e'.tree.text := by unfold N6; rw [h]; rfl
theorem Vl {s : Au} (h : B7 s = none) : N6 s = none := by unfold N6; rw [h]; rfl
theorem Gr {s : Au} {e : Ex} (h : B7 s = some e) : Ji s = (!e.value && e.step.isNone) := by unfold Ji; rw [h]
theorem Is {s : Au} (h : B7 s = none) : Ji s = false := by unfold Ji; rw [h]
theorem W2 {e : Ex} {l : List Au} {m : List Ty} {t : Ty} : e.ty l m = some t ↔ e.chk l m = .ok t := by
 unfold Ex.ty
 cases e.chk l m with
 | ok u => simp
 | error x => simp
theorem Abn {e : Ex} (h : e.occ [] = []) {l l' : List Au} {m m' : List Ty} (hl : l.length = m.length) (hl' : l'.length = m'.length) : e.ty l m = e.ty l' m' := by
 unfold Ex.ty
 rw [Ex.chk_congr (l' := l') (m' := m') hl hl' (fun x hx => by rw [h] at hx; cases hx)]
theorem Wv {e v : Ex} {n : Au} {k t : Ty} {l : List Au} {m : List Ty} (hl : l.length = m.length) (hv : v.ty [] [] = some k) (hn : Fb l m n = some k) (he : e.ty l m = some t) : (e.put n v).ty l m = some t :=
 W2.2 (Ex.put_chk hl (W2.1 hv) hn (W2.1 he))
theorem Pi {e e' : Ex} {t : Ty} (hok : e.ok = true) (hc : e.occ [] = []) (hs : e.turn = some e') (hs' : e'.occ [] = []) (h : e.ty [] [] = some t) : e'.ty [] [] = some t := by
 cases e with
 | num s => cases hs
 | name s => cases hs
 | fn f x s u b => cases hs
 | bin o a b =>
  simp only [Ex.ok, Bool.and_eq_true] at hok
  rw [ty_bin] at h; obtain ⟨p, hp, h'⟩ := Option.bind_eq_some_iff.1 h; clear h; have h := h'; clear h'; obtain ⟨q, hq, h'⟩ := Option.bind_eq_some_iff.1 h; clear h; have h := h'; clear h'
  rcases Ew hs with ⟨f, x, s, u, c, rfl, rfl, rfl⟩ | ⟨y, z, ho, rfl, rfl, rfl⟩
  ·have hpf := hp
   rw [ty_fn] at hp
   split at hp
   ·rename_i hsz
    obtain ⟨r, hr, hp⟩ := Option.bind_eq_some_iff.1 hp
    split at hp
    ·rename_i hru
     subst hru; obtain rfl := Option.some.inj hp
     replace h : (if s = q then some r else none) = some t := h
     split at h
     ·rename_i hsq
      subst hsq; obtain rfl := Option.some.inj h
      have hfx : f ≠ x := by
       have := hok.1
       simp only [Ex.ok, Bool.and_eq_true, decide_eq_true_eq] at this
       exact this.1.1.1.2
      have h1 := Wv (n := f) (l := [] ++ [f, x]) (m := [] ++ [.fn s r, s]) rfl hpf (by rw [Ia rfl, if_neg (Ne.symm hfx), if_pos rfl]) hr
      have h2 := Wv (n := x) (l := [] ++ [f, x]) (m := [] ++ [.fn s r, s]) rfl hq (by rw [Ia rfl, if_pos rfl]) h1
      rw [Abn hs' (l' := [] ++ [f, x]) (m' := [] ++ [.fn s r, s]) rfl rfl]; exact h2
     ·cases h
    ·cases hp
   ·cases hp
  ·have ht : t = .i := by
    cases o <;> first | (cases ho; done) | skip
    all_goals
     replace h : (if p = .i ∧ q = .i then some Ty.i else none) = some t := h
     split at h
     ·exact (Option.some.inj h).symm
     ·cases h
   rw [ht]; rfl
 | ite a b c =>
  rw [ty_ite] at h; obtain ⟨p, hp, h'⟩ := Option.bind_eq_some_iff.1 h; clear h; have h := h'; clear h'; obtain ⟨q, hq, h'⟩ := Option.bind_eq_some_iff.1 h; clear h; have h := h'; clear h'; obtain ⟨r, hr, h'⟩ := Option.bind_eq_some_iff.1 h; clear h; have h := h'; clear h'
  split at h
  ·rename_i hi
   obtain rfl := Option.some.inj h; obtain ⟨y, rfl, rfl⟩ := Jc hs
   split
   ·exact hq
   ·rw [hi.2]; exact hr
  ·cases h
 | lt x a b =>
  rw [ty_lt] at h; obtain ⟨p, hp, h'⟩ := Option.bind_eq_some_iff.1 h; clear h; have h := h'; clear h'; obtain rfl := (Option.some.inj hs).symm
  have h1 := Wv (n := x) (l := [] ++ [x]) (m := [] ++ [p]) rfl hp (by rw [H3 rfl, if_pos rfl]) h
  rw [Abn hs' (l' := [] ++ [x]) (m' := [] ++ [p]) rfl rfl]; exact h1
 | un o a =>
  rw [ty_un] at h; obtain ⟨p, hp, h'⟩ := Option.bind_eq_some_iff.1 h; clear h; have h := h'; clear h'; obtain ⟨y, z, rfl, rfl⟩ := Jj hs; rw [ty_bin] at hp; obtain ⟨q, hq, hp⟩ := Option.bind_eq_some_iff.1 hp; obtain ⟨r, hr, hp⟩ := Option.bind_eq_some_iff.1 hp
  have hp : (if (Ty.pr q r).size ≤ 16 then some (Ty.pr q r) else none) = some p := hp
  split at hp
  ·obtain rfl := Option.some.inj hp
   cases o with
   | fst => obtain rfl := Option.some.inj (show some q = some t from h); exact hq
   | snd => obtain rfl := Option.some.inj (show some r = some t from h); exact hr
  ·cases hp
theorem H0 : ∀ {e e' : Ex} {t : Ty}, e.ok = true → e.occ [] = [] → e.step = some e' → e.ty [] [] = some t → e'.ty [] [] = some t
 | .num _, e', t, hok, hc, hs, h => by cases hs
 | .name _, e', t, hok, hc, hs, h => by cases hs
 | .fn _ _ _ _ _, e', t, hok, hc, hs, h => by cases hs
 | .bin o a b, e', t, hok, hc, hs, h => by
  have hs0 := hs
  have hok0 := hok
  obtain ⟨h1, h2⟩ := Ey (show a.occ [] ++ b.occ [] = [] from hc)
  simp only [Ex.ok, Bool.and_eq_true] at hok
  simp only [Ex.step] at hs
  split at hs
  ·obtain ⟨c, hd, rfl⟩ := Option.map_eq_some_iff.1 hs; rw [ty_bin] at h ⊢; obtain ⟨p, hp, h'⟩ := Option.bind_eq_some_iff.1 h; clear h; have h := h'; clear h'; rw [H0 hok.1 h1 hd hp]; exact h
  ·split at hs
   ·obtain ⟨c, hd, rfl⟩ := Option.map_eq_some_iff.1 hs; rw [ty_bin] at h ⊢; obtain ⟨p, hp, h'⟩ := Option.bind_eq_some_iff.1 h; clear h; have h := h'; clear h'; obtain ⟨q, hq, h'⟩ := Option.bind_eq_some_iff.1 h; clear h; have h := h'; clear h'; rw [hp, Option.bind_some, H0 hok.2 h2 hd hq]; exact h
   ·exact Pi hok0 hc hs (Ex.step_closed hc hs0) h
 | .ite a b c, e', t, hok, hc, hs, h => by
  have hs0 := hs
  have hok0 := hok
  obtain ⟨h1, h3⟩ := Ey (show (a.occ [] ++ b.occ []) ++ c.occ [] = [] from hc); obtain ⟨h1, h2⟩ := Ey h1
  simp only [Ex.ok, Bool.and_eq_true] at hok
  simp only [Ex.step] at hs
  split at hs
  ·obtain ⟨d, hd, rfl⟩ := Option.map_eq_some_iff.1 hs; rw [ty_ite] at h ⊢; obtain ⟨p, hp, h'⟩ := Option.bind_eq_some_iff.1 h; clear h; have h := h'; clear h'; rw [H0 hok.1.1 h1 hd hp]; exact h
  ·exact Pi hok0 hc hs (Ex.step_closed hc hs0) h
 | .lt x a b, e', t, hok, hc, hs, h => by
  have hs0 := hs
  have hok0 := hok
  obtain ⟨h1, h2⟩ := Ey (show a.occ [] ++ b.occ ([] ++ [x]) = [] from hc)
  simp only [Ex.ok, Bool.and_eq_true] at hok
  simp only [Ex.step] at hs
  split at hs
  ·obtain ⟨d, hd, rfl⟩ := Option.map_eq_some_iff.1 hs; rw [ty_lt] at h ⊢; obtain ⟨p, hp, h'⟩ := Option.bind_eq_some_iff.1 h; clear h; have h := h'; clear h'; rw [H0 hok.1.2 h1 hd hp]; exact h
  ·exact Pi hok0 hc hs (Ex.step_closed hc hs0) h
 | .un o a, e', t, hok, hc, hs, h => by
  have hs0 := hs
  have hok0 := hok
  have h1 : a.occ [] = [] := hc
  have hok1 : a.ok = true := hok
  simp only [Ex.step] at hs
  split at hs
  ·obtain ⟨d, hd, rfl⟩ := Option.map_eq_some_iff.1 hs; rw [ty_un] at h ⊢; obtain ⟨p, hp, h'⟩ := Option.bind_eq_some_iff.1 h; clear h; have h := h'; clear h'; rw [H0 hok1 h1 hd hp]; exact h
  ·exact Pi hok0 hc hs (Ex.step_closed hc hs0) h
theorem Tt {e : Ex} (hv : e.value = true) (h : e.ty [] [] = some .i) : ∃ s, e = .num s := by
 cases e with
 | num s => exact ⟨s, rfl⟩
 | fn f x s t b =>
  rw [ty_fn] at h
  split at h
  ·obtain ⟨u, _, h'⟩ := Option.bind_eq_some_iff.1 h; clear h; have h := h'; clear h'
   split at h <;> cases h
  ·cases h
 | bin o a b =>
  cases o <;> first | (cases hv; done) | skip
  rw [ty_bin] at h; obtain ⟨p, _, h'⟩ := Option.bind_eq_some_iff.1 h; clear h; have h := h'; clear h'; obtain ⟨q, _, h'⟩ := Option.bind_eq_some_iff.1 h; clear h; have h := h'; clear h'
  replace h : (if (Ty.pr p q).size ≤ 16 then some (Ty.pr p q) else none) = some Ty.i := h
  split at h <;> cases h
 | _ => cases hv
theorem Abp {e : Ex} {a b : Ty} (hv : e.value = true) (h : e.ty [] [] = some (.fn a b)) : ∃ f x s t c, e = .fn f x s t c := by
 cases e with
 | num s => cases h
 | fn f x s t b => exact ⟨f, x, s, t, b, rfl⟩
 | bin o p q =>
  cases o <;> first | (cases hv; done) | skip
  rw [ty_bin] at h; obtain ⟨p, _, h'⟩ := Option.bind_eq_some_iff.1 h; clear h; have h := h'; clear h'; obtain ⟨q, _, h'⟩ := Option.bind_eq_some_iff.1 h; clear h; have h := h'; clear h'
  replace h : (if (Ty.pr p q).size ≤ 16 then some (Ty.pr p q) else none) = some (Ty.fn a b) := h
  split at h <;> cases h
 | _ => cases hv
theorem Abq {e : Ex} {a b : Ty} (hv : e.value = true) (h : e.ty [] [] = some (.pr a b)) : ∃ p q, e = .bin .pair p q := by
 cases e with
 | num s => cases h
 | fn f x s t c =>
  rw [ty_fn] at h
  split at h
  ·obtain ⟨u, _, h'⟩ := Option.bind_eq_some_iff.1 h; clear h; have h := h'; clear h'
   split at h <;> cases h
  ·cases h
 | bin o p q =>
  cases o <;> first | (cases hv; done) | skip
  exact ⟨p, q, rfl⟩
 | _ => cases hv
theorem F8 : ∀ {e : Ex} {t : Ty}, e.ty [] [] = some t → e.value = true ∨ ∃ e', e.step = some e'
 | .num _, t, h => .inl rfl
 | .name s, t, h => by rw [ty_name] at h; cases h
 | .fn _ _ _ _ _, t, h => .inl rfl
 | .bin o a b, t, h => by
  rw [ty_bin] at h; obtain ⟨p, hp, h'⟩ := Option.bind_eq_some_iff.1 h; clear h; have h := h'; clear h'; obtain ⟨q, hq, h'⟩ := Option.bind_eq_some_iff.1 h; clear h; have h := h'; clear h'
  cases hva : a.value with
  | false =>
   rcases F8 hp with h1 | ⟨c, hc⟩
   ·rw [hva] at h1; cases h1
   ·right; simp only [Ex.step, hva, if_true, hc]; exact ⟨_, rfl⟩
  | true =>
   cases hvb : b.value with
   | false =>
    rcases F8 hq with h1 | ⟨c, hc⟩
    ·rw [hvb] at h1; cases h1
    ·right
     simp only [Ex.step, hva, hvb, Bool.true_eq_false, if_false, if_true, hc]; exact ⟨_, rfl⟩
   | true =>
    have hst : (Ex.bin o a b).step = (Ex.bin o a b).turn := by simp only [Ex.step, hva, hvb, Bool.true_eq_false, if_false]
    rw [hst]
    cases o with
    | pair => left; simp only [Ex.value, hva, hvb, Bool.and_self]
    | call =>
     right
     cases p with
     | fn x y =>
      obtain ⟨f, z, s, u, c, rfl⟩ := Abp hva hp
      exact ⟨_, rfl⟩
     | _ => cases h
    | _ =>
     right
     replace h : (if p = .i ∧ q = .i then some Ty.i else none) = some t := h
     split at h
     ·rename_i hpq
      obtain ⟨rfl, rfl⟩ := hpq; obtain ⟨x, rfl⟩ := Tt hva hp; obtain ⟨y, rfl⟩ := Tt hvb hq
      exact ⟨_, rfl⟩
     ·cases h
 | .ite a b c, t, h => by
  right
  rw [ty_ite] at h; obtain ⟨p, hp, h'⟩ := Option.bind_eq_some_iff.1 h; clear h; have h := h'; clear h'; obtain ⟨q, hq, h'⟩ := Option.bind_eq_some_iff.1 h; clear h; have h := h'; clear h'; obtain ⟨r, hr, h'⟩ := Option.bind_eq_some_iff.1 h; clear h; have h := h'; clear h'
  cases hva : a.value with
  | false =>
   rcases F8 hp with h1 | ⟨d, hd⟩
   ·rw [hva] at h1; cases h1
   ·simp only [Ex.step, hva, if_true, hd]; exact ⟨_, rfl⟩
  | true =>
   split at h
   ·rename_i hi
    obtain ⟨rfl, _⟩ := hi; obtain ⟨x, rfl⟩ := Tt hva hp
    simp only [Ex.step, hva, Bool.true_eq_false, if_false]
    exact ⟨_, rfl⟩
   ·cases h
 | .lt x a b, t, h => by
  right
  rw [ty_lt] at h; obtain ⟨p, hp, h'⟩ := Option.bind_eq_some_iff.1 h; clear h; have h := h'; clear h'
  cases hva : a.value with
  | false =>
   rcases F8 hp with h1 | ⟨d, hd⟩
   ·rw [hva] at h1; cases h1
   ·simp only [Ex.step, hva, if_true, hd]; exact ⟨_, rfl⟩
  | true => simp only [Ex.step, hva, Bool.true_eq_false, if_false]; exact ⟨_, rfl⟩
 | .un o a, t, h => by
  right
  rw [ty_un] at h; obtain ⟨p, hp, h'⟩ := Option.bind_eq_some_iff.1 h; clear h; have h := h'; clear h'
  cases hva : a.value with
  | false =>
   rcases F8 hp with h1 | ⟨d, hd⟩
   ·rw [hva] at h1; cases h1
   ·simp only [Ex.step, hva, if_true, hd]; exact ⟨_, rfl⟩
  | true =>
   simp only [Ex.step, hva, Bool.true_eq_false, if_false]
   cases p with
   | pr x y =>
    obtain ⟨p, q, rfl⟩ := Abq hva hp
    cases o <;> exact ⟨_, rfl⟩
   | _ => cases o <;> cases h
theorem W6 : ∀ {e : Ex}, e.value = true → e.step = none
 | .num _, h => rfl
 | .name _, h => rfl
 | .fn _ _ _ _ _, h => rfl
 | .bin o a b, h => by
  cases o <;> first | (cases h; done) | skip
  simp only [Ex.value, Bool.and_eq_true] at h
  simp only [Ex.step, h.1, h.2, Bool.true_eq_false, if_false]
  cases a with
  | num p => cases b <;> rfl
  | _ => rfl
def Ae1 (s : Au) (n : Int) : Option (Au × Nat) := if 0 ≤ n ∧ n ≤ 500 then (B7 s).map fun e => ((e.goes n.toNat).1.tree.text, (e.goes n.toNat).2) else none
open Go.Shelf
def Uz : Go.Shelf.Ren := ⟨fun | 172 => 113 | 244 => 156 | 245 => 157 | 247 => 188 | 279 => 189 | 280 => 190 | 281 => 191 | 282 => 192 | 287 => 202 | 316 => 203 | 171 => 158 | 205 => 204 | 321 => 210 | 322 => 211 | 243 => 193 | 246 => 205 | 283 => 212 | 284 => 213 | 285 => 214 | 286 => 215 | 129 => 217 | 317 => 216 | 318 => 218 | 319 => 219 | 320 => 220 | 337 => 221 | 338 => 222 | n => n, fun | 9 => 9 | 3 => 3 | 75 => 112 | 76 => 113 | 4 => 4 | 5 => 5 | 167 => 191 | 37 => 22 | 0 => 0 | 85 => 192 | 2 => 2 | 168 => 194 | 53 => 201 | 175 => 202 | 46 => 204 | 210 => 207 | 127 => 115 | 145 => 214 | 143 => 212 | 21 => 21 | 171 => 215 | 173 => 218 | 212 => 221 | 51 => 222 | 20 => 20 | 213 => 223 | 232 => 227 | 233 => 228 | 80 => 63 | n => n, fun | 15 => 0 | 16 => 1 | 17 => 2 | 18 => 3 | 19 => 4 | n => n⟩
theorem Acc : Go.Proofs.Lays.n172 Tryz.prog Uz := {
 mixed := by kernel_rfl
 f129 := Tryz.func217.trans (congrArg some (by kernel_rfl))
 f171 := Tryz.func158.trans (congrArg some (by kernel_rfl))
 f172 := Tryz.func113.trans (congrArg some (by kernel_rfl))
 f205 := Tryz.func204.trans (congrArg some (by kernel_rfl))
 f243 := Tryz.func193.trans (congrArg some (by kernel_rfl))
 f244 := Tryz.func156.trans (congrArg some (by kernel_rfl))
 f245 := Tryz.func157.trans (congrArg some (by kernel_rfl))
 f246 := Tryz.func205.trans (congrArg some (by kernel_rfl))
 f247 := Tryz.func188.trans (congrArg some (by kernel_rfl))
 f279 := Tryz.func189.trans (congrArg some (by kernel_rfl))
 f280 := Tryz.func190.trans (congrArg some (by kernel_rfl))
 f281 := Tryz.func191.trans (congrArg some (by kernel_rfl))
 f282 := Tryz.func192.trans (congrArg some (by kernel_rfl))
 f283 := Tryz.func212.trans (congrArg some (by kernel_rfl))
 f284 := Tryz.func213.trans (congrArg some (by kernel_rfl))
 f285 := Tryz.func214.trans (congrArg some (by kernel_rfl))
 f286 := Tryz.func215.trans (congrArg some (by kernel_rfl))
 f287 := Tryz.func202.trans (congrArg some (by kernel_rfl))
 f316 := Tryz.func203.trans (congrArg some (by kernel_rfl))
 f317 := Tryz.func216.trans (congrArg some (by kernel_rfl))
 f318 := Tryz.func218.trans (congrArg some (by kernel_rfl))
 f319 := Tryz.func219.trans (congrArg some (by kernel_rfl))
 f320 := Tryz.func220.trans (congrArg some (by kernel_rfl))
 f321 := Tryz.func210.trans (congrArg some (by kernel_rfl))
 f322 := Tryz.func211.trans (congrArg some (by kernel_rfl))
 f337 := Tryz.func221.trans (congrArg some (by kernel_rfl))
 f338 := Tryz.func222.trans (congrArg some (by kernel_rfl))
 t0 := Tryz.underlying0
 a0 := Tryz.isAgg0
 z0 := Tryz.sizeOf0
 v0 := Tryz.zeroValue0
 t2 := Tryz.underlying2
 a2 := Tryz.isAgg2
 z2 := Tryz.sizeOf2
 v2 := Tryz.zeroValue2
 t3 := Tryz.underlying3
 a3 := Tryz.isAgg3
 z3 := Tryz.sizeOf3
 v3 := Tryz.zeroValue3
 t4 := Tryz.underlying4
 a4 := Tryz.isAgg4
 z4 := Tryz.sizeOf4
 v4 := Tryz.zeroValue4
 t5 := Tryz.underlying5
 a5 := Tryz.isAgg5
 z5 := Tryz.sizeOf5
 v5 := Tryz.zeroValue5
 t9 := Tryz.underlying9
 a9 := Tryz.isAgg9
 z9 := Tryz.sizeOf9
 v9 := Tryz.zeroValue9
 t20 := Tryz.underlying20
 a20 := Tryz.isAgg20
 z20 := Tryz.sizeOf20
 v20 := Tryz.zeroValue20
 t21 := Tryz.underlying21
 a21 := Tryz.isAgg21
 z21 := Tryz.sizeOf21
 v21 := Tryz.zeroValue21
 t37 := Tryz.underlying22
 a37 := Tryz.isAgg22
 z37 := Tryz.sizeOf22
 v37 := Tryz.zeroValue22
 t46 := Tryz.underlying204
 a46 := Tryz.isAgg204
 z46 := Tryz.sizeOf204
 v46 := Tryz.zeroValue204
 t51 := Tryz.underlying222
 a51 := Tryz.isAgg222
 z51 := Tryz.sizeOf222
 v51 := Tryz.zeroValue222
 t53 := Tryz.underlying201
 a53 := Tryz.isAgg201
 z53 := Tryz.sizeOf201
 v53 := Tryz.zeroValue201
 t75 := Tryz.underlying112
 a75 := Tryz.isAgg112
 z75 := Tryz.sizeOf112
 v75 := Tryz.zeroValue112
 t76 := Tryz.underlying113
 a76 := Tryz.isAgg113
 z76 := Tryz.sizeOf113
 v76 := Tryz.zeroValue113
 t85 := Tryz.underlying192
 a85 := Tryz.isAgg192
 z85 := Tryz.sizeOf192
 v85 := Tryz.zeroValue192
 t127 := Tryz.underlying115
 a127 := Tryz.isAgg115
 z127 := Tryz.sizeOf115
 v127 := Tryz.zeroValue115
 t143 := Tryz.underlying212
 a143 := Tryz.isAgg212
 z143 := Tryz.sizeOf212
 v143 := Tryz.zeroValue212
 t145 := Tryz.underlying214
 a145 := Tryz.isAgg214
 z145 := Tryz.sizeOf214
 v145 := Tryz.zeroValue214
 t167 := Tryz.underlying191
 a167 := Tryz.isAgg191
 z167 := Tryz.sizeOf191
 v167 := Tryz.zeroValue191
 t168 := Tryz.underlying194
 a168 := Tryz.isAgg194
 z168 := Tryz.sizeOf194
 v168 := Tryz.zeroValue194
 t171 := Tryz.underlying215
 a171 := Tryz.isAgg215
 z171 := Tryz.sizeOf215
 v171 := Tryz.zeroValue215
 t173 := Tryz.underlying218
 a173 := Tryz.isAgg218
 z173 := Tryz.sizeOf218
 v173 := Tryz.zeroValue218
 t175 := Tryz.underlying202
 a175 := Tryz.isAgg202
 z175 := Tryz.sizeOf202
 v175 := Tryz.zeroValue202
 t210 := Tryz.underlying207
 a210 := Tryz.isAgg207
 z210 := Tryz.sizeOf207
 v210 := Tryz.zeroValue207
 t212 := Tryz.underlying221
 a212 := Tryz.isAgg221
 z212 := Tryz.sizeOf221
 v212 := Tryz.zeroValue221
 t213 := Tryz.underlying223
 a213 := Tryz.isAgg223
 z213 := Tryz.sizeOf223
 t232 := Tryz.underlying227
 a232 := Tryz.isAgg227
 z232 := Tryz.sizeOf227
 v232 := Tryz.zeroValue227
 t233 := Tryz.underlying228
 a233 := Tryz.isAgg228
 z233 := Tryz.sizeOf228
 v233 := Tryz.zeroValue228
 g15 := by kernel_rfl
 g16 := by kernel_rfl
 g17 := by kernel_rfl
 g18 := by kernel_rfl
 g19 := by kernel_rfl }
theorem Mem.frozenAt {I : Heap} {L : Bl} {b k m : Nat} {o : Obj} {w : World} (h : Mem I ((b, o) :: L) w) : Mem I L (w.freeze ⟨b, k, none⟩ m) := by
 obtain ⟨h1, h2, h3⟩ := h
 have hb := h2 (b, o) (.head _)
 have hn : b ∉ L.map (·.1) ∧ (L.map (·.1)).Nodup := List.nodup_cons.1 h3
 unfold World.freeze
 split
 ·exact ⟨h1, fun p hp => h2 p (.tail _ hp), hn.2⟩
 ·refine ⟨⟨fun c u hc => ?_, h1.2⟩, fun p hp => ⟨?_, (h2 p (.tail _ hp)).2⟩, hn.2⟩
  ·have hne : b ≠ c := fun e => by subst e; rw [hb.2] at hc; cases hc
   simp only [Array.getElem?_modify, if_neg hne]
   exact h1.1 c u hc
  ·have hne : b ≠ p.1 := fun e => hn.1 (e ▸ List.mem_map.2 ⟨p, hp, rfl⟩)
   simp only [Array.getElem?_modify, if_neg hne]
   exact (h2 p (.tail _ hp)).1
theorem Ob : ∀ (l : Au) (a : Nat), l.all E1 = true → Lib.decFrom a l = some (l.foldl (fun n b => 10 * n + (b.toNat - 48)) a)
 | [], a, _ => rfl
 | b :: r, a, h => by
  simp only [List.all_cons, Bool.and_eq_true] at h
  have hb : 48 ≤ b.toNat ∧ b.toNat ≤ 57 := by have := h.1; simpa [E1] using this
  have := Ob r (a * 10 + (b.toNat - 48)) h.2
  rw [Nat.mul_comm a 10] at this
  simp only [Lib.decFrom, Lib.digitVal, if_pos hb, List.foldl_cons]
  rw [Nat.mul_comm a 10]; exact this
theorem V7 {l : Au} (h : l.all E1 = true) (h1 : 1 ≤ l.length) : Lib.decNat l = some (Eb l) := by
 unfold Lib.decNat
 rw [if_neg (by cases l <;> simp at h1 ⊢)]
 exact Ob l 0 h
theorem Zs {s : Au} (h : Bt s = true) : Lib.atoi s = some (Cc s) := by
 unfold Cc
 split
 ·rename_i h0; subst h0; rfl
 ·rename_i h0
  simp only [Bt, h0, decide_false, Bool.false_or, Bool.and_eq_true, decide_eq_true_eq] at h
  have h1 := V7 h.1.2 h.1.1.1
  cases s with
  | nil => simp [Dw] at h
  | cons b r =>
   simp only [List.getD_cons_zero] at *
   by_cases h45 : b.toNat = 45
   ·have hb : (b == 45) = true := by simpa using UInt8.toNat_inj.1 (by rw [h45]; rfl)
    have hu : Dw (b :: r) = r := by unfold Dw; simp [h45]
    rw [hu] at h1 ⊢
    simp only [Lib.atoi, hb, if_true, h1, h45]
    simp
   ·have hb : (b == 45) = false := by
     simp only [beq_eq_false_iff_ne]; intro e; exact h45 (by rw [e]; rfl)
    have hu : Dw (b :: r) = b :: r := by unfold Dw; simp [h45]
    rw [hu] at h1 h ⊢
    have hd : E1 b = true := by have := h.1.2; simp only [List.all_cons, Bool.and_eq_true] at this; exact this.1
    have h43 : (b == 43) = false := by
     simp only [beq_eq_false_iff_ne]; intro e; rw [e] at hd; exact absurd hd (by decide)
    simp only [Lib.atoi, hb, h43, Bool.false_eq_true, if_false, h1, h45]
    simp
theorem Uk (s : Au) (hs : Bt s = true) (I : Heap) (L : Bl) : Fun Tryz.prog 64 [.string (str s)] I L (D2 (.int .i64 (Cc s)) I L) := by
 have hat : Fun Tryz.prog 113 [.string (str s)] I L (D2 (.tuple #[.int .i64 (Cc s), .nilIface]) I L) := by
  refine ⟨fun w hm => (Any.strconv_Atoi Acc (str s) (Cc s) ?_ ?_ w).mono ?_⟩
  ·have := Iv hs
   show s.toArray.size ≤ 18
   simp; omega
  ·show Lib.atoi (s.toArray.toList) = _
   exact Zs hs
  ·rintro e w' ⟨rfl, t, rfl⟩
   exact ⟨_, I, L, rfl, .refl _, Mem.frozenAt (hm.alloc _), rfl, rfl, rfl⟩
 refine Ai (by simp) ?_; refine Se rfl (Oa rfl (Aa (Se rfl (Om rfl ?_)))); refine Ce rfl .free rfl hat ?_; rintro _ _ _ _ ⟨rfl, rfl, rfl⟩; refine Om rfl (Oe rfl rfl (Oe rfl rfl (Oa rfl (Oa rfl (Aa (Se rfl (Om rfl (Oa rfl (Aa (Ad (.tmp rfl .nil) ?_)))))))))); refine only rfl ?_
 simp [Cw, *]
end Go.Proofs.YtmfagaajiakgoaaGreatDoor
