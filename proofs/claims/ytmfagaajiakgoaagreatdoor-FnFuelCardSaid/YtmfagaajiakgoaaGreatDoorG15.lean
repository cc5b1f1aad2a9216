/- Plain names given to an expression, by the program. No conditions. -/
import Derived.Test.YtmfagaajiakgoaaGreatDoorG14
import Derived.LaidSub
import Derived.Lib.LaidTab

namespace Go.Proofs.YtmfagaajiakgoaaGreatDoor
set_option maxRecDepth 100000
set_option linter.unusedVariables false
set_option linter.unusedSimpArgs false

def PE (b : Nat) (oa : Option Addr) (av : List As) (c g : Nat) (p : Ex × Nat) (L : Bl) : Cx := fun v I' L' => ∃ cs, v = .agg (List.toArray cs) ∧ Rep I' p.1.tree cs ∧ L' = pn b oa av c g p.2 :: L
set_option maxHeartbeats 2000000 in
theorem Qn : ∀ (n : Nat) {I : Heap} {e : Ex} {cs : List Value} (_ : SizeOf.sizeOf e < n) (_ : Rep I e.tree cs) (_ : e.ok = true) {f t : List As} {of ot : Option Addr} {cf ct : Nat} (_ : Strs I of f cf) (_ : Strs I ot t ct) (_ : f.length = t.length) (_ : namesL f) (_ : f.length + 2 * e.size ≤ 100000)
  {oa : Option Addr} {av : List As} {c : Nat} (_ : Strs I oa av c) (b g k : Nat) (_ : k + e.nb + av.length ≤ 90 + Kq 120 av k) (_ : g + e.nb ≤ 100000) (L : Bl),
  Fun Tryz.prog 92 [.pointer (some ⟨b, 0, none⟩), .agg cs.toArray, .slice of f.length cf, .slice ot t.length ct] I (pn b oa av c g k :: L) (PE b oa av c (g + e.nb) (e.pl av f t k) L) := by
 intro n
 induction n with
 | zero => intro I e cs h; omega
 | succ n ihn =>
  intro I e cs hlt h hok f t of ot cf ct hfr hto hft hnf hfl ov av cv hav bp g k hk hg L; obtain ⟨oa, c, oaf, cf1, rfl, hf, hcl, hcs⟩ := h.cells
  have hle : HLe I I := .refl _
  have ha := hf.alen
  have hh0 := Fp 120 av k
  refine Ao Ad ?_; refine Se rfl ?_; refine Cg rfl rfl .free rfl ?_; intro b5; refine A5 .free rfl ?_; intro b8; refine Ab (Ah (Se rfl ?_)); refine Bj rfl .free rfl ?_; refine Ca rfl (Cs hf.rep _) ?_; rintro _ _ _ _ ⟨rfl, rfl, rfl⟩; refine Ab ?_; refine Az rfl ?_ ?_
  ·intro c0
   try simp only [nb] at c0
   have hb : e.bare = true := by rw [Ex.bare_parts]; exact c0
   refine Ah (Se rfl (Om rfl (Oh rfl ?_))); refine A9 rfl .free rfl ?_; refine Ca rfl (Vj hfr e.tree.atom _) ?_; rintro _ _ _ _ ⟨rfl, rfl, rfl⟩; refine Oa rfl (Ab (Se rfl (Om rfl (Oc rfl rfl rfl (Ab ?_))))); refine Az rfl ?_ ?_
   ·intro c1
    try simp only [nb] at c1
    obtain ⟨i, hi⟩ : ∃ i, Bw f e.tree.atom = some i := by
     cases hi : Bw f e.tree.atom with
     | none => rw [hi] at c1; simp [Xh] at c1
     | some i => exact ⟨i, rfl⟩
    have hil := (K4 (show Ft f e.tree.atom f.length = some i from hi)).1
    have hit : i < t.length := by omega
    have hst := hto.st i hit
    rw [hi]; refine Se rfl (Om rfl (Om rfl ?_))
    first | refine Bh rfl rfl _ rfl .free rfl ?_ | refine Bi rfl rfl _ rfl .free rfl ?_
    refine Et rfl .free rfl ?_; refine Ca rfl (M1 (t.getD i []) (by rw [show t.getD i [] = t[i] by simp [hit]]; exact hto.each _ (List.getElem_mem _)) _ _) ?_; rintro _ _ _ _ ⟨rfl, rfl, rfl⟩; refine By rfl rfl rfl rfl .free ?_; refine Ab ?_; refine Al (.c rfl .nil) ?_
    cases e with
    | name s =>
     have hi : Bw f s = some i := hi
     refine ⟨I, _, .refl _, fun w h => Mem.sub (L' := pn bp ov av cv g k :: L) Bf h, _, rfl, ?_, rfl⟩
     show Rep I (.node (match Bw f s with | some i => t.getD i [] | none => s) []) _
     rw [hi]
     exact .ofAtom (show (t.getD i []).length ≤ Bd by rw [show t.getD i [] = t[i] by simp [hit]]; exact hto.each _ (List.getElem_mem _))
    | num s =>
     have h1 := G3 (hnf s (Ih hi))
     rw [show Bz s = true from hok] at h1; cases h1
    | _ => cases hb
   intro c1
   try simp only [nb] at c1
   refine Aj (Se rfl ?_); refine Bj rfl .free rfl ?_; refine By rfl rfl rfl rfl .free ?_; refine Ab ?_; refine Al (.c rfl .nil) ?_
   cases e with
   | name s =>
    have hi : Bw f s = none := by
     cases hi : Bw f s with
     | none => rfl
     | some i => rw [show Bw f (Ex.name s).tree.atom = some i from hi] at c1; simp [Xh] at c1
    refine ⟨I, _, .refl _, fun w h => Mem.sub (L' := pn bp ov av cv g k :: L) Bf h, _, rfl, ?_, rfl⟩
    show Rep I (.node (match Bw f s with | some i => t.getD i [] | none => s) []) _
    rw [hi]; exact hf.rep
   | num s => exact ⟨I, _, .refl _, fun w h => Mem.sub (L' := pn bp ov av cv g k :: L) Bf h, _, rfl, hf.rep, rfl⟩
   | _ => cases hb
  intro c0
  try simp only [nb] at c0
  have hb : e.bare = false := by rw [Ex.bare_parts]; exact c0
  have hsh := e.shapes hb
  have hok0 := hok
  have hpos : 0 < e.tree.parts.length := by
   rw [Ex.bare_parts] at hb
   have : e.tree.parts ≠ [] := by intro hh; rw [hh] at hb; cases hb
   exact List.length_pos_iff.2 this
  obtain ⟨xa, rfl⟩ : ∃ xa, oa = some xa := ⟨_, D5 hf.nil hpos⟩
  have hp := hf.len
  refine Aj (Se rfl (Oh rfl ?_)); refine A9 rfl .free rfl ?_; refine Ca rfl (Qq (hcs _ rfl) (by have := hcl.length; omega) hcl.plain hpos hp _) ?_; rintro _ _ _ _ ⟨bc, sp, cc, rfl, hcc, rfl, rfl⟩; refine Cp rfl rfl rfl .free rfl ?_; refine A5 .free rfl ?_; intro b10; refine By rfl rfl rfl rfl .free ?_; refine Ab (Ah ?_)
  rcases hsh with ⟨o, a, b, rfl⟩ | ⟨a, b, d, rfl⟩ | ⟨z, a, b, rfl⟩ | ⟨h1, z, s, u, b, rfl⟩ | ⟨o, a, rfl⟩
  ·skip
   have hlen : (Ex.bin o a b).tree.parts.length = 3 := rfl
   have hki := Nw o a b
   have hhd : (Ex.bin o a b).tree.head = o.txt := rfl
   simp only [Ex.bin.sizeOf_spec] at hlt
   simp only [Ex.ok, Bool.and_eq_true, decide_eq_true_eq] at hok
   simp only [Ex.nb] at hk hg ⊢
   simp only [Ex.size] at hfl
   obtain ⟨_, hrl⟩ : ∃ _ : True, RepL I (Ex.bin o a b).tree.parts _ := ⟨trivial, hcl⟩
   simp only [show (Ex.bin o a b).tree.parts = [.node o.txt [], a.tree, b.tree] from rfl, Gn, List.cons_append, List.nil_append] at hrl ⊢
   refine Cq (fun w h => h.f4) ?_; refine Am rfl (Oa rfl (Ab (Ah (Se rfl ?_)))); refine Bj rfl .free rfl ?_; refine Ca rfl (Cf hf.rep _) ?_; rintro _ _ _ _ ⟨rfl, rfl, rfl⟩; refine Ab (Ar (Se rfl (Od rfl rfl rfl (Oa rfl (Ab ?_)))))
   first | refine Ej rfl Hq ?_ | refine Ei rfl Hq ?_ | refine At Ak ?_
   refine Se rfl (Od rfl rfl rfl (Oa rfl (Ab ?_)))
   first | refine Ej rfl Hq ?_ | refine Ei rfl Hq ?_ | refine At Ak ?_
   refine Aj (Aq (Ah (Se rfl ?_))); refine Bj rfl .free rfl ?_; refine Ca rfl (D3 hf.rep _) ?_; rintro _ J _ e0 ⟨ok, ck, rfl, hk1, rfl⟩
   have hf := hf.mono e0
   have hfr := hfr.mono e0
   have hto := hto.mono e0
   have hav := hav.mono e0
   have hle := hle.trans e0
   rw [hki] at hk1; rw [hki]; refine On rfl (Om rfl (Ab (Ar ?_))); refine Ek ?_; refine Se rfl (Oc rfl rfl rfl (Ab (Ah ?_))); refine B9 rfl A8 ?_; refine Aj (Ah (Ar (Se rfl ?_)))
   first | refine Bh rfl rfl _ rfl .free rfl ?_ | refine Bi rfl rfl _ rfl .free rfl ?_
   refine Et rfl .free rfl ?_; refine Oa rfl (Ab (Se rfl (Om rfl (Om rfl (Oa rfl (Oa rfl (Ab (Ah (Se rfl ?_))))))))); refine Bj rfl .free rfl ?_; refine Om rfl ?_; refine Ca rfl (Cl hf.rep hok0 _ _) ?_; rintro _ J1 _ e1 ⟨o1, k1, rfl, hs1, rfl⟩
   have hf := hf.mono e1
   have hfr := hfr.mono e1
   have hto := hto.mono e1
   have hav := hav.mono e1
   have hle := hle.trans e1
   have hk1 := hk1.mono e1
   refine Oa rfl (Ab (Se rfl (Om rfl (On rfl (Oc rfl rfl rfl (Ab ?_))))))
   first | refine Ej rfl C7 ?_ | refine Ei rfl C7 ?_ | refine At Ak ?_
   refine Aj ?_; refine F3 fun hlr => ?_
   have hpl := a.pl_hits av (f) (t) k
   refine H5 14 rfl rfl ?_; refine Da 0 rfl (Ap rfl) ?_; refine Dt 1 [13] rfl (Bx rfl) ?_; refine Da 2 rfl (Ai rfl) ?_; refine Da 3 rfl (Ai rfl) ?_; refine Da 4 rfl (Ap rfl) ?_; refine Dt 5 [13] rfl (Bx rfl) ?_; refine Da 6 rfl (Ai rfl) ?_
   first | refine Da 7 rfl (Bp rfl rfl _ rfl) ?_ | refine Da 7 rfl (Bq rfl rfl _ rfl) ?_
   refine Dt 8 [13] rfl (Dz rfl) ?_; refine Da 9 rfl (Ai rfl) ?_; refine Da 10 rfl (Ai rfl) ?_; refine Dc 11 rfl rfl (ihn (f := f) (t := t) Aa (hf.as 1 a.tree Aa rfl) hok.1 hfr hto (by simp [hft]) hnf Dh hav bp _ _ Aa Aa _) ?_; rintro _ J2 _ e2 ⟨cs2, rfl, hr_0, rfl⟩; obtain ⟨o2, k2, _, rfl, -⟩ := hr_0.open
   have hlr := hlr.trans e2
   have hf := hf.mono e2
   have hfr := hfr.mono e2
   have hto := hto.mono e2
   have hav := hav.mono e2
   have hle := hle.trans e2
   have hk1 := hk1.mono e2
   refine Hx ?_
   first | refine Da 12 rfl (Bp rfl rfl _ rfl) ?_ | refine Da 12 rfl (Bq rfl rfl _ rfl) ?_
   refine Dx 13 rfl rfl rfl rfl ?_; refine Bg Af ?_; refine Aq (Am rfl ?_); refine Or rfl rfl rfl ?_; refine Om rfl (Ab ?_); refine B7 ?_; refine Se rfl (Oc rfl rfl rfl (Ab (Ah ?_))); refine B9 rfl A8 ?_; refine Aj (Ah (Ar (Se rfl ?_)))
   first | refine Bh rfl rfl _ rfl .free rfl ?_ | refine Bi rfl rfl _ rfl .free rfl ?_
   refine Et rfl .free rfl ?_; refine Oa rfl (Ab (Se rfl (Om rfl (Om rfl (Oa rfl (Oa rfl (Ab (Ah (Se rfl ?_))))))))); refine Bj rfl .free rfl ?_; refine Om rfl ?_; refine Ca rfl (Cl hf.rep hok0 _ _) ?_; rintro _ J1 _ e1 ⟨o1, k1, rfl, hs1, rfl⟩
   have hf := hf.mono e1
   have hfr := hfr.mono e1
   have hto := hto.mono e1
   have hav := hav.mono e1
   have hle := hle.trans e1
   have hk1 := hk1.mono e1
   have hr_0 := hr_0.mono e1
   refine Oa rfl (Ab (Se rfl (Om rfl (On rfl (Oc rfl rfl rfl (Ab ?_))))))
   first | refine Ej rfl C7 ?_ | refine Ei rfl C7 ?_ | refine At Ak ?_
   refine Aj ?_; refine F3 fun hlr => ?_
   have hpl := b.pl_hits av (f) (t) (a.pl av (f) (t) k).2
   refine H5 14 rfl rfl ?_; refine Da 0 rfl (Ap rfl) ?_; refine Dt 1 [13] rfl (Bx rfl) ?_; refine Da 2 rfl (Ai rfl) ?_; refine Da 3 rfl (Ai rfl) ?_; refine Da 4 rfl (Ap rfl) ?_; refine Dt 5 [13] rfl (Bx rfl) ?_; refine Da 6 rfl (Ai rfl) ?_
   first | refine Da 7 rfl (Bp rfl rfl _ rfl) ?_ | refine Da 7 rfl (Bq rfl rfl _ rfl) ?_
   refine Dt 8 [13] rfl (Dz rfl) ?_; refine Da 9 rfl (Ai rfl) ?_; refine Da 10 rfl (Ai rfl) ?_; refine Dc 11 rfl rfl (ihn (f := f) (t := t) Aa (hf.as 2 b.tree Aa rfl) hok.2 hfr hto (by simp [hft]) hnf Dh hav bp _ _ Aa Aa _) ?_; rintro _ J2 _ e2 ⟨cs2, rfl, hr_1, rfl⟩; obtain ⟨o2, k2, _, rfl, -⟩ := hr_1.open
   have hlr := hlr.trans e2
   have hf := hf.mono e2
   have hfr := hfr.mono e2
   have hto := hto.mono e2
   have hav := hav.mono e2
   have hle := hle.trans e2
   have hk1 := hk1.mono e2
   have hr_0 := hr_0.mono e2
   refine Hx ?_
   first | refine Da 12 rfl (Bp rfl rfl _ rfl) ?_ | refine Da 12 rfl (Bq rfl rfl _ rfl) ?_
   refine Dx 13 rfl rfl rfl rfl ?_; refine Bg Af ?_; refine Aq (Am rfl ?_); refine Or rfl rfl rfl ?_; refine Om rfl (Ab ?_); refine B7 ?_; refine Se rfl (Oc rfl rfl rfl (Ab (Ah ?_))); refine Dw rfl A8 ?_; refine Cd rfl ?_; refine Se rfl ?_; refine Bj rfl .free rfl ?_; refine By rfl rfl rfl rfl .free ?_; refine Ab ?_; refine Cq (fun w h => h.f2) (Bo ?_); intro hz
   have hf := hf.mono hz
   refine Al (.c rfl .nil) ?_
   exact ⟨_, _, hle.trans hz, fun w h => Mem.sub (L' := pn bp ov av cv _ _ :: L) Bf h, _, rfl, .mk' rfl (.cons (hf.as 0 (.node o.txt []) Aa rfl) (.cons (hr_0.mono hz) (.cons (hr_1.mono hz) (.nil)))) (fun y hy => by cases hy; exact Ba (xs := [_, _, _, _, _, _])) Ad hcc Cw Cw, by first | rfl | (simp only [Nat.add_assoc]; rfl)⟩
  ·skip
   have hlen : (Ex.ite a b d).tree.parts.length = 4 := rfl
   have hki := Ny a b d
   have hhd : (Ex.ite a b d).tree.head = G9 := rfl
   simp only [Ex.ite.sizeOf_spec] at hlt
   simp only [Ex.ok, Bool.and_eq_true, decide_eq_true_eq] at hok
   simp only [Ex.nb] at hk hg ⊢
   simp only [Ex.size] at hfl
   obtain ⟨_, hrl⟩ : ∃ _ : True, RepL I (Ex.ite a b d).tree.parts _ := ⟨trivial, hcl⟩
   simp only [show (Ex.ite a b d).tree.parts = [.node G9 [], a.tree, b.tree, d.tree] from rfl, Gn, List.cons_append, List.nil_append] at hrl ⊢
   refine Cq (fun w h => h.f4) ?_; refine Am rfl (Oa rfl (Ab (Ah (Se rfl ?_)))); refine Bj rfl .free rfl ?_; refine Ca rfl (Cf hf.rep _) ?_; rintro _ _ _ _ ⟨rfl, rfl, rfl⟩; refine Ab (Ar (Se rfl (Od rfl rfl rfl (Oa rfl (Ab ?_)))))
   first | refine Ej rfl (by rw [hhd]; decide) ?_ | refine Ei rfl (by rw [hhd]; decide) ?_ | refine At Ak ?_
   refine Se rfl (Od rfl rfl rfl (Oa rfl (Ab ?_)))
   first | refine Ej rfl (by rw [hhd]; decide) ?_ | refine Ei rfl (by rw [hhd]; decide) ?_ | refine At Ak ?_
   refine Aj (Aq (Ah (Se rfl ?_))); refine Bj rfl .free rfl ?_; refine Ca rfl (D3 hf.rep _) ?_; rintro _ J _ e0 ⟨ok, ck, rfl, hk1, rfl⟩
   have hf := hf.mono e0
   have hfr := hfr.mono e0
   have hto := hto.mono e0
   have hav := hav.mono e0
   have hle := hle.trans e0
   rw [hki] at hk1; rw [hki]; refine On rfl (Om rfl (Ab (Ar ?_))); refine Ek ?_; refine Se rfl (Oc rfl rfl rfl (Ab (Ah ?_))); refine B9 rfl A8 ?_; refine Aj (Ah (Ar (Se rfl ?_)))
   first | refine Bh rfl rfl _ rfl .free rfl ?_ | refine Bi rfl rfl _ rfl .free rfl ?_
   refine Et rfl .free rfl ?_; refine Oa rfl (Ab (Se rfl (Om rfl (Om rfl (Oa rfl (Oa rfl (Ab (Ah (Se rfl ?_))))))))); refine Bj rfl .free rfl ?_; refine Om rfl ?_; refine Ca rfl (Cl hf.rep hok0 _ _) ?_; rintro _ J1 _ e1 ⟨o1, k1, rfl, hs1, rfl⟩
   have hf := hf.mono e1
   have hfr := hfr.mono e1
   have hto := hto.mono e1
   have hav := hav.mono e1
   have hle := hle.trans e1
   have hk1 := hk1.mono e1
   refine Oa rfl (Ab (Se rfl (Om rfl (On rfl (Oc rfl rfl rfl (Ab ?_))))))
   first | refine Ej rfl C7 ?_ | refine Ei rfl C7 ?_ | refine At Ak ?_
   refine Aj ?_; refine F3 fun hlr => ?_
   have hpl := a.pl_hits av (f) (t) k
   refine H5 14 rfl rfl ?_; refine Da 0 rfl (Ap rfl) ?_; refine Dt 1 [13] rfl (Bx rfl) ?_; refine Da 2 rfl (Ai rfl) ?_; refine Da 3 rfl (Ai rfl) ?_; refine Da 4 rfl (Ap rfl) ?_; refine Dt 5 [13] rfl (Bx rfl) ?_; refine Da 6 rfl (Ai rfl) ?_
   first | refine Da 7 rfl (Bp rfl rfl _ rfl) ?_ | refine Da 7 rfl (Bq rfl rfl _ rfl) ?_
   refine Dt 8 [13] rfl (Dz rfl) ?_; refine Da 9 rfl (Ai rfl) ?_; refine Da 10 rfl (Ai rfl) ?_; refine Dc 11 rfl rfl (ihn (f := f) (t := t) Aa (hf.as 1 a.tree Aa rfl) hok.1.1 hfr hto (by simp [hft]) hnf Dh hav bp _ _ Aa Aa _) ?_; rintro _ J2 _ e2 ⟨cs2, rfl, hr_0, rfl⟩; obtain ⟨o2, k2, _, rfl, -⟩ := hr_0.open
   have hlr := hlr.trans e2
   have hf := hf.mono e2
   have hfr := hfr.mono e2
   have hto := hto.mono e2
   have hav := hav.mono e2
   have hle := hle.trans e2
   have hk1 := hk1.mono e2
   refine Hx ?_
   first | refine Da 12 rfl (Bp rfl rfl _ rfl) ?_ | refine Da 12 rfl (Bq rfl rfl _ rfl) ?_
   refine Dx 13 rfl rfl rfl rfl ?_; refine Bg Af ?_; refine Aq (Am rfl ?_); refine Or rfl rfl rfl ?_; refine Om rfl (Ab ?_); refine B7 ?_; refine Se rfl (Oc rfl rfl rfl (Ab (Ah ?_))); refine B9 rfl A8 ?_; refine Aj (Ah (Ar (Se rfl ?_)))
   first | refine Bh rfl rfl _ rfl .free rfl ?_ | refine Bi rfl rfl _ rfl .free rfl ?_
   refine Et rfl .free rfl ?_; refine Oa rfl (Ab (Se rfl (Om rfl (Om rfl (Oa rfl (Oa rfl (Ab (Ah (Se rfl ?_))))))))); refine Bj rfl .free rfl ?_; refine Om rfl ?_; refine Ca rfl (Cl hf.rep hok0 _ _) ?_; rintro _ J1 _ e1 ⟨o1, k1, rfl, hs1, rfl⟩
   have hf := hf.mono e1
   have hfr := hfr.mono e1
   have hto := hto.mono e1
   have hav := hav.mono e1
   have hle := hle.trans e1
   have hk1 := hk1.mono e1
   have hr_0 := hr_0.mono e1
   refine Oa rfl (Ab (Se rfl (Om rfl (On rfl (Oc rfl rfl rfl (Ab ?_))))))
   first | refine Ej rfl C7 ?_ | refine Ei rfl C7 ?_ | refine At Ak ?_
   refine Aj ?_; refine F3 fun hlr => ?_
   have hpl := b.pl_hits av (f) (t) (a.pl av (f) (t) k).2
   refine H5 14 rfl rfl ?_; refine Da 0 rfl (Ap rfl) ?_; refine Dt 1 [13] rfl (Bx rfl) ?_; refine Da 2 rfl (Ai rfl) ?_; refine Da 3 rfl (Ai rfl) ?_; refine Da 4 rfl (Ap rfl) ?_; refine Dt 5 [13] rfl (Bx rfl) ?_; refine Da 6 rfl (Ai rfl) ?_
   first | refine Da 7 rfl (Bp rfl rfl _ rfl) ?_ | refine Da 7 rfl (Bq rfl rfl _ rfl) ?_
   refine Dt 8 [13] rfl (Dz rfl) ?_; refine Da 9 rfl (Ai rfl) ?_; refine Da 10 rfl (Ai rfl) ?_; refine Dc 11 rfl rfl (ihn (f := f) (t := t) Aa (hf.as 2 b.tree Aa rfl) hok.1.2 hfr hto (by simp [hft]) hnf Dh hav bp _ _ Aa Aa _) ?_; rintro _ J2 _ e2 ⟨cs2, rfl, hr_1, rfl⟩; obtain ⟨o2, k2, _, rfl, -⟩ := hr_1.open
   have hlr := hlr.trans e2
   have hf := hf.mono e2
   have hfr := hfr.mono e2
   have hto := hto.mono e2
   have hav := hav.mono e2
   have hle := hle.trans e2
   have hk1 := hk1.mono e2
   have hr_0 := hr_0.mono e2
   refine Hx ?_
   first | refine Da 12 rfl (Bp rfl rfl _ rfl) ?_ | refine Da 12 rfl (Bq rfl rfl _ rfl) ?_
   refine Dx 13 rfl rfl rfl rfl ?_; refine Bg Af ?_; refine Aq (Am rfl ?_); refine Or rfl rfl rfl ?_; refine Om rfl (Ab ?_); refine B7 ?_; refine Se rfl (Oc rfl rfl rfl (Ab (Ah ?_))); refine B9 rfl A8 ?_; refine Aj (Ah (Ar (Se rfl ?_)))
   first | refine Bh rfl rfl _ rfl .free rfl ?_ | refine Bi rfl rfl _ rfl .free rfl ?_
   refine Et rfl .free rfl ?_; refine Oa rfl (Ab (Se rfl (Om rfl (Om rfl (Oa rfl (Oa rfl (Ab (Ah (Se rfl ?_))))))))); refine Bj rfl .free rfl ?_; refine Om rfl ?_; refine Ca rfl (Cl hf.rep hok0 _ _) ?_; rintro _ J1 _ e1 ⟨o1, k1, rfl, hs1, rfl⟩
   have hf := hf.mono e1
   have hfr := hfr.mono e1
   have hto := hto.mono e1
   have hav := hav.mono e1
   have hle := hle.trans e1
   have hk1 := hk1.mono e1
   have hr_0 := hr_0.mono e1
   have hr_1 := hr_1.mono e1
   refine Oa rfl (Ab (Se rfl (Om rfl (On rfl (Oc rfl rfl rfl (Ab ?_))))))
   first | refine Ej rfl C7 ?_ | refine Ei rfl C7 ?_ | refine At Ak ?_
   refine Aj ?_; refine F3 fun hlr => ?_
   have hpl := d.pl_hits av (f) (t) (b.pl av (f) (t) (a.pl av (f) (t) k).2).2
   refine H5 14 rfl rfl ?_; refine Da 0 rfl (Ap rfl) ?_; refine Dt 1 [13] rfl (Bx rfl) ?_; refine Da 2 rfl (Ai rfl) ?_; refine Da 3 rfl (Ai rfl) ?_; refine Da 4 rfl (Ap rfl) ?_; refine Dt 5 [13] rfl (Bx rfl) ?_; refine Da 6 rfl (Ai rfl) ?_
   first | refine Da 7 rfl (Bp rfl rfl _ rfl) ?_ | refine Da 7 rfl (Bq rfl rfl _ rfl) ?_
   refine Dt 8 [13] rfl (Dz rfl) ?_; refine Da 9 rfl (Ai rfl) ?_; refine Da 10 rfl (Ai rfl) ?_; refine Dc 11 rfl rfl (ihn (f := f) (t := t) Aa (hf.as 3 d.tree Aa rfl) hok.2 hfr hto (by simp [hft]) hnf Dh hav bp _ _ Aa Aa _) ?_; rintro _ J2 _ e2 ⟨cs2, rfl, hr_2, rfl⟩; obtain ⟨o2, k2, _, rfl, -⟩ := hr_2.open
   have hlr := hlr.trans e2
   have hf := hf.mono e2
   have hfr := hfr.mono e2
   have hto := hto.mono e2
   have hav := hav.mono e2
   have hle := hle.trans e2
   have hk1 := hk1.mono e2
   have hr_0 := hr_0.mono e2
   have hr_1 := hr_1.mono e2
   refine Hx ?_
   first | refine Da 12 rfl (Bp rfl rfl _ rfl) ?_ | refine Da 12 rfl (Bq rfl rfl _ rfl) ?_
   refine Dx 13 rfl rfl rfl rfl ?_; refine Bg Af ?_; refine Aq (Am rfl ?_); refine Or rfl rfl rfl ?_; refine Om rfl (Ab ?_); refine B7 ?_; refine Se rfl (Oc rfl rfl rfl (Ab (Ah ?_))); refine Dw rfl A8 ?_; refine Cd rfl ?_; refine Se rfl ?_; refine Bj rfl .free rfl ?_; refine By rfl rfl rfl rfl .free ?_; refine Ab ?_; refine Cq (fun w h => h.f2) (Bo ?_); intro hz
   have hf := hf.mono hz
   refine Al (.c rfl .nil) ?_
   exact ⟨_, _, hle.trans hz, fun w h => Mem.sub (L' := pn bp ov av cv _ _ :: L) Bf h, _, rfl, .mk' rfl (.cons (hf.as 0 (.node G9 []) Aa rfl) (.cons (hr_0.mono hz) (.cons (hr_1.mono hz) (.cons (hr_2.mono hz) (.nil))))) (fun y hy => by cases hy; exact Ba (xs := [_, _, _, _, _, _, _, _])) Ad hcc Cw Cw, by first | rfl | (simp only [Nat.add_assoc]; rfl)⟩
  ·skip
   have hlen : (Ex.lt z a b).tree.parts.length = 4 := rfl
   have hki := Nz z a b
   have hhd : (Ex.lt z a b).tree.head = D6 := rfl
   simp only [Ex.lt.sizeOf_spec] at hlt
   simp only [Ex.ok, Bool.and_eq_true, decide_eq_true_eq] at hok
   simp only [Ex.nb] at hk hg ⊢
   simp only [Ex.size] at hfl
   obtain ⟨_, hrl⟩ : ∃ _ : True, RepL I (Ex.lt z a b).tree.parts _ := ⟨trivial, hcl⟩
   simp only [show (Ex.lt z a b).tree.parts = [.node D6 [], .node z [], a.tree, b.tree] from rfl, Gn, List.cons_append, List.nil_append] at hrl ⊢
   refine Cq (fun w h => h.f4) ?_; refine Am rfl (Oa rfl (Ab (Ah (Se rfl ?_)))); refine Bj rfl .free rfl ?_; refine Ca rfl (Cf hf.rep _) ?_; rintro _ _ _ _ ⟨rfl, rfl, rfl⟩; refine Ab (Ar (Se rfl (Od rfl rfl rfl (Oa rfl (Ab ?_)))))
   first | refine L4 rfl (by rw [hhd]; rfl) ?_ | refine L3 rfl (by rw [hhd]; rfl) ?_ | refine Br Ak ?_
   refine Ah ?_; obtain ⟨x1, x2, x3⟩ := F2 120 av k
   have x4 := Ff 120 av k
   have x5 := Fp 120 av (fr 120 av k)
   have x6 := Fp 120 av (fr 120 av k + 1)
   refine Am rfl (Om rfl ?_); refine Ca rfl (Ju hav bp g k Aa Aa _) ?_; rintro _ _ _ _ ⟨rfl, rfl, rfl⟩
   have hnl1 := Xm (n := fr 120 av k) Aa
   generalize hn1e : nm 120 (fr 120 av k) = n1 at hnl1 ⊢
   refine Ol rfl rfl ?_; intro b41; refine D4 [n1] Cw (by intro y hy; rw [List.mem_singleton.1 hy]; exact hnl1) ?_; intro J1 ez hnm
   have hn0 := hnm.st 0 Ad
   have hf := hf.mono ez
   have hfr := hfr.mono ez
   have hto := hto.mono ez
   have hav := hav.mono ez
   have hle := hle.trans ez
   refine Oa rfl (Ab ?_); refine Fj 8 rfl rfl ?_; refine Da 0 rfl (Ap rfl) ?_; refine Dt 1 [7] rfl (Bx rfl) ?_; refine Da 2 rfl (Ai rfl) ?_
   first | refine Da 3 rfl (Bp rfl rfl 0 rfl) ?_ | refine Da 3 rfl (Bq rfl rfl 0 rfl) ?_
   refine Dt 4 [7] rfl (L5 rfl) ?_; refine Dc 5 rfl rfl (M1 n1 hnl1 _ _) ?_; rintro _ _ _ _ ⟨rfl, rfl, rfl⟩; refine Hx ?_
   first | refine Da 6 rfl (Bp rfl rfl 1 rfl) ?_ | refine Da 6 rfl (Bq rfl rfl 1 rfl) ?_
   refine Dx 7 rfl rfl rfl rfl ?_; refine Bg Af ?_; refine Aq (Ah (Se rfl ?_)); refine Bj rfl .free rfl ?_; refine Ca rfl (D3 hf.rep _) ?_; rintro _ J _ e0 ⟨ok, ck, rfl, hk1, rfl⟩
   have hf := hf.mono e0
   have hfr := hfr.mono e0
   have hto := hto.mono e0
   have hav := hav.mono e0
   have hle := hle.trans e0
   rw [hki] at hk1; rw [hki]
   have hnm := hnm.mono e0
   refine On rfl (Om rfl (Ab (Ar ?_))); refine Ek ?_; refine Se rfl (Oc rfl rfl rfl (Ab (Ah ?_))); refine B9 rfl A8 ?_; refine Aj (Ah (Ar (Se rfl ?_)))
   first | refine Bh rfl rfl _ rfl .free rfl ?_ | refine Bi rfl rfl _ rfl .free rfl ?_
   refine Et rfl .free rfl ?_; refine Oa rfl (Ab (Se rfl (Om rfl (Om rfl (Oa rfl (Oa rfl (Ab (Ah (Se rfl ?_))))))))); refine Bj rfl .free rfl ?_; refine Om rfl ?_; refine Ca rfl (Cl hf.rep hok0 _ _) ?_; rintro _ J1 _ e1 ⟨o1, k1, rfl, hs1, rfl⟩
   have hf := hf.mono e1
   have hfr := hfr.mono e1
   have hto := hto.mono e1
   have hav := hav.mono e1
   have hle := hle.trans e1
   have hk1 := hk1.mono e1
   have hnm := hnm.mono e1
   refine Oa rfl (Ab (Se rfl (Om rfl (On rfl (Oc rfl rfl rfl (Ab ?_))))))
   first | refine Ej rfl C7 ?_ | refine Ei rfl C7 ?_ | refine At Ak ?_
   refine Aj ?_; refine F3 fun hlr => ?_
   have hpl := a.pl_hits av (f) (t) (fr 120 av k + 1)
   refine H5 14 rfl rfl ?_; refine Da 0 rfl (Ap rfl) ?_; refine Dt 1 [13] rfl (Bx rfl) ?_; refine Da 2 rfl (Ai rfl) ?_; refine Da 3 rfl (Ai rfl) ?_; refine Da 4 rfl (Ap rfl) ?_; refine Dt 5 [13] rfl (Bx rfl) ?_; refine Da 6 rfl (Ai rfl) ?_
   first | refine Da 7 rfl (Bp rfl rfl _ rfl) ?_ | refine Da 7 rfl (Bq rfl rfl _ rfl) ?_
   refine Dt 8 [13] rfl (Dz rfl) ?_; refine Da 9 rfl (Ai rfl) ?_; refine Da 10 rfl (Ai rfl) ?_; refine Dc 11 rfl rfl (ihn (f := f) (t := t) Aa (hf.as 2 a.tree Aa rfl) hok.1.2 hfr hto (by simp [hft]) hnf Dh hav bp _ _ Aa Aa _) ?_; rintro _ J2 _ e2 ⟨cs2, rfl, hr_0, rfl⟩; obtain ⟨o2, k2, _, rfl, -⟩ := hr_0.open
   have hlr := hlr.trans e2
   have hf := hf.mono e2
   have hfr := hfr.mono e2
   have hto := hto.mono e2
   have hav := hav.mono e2
   have hle := hle.trans e2
   have hk1 := hk1.mono e2
   have hnm := hnm.mono e2
   refine Hx ?_
   first | refine Da 12 rfl (Bp rfl rfl _ rfl) ?_ | refine Da 12 rfl (Bq rfl rfl _ rfl) ?_
   refine Dx 13 rfl rfl rfl rfl ?_; refine Bg Af ?_; refine Aq (Am rfl ?_); refine Or rfl rfl rfl ?_; refine Om rfl (Ab ?_); refine B7 ?_; refine Se rfl (Oc rfl rfl rfl (Ab (Ah ?_))); refine B9 rfl A8 ?_; refine Aj (Ah (Ar (Se rfl ?_)))
   first | refine Bh rfl rfl _ rfl .free rfl ?_ | refine Bi rfl rfl _ rfl .free rfl ?_
   refine Et rfl .free rfl ?_; refine Oa rfl (Ab (Se rfl (Om rfl (Om rfl (Oa rfl (Oa rfl (Ab (Ah (Se rfl ?_))))))))); refine Bj rfl .free rfl ?_; refine Om rfl ?_; refine Ca rfl (Cl hf.rep hok0 _ _) ?_; rintro _ J1 _ e1 ⟨o1, k1, rfl, hs1, rfl⟩
   have hf := hf.mono e1
   have hfr := hfr.mono e1
   have hto := hto.mono e1
   have hav := hav.mono e1
   have hle := hle.trans e1
   have hk1 := hk1.mono e1
   have hr_0 := hr_0.mono e1
   have hnm := hnm.mono e1
   refine Oa rfl (Ab (Se rfl (Om rfl (On rfl (Oc rfl rfl rfl (Ab ?_))))))
   first | refine L4 rfl C7 ?_ | refine L3 rfl C7 ?_ | refine Br Ak ?_
   refine Am rfl (Om rfl (Om rfl ?_)); refine Ol rfl rfl ?_; intro b87; refine Gt ?_; intro ez
   have hf := hf.mono ez
   have hfr := hfr.mono ez
   have hto := hto.mono ez
   have hav := hav.mono ez
   have hle := hle.trans ez
   have hk1 := hk1.mono ez
   have hr_0 := hr_0.mono ez
   have hnm := hnm.mono ez
   refine Ca rfl (B0 (Ba (xs := [.slice of f.length cf, .slice o1 (List.length _) k1]) (ys := [])) hfr (hs1.mono ez) (Ex.binds_room0 Aa) _) ?_; rintro _ J3 _ e3 ⟨o3, k3, rfl, hs3, rfl⟩
   have hf := hf.mono e3
   have hfr := hfr.mono e3
   have hto := hto.mono e3
   have hav := hav.mono e3
   have hle := hle.trans e3
   have hk1 := hk1.mono e3
   have hr_0 := hr_0.mono e3
   have hnm := hnm.mono e3
   refine Om rfl (Om rfl ?_); refine Ol rfl rfl ?_; intro b91; refine Gt ?_; intro ey
   have hf := hf.mono ey
   have hfr := hfr.mono ey
   have hto := hto.mono ey
   have hav := hav.mono ey
   have hle := hle.trans ey
   have hk1 := hk1.mono ey
   have hr_0 := hr_0.mono ey
   have hnm := hnm.mono ey
   have hs3 := hs3.mono ey
   refine Ca rfl (B0 (m := [n1]) (Ba (xs := [.slice ot t.length ct, .slice (some ⟨_, 0, none⟩) (List.length _) _]) (ys := [])) hto hnm (show t.length + 1 ≤ Bd by unfold Bd; omega) _) ?_; rintro _ J4 _ e4 ⟨o4, k4, rfl, hs4, rfl⟩
   have hf := hf.mono e4
   have hfr := hfr.mono e4
   have hto := hto.mono e4
   have hav := hav.mono e4
   have hle := hle.trans e4
   have hk1 := hk1.mono e4
   have hr_0 := hr_0.mono e4
   have hnm := hnm.mono e4
   have hs3 := hs3.mono e4
   refine Oa rfl (Oa rfl (Ab ?_)); refine F3 fun hlr => ?_
   have hpl := b.pl_hits av (f ++ [z]) (t ++ [n1]) (a.pl av (f) (t) (fr 120 av k + 1)).2
   refine H5 14 rfl rfl ?_; refine Da 0 rfl (Ap rfl) ?_; refine Dt 1 [13] rfl (Bx rfl) ?_; refine Da 2 rfl (Ai rfl) ?_; refine Da 3 rfl (Ai rfl) ?_; refine Da 4 rfl (Ap rfl) ?_; refine Dt 5 [13] rfl (Bx rfl) ?_; refine Da 6 rfl (Ai rfl) ?_
   first | refine Da 7 rfl (Bp rfl rfl _ rfl) ?_ | refine Da 7 rfl (Bq rfl rfl _ rfl) ?_
   refine Dt 8 [13] rfl (Dz rfl) ?_; refine Da 9 rfl (Ai rfl) ?_; refine Da 10 rfl (Ai rfl) ?_; refine Dc 11 rfl rfl (ihn (f := f ++ [z]) (t := t ++ [n1]) Aa (hf.as 3 b.tree Aa rfl) hok.2 hs3 hs4 (by simp [hft]) (hnf.add (by intro y hy; rw [List.mem_singleton.1 hy]; exact hok.1.1)) Dh hav bp _ _ Aa Aa _) ?_; rintro _ J2 _ e2 ⟨cs2, rfl, hr_1, rfl⟩; obtain ⟨o2, k2, _, rfl, -⟩ := hr_1.open
   have hlr := hlr.trans e2
   have hf := hf.mono e2
   have hfr := hfr.mono e2
   have hto := hto.mono e2
   have hav := hav.mono e2
   have hle := hle.trans e2
   have hk1 := hk1.mono e2
   have hr_0 := hr_0.mono e2
   have hnm := hnm.mono e2
   refine Hx ?_
   first | refine Da 12 rfl (Bp rfl rfl _ rfl) ?_ | refine Da 12 rfl (Bq rfl rfl _ rfl) ?_
   refine Dx 13 rfl rfl rfl rfl ?_; refine Bg Af ?_; refine Aq (Am rfl ?_); refine Or rfl rfl rfl ?_; refine Om rfl (Ab ?_); refine B7 ?_; refine Se rfl (Oc rfl rfl rfl (Ab (Ah ?_))); refine Dw rfl A8 ?_; refine Cd rfl ?_; refine Se rfl ?_; refine Bj rfl .free rfl ?_; refine By rfl rfl rfl rfl .free ?_; refine Ab ?_; refine Cq (fun w h => h.f2) (Bo ?_); intro hz
   have hf := hf.mono hz
   refine Al (.c rfl .nil) ?_; subst hn1e
   exact ⟨_, _, hle.trans hz, fun w h => Mem.sub (L' := pn bp ov av cv _ _ :: L) Bf h, _, rfl, .mk' rfl (.cons (hf.as 0 (.node D6 []) Aa rfl) (.cons (.ofAtom hnl1) (.cons (hr_0.mono hz) (.cons (hr_1.mono hz) (.nil))))) (fun y hy => by cases hy; exact Ba (xs := [_, _, _, _, _, _, _, _])) Ad hcc Cw Cw, by first | rfl | (simp only [Nat.add_assoc]; rfl)⟩
  ·skip
   have hlen : (Ex.fn h1 z s u b).tree.parts.length = 6 := rfl
   have hki := Nx h1 z s u b
   have hhd : (Ex.fn h1 z s u b).tree.head = D0 := rfl
   simp only [Ex.fn.sizeOf_spec] at hlt
   simp only [Ex.ok, Bool.and_eq_true, decide_eq_true_eq] at hok
   simp only [Ex.nb] at hk hg ⊢
   simp only [Ex.size] at hfl
   obtain ⟨_, hrl⟩ : ∃ _ : True, RepL I (Ex.fn h1 z s u b).tree.parts _ := ⟨trivial, hcl⟩
   simp only [show (Ex.fn h1 z s u b).tree.parts = [.node D0 [], .node h1 [], .node z [], s.tree, u.tree, b.tree] from rfl, Gn, List.cons_append, List.nil_append] at hrl ⊢
   refine Cq (fun w h => h.f4) ?_; refine Am rfl (Oa rfl (Ab (Ah (Se rfl ?_)))); refine Bj rfl .free rfl ?_; refine Ca rfl (Cf hf.rep _) ?_; rintro _ _ _ _ ⟨rfl, rfl, rfl⟩; refine Ab (Ar (Se rfl (Od rfl rfl rfl (Oa rfl (Ab ?_)))))
   first | refine Ej rfl (by rw [hhd]; decide) ?_ | refine Ei rfl (by rw [hhd]; decide) ?_ | refine At Ak ?_
   refine Se rfl (Od rfl rfl rfl (Oa rfl (Ab ?_)))
   first | refine L4 rfl (by rw [hhd]; rfl) ?_ | refine L3 rfl (by rw [hhd]; rfl) ?_ | refine Br Ak ?_
   refine Ah ?_; obtain ⟨x1, x2, x3⟩ := F2 120 av k
   have x4 := Ff 120 av k
   have x5 := Fp 120 av (fr 120 av k)
   have x6 := Fp 120 av (fr 120 av k + 1)
   obtain ⟨y1, y2, y3⟩ := F2 120 av (fr 120 av k + 1)
   have y4 := Ff 120 av (fr 120 av k + 1)
   have y5 := Fp 120 av (fr 120 av (fr 120 av k + 1))
   have y6 := Fp 120 av (fr 120 av (fr 120 av k + 1) + 1)
   refine Am rfl (Om rfl ?_); refine Ca rfl (Ju hav bp g k Aa Aa _) ?_; rintro _ _ _ _ ⟨rfl, rfl, rfl⟩
   have hnl1 := Xm (n := fr 120 av k) Aa
   generalize hn1e : nm 120 (fr 120 av k) = n1 at hnl1 ⊢
   refine Om rfl ?_; refine Ca rfl (Ju hav bp (g + 1) (fr 120 av k + 1) Aa Aa _) ?_; rintro _ _ _ _ ⟨rfl, rfl, rfl⟩
   have hnl2 := Xm (n := fr 120 av (fr 120 av k + 1)) Aa
   generalize hn2e : nm 120 (fr 120 av (fr 120 av k + 1)) = n2 at hnl2 ⊢
   refine Ol rfl rfl ?_; intro b55; refine D4 [n1, n2] Cw (by intro y hy; simp only [List.mem_cons, List.not_mem_nil, or_false] at hy; rcases hy with rfl | rfl; exact hnl1; exact hnl2) ?_; intro J1 ez hnm
   have hn0 := hnm.st 0 Ad
   have hn1 := hnm.st 1 Ad
   have hf := hf.mono ez
   have hfr := hfr.mono ez
   have hto := hto.mono ez
   have hav := hav.mono ez
   have hle := hle.trans ez
   refine Oa rfl (Ab ?_); refine Fj 16 rfl rfl ?_; refine Da 0 rfl (Ap rfl) ?_; refine Dt 1 [13] rfl (Bx rfl) ?_; refine Da 2 rfl (Ap rfl) ?_; refine Da 4 rfl (Ai rfl) ?_
   first | refine Da 5 rfl (Bp rfl rfl 0 rfl) ?_ | refine Da 5 rfl (Bq rfl rfl 0 rfl) ?_
   refine Dt 6 [13] rfl (L5 rfl) ?_; refine Da 8 rfl (Ai rfl) ?_
   first | refine Da 9 rfl (Bp rfl rfl 1 rfl) ?_ | refine Da 9 rfl (Bq rfl rfl 1 rfl) ?_
   refine Dt 10 [13] rfl (L5 rfl) ?_; refine Jo 3 7 Af ?_ ?_
   ·skip
    refine Yf 3 rfl rfl (Bx rfl) .free rfl (.inr Bb) ?_; refine Dc 7 rfl rfl (M1 n1 hnl1 _ _) ?_; rintro _ _ _ _ ⟨rfl, rfl, rfl⟩; refine Hx ?_; refine Dc 11 rfl rfl (M1 n2 hnl2 _ _) ?_; rintro _ _ _ _ ⟨rfl, rfl, rfl⟩; refine Hx ?_
    first | refine Da 12 rfl (Bp rfl rfl 1 rfl) ?_ | refine Da 12 rfl (Bq rfl rfl 1 rfl) ?_
    refine Dx 13 rfl rfl rfl rfl ?_
    first | refine Db 14 rfl (Bp rfl rfl 2 rfl) ?_ | refine Db 14 rfl (Bq rfl rfl 2 rfl) ?_
    refine Dx 15 rfl rfl rfl rfl ?_; refine Bg Af ?_; refine Aq (Ah (Se rfl ?_)); refine Bj rfl .free rfl ?_; refine Ca rfl (D3 hf.rep _) ?_; rintro _ J _ e0 ⟨ok, ck, rfl, hk1, rfl⟩
    have hf := hf.mono e0
    have hfr := hfr.mono e0
    have hto := hto.mono e0
    have hav := hav.mono e0
    have hle := hle.trans e0
    rw [hki] at hk1; rw [hki]
    have hnm := hnm.mono e0
    refine On rfl (Om rfl (Ab (Ar ?_))); refine Ek ?_; refine Se rfl (Oc rfl rfl rfl (Ab (Ah ?_))); refine B9 rfl A8 ?_; refine Aj (Ah (Ar (Se rfl ?_)))
    first | refine Bh rfl rfl _ rfl .free rfl ?_ | refine Bi rfl rfl _ rfl .free rfl ?_
    refine Et rfl .free rfl ?_; refine Oa rfl (Ab (Se rfl (Om rfl (Om rfl (Oa rfl (Oa rfl (Ab (Ah (Se rfl ?_))))))))); refine Bj rfl .free rfl ?_; refine Om rfl ?_; refine Ca rfl (Cl hf.rep hok0 _ _) ?_; rintro _ J1 _ e1 ⟨o1, k1, rfl, hs1, rfl⟩
    have hf := hf.mono e1
    have hfr := hfr.mono e1
    have hto := hto.mono e1
    have hav := hav.mono e1
    have hle := hle.trans e1
    have hk1 := hk1.mono e1
    have hnm := hnm.mono e1
    refine Oa rfl (Ab (Se rfl (Om rfl (On rfl (Oc rfl rfl rfl (Ab ?_))))))
    first | refine L4 rfl C7 ?_ | refine L3 rfl C7 ?_ | refine Br Ak ?_
    refine Am rfl (Om rfl (Om rfl ?_)); refine Ol rfl rfl ?_; intro b87; refine Gt ?_; intro ez
    have hf := hf.mono ez
    have hfr := hfr.mono ez
    have hto := hto.mono ez
    have hav := hav.mono ez
    have hle := hle.trans ez
    have hk1 := hk1.mono ez
    have hnm := hnm.mono ez
    refine Ca rfl (B0 (Ba (xs := [.slice of f.length cf, .slice o1 (List.length _) k1]) (ys := [])) hfr (hs1.mono ez) (Ex.binds_room0 Aa) _) ?_; rintro _ J3 _ e3 ⟨o3, k3, rfl, hs3, rfl⟩
    have hf := hf.mono e3
    have hfr := hfr.mono e3
    have hto := hto.mono e3
    have hav := hav.mono e3
    have hle := hle.trans e3
    have hk1 := hk1.mono e3
    have hnm := hnm.mono e3
    refine Om rfl (Om rfl ?_); refine Ol rfl rfl ?_; intro b91; refine Gt ?_; intro ey
    have hf := hf.mono ey
    have hfr := hfr.mono ey
    have hto := hto.mono ey
    have hav := hav.mono ey
    have hle := hle.trans ey
    have hk1 := hk1.mono ey
    have hnm := hnm.mono ey
    have hs3 := hs3.mono ey
    refine Ca rfl (B0 (m := [n1, n2]) (Ba (xs := [.slice ot t.length ct, .slice (some ⟨_, 0, none⟩) (List.length _) _]) (ys := [])) hto hnm (show t.length + 2 ≤ Bd by unfold Bd; omega) _) ?_; rintro _ J4 _ e4 ⟨o4, k4, rfl, hs4, rfl⟩
    have hf := hf.mono e4
    have hfr := hfr.mono e4
    have hto := hto.mono e4
    have hav := hav.mono e4
    have hle := hle.trans e4
    have hk1 := hk1.mono e4
    have hnm := hnm.mono e4
    have hs3 := hs3.mono e4
    refine Oa rfl (Oa rfl (Ab ?_)); refine F3 fun hlr => ?_
    have hpl := b.pl_hits av (f ++ [h1, z]) (t ++ [n1, n2]) (fr 120 av (fr 120 av k + 1) + 1)
    refine H5 14 rfl rfl ?_; refine Da 0 rfl (Ap rfl) ?_; refine Dt 1 [13] rfl (Bx rfl) ?_; refine Da 2 rfl (Ai rfl) ?_; refine Da 3 rfl (Ai rfl) ?_; refine Da 4 rfl (Ap rfl) ?_; refine Dt 5 [13] rfl (Bx rfl) ?_; refine Da 6 rfl (Ai rfl) ?_
    first | refine Da 7 rfl (Bp rfl rfl _ rfl) ?_ | refine Da 7 rfl (Bq rfl rfl _ rfl) ?_
    refine Dt 8 [13] rfl (Dz rfl) ?_; refine Da 9 rfl (Ai rfl) ?_; refine Da 10 rfl (Ai rfl) ?_; refine Dc 11 rfl rfl (ihn (f := f ++ [h1, z]) (t := t ++ [n1, n2]) Aa (hf.as 5 b.tree Aa rfl) hok.2 hs3 hs4 (by simp [hft]) (hnf.add Nd) Dh hav bp _ _ Aa Aa _) ?_; rintro _ J2 _ e2 ⟨cs2, rfl, hr_0, rfl⟩; obtain ⟨o2, k2, _, rfl, -⟩ := hr_0.open
    have hlr := hlr.trans e2
    have hf := hf.mono e2
    have hfr := hfr.mono e2
    have hto := hto.mono e2
    have hav := hav.mono e2
    have hle := hle.trans e2
    have hk1 := hk1.mono e2
    have hnm := hnm.mono e2
    refine Hx ?_
    first | refine Da 12 rfl (Bp rfl rfl _ rfl) ?_ | refine Da 12 rfl (Bq rfl rfl _ rfl) ?_
    refine Dx 13 rfl rfl rfl rfl ?_; refine Bg Af ?_; refine Aq (Am rfl ?_); refine Or rfl rfl rfl ?_; refine Om rfl (Ab ?_); refine B7 ?_; refine Se rfl (Oc rfl rfl rfl (Ab (Ah ?_))); refine Dw rfl A8 ?_; refine Cd rfl ?_; refine Se rfl ?_; refine Bj rfl .free rfl ?_; refine By rfl rfl rfl rfl .free ?_; refine Ab ?_; refine Cq (fun w h => h.f2) (Bo ?_); intro hz
    have hf := hf.mono hz
    refine Al (.c rfl .nil) ?_; subst hn1e hn2e
    exact ⟨_, _, hle.trans hz, fun w h => Mem.sub (L' := pn bp ov av cv _ _ :: L) Bf h, _, rfl, .mk' rfl (.cons (hf.as 0 (.node D0 []) Aa rfl) (.cons (.ofAtom hnl1) (.cons (.ofAtom hnl2) (.cons (hf.as 3 (s.tree) Aa rfl) (.cons (hf.as 4 (u.tree) Aa rfl) (.cons (hr_0.mono hz) (.nil))))))) (fun y hy => by cases hy; exact Ba (xs := [_, _, _, _, _, _, _, _, _, _, _, _])) Ad hcc Cw Cw, by rw [show g + (2 + b.nb) = g + 1 + 1 + b.nb by omega]; rfl⟩
   ·skip
    refine Jv 7 rfl rfl rfl .free rfl (M1 n1 hnl1 _ _) ?_; rintro _ _ _ _ ⟨rfl, rfl, rfl⟩; refine Hx ?_; refine Jo 3 11 Af ?_ ?_
    ·skip
     refine Yf 3 rfl rfl (Bx rfl) .free rfl (.inr Bb) ?_; refine Dc 11 rfl rfl (M1 n2 hnl2 _ _) ?_; rintro _ _ _ _ ⟨rfl, rfl, rfl⟩; refine Hx ?_
     first | refine Da 12 rfl (Bp rfl rfl 1 rfl) ?_ | refine Da 12 rfl (Bq rfl rfl 1 rfl) ?_
     refine Dx 13 rfl rfl rfl rfl ?_
     first | refine Db 14 rfl (Bp rfl rfl 2 rfl) ?_ | refine Db 14 rfl (Bq rfl rfl 2 rfl) ?_
     refine Dx 15 rfl rfl rfl rfl ?_; refine Bg Af ?_; refine Aq (Ah (Se rfl ?_)); refine Bj rfl .free rfl ?_; refine Ca rfl (D3 hf.rep _) ?_; rintro _ J _ e0 ⟨ok, ck, rfl, hk1, rfl⟩
     have hf := hf.mono e0
     have hfr := hfr.mono e0
     have hto := hto.mono e0
     have hav := hav.mono e0
     have hle := hle.trans e0
     rw [hki] at hk1; rw [hki]
     have hnm := hnm.mono e0
     refine On rfl (Om rfl (Ab (Ar ?_))); refine Ek ?_; refine Se rfl (Oc rfl rfl rfl (Ab (Ah ?_))); refine B9 rfl A8 ?_; refine Aj (Ah (Ar (Se rfl ?_)))
     first | refine Bh rfl rfl _ rfl .free rfl ?_ | refine Bi rfl rfl _ rfl .free rfl ?_
     refine Et rfl .free rfl ?_; refine Oa rfl (Ab (Se rfl (Om rfl (Om rfl (Oa rfl (Oa rfl (Ab (Ah (Se rfl ?_))))))))); refine Bj rfl .free rfl ?_; refine Om rfl ?_; refine Ca rfl (Cl hf.rep hok0 _ _) ?_; rintro _ J1 _ e1 ⟨o1, k1, rfl, hs1, rfl⟩
     have hf := hf.mono e1
     have hfr := hfr.mono e1
     have hto := hto.mono e1
     have hav := hav.mono e1
     have hle := hle.trans e1
     have hk1 := hk1.mono e1
     have hnm := hnm.mono e1
     refine Oa rfl (Ab (Se rfl (Om rfl (On rfl (Oc rfl rfl rfl (Ab ?_))))))
     first | refine L4 rfl C7 ?_ | refine L3 rfl C7 ?_ | refine Br Ak ?_
     refine Am rfl (Om rfl (Om rfl ?_)); refine Ol rfl rfl ?_; intro b87; refine Gt ?_; intro ez
     have hf := hf.mono ez
     have hfr := hfr.mono ez
     have hto := hto.mono ez
     have hav := hav.mono ez
     have hle := hle.trans ez
     have hk1 := hk1.mono ez
     have hnm := hnm.mono ez
     refine Ca rfl (B0 (Ba (xs := [.slice of f.length cf, .slice o1 (List.length _) k1]) (ys := [])) hfr (hs1.mono ez) (Ex.binds_room0 Aa) _) ?_; rintro _ J3 _ e3 ⟨o3, k3, rfl, hs3, rfl⟩
     have hf := hf.mono e3
     have hfr := hfr.mono e3
     have hto := hto.mono e3
     have hav := hav.mono e3
     have hle := hle.trans e3
     have hk1 := hk1.mono e3
     have hnm := hnm.mono e3
     refine Om rfl (Om rfl ?_); refine Ol rfl rfl ?_; intro b91; refine Gt ?_; intro ey
     have hf := hf.mono ey
     have hfr := hfr.mono ey
     have hto := hto.mono ey
     have hav := hav.mono ey
     have hle := hle.trans ey
     have hk1 := hk1.mono ey
     have hnm := hnm.mono ey
     have hs3 := hs3.mono ey
     refine Ca rfl (B0 (m := [n1, n2]) (Ba (xs := [.slice ot t.length ct, .slice (some ⟨_, 0, none⟩) (List.length _) _]) (ys := [])) hto hnm (show t.length + 2 ≤ Bd by unfold Bd; omega) _) ?_; rintro _ J4 _ e4 ⟨o4, k4, rfl, hs4, rfl⟩
     have hf := hf.mono e4
     have hfr := hfr.mono e4
     have hto := hto.mono e4
     have hav := hav.mono e4
     have hle := hle.trans e4
     have hk1 := hk1.mono e4
     have hnm := hnm.mono e4
     have hs3 := hs3.mono e4
     refine Oa rfl (Oa rfl (Ab ?_)); refine F3 fun hlr => ?_
     have hpl := b.pl_hits av (f ++ [h1, z]) (t ++ [n1, n2]) (fr 120 av (fr 120 av k + 1) + 1)
     refine H5 14 rfl rfl ?_; refine Da 0 rfl (Ap rfl) ?_; refine Dt 1 [13] rfl (Bx rfl) ?_; refine Da 2 rfl (Ai rfl) ?_; refine Da 3 rfl (Ai rfl) ?_; refine Da 4 rfl (Ap rfl) ?_; refine Dt 5 [13] rfl (Bx rfl) ?_; refine Da 6 rfl (Ai rfl) ?_
     first | refine Da 7 rfl (Bp rfl rfl _ rfl) ?_ | refine Da 7 rfl (Bq rfl rfl _ rfl) ?_
     refine Dt 8 [13] rfl (Dz rfl) ?_; refine Da 9 rfl (Ai rfl) ?_; refine Da 10 rfl (Ai rfl) ?_; refine Dc 11 rfl rfl (ihn (f := f ++ [h1, z]) (t := t ++ [n1, n2]) Aa (hf.as 5 b.tree Aa rfl) hok.2 hs3 hs4 (by simp [hft]) (hnf.add Nd) Dh hav bp _ _ Aa Aa _) ?_; rintro _ J2 _ e2 ⟨cs2, rfl, hr_0, rfl⟩; obtain ⟨o2, k2, _, rfl, -⟩ := hr_0.open
     have hlr := hlr.trans e2
     have hf := hf.mono e2
     have hfr := hfr.mono e2
     have hto := hto.mono e2
     have hav := hav.mono e2
     have hle := hle.trans e2
     have hk1 := hk1.mono e2
     have hnm := hnm.mono e2
     refine Hx ?_
     first | refine Da 12 rfl (Bp rfl rfl _ rfl) ?_ | refine Da 12 rfl (Bq rfl rfl _ rfl) ?_
     refine Dx 13 rfl rfl rfl rfl ?_; refine Bg Af ?_; refine Aq (Am rfl ?_); refine Or rfl rfl rfl ?_; refine Om rfl (Ab ?_); refine B7 ?_; refine Se rfl (Oc rfl rfl rfl (Ab (Ah ?_))); refine Dw rfl A8 ?_; refine Cd rfl ?_; refine Se rfl ?_; refine Bj rfl .free rfl ?_; refine By rfl rfl rfl rfl .free ?_; refine Ab ?_; refine Cq (fun w h => h.f2) (Bo ?_); intro hz
     have hf := hf.mono hz
     refine Al (.c rfl .nil) ?_; subst hn1e hn2e
     exact ⟨_, _, hle.trans hz, fun w h => Mem.sub (L' := pn bp ov av cv _ _ :: L) Bf h, _, rfl, .mk' rfl (.cons (hf.as 0 (.node D0 []) Aa rfl) (.cons (.ofAtom hnl1) (.cons (.ofAtom hnl2) (.cons (hf.as 3 (s.tree) Aa rfl) (.cons (hf.as 4 (u.tree) Aa rfl) (.cons (hr_0.mono hz) (.nil))))))) (fun y hy => by cases hy; exact Ba (xs := [_, _, _, _, _, _, _, _, _, _, _, _])) Ad hcc Cw Cw, by rw [show g + (2 + b.nb) = g + 1 + 1 + b.nb by omega]; rfl⟩
    ·skip
     refine Jv 11 rfl rfl rfl .free rfl (M1 n2 hnl2 _ _) ?_; rintro _ _ _ _ ⟨rfl, rfl, rfl⟩; refine Hx ?_
     first | refine Da 12 rfl (Bp rfl rfl 1 rfl) ?_ | refine Da 12 rfl (Bq rfl rfl 1 rfl) ?_
     refine Jo 3 13 Af ?_ ?_
     ·skip
      refine Yf 3 rfl rfl (Bx rfl) .free rfl (.inr Bb) ?_; refine Dx 13 rfl rfl rfl rfl ?_
      first | refine Db 14 rfl (Bp rfl rfl 2 rfl) ?_ | refine Db 14 rfl (Bq rfl rfl 2 rfl) ?_
      refine Dx 15 rfl rfl rfl rfl ?_; refine Bg Af ?_; refine Aq (Ah (Se rfl ?_)); refine Bj rfl .free rfl ?_; refine Ca rfl (D3 hf.rep _) ?_; rintro _ J _ e0 ⟨ok, ck, rfl, hk1, rfl⟩
      have hf := hf.mono e0
      have hfr := hfr.mono e0
      have hto := hto.mono e0
      have hav := hav.mono e0
      have hle := hle.trans e0
      rw [hki] at hk1; rw [hki]
      have hnm := hnm.mono e0
      refine On rfl (Om rfl (Ab (Ar ?_))); refine Ek ?_; refine Se rfl (Oc rfl rfl rfl (Ab (Ah ?_))); refine B9 rfl A8 ?_; refine Aj (Ah (Ar (Se rfl ?_)))
      first | refine Bh rfl rfl _ rfl .free rfl ?_ | refine Bi rfl rfl _ rfl .free rfl ?_
      refine Et rfl .free rfl ?_; refine Oa rfl (Ab (Se rfl (Om rfl (Om rfl (Oa rfl (Oa rfl (Ab (Ah (Se rfl ?_))))))))); refine Bj rfl .free rfl ?_; refine Om rfl ?_; refine Ca rfl (Cl hf.rep hok0 _ _) ?_; rintro _ J1 _ e1 ⟨o1, k1, rfl, hs1, rfl⟩
      have hf := hf.mono e1
      have hfr := hfr.mono e1
      have hto := hto.mono e1
      have hav := hav.mono e1
      have hle := hle.trans e1
      have hk1 := hk1.mono e1
      have hnm := hnm.mono e1
      refine Oa rfl (Ab (Se rfl (Om rfl (On rfl (Oc rfl rfl rfl (Ab ?_))))))
      first | refine L4 rfl C7 ?_ | refine L3 rfl C7 ?_ | refine Br Ak ?_
      refine Am rfl (Om rfl (Om rfl ?_)); refine Ol rfl rfl ?_; intro b87; refine Gt ?_; intro ez
      have hf := hf.mono ez
      have hfr := hfr.mono ez
      have hto := hto.mono ez
      have hav := hav.mono ez
      have hle := hle.trans ez
      have hk1 := hk1.mono ez
      have hnm := hnm.mono ez
      refine Ca rfl (B0 (Ba (xs := [.slice of f.length cf, .slice o1 (List.length _) k1]) (ys := [])) hfr (hs1.mono ez) (Ex.binds_room0 Aa) _) ?_; rintro _ J3 _ e3 ⟨o3, k3, rfl, hs3, rfl⟩
      have hf := hf.mono e3
      have hfr := hfr.mono e3
      have hto := hto.mono e3
      have hav := hav.mono e3
      have hle := hle.trans e3
      have hk1 := hk1.mono e3
      have hnm := hnm.mono e3
      refine Om rfl (Om rfl ?_); refine Ol rfl rfl ?_; intro b91; refine Gt ?_; intro ey
      have hf := hf.mono ey
      have hfr := hfr.mono ey
      have hto := hto.mono ey
      have hav := hav.mono ey
      have hle := hle.trans ey
      have hk1 := hk1.mono ey
      have hnm := hnm.mono ey
      have hs3 := hs3.mono ey
      refine Ca rfl (B0 (m := [n1, n2]) (Ba (xs := [.slice ot t.length ct, .slice (some ⟨_, 0, none⟩) (List.length _) _]) (ys := [])) hto hnm (show t.length + 2 ≤ Bd by unfold Bd; omega) _) ?_; rintro _ J4 _ e4 ⟨o4, k4, rfl, hs4, rfl⟩
      have hf := hf.mono e4
      have hfr := hfr.mono e4
      have hto := hto.mono e4
      have hav := hav.mono e4
      have hle := hle.trans e4
      have hk1 := hk1.mono e4
      have hnm := hnm.mono e4
      have hs3 := hs3.mono e4
      refine Oa rfl (Oa rfl (Ab ?_)); refine F3 fun hlr => ?_
      have hpl := b.pl_hits av (f ++ [h1, z]) (t ++ [n1, n2]) (fr 120 av (fr 120 av k + 1) + 1)
      refine H5 14 rfl rfl ?_; refine Da 0 rfl (Ap rfl) ?_; refine Dt 1 [13] rfl (Bx rfl) ?_; refine Da 2 rfl (Ai rfl) ?_; refine Da 3 rfl (Ai rfl) ?_; refine Da 4 rfl (Ap rfl) ?_; refine Dt 5 [13] rfl (Bx rfl) ?_; refine Da 6 rfl (Ai rfl) ?_
      first | refine Da 7 rfl (Bp rfl rfl _ rfl) ?_ | refine Da 7 rfl (Bq rfl rfl _ rfl) ?_
      refine Dt 8 [13] rfl (Dz rfl) ?_; refine Da 9 rfl (Ai rfl) ?_; refine Da 10 rfl (Ai rfl) ?_; refine Dc 11 rfl rfl (ihn (f := f ++ [h1, z]) (t := t ++ [n1, n2]) Aa (hf.as 5 b.tree Aa rfl) hok.2 hs3 hs4 (by simp [hft]) (hnf.add Nd) Dh hav bp _ _ Aa Aa _) ?_; rintro _ J2 _ e2 ⟨cs2, rfl, hr_0, rfl⟩; obtain ⟨o2, k2, _, rfl, -⟩ := hr_0.open
      have hlr := hlr.trans e2
      have hf := hf.mono e2
      have hfr := hfr.mono e2
      have hto := hto.mono e2
      have hav := hav.mono e2
      have hle := hle.trans e2
      have hk1 := hk1.mono e2
      have hnm := hnm.mono e2
      refine Hx ?_
      first | refine Da 12 rfl (Bp rfl rfl _ rfl) ?_ | refine Da 12 rfl (Bq rfl rfl _ rfl) ?_
      refine Dx 13 rfl rfl rfl rfl ?_; refine Bg Af ?_; refine Aq (Am rfl ?_); refine Or rfl rfl rfl ?_; refine Om rfl (Ab ?_); refine B7 ?_; refine Se rfl (Oc rfl rfl rfl (Ab (Ah ?_))); refine Dw rfl A8 ?_; refine Cd rfl ?_; refine Se rfl ?_; refine Bj rfl .free rfl ?_; refine By rfl rfl rfl rfl .free ?_; refine Ab ?_; refine Cq (fun w h => h.f2) (Bo ?_); intro hz
      have hf := hf.mono hz
      refine Al (.c rfl .nil) ?_; subst hn1e hn2e
      exact ⟨_, _, hle.trans hz, fun w h => Mem.sub (L' := pn bp ov av cv _ _ :: L) Bf h, _, rfl, .mk' rfl (.cons (hf.as 0 (.node D0 []) Aa rfl) (.cons (.ofAtom hnl1) (.cons (.ofAtom hnl2) (.cons (hf.as 3 (s.tree) Aa rfl) (.cons (hf.as 4 (u.tree) Aa rfl) (.cons (hr_0.mono hz) (.nil))))))) (fun y hy => by cases hy; exact Ba (xs := [_, _, _, _, _, _, _, _, _, _, _, _])) Ad hcc Cw Cw, by rw [show g + (2 + b.nb) = g + 1 + 1 + b.nb by omega]; rfl⟩
     ·skip
      refine Afa 13 rfl rfl rfl rfl rfl rfl .free (.inl Af) ?_; refine Aaq 3 rfl Af rfl (Bx rfl) .free rfl (.inl Af) ?_
      first | refine Db 14 rfl (Bp rfl rfl 2 rfl) ?_ | refine Db 14 rfl (Bq rfl rfl 2 rfl) ?_
      refine Dx 15 rfl rfl rfl rfl ?_; refine Bg Af ?_; refine Aq (Ah (Se rfl ?_)); refine Bj rfl .free rfl ?_; refine Ca rfl (D3 hf.rep _) ?_; rintro _ J _ e0 ⟨ok, ck, rfl, hk1, rfl⟩
      have hf := hf.mono e0
      have hfr := hfr.mono e0
      have hto := hto.mono e0
      have hav := hav.mono e0
      have hle := hle.trans e0
      rw [hki] at hk1; rw [hki]
      have hnm := hnm.mono e0
      refine On rfl (Om rfl (Ab (Ar ?_))); refine Ek ?_; refine Se rfl (Oc rfl rfl rfl (Ab (Ah ?_))); refine B9 rfl A8 ?_; refine Aj (Ah (Ar (Se rfl ?_)))
      first | refine Bh rfl rfl _ rfl .free rfl ?_ | refine Bi rfl rfl _ rfl .free rfl ?_
      refine Et rfl .free rfl ?_; refine Oa rfl (Ab (Se rfl (Om rfl (Om rfl (Oa rfl (Oa rfl (Ab (Ah (Se rfl ?_))))))))); refine Bj rfl .free rfl ?_; refine Om rfl ?_; refine Ca rfl (Cl hf.rep hok0 _ _) ?_; rintro _ J1 _ e1 ⟨o1, k1, rfl, hs1, rfl⟩
      have hf := hf.mono e1
      have hfr := hfr.mono e1
      have hto := hto.mono e1
      have hav := hav.mono e1
      have hle := hle.trans e1
      have hk1 := hk1.mono e1
      have hnm := hnm.mono e1
      refine Oa rfl (Ab (Se rfl (Om rfl (On rfl (Oc rfl rfl rfl (Ab ?_))))))
      first | refine L4 rfl C7 ?_ | refine L3 rfl C7 ?_ | refine Br Ak ?_
      refine Am rfl (Om rfl (Om rfl ?_)); refine Ol rfl rfl ?_; intro b87; refine Gt ?_; intro ez
      have hf := hf.mono ez
      have hfr := hfr.mono ez
      have hto := hto.mono ez
      have hav := hav.mono ez
      have hle := hle.trans ez
      have hk1 := hk1.mono ez
      have hnm := hnm.mono ez
      refine Ca rfl (B0 (Ba (xs := [.slice of f.length cf, .slice o1 (List.length _) k1]) (ys := [])) hfr (hs1.mono ez) (Ex.binds_room0 Aa) _) ?_; rintro _ J3 _ e3 ⟨o3, k3, rfl, hs3, rfl⟩
      have hf := hf.mono e3
      have hfr := hfr.mono e3
      have hto := hto.mono e3
      have hav := hav.mono e3
      have hle := hle.trans e3
      have hk1 := hk1.mono e3
      have hnm := hnm.mono e3
      refine Om rfl (Om rfl ?_); refine Ol rfl rfl ?_; intro b91; refine Gt ?_; intro ey
      have hf := hf.mono ey
      have hfr := hfr.mono ey
      have hto := hto.mono ey
      have hav := hav.mono ey
      have hle := hle.trans ey
      have hk1 := hk1.mono ey
      have hnm := hnm.mono ey
      have hs3 := hs3.mono ey
      refine Ca rfl (B0 (m := [n1, n2]) (Ba (xs := [.slice ot t.length ct, .slice (some ⟨_, 0, none⟩) (List.length _) _]) (ys := [])) hto hnm (show t.length + 2 ≤ Bd by unfold Bd; omega) _) ?_; rintro _ J4 _ e4 ⟨o4, k4, rfl, hs4, rfl⟩
      have hf := hf.mono e4
      have hfr := hfr.mono e4
      have hto := hto.mono e4
      have hav := hav.mono e4
      have hle := hle.trans e4
      have hk1 := hk1.mono e4
      have hnm := hnm.mono e4
      have hs3 := hs3.mono e4
      refine Oa rfl (Oa rfl (Ab ?_)); refine F3 fun hlr => ?_
      have hpl := b.pl_hits av (f ++ [h1, z]) (t ++ [n1, n2]) (fr 120 av (fr 120 av k + 1) + 1)
      refine H5 14 rfl rfl ?_; refine Da 0 rfl (Ap rfl) ?_; refine Dt 1 [13] rfl (Bx rfl) ?_; refine Da 2 rfl (Ai rfl) ?_; refine Da 3 rfl (Ai rfl) ?_; refine Da 4 rfl (Ap rfl) ?_; refine Dt 5 [13] rfl (Bx rfl) ?_; refine Da 6 rfl (Ai rfl) ?_
      first | refine Da 7 rfl (Bp rfl rfl _ rfl) ?_ | refine Da 7 rfl (Bq rfl rfl _ rfl) ?_
      refine Dt 8 [13] rfl (Dz rfl) ?_; refine Da 9 rfl (Ai rfl) ?_; refine Da 10 rfl (Ai rfl) ?_; refine Dc 11 rfl rfl (ihn (f := f ++ [h1, z]) (t := t ++ [n1, n2]) Aa (hf.as 5 b.tree Aa rfl) hok.2 hs3 hs4 (by simp [hft]) (hnf.add Nd) Dh hav bp _ _ Aa Aa _) ?_; rintro _ J2 _ e2 ⟨cs2, rfl, hr_0, rfl⟩; obtain ⟨o2, k2, _, rfl, -⟩ := hr_0.open
      have hlr := hlr.trans e2
      have hf := hf.mono e2
      have hfr := hfr.mono e2
      have hto := hto.mono e2
      have hav := hav.mono e2
      have hle := hle.trans e2
      have hk1 := hk1.mono e2
      have hnm := hnm.mono e2
      refine Hx ?_
      first | refine Da 12 rfl (Bp rfl rfl _ rfl) ?_ | refine Da 12 rfl (Bq rfl rfl _ rfl) ?_
      refine Dx 13 rfl rfl rfl rfl ?_; refine Bg Af ?_; refine Aq (Am rfl ?_); refine Or rfl rfl rfl ?_; refine Om rfl (Ab ?_); refine B7 ?_; refine Se rfl (Oc rfl rfl rfl (Ab (Ah ?_))); refine Dw rfl A8 ?_; refine Cd rfl ?_; refine Se rfl ?_; refine Bj rfl .free rfl ?_; refine By rfl rfl rfl rfl .free ?_; refine Ab ?_; refine Cq (fun w h => h.f2) (Bo ?_); intro hz
      have hf := hf.mono hz
      refine Al (.c rfl .nil) ?_; subst hn1e hn2e
      exact ⟨_, _, hle.trans hz, fun w h => Mem.sub (L' := pn bp ov av cv _ _ :: L) Bf h, _, rfl, .mk' rfl (.cons (hf.as 0 (.node D0 []) Aa rfl) (.cons (.ofAtom hnl1) (.cons (.ofAtom hnl2) (.cons (hf.as 3 (s.tree) Aa rfl) (.cons (hf.as 4 (u.tree) Aa rfl) (.cons (hr_0.mono hz) (.nil))))))) (fun y hy => by cases hy; exact Ba (xs := [_, _, _, _, _, _, _, _, _, _, _, _])) Ad hcc Cw Cw, by rw [show g + (2 + b.nb) = g + 1 + 1 + b.nb by omega]; rfl⟩
  ·skip
   have hlen : (Ex.un o a).tree.parts.length = 2 := rfl
   have hki := P3 o a
   have hhd : (Ex.un o a).tree.head = o.txt := rfl
   simp only [Ex.un.sizeOf_spec] at hlt
   simp only [Ex.ok, Bool.and_eq_true, decide_eq_true_eq] at hok
   simp only [Ex.nb] at hk hg ⊢
   simp only [Ex.size] at hfl
   obtain ⟨_, hrl⟩ : ∃ _ : True, RepL I (Ex.un o a).tree.parts _ := ⟨trivial, hcl⟩
   simp only [show (Ex.un o a).tree.parts = [.node o.txt [], a.tree] from rfl, Gn, List.cons_append, List.nil_append] at hrl ⊢
   refine Cq (fun w h => h.f4) ?_; refine Am rfl (Oa rfl (Ab (Ah (Se rfl ?_)))); refine Bj rfl .free rfl ?_; refine Ca rfl (Cf hf.rep _) ?_; rintro _ _ _ _ ⟨rfl, rfl, rfl⟩; refine Ab (Ar (Se rfl (Od rfl rfl rfl (Oa rfl (Ab ?_)))))
   first | refine Ej rfl Hq ?_ | refine Ei rfl Hq ?_ | refine At Ak ?_
   refine Se rfl (Od rfl rfl rfl (Oa rfl (Ab ?_)))
   first | refine Ej rfl Hq ?_ | refine Ei rfl Hq ?_ | refine At Ak ?_
   refine Aj (Aq (Ah (Se rfl ?_))); refine Bj rfl .free rfl ?_; refine Ca rfl (D3 hf.rep _) ?_; rintro _ J _ e0 ⟨ok, ck, rfl, hk1, rfl⟩
   have hf := hf.mono e0
   have hfr := hfr.mono e0
   have hto := hto.mono e0
   have hav := hav.mono e0
   have hle := hle.trans e0
   rw [hki] at hk1; rw [hki]; refine On rfl (Om rfl (Ab (Ar ?_))); refine Ek ?_; refine Se rfl (Oc rfl rfl rfl (Ab (Ah ?_))); refine B9 rfl A8 ?_; refine Aj (Ah (Ar (Se rfl ?_)))
   first | refine Bh rfl rfl _ rfl .free rfl ?_ | refine Bi rfl rfl _ rfl .free rfl ?_
   refine Et rfl .free rfl ?_; refine Oa rfl (Ab (Se rfl (Om rfl (Om rfl (Oa rfl (Oa rfl (Ab (Ah (Se rfl ?_))))))))); refine Bj rfl .free rfl ?_; refine Om rfl ?_; refine Ca rfl (Cl hf.rep hok0 _ _) ?_; rintro _ J1 _ e1 ⟨o1, k1, rfl, hs1, rfl⟩
   have hf := hf.mono e1
   have hfr := hfr.mono e1
   have hto := hto.mono e1
   have hav := hav.mono e1
   have hle := hle.trans e1
   have hk1 := hk1.mono e1
   refine Oa rfl (Ab (Se rfl (Om rfl (On rfl (Oc rfl rfl rfl (Ab ?_))))))
   first | refine Ej rfl C7 ?_ | refine Ei rfl C7 ?_ | refine At Ak ?_
   refine Aj ?_; refine F3 fun hlr => ?_
   have hpl := a.pl_hits av (f) (t) k
   refine H5 14 rfl rfl ?_; refine Da 0 rfl (Ap rfl) ?_; refine Dt 1 [13] rfl (Bx rfl) ?_; refine Da 2 rfl (Ai rfl) ?_; refine Da 3 rfl (Ai rfl) ?_; refine Da 4 rfl (Ap rfl) ?_; refine Dt 5 [13] rfl (Bx rfl) ?_; refine Da 6 rfl (Ai rfl) ?_
   first | refine Da 7 rfl (Bp rfl rfl _ rfl) ?_ | refine Da 7 rfl (Bq rfl rfl _ rfl) ?_
   refine Dt 8 [13] rfl (Dz rfl) ?_; refine Da 9 rfl (Ai rfl) ?_; refine Da 10 rfl (Ai rfl) ?_; refine Dc 11 rfl rfl (ihn (f := f) (t := t) Aa (hf.as 1 a.tree Aa rfl) hok hfr hto (by simp [hft]) hnf Dh hav bp _ _ Aa Aa _) ?_; rintro _ J2 _ e2 ⟨cs2, rfl, hr_0, rfl⟩; obtain ⟨o2, k2, _, rfl, -⟩ := hr_0.open
   have hlr := hlr.trans e2
   have hf := hf.mono e2
   have hfr := hfr.mono e2
   have hto := hto.mono e2
   have hav := hav.mono e2
   have hle := hle.trans e2
   have hk1 := hk1.mono e2
   refine Hx ?_
   first | refine Da 12 rfl (Bp rfl rfl _ rfl) ?_ | refine Da 12 rfl (Bq rfl rfl _ rfl) ?_
   refine Dx 13 rfl rfl rfl rfl ?_; refine Bg Af ?_; refine Aq (Am rfl ?_); refine Or rfl rfl rfl ?_; refine Om rfl (Ab ?_); refine B7 ?_; refine Se rfl (Oc rfl rfl rfl (Ab (Ah ?_))); refine Dw rfl A8 ?_; refine Cd rfl ?_; refine Se rfl ?_; refine Bj rfl .free rfl ?_; refine By rfl rfl rfl rfl .free ?_; refine Ab ?_; refine Cq (fun w h => h.f2) (Bo ?_); intro hz
   have hf := hf.mono hz
   refine Al (.c rfl .nil) ?_
   exact ⟨_, _, hle.trans hz, fun w h => Mem.sub (L' := pn bp ov av cv _ _ :: L) Bf h, _, rfl, .mk' rfl (.cons (hf.as 0 (.node o.txt []) Aa rfl) (.cons (hr_0.mono hz) (.nil))) (fun y hy => by cases hy; exact Ba (xs := [_, _, _, _])) Ad hcc Cw Cw, by first | rfl | (simp only [Nat.add_assoc]; rfl)⟩
theorem Tp {I : Heap} {e : Ex} {cs : List Value} (h : Rep I e.tree cs) (hfine : e.fine = true) (L : Bl) : Fun Tryz.prog 48 [.agg cs.toArray] I L (fun v I' L' => ∃ ds, v = .tuple #[.agg (List.toArray ds), .bool true] ∧ Rep I' e.plain.tree ds ∧ L = L') := by
 obtain ⟨oa, c, oaf, cf, rfl, hf⟩ := h.at'
 have hpf := M7 hfine
 have hf2 := hfine
 simp only [Ex.fine, Bool.and_eq_true, decide_eq_true_eq, Tree.fits] at hf2
 have hf3 := hpf
 simp only [Ex.fine, Bool.and_eq_true, decide_eq_true_eq, Tree.fits] at hf3
 have hroom := Ra hf2.1.2
 refine Ao Ad ?_; refine Se rfl ?_; refine Cg rfl rfl .free rfl ?_; intro b1; refine A5 .free rfl ?_; intro b2; refine Oa rfl (Ab (Se rfl ?_)); refine Bj rfl .free rfl ?_; refine Ca rfl (Kz hf.rep hf2.1.1 Aa _) ?_; rintro _ J1 _ e1 ⟨ov, cv, rfl, hav, rfl⟩
 have hf := hf.mono e1
 refine Cp rfl rfl rfl .free rfl ?_; refine Cg rfl rfl .free rfl ?_; intro b9; refine Oa rfl (Ab (Se rfl (Om rfl ?_))); refine Bj rfl .free rfl ?_; refine Fc (L' := pn b9 ov e.free cv 0 0 :: _) (fun w h => h) ?_; refine Ca rfl (Qn _ (Nat.lt_succ_self _) hf.rep hf2.1.1 (N9 _) (N9 _) rfl (fun s hs => by cases hs) Dq hav b9 0 0 Aa Aa _) ?_; rintro _ J2 _ e2 ⟨ds, rfl, hr, rfl⟩
 have hr : Rep J2 e.plain.tree ds := hr
 obtain ⟨od, cd, _, rfl, -⟩ := hr.open
 have hle := e1.trans e2
 unfold pn
 refine A5 .free rfl ?_; intro b5; refine By rfl rfl rfl rfl .free ?_; refine Ab (Ah ?_); refine Fj 12 rfl rfl ?_; refine Dt 0 [10] rfl (D2 rfl) ?_; refine Da 1 rfl (Ai rfl) ?_; refine Da 2 rfl (Dp rfl) ?_
 first | refine Da 3 rfl (Ap rfl) ?_ | refine Da 3 rfl (Bn rfl) ?_
 refine Dt 4 [5, 6, 8, 10] rfl (Aed rfl) ?_; refine Da 5 rfl (Oo rfl rfl rfl) ?_; refine Da 6 rfl (Ai rfl) ?_
 apply R2 19 22 rfl
 ·intro g3_7 hk
  try simp only [nb] at g3_7
  refine Hb 7 [8, 10] rfl Af rfl Bb (D2 rfl) (.met rfl rfl) rfl ?_; refine K9 8 rfl Af rfl rfl (.met rfl rfl) rfl (Ads hr hf3.1.1 Aa _) ?_; rintro _ _ _ _ ⟨rfl, rfl, rfl⟩; refine Hx ?_; refine Da 9 rfl (Fh rfl rfl) ?_
  exact H7 2 rfl rfl hk
 ·intro _ hk; refine Ds 7 rfl rfl rfl ?_; refine Ds 8 rfl rfl rfl ?_; refine Da 9 rfl (Ez rfl rfl) ?_
  exact H7 2 rfl rfl hk
 refine Dx 10 rfl rfl rfl rfl ?_; refine Db 11 rfl (A2 rfl) ?_; refine Bg Af ?_; refine Al (.c rfl (.tmp rfl .nil)) ?_; refine ⟨J2, L, hle, Cb, _, ?_, hr, rfl⟩; rw [hpf]; simp [C6]; omega
theorem Vd (s : As) (hs : s.length ≤ Bd) (I : Heap) (L : Bl) : Fun Tryz.prog 14 [.string (str s)] I L (EL (Ip s) L) := by
 refine Ao Ad ?_; refine Se rfl (Oa rfl (Oa rfl (Ab (Se rfl (Om rfl ?_))))); refine Ca rfl (Qo s hs _ _) ?_; rintro _ J _ hleJ ⟨t, cs, ok, rfl, hrep, rfl, hpf⟩; obtain ⟨oc, cc, _, rfl, -⟩ := hrep.open; refine Om rfl (Oe rfl rfl (Oe rfl rfl ?_)); refine A5 .free rfl ?_; intro b4; refine By rfl rfl rfl rfl .free ?_; refine Oa rfl (Ab (Ah (Se rfl (Om rfl ?_)))); refine Dv rfl .free rfl ?_; refine Ab ?_; refine Az rfl ?_ ?_
 ·intro c0
  try simp only [nb] at c0
  refine Se rfl (Oa rfl (Oa rfl (Ab ?_))); refine Al (.tmp rfl (.tmp rfl .nil)) ?_
  exact ⟨J, L, hleJ, Cb, by rw [Ud (S7 hpf c0)]; rfl, rfl⟩
 intro c0
 try simp only [nb] at c0
 obtain ⟨e, he, rfl, hok, hlen, hfine, htxt⟩ := P1 hpf c0
 have hpl := N3 he
 have hf3 := M7 hfine
 simp only [Ex.fine, Bool.and_eq_true, decide_eq_true_eq, Tree.fits] at hf3
 refine Aj (Se rfl ?_); refine Bj rfl .free rfl ?_; refine Ca rfl (Tp hrep hfine _) ?_; rintro _ J2 _ e2 ⟨ds, rfl, hr, rfl⟩; obtain ⟨od, cd, _, rfl, -⟩ := hr.open; refine Om rfl (Oe rfl rfl (Oe rfl rfl ?_)); refine A5 .free rfl ?_; intro b6; refine By rfl rfl rfl rfl .free ?_; refine Oa rfl (Ab (Ah (Se rfl (Om rfl ?_)))); refine Dv rfl .free rfl ?_; refine Ab ?_
 first | refine Sf rfl Ad ?_ | refine At Ak ?_
 refine Aj (Se rfl ?_); refine Bj rfl .free rfl ?_; refine Ca rfl (Vg hr (by rw [Tree.text_len]; unfold Bd; omega) _) ?_; rintro _ _ _ _ ⟨rfl, rfl, rfl⟩; refine Oa rfl (Oa rfl (Ab ?_)); refine Al (.tmp rfl (.tmp rfl .nil)) ?_
 exact ⟨J2, L, hleJ.trans e2, Cb, by rw [hpl]; rfl, rfl⟩
theorem Adr {s : As} {e : Ex} (h : E2 s = some e) : s.length ≤ 12000 := by
 obtain ⟨_, _, _, h4, h5⟩ := P2 h; rw [h5, Tree.text_len]; exact h4
mutual
def KV.db : KV → KV
 | .num s => .num s
 | .pair a b => .pair a.db b.db
 | .clo f x s t b r => .clo [] [] s t (b.db (r.names ++ [f, x])) r.db
def KE.db : KE → KE
 | .nil => .nil
 | .cons n v up => .cons [] v.db up.db
end
theorem O5 : ∀ {k : KE} {s : As}, s ∈ k.names ↔ s ∈ k.dom
 | .nil, s => by simp [KE.names, KE.dom]
 | .cons n v up, s => by
  simp only [KE.names, KE.dom, List.mem_append, List.mem_cons, List.not_mem_nil, or_false, O5 (k := up)]
  exact or_comm
theorem Le : ∀ k : KE, k.db.names.length = k.names.length
 | .nil => rfl
 | .cons n v up => by simp only [KE.db, KE.names, List.length_append, List.length_cons, List.length_nil, Le up]
theorem Zq {k k' : KE} (h : k.db = k'.db) : k.names.length = k'.names.length := by rw [← Le k, h, Le]
theorem Yi : ∀ {k k' : KE} {s s' : As} {i : Nat}, k.db = k'.db → Bw k.names s = some i → Bw k'.names s' = some i → (k.look s).map KV.db = (k'.look s').map KV.db
 | .nil, k', s, s', i, h, h1, h2 => by simp [KE.names, Bw, Ft] at h1
 | .cons n v up, .nil, s, s', i, h, h1, h2 => by simp [KE.names, Bw, Ft] at h2
 | .cons n v up, .cons n' v' up', s, s', i, h, h1, h2 => by
  simp only [KE.db, KE.cons.injEq, true_and] at h
  have hl := Zq h.2
  simp only [KE.names, Iu] at h1 h2
  simp only [KE.look]
  by_cases e : n = s
  ·rw [if_pos e] at h1 ⊢
   by_cases e' : n' = s'
   ·rw [if_pos e']; simp only [Option.map_some, h.1]
   ·rw [if_neg e'] at h2
    have := (Jw h2).1
    have := Option.some.inj h1
    omega
  ·rw [if_neg e] at h1 ⊢
   by_cases e' : n' = s'
   ·rw [if_pos e'] at h2
    have := (Jw h1).1
    have := Option.some.inj h2
    omega
   ·rw [if_neg e'] at h2 ⊢
    exact Yi h.2 h1 h2
def Res.db (r : Res) : Res := ⟨r.v.map KV.db, r.left, r.stuck⟩
theorem K5 {r r' : Res} (h : r.db = r'.db) (hn : r.v = none) : r'.v = none := by
 have := congrArg Res.v h
 simp only [Res.db, hn, Option.map_none] at this
 cases hv : r'.v with
 | none => rfl
 | some w => rw [hv] at this; cases this
theorem Mn {r r' : Res} (h : r.db = r'.db) {u : KV} (hn : r.v = some u) : ∃ u', r'.v = some u' ∧ u.db = u'.db := by
 have := congrArg Res.v h
 simp only [Res.db, hn, Option.map_some] at this
 cases hv : r'.v with
 | none => rw [hv] at this; cases this
 | some w => rw [hv] at this; exact ⟨w, rfl, Option.some.inj this⟩
theorem J8 {r r' : Res} (h : r.db = r'.db) : r.left = r'.left := by have := congrArg Res.left h; exact this
theorem Adm {o : B5} {u u' w w' : KV} (h : u.db = u'.db) (h' : w.db = w'.db) : (o.act u w).map KV.db = (o.act u' w').map KV.db := by
 cases o with
 | pair => simp only [B5.act, Option.map_some, KV.db, h, h']
 | call => rfl
 | _ =>
  cases u with
  | num s =>
   cases u' with
   | num s' =>
    obtain rfl : s = s' := by simpa [KV.db] using h
    cases w with
    | num q =>
     cases w' with
     | num q' =>
      obtain rfl : q = q' := by simpa [KV.db] using h'
      rfl
     | _ => simp [KV.db] at h'
    | _ => cases w' <;> first | rfl | simp [KV.db] at h'
   | _ => simp [KV.db] at h
  | _ => cases u' <;> first | (simp [KV.db] at h; done) | (cases w <;> cases w' <;> rfl)
theorem Ace {o : U2} {u u' : KV} (h : u.db = u'.db) : (o.act u).map KV.db = (o.act u').map KV.db := by
 cases u with
 | pair a b =>
  cases u' with
  | pair a' b' =>
   simp only [KV.db, KV.pair.injEq] at h
   cases o <;> simp only [U2.act, Option.map_some, h.1, h.2]
  | _ => simp [KV.db] at h
 | _ => cases u' <;> first | (simp [KV.db] at h; done) | (cases o <;> rfl)
theorem Adl {o o' : Option KV} {n n' : Nat} (h : o.map KV.db = o'.map KV.db) (hn : n = n') : (Res.of o n).db = (Res.of o' n').db := by
 subst hn
 cases o with
 | none => cases o' with
  | none => rfl
  | some w => cases h
 | some u => cases o' with
  | none => cases h
  | some w => simp only [Res.of, Res.db, h, Option.isNone_some]
theorem Ach : ∀ (n : Nat) (e e' : Ex) (k k' : KE), k.wf → k'.wf → e.ok = true → e'.ok = true → (∀ y ∈ e.occ [], y ∈ k.dom) → (∀ y ∈ e'.occ [], y ∈ k'.dom) → k.db = k'.db → e.db k.names = e'.db k'.names → (eval n e k).db = (eval n e' k').db := by
 intro n
 induction n using Nat.strongRecOn with
 | _ n ih =>
  intro e e' k k' hw hw' hok hok' hd hd' hk he
  cases n with
  | zero => rfl
  | succ n =>
   have hl := fun e k => Bv n e k
   cases e with
   | num s =>
    cases e' <;> simp only [Ex.db, reduceCtorEq, Ex.num.injEq] at he
    subst he; rfl
   | name s =>
    cases e' with
    | name s' =>
     have h1 := O5.2 (hd s (by simp [Ex.occ]))
     have h2 := O5.2 (hd' s' (by simp [Ex.occ]))
     simp only [Ex.db, Ex.name.injEq] at he
     cases hs : Bw k.names s with
     | none => exact absurd h1 (Fg.1 hs)
     | some i =>
      cases hs' : Bw k'.names s' with
      | none => exact absurd h2 (Fg.1 hs')
      | some j =>
       rw [hs, hs'] at he; obtain rfl := Tb he; rw [G0, G0]
       simp only [Res.db, Yi hk hs hs']
    | _ => simp only [Ex.db, reduceCtorEq] at he
   | fn f x s t b =>
    cases e' <;> simp only [Ex.db, reduceCtorEq, Ex.fn.injEq] at he
    obtain ⟨-, -, rfl, rfl, hb⟩ := he; rw [Ja, Ja]
    simp only [Res.db, Option.map_some, KV.db, hk, hb]
   | bin o a b =>
    cases e' <;> simp only [Ex.db, reduceCtorEq, Ex.bin.injEq] at he
    rename_i o' a' b'
    obtain ⟨rfl, hea, heb⟩ := he
    simp only [Ex.ok, Bool.and_eq_true] at hok hok'
    have da := ih n Aa a a' k k' hw hw' hok.1 hok'.1 (fun y hy => hd y (List.mem_append_left _ hy)) (fun y hy => hd' y (List.mem_append_left _ hy)) hk hea
    have hla := hl a k
    rw [Id, Id]
    cases hp : (eval n a k).v with
    | none => rw [K5 da hp]; exact da
    | some u =>
     obtain ⟨u', hp', hu⟩ := Mn da hp; rw [hp']
     simp only
     obtain ⟨wu, -⟩ := Res.says.some hp (G1 n a k hw hok.1 (fun y hy => hd y (List.mem_append_left _ hy))); obtain ⟨wu', -⟩ := Res.says.some hp' (G1 n a' k' hw' hok'.1 (fun y hy => hd' y (List.mem_append_left _ hy))); rw [← J8 da]
     have db := ih (eval n a k).left Aa b b' k k' hw hw' hok.2 hok'.2 (fun y hy => hd y (List.mem_append_right _ hy)) (fun y hy => hd' y (List.mem_append_right _ hy)) hk heb
     have hlb := Bv (eval n a k).left b k
     cases hq : (eval (eval n a k).left b k).v with
     | none => rw [K5 db hq]; exact db
     | some w =>
      obtain ⟨w', hq', hw2⟩ := Mn db hq; rw [hq']
      simp only
      obtain ⟨ww, -⟩ := Res.says.some hq (G1 _ b k hw hok.2 (fun y hy => hd y (List.mem_append_right _ hy))); obtain ⟨ww', -⟩ := Res.says.some hq' (G1 _ b' k' hw' hok'.2 (fun y hy => hd' y (List.mem_append_right _ hy))); rw [← J8 db]
      by_cases hc : ∃ f x s t c r, o = .call ∧ u = .clo f x s t c r
      ·obtain ⟨f, x, s, t, c, r, rfl, rfl⟩ := hc
       cases u' with
       | clo f' x' s' t' c' r' =>
        rw [Hs, Hs]
        simp only [KV.db, KV.clo.injEq, true_and] at hu
        obtain ⟨rfl, rfl, hcb, hrr⟩ := hu
        have hcl := wu
        obtain ⟨hr, hfok, hfd⟩ := wu
        have hcl' := wu'
        obtain ⟨hr', hfok', hfd'⟩ := wu'
        simp only [Ex.ok, Bool.and_eq_true, decide_eq_true_eq] at hfok hfok'
        obtain ⟨⟨⟨⟨⟨nf, nx⟩, hfx⟩, _⟩, _⟩, hcok⟩ := hfok; obtain ⟨⟨⟨⟨⟨nf', nx'⟩, hfx'⟩, _⟩, _⟩, hcok'⟩ := hfok'; refine ih _ Aa c c' _ _ ⟨nx, ww, nf, hcl, hr⟩ ⟨nx', ww', nf', hcl', hr'⟩ hcok hcok' (fun y hy => ?_) (fun y hy => ?_) ?_ ?_
        ·simp only [KE.dom, List.mem_cons]
         rcases hfd y hy with h | h
         ·simp only [List.mem_cons, List.not_mem_nil, or_false] at h
          rcases h with h | h
          ·exact .inr (.inl h)
          ·exact .inl h
         ·exact .inr (.inr h)
        ·simp only [KE.dom, List.mem_cons]
         rcases hfd' y hy with h | h
         ·simp only [List.mem_cons, List.not_mem_nil, or_false] at h
          rcases h with h | h
          ·exact .inr (.inl h)
          ·exact .inl h
         ·exact .inr (.inr h)
        ·simp only [KE.db, KV.db, hw2, hcb, hrr]
        ·simp only [KE.names, List.append_assoc, List.cons_append, List.nil_append]; exact hcb
       | _ => simp only [KV.db, reduceCtorEq] at hu
      ·have hc' : ¬ ∃ f x s t c r, o = .call ∧ u' = .clo f x s t c r := by
        rintro ⟨f, x, s, t, c, r, rfl, rfl⟩
        cases u with
        | clo f x s t c r => exact hc ⟨_, _, _, _, _, _, rfl, rfl⟩
        | _ => simp only [KV.db, reduceCtorEq] at hu
       rw [Fq hc, Fq hc']
       exact Adl (Adm hu hw2) rfl
   | ite a b c =>
    cases e' <;> simp only [Ex.db, reduceCtorEq, Ex.ite.injEq] at he
    rename_i a' b' c'
    obtain ⟨hea, heb, hec⟩ := he
    simp only [Ex.ok, Bool.and_eq_true] at hok hok'
    have da := ih n Aa a a' k k' hw hw' hok.1.1 hok'.1.1 (fun y hy => hd y (List.mem_append_left _ (List.mem_append_left _ hy))) (fun y hy => hd' y (List.mem_append_left _ (List.mem_append_left _ hy))) hk hea
    have hla := hl a k
    rw [Gd, Gd]
    cases hp : (eval n a k).v with
    | none => rw [K5 da hp]; exact da
    | some u =>
     obtain ⟨u', hp', hu⟩ := Mn da hp; rw [hp']
     cases u with
     | num s =>
      cases u' with
      | num s' =>
       obtain rfl : s = s' := by simpa [KV.db] using hu
       simp only
       rw [← J8 da]
       by_cases h0 : s = [48]
       ·rw [if_pos h0, if_pos h0]
        exact ih _ Aa b b' k k' hw hw' hok.1.2 hok'.1.2 (fun y hy => hd y (List.mem_append_left _ (List.mem_append_right _ hy))) (fun y hy => hd' y (List.mem_append_left _ (List.mem_append_right _ hy))) hk heb
       ·rw [if_neg h0, if_neg h0]
        exact ih _ Aa c c' k k' hw hw' hok.2 hok'.2 (fun y hy => hd y (List.mem_append_right _ hy)) (fun y hy => hd' y (List.mem_append_right _ hy)) hk hec
      | _ => simp only [KV.db, reduceCtorEq] at hu
     | _ => cases u' <;> first | (simp only [KV.db, reduceCtorEq] at hu; done) | (simp only [Res.db, J8 da])
   | lt x a b =>
    cases e' <;> simp only [Ex.db, reduceCtorEq, Ex.lt.injEq] at he
    rename_i x' a' b'
    obtain ⟨-, hea, heb⟩ := he
    simp only [Ex.ok, Bool.and_eq_true] at hok hok'
    have da := ih n Aa a a' k k' hw hw' hok.1.2 hok'.1.2 (fun y hy => hd y (List.mem_append_left _ hy)) (fun y hy => hd' y (List.mem_append_left _ hy)) hk hea
    have hla := hl a k
    rw [Hf, Hf]
    cases hp : (eval n a k).v with
    | none => rw [K5 da hp]; exact da
    | some u =>
     obtain ⟨u', hp', hu⟩ := Mn da hp; rw [hp']
     simp only
     obtain ⟨wu, -⟩ := Res.says.some hp (G1 n a k hw hok.1.2 (fun y hy => hd y (List.mem_append_left _ hy))); obtain ⟨wu', -⟩ := Res.says.some hp' (G1 n a' k' hw' hok'.1.2 (fun y hy => hd' y (List.mem_append_left _ hy))); rw [← J8 da]; refine ih _ Aa b b' _ _ ⟨hok.1.1, wu, hw⟩ ⟨hok'.1.1, wu', hw'⟩ hok.2 hok'.2 (fun y hy => ?_) (fun y hy => ?_) ?_ ?_
     ·simp only [KE.dom, List.mem_cons]
      by_cases hyx : y = x
      ·exact .inl hyx
      ·exact .inr (hd y (List.mem_append_right _ (show y ∈ b.occ ([] ++ [x]) from Ex.occ_mem.2 ⟨hy, by simpa using hyx⟩)))
     ·simp only [KE.dom, List.mem_cons]
      by_cases hyx : y = x'
      ·exact .inl hyx
      ·exact .inr (hd' y (List.mem_append_right _ (show y ∈ b'.occ ([] ++ [x']) from Ex.occ_mem.2 ⟨hy, by simpa using hyx⟩)))
     ·simp only [KE.db, hu, hk]
     ·simp only [KE.names]; exact heb
   | un o a =>
    cases e' <;> simp only [Ex.db, reduceCtorEq, Ex.un.injEq] at he
    rename_i o' a'
    obtain ⟨rfl, hea⟩ := he
    have da := ih n Aa a a' k k' hw hw' hok hok' (fun y hy => hd y hy) (fun y hy => hd' y hy) hk hea
    rw [Hg, Hg]
    cases hp : (eval n a k).v with
    | none => rw [K5 da hp]; exact da
    | some u =>
     obtain ⟨u', hp', hu⟩ := Mn da hp; rw [hp']
     exact Adl (Ace hu) (J8 da)
theorem Ui : ∀ {u u' : KV}, u.db = u'.db → u.show = u'.show
 | .num s, .num s', h => by simpa [KV.db, KV.show] using h
 | .pair a b, .pair a' b', h => by
  simp only [KV.db, KV.pair.injEq] at h
  simp only [KV.show, Ui h.1, Ui h.2]
 | .clo _ _ _ _ _ _, .clo _ _ _ _ _ _, h => rfl
 | .num s, .pair _ _, h => by simp [KV.db] at h
 | .num s, .clo _ _ _ _ _ _, h => by simp [KV.db] at h
 | .pair _ _, .num _, h => by simp [KV.db] at h
 | .pair _ _, .clo _ _ _ _ _ _, h => by simp [KV.db] at h
 | .clo _ _ _ _ _ _, .num _, h => by simp [KV.db] at h
 | .clo _ _ _ _ _ _, .pair _ _, h => by simp [KV.db] at h
theorem Aaf {e f : Ex} (has : e.as f) (ho : e.ok = true) (ho' : f.ok = true) (hc : e.occ [] = []) (hc' : f.occ [] = []) (n : Nat) : Kx e n = Kx f n := by
 have h := Ach n e f .nil .nil trivial trivial ho ho' (fun y hy => by rw [hc] at hy; cases hy) (fun y hy => by rw [hc'] at hy; cases hy) rfl has
 unfold Kx
 cases hv : (eval n e .nil).v with
 | none => rw [K5 h hv]
 | some u =>
  obtain ⟨u', hv', hu⟩ := Mn h hv; rw [hv']
  simp only [Ui hu, J8 h]
theorem Xa {s : As} (h : ¬ Kc s < 0) : ∃ (o : As) (g : Nat), Kc s = (g : Nat) ∧ 1 ≤ g ∧ F5 s (g : Nat) = some (o, g) ∧ F5 s ((g : Nat) - 1) = none ∧ ∀ p, Ip s = some p → p.length ≤ 12000 ∧ Kc p = (g : Nat) := by
 obtain ⟨r, hr, hf⟩ := Za (by omega : 0 ≤ Kc s); obtain ⟨o, g⟩ := r
 have hr' : F5 s ((2000 : Nat) : Int) = some (o, g) := hr
 obtain ⟨h1, h2, h3⟩ := W5 hr'; refine ⟨o, g, hf, h2, h1, W4 hr', fun p hp => ?_⟩; obtain ⟨e, N, w, hc, hN, hN2, hw, hre, hl, hwf, hg⟩ := No hr; obtain ⟨hx, hok, hz, hll, hcl⟩ := Gp hc
 have hoe : e.occ [] = [] := by simpa [Ex.closed] using hcl
 rw [N3 hx] at hp; obtain rfl := Option.some.inj hp
 have hxp := W6 hx
 have hokp := (P2 hxp).2.1
 have hop : e.plain.occ [] = [] := by rw [((Ex.plain_as e).free hokp hok).2]; exact hoe
 have hcp := U0 (P2 hxp).1 hop
 refine ⟨Adr hxp, ?_⟩
 have : F5 e.plain.tree.text 2000 = some (o, g) := by
  rw [show (2000 : Int) = ((2000 : Nat) : Int) from rfl, Ic hcp (Nat.le_refl _), Aaf (Ex.plain_as e) hokp hok hop hoe, ← Ic hc (Nat.le_refl _)]
  exact hr
 exact Qw this
theorem Xk {I : Heap} (ht : Tab I) {oa : Option Addr} {code : List UInt8} {c : Nat} (h : Bytes I oa code c) (L : Bl) : Fun Tryz.prog 3 [.slice oa code.length c] I L (YES L) := by
 have hlen := h.len
 refine Ao Ad ?_; refine Se rfl (Oa rfl (Ab (Ah (Se rfl (Om rfl (On rfl (Oc rfl rfl rfl (Ab ?_)))))))); refine Az rfl ?_ ?_
 ·intro c0
  try simp only [nb] at c0
  refine Se rfl (Oa rfl (Ab (Al (.tmp rfl .nil) ?_)))
  exact ⟨I, L, .refl _, fun _ h => h, rfl, rfl⟩
 intro c0
 try simp only [nb] at c0
 refine Aj (Se rfl (Om rfl ?_)); refine Ca rfl (Qx h _) ?_; rintro _ J1 _ e1 ⟨s, rfl, hsl, rfl⟩
 have hs : s.length ≤ Bd := by unfold Bd; omega
 refine Oa rfl (Ab (Se rfl (Om rfl ?_))); refine Ca rfl (Qm s hs (ht.mono e1) _) ?_; rintro _ J2 _ e2 ⟨rfl, rfl⟩; refine Oa rfl (Ab (Se rfl (Om rfl ?_))); refine Ca rfl (Xb s (O4 hs) _ _) ?_; rintro _ J3 _ e3 ⟨rfl, rfl⟩
 have hle := (e1.trans e2).trans e3
 refine Oa rfl (Ab (Ah (Se rfl (Om rfl (Om rfl (Oc rfl rfl rfl (Om rfl ?_)))))))
 apply Gk 26 29 rfl
 ·intro g6_4 hk
  try simp only [nb] at g6_4
  refine Ow rfl ?_; refine Dj rfl rfl rfl (.met rfl rfl) rfl ?_; refine Of rfl rfl ?_
  exact Aw 2 rfl rfl hk
 ·intro _ hk; refine A0 2 rfl ?_; refine Ot rfl rfl ?_
  exact Aw 2 rfl rfl hk
 refine Ab ?_; refine Az rfl ?_ ?_
 ·intro c1
  try simp only [nb] at c1
  refine Se rfl (Om rfl (Om rfl (Oc rfl rfl rfl (Oa rfl (Ab (Al (.tmp rfl .nil) ?_)))))); refine ⟨J3, L, hle, Cb, ?_, rfl⟩
  simp [C6]
 intro c1
 try simp only [nb] at c1
 have hf : ¬ Kc s < 0 := by simp at c1; omega
 obtain ⟨o, g, hfg, hg1, h2, h3, h4⟩ := Xa hf
 have hg2 : g ≤ 2000 := by
  obtain ⟨_, N, _, _, q1, q2, _⟩ := No h2
  omega
 have hpN : ((Ip s).getD []).length ≤ Bd := by
  cases hp : Ip s with
  | none => simp
  | some p => have := (h4 p hp).1; simp only [Option.getD_some]; unfold Bd; omega
 clear c1
 rw [hfg]; refine Aj (Se rfl (Om rfl (Om rfl ?_))); refine Ca rfl (W7 s hs (g : Nat) (ht.mono hle) _) ?_; rintro _ J4 _ e4 ⟨rfl, rfl⟩; rw [h2]
 simp only [Option.map_some, Option.getD_some, Option.isSome_some]
 have hle := hle.trans e4
 refine Om rfl ?_
 iterate 3 refine Oe rfl rfl ?_
 iterate 3 refine Oa rfl ?_
 refine Ab (Se rfl (Om rfl (Om rfl ?_))); refine Or rfl rfl rfl ?_; refine Ca rfl (W7 s hs ((g : Nat) - 1) (ht.mono hle) _) ?_; rintro _ J5 _ e5 ⟨rfl, rfl⟩; rw [h3]
 have hle := hle.trans e5
 refine Om rfl ?_
 iterate 3 refine Oe rfl rfl ?_
 iterate 3 refine Oa rfl ?_
 refine Ab (Se rfl (Om rfl ?_)); refine Ca rfl (Vd s hs _ _) ?_; rintro _ J6 _ e6 ⟨rfl, rfl⟩
 have hle := hle.trans e6
 refine Om rfl (Oe rfl rfl (Oe rfl rfl (Oa rfl (Oa rfl (Ab (Se rfl (Om rfl (Om rfl ?_))))))))
 apply C0 54 57 rfl
 ·intro g11_2 hk
  try simp only [nb] at g11_2
  refine Ow rfl ?_; refine Dv rfl (.met rfl rfl) rfl ?_; refine Ot rfl rfl ?_
  exact Aw 2 rfl rfl hk
 ·intro _ hk; refine A0 2 rfl ?_; refine Of rfl rfl ?_
  exact Aw 2 rfl rfl hk
 refine Om rfl ?_
 apply C0 58 62 rfl
 ·intro g11_6 hk
  try simp only [nb] at g11_6
  refine Ow rfl (Ow rfl ?_); refine Dj rfl rfl rfl (.met rfl rfl) rfl ?_; refine Ot rfl rfl ?_
  exact Aw 3 rfl rfl hk
 ·intro _ hk; refine A0 3 rfl ?_; refine Of rfl rfl ?_
  exact Aw 3 rfl rfl hk
 refine Om rfl ?_
 apply C0 63 66 rfl
 ·intro g11_11 hk
  try simp only [nb] at g11_11
  refine Ow rfl ?_; refine Dj rfl rfl rfl (.met rfl rfl) rfl ?_; refine Ot rfl rfl ?_
  exact Aw 2 rfl rfl hk
 ·intro _ hk; refine A0 2 rfl ?_; refine Of rfl rfl ?_
  exact Aw 2 rfl rfl hk
 refine Om rfl ?_
 apply C0 67 76 rfl
 ·intro g11_15 hk
  try simp only [nb] at g11_15
  refine Ow rfl ?_; refine Dv rfl (.met rfl rfl) rfl ?_; refine Ow rfl ?_
  apply Gk 70 75 rfl
  ·intro g11_18 hk
   try simp only [nb] at g11_18
   refine Ow rfl ?_; refine C1 rfl (.met rfl rfl) rfl (Qm ((Ip s).getD []) hpN (ht.mono hle) _) ?_; rintro _ J7 _ e7 ⟨rfl, rfl⟩; refine Fc (fun w h => Mem.le e7 h) ?_; refine Ow rfl ?_; refine Dj rfl rfl rfl (.met rfl rfl) rfl ?_; refine Ey rfl rfl (.met rfl rfl) rfl ?_
   exact Aw 4 rfl rfl hk
  ·intro _ hk; refine A0 4 rfl ?_; refine Fr rfl rfl (.met rfl rfl) rfl ?_
   exact Aw 4 rfl rfl hk
  refine Ot rfl rfl ?_
  exact Aw 4 rfl rfl hk
 ·intro _ hk; refine A0 8 rfl ?_; refine Of rfl rfl ?_
  exact Aw 8 rfl rfl hk
 refine Oa rfl (Ab (Al (.tmp rfl .nil) ?_)); refine ⟨J6, L, hle, Cb, ?_, rfl⟩
 have hg3 : (1 : Int) ≤ (g : Nat) := by omega
 cases hp : Ip s with
 | none => simp [C6, hg3]
 | some p => simp [C6, hg3, (h4 p hp).2]
def Wn (P : Program) (s : String) : Bool :=
 match P.globalNamed s with
 | some g => match (P.globals[g]?).map (·.type) with
  | some t => match P.underlying t with
   | some (.array n e) => (match P.underlying e with | some (.int .u64) => true | _ => false) && (P.cellsOf e == 1) && (P.cellsOf t == n)
   | _ => false
  | none => false
 | none => false
theorem Aec {laid : List (String × DataW Unit)} {W : World} (h : laidMetH Tryz.prog laid W)
  (hk : (laid.filter fun x => x.1 == "internal/strconv.uint64pow10") = [("internal/strconv.uint64pow10", Lib.tabData .u64 Lib.pow10Tab)]) (ht : Wn Tryz.prog "internal/strconv.uint64pow10" = true) : Tab (P5 W) := by
 have h1 := h.filter (fun x => x.1 == "internal/strconv.uint64pow10")
 rw [hk] at h1
 have h1 : laidMet Tryz.prog [("internal/strconv.uint64pow10", Lib.tabData .u64 Lib.pow10Tab)] W := (laidMetH_iff.1 h1).1
 have h2 : Lib.TabIs Tryz.prog W "internal/strconv.uint64pow10" .u64 Lib.pow10Tab := by
  unfold Wn at ht
  split at ht
  ·rename_i g hg
   split at ht
   ·rename_i t hty
    split at ht
    ·rename_i n e hu
     simp only [Bool.and_eq_true, beq_iff_eq] at ht
     obtain ⟨⟨h3, h4⟩, h5⟩ := ht
     split at h3
     ·rename_i he
      exact Lib.tabIs_of_head hg hty hu he h4 h5 h1
     ·cases h3
    ·cases ht
   ·cases ht
  ·cases ht
 intro L w hm
 unfold Lib.TabIs World.var? at h2 ⊢
 cases hg : Tryz.prog.globalNamed "internal/strconv.uint64pow10" with
 | none => rw [hg] at h2; cases h2
 | some g =>
  rw [hg] at h2
  simp only [Option.bind_some] at h2 ⊢
  cases ho : W.heap[g]? with
  | none => rw [ho] at h2; cases h2
  | some o => rw [ho] at h2; rw [hm.1.1 g o ho]; exact h2
end Go.Proofs.YtmfagaajiakgoaaGreatDoor
