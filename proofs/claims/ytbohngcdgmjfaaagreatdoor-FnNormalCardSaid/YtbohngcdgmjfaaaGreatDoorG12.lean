/- Plain names given to an expression, by the reference. No conditions. -/
import Derived.Test.YtbohngcdgmjfaaaGreatDoorG11

namespace Go.Proofs.YtbohngcdgmjfaaaGreatDoor
set_option maxRecDepth 100000
set_option linter.unusedVariables false
set_option linter.unusedSimpArgs false

structure Ly where
 b6 : Nat
 b14 : Nat
 b16 : Nat
 b20 : Nat
 B : H3
 c : Nat
 D : H3
 e : Nat
def PR (b : Nat) (oa : Option Addr) (av : List Am) (c : Nat) (p : Ex × Nat) (L : Bc) : C3 := fun v I' L' => ∃ cs, v = .agg (List.toArray cs) ∧ Rep I' p.1.tree cs ∧ L' = rn b oa av c p.2 :: L
def Mv (n : Nat) : Prop := ∀ {I : Heap} {e : Ex} {cs : List Value} (_ : SizeOf.sizeOf e < n) (_ : Rep I e.tree cs) (_ : e.ok = true) {f t : List Am} {of ot : Option Addr} {cf ct : Nat} (_ : Strs I of f cf) (_ : Strs I ot t ct) (_ : f.length = t.length) (_ : f.length + 2 * e.size ≤ 100000)
  {oa : Option Addr} {av : List Am} {c : Nat} (_ : Strs I oa av c) (b k : Nat) (_ : k + e.nb + av.length ≤ 90 + Eb 120 av k) (_ : av.length ≤ 500) (L : Bc),
  Fun Tryz.prog 102 [.agg cs.toArray, .slice of f.length cf, .slice ot t.length ct, .pointer (some ⟨b, 0, none⟩)] I (rn b oa av c k :: L) (PR b oa av c (e.pl av f t k) L)
set_option maxHeartbeats 2000000 in
theorem Xk {n : Nat} (ihn : Mv n) {o : B5} {a b : Ex} {I : Heap} {cs : List Value} (hlt : SizeOf.sizeOf (Ex.bin o a b) < n + 1) (h : Rep I (Ex.bin o a b).tree cs) (hok : (Ex.bin o a b).ok = true) {f t : List Am} {of ot : Option Addr} {cf ct : Nat} (hfr : Strs I of f cf) (hto : Strs I ot t ct) (hft : f.length = t.length) (hfl : f.length + 2 * (Ex.bin o a b).size ≤ 100000)
  {ov : Option Addr} {av : List Am} {cv : Nat} (hav : Strs I ov av cv) (bp k : Nat) (hk : k + (Ex.bin o a b).nb + av.length ≤ 90 + Eb 120 av k) (ha5 : av.length ≤ 500) (L : Bc) :
  Fun Tryz.prog 102 [.agg cs.toArray, .slice of f.length cf, .slice ot t.length ct, .pointer (some ⟨bp, 0, none⟩)] I (rn bp ov av cv k :: L) (PR bp ov av cv ((Ex.bin o a b).pl av f t k) L) := by
 obtain ⟨oa, c, oaf, cf1, rfl, hf, hcl, hcs⟩ := h.cells
 have hle : HLe I I := .refl _
 have ha := hf.alen
 have hh0 := Bf 120 av k
 refine Aj (by simp) ?_; refine Se rfl ?_; refine Cc rfl rfl .free rfl ?_; intro b4; refine At .free rfl ?_; intro b8; refine Aa (Ab (Se rfl (Oh rfl ?_))); refine Bg rfl .free rfl ?_; refine Od rfl rfl rfl (Aa ?_)
 first | refine Eu rfl (by simp [Ex.tree, Tree.atom]) ?_ | refine Et rfl (by simp [Ex.tree, Tree.atom]) ?_ | refine A8 (by simp [Bu, Bo, *]) ?_
 refine Af (Ab ?_)
 have hok0 := hok
 have hb : (Ex.bin o a b).bare = false := rfl
 have hpos : 0 < (Ex.bin o a b).tree.parts.length := by
  rw [Ex.bare_parts] at hb
  have : (Ex.bin o a b).tree.parts ≠ [] := by intro hh; rw [hh] at hb; cases hb
  exact List.length_pos_iff.2 this
 have hhd := Gg hpos
 obtain ⟨xa, rfl⟩ : ∃ xa, oa = some xa := ⟨_, Ev hf.nil hpos⟩
 have hp := hf.len
 unfold Ap at hp
 refine Ah rfl ?_; refine C5 .free rfl ?_; intro b29; refine Oh rfl ?_; refine Bg rfl .free rfl ?_; refine D5 (B := some (b29, [])) (xs := []) (ys := Df oaf cf1 0 (Ex.bin o a b).tree.parts) (m := 0) (c := 0) (by intro kk; simp) (by rfl) rfl rfl ⟨rfl, Nat.le_refl _, rfl⟩ (fun _ h => h) (by have := hcl.length; omega) (fun a ha => by cases ha; exact (hcs _ rfl).reads) (by simp) hcl.plain hpos (by decide) (by omega) (by decide) .free rfl ?_; intro bc sp cc hB'
 have hcc : (Ex.bin o a b).tree.parts.length ≤ cc := by have := hB'.2.1; omega
 refine F1 (t := 32) (v' := .slice (some ⟨bc, 0, none⟩) (Ex.bin o a b).tree.parts.length cc) rfl (by rw [Nat.zero_add]) ?_
 simp only [List.nil_append]
 refine Cf rfl rfl rfl .free rfl ?_; refine At .free rfl ?_; intro b9; refine Bp rfl rfl rfl rfl .free ?_; refine Aa (Se rfl (Oh rfl ?_)); refine Bg rfl .free rfl ?_
 first | refine Bi rfl rfl 0 rfl .free rfl ?_ | refine Bj rfl rfl 0 rfl .free rfl ?_
 refine A3 rfl .free rfl ?_; refine Es rfl .free rfl ?_; refine Ca rfl (H8 ((Ex.bin o a b).tree.pt 0).atom _ _) ?_; rw [← hhd]; rintro _ _ _ _ ⟨rfl, rfl, rfl⟩; refine Om rfl (Oe rfl rfl (Oe rfl rfl (Oa rfl (Oa rfl (Aa (Ab (Ab ?_)))))))
 have hkr : Ar (Ex.bin o a b).tree.head = (1, 3) := by cases o <;> rfl
 rw [hkr]
 have hlen : (Ex.bin o a b).tree.parts.length = 3 := rfl
 have hki := Gb o a b
 have hp0 : ((Ex.bin o a b).tree.pt 0).atom = o.txt := rfl
 simp only [Ex.bin.sizeOf_spec] at hlt
 simp only [Ex.ok, Bool.and_eq_true, decide_eq_true_eq] at hok
 simp only [Ex.nb] at hk
 simp only [Ex.size] at hfl
 simp only [show (Ex.bin o a b).tree.parts = [.node o.txt [], a.tree, b.tree] from rfl, Df, List.cons_append, List.nil_append]
 refine C4 (fun w h => h.f4) ?_; refine Ah rfl (Oh rfl ?_); refine Bg rfl .free rfl ?_
 first | refine Bi rfl rfl 0 rfl .free rfl ?_ | refine Bj rfl rfl 0 rfl .free rfl ?_
 refine A3 rfl .free rfl ?_; refine Es rfl .free rfl ?_; refine Od rfl rfl rfl (Aa ?_)
 first | refine Eu rfl (by rw [hp0]; cases o <;> decide) ?_ | refine Et rfl (by rw [hp0]; cases o <;> decide) ?_ | refine A8 (by simp [Bu, Bo, *]) ?_
 refine Af (Ab (Se rfl (Oh rfl ?_))); refine Bg rfl .free rfl ?_
 first | refine Bi rfl rfl 0 rfl .free rfl ?_ | refine Bj rfl rfl 0 rfl .free rfl ?_
 refine A3 rfl .free rfl ?_; refine Es rfl .free rfl ?_; refine Od rfl rfl rfl (Aa ?_)
 first | refine Eu rfl (by rw [hp0]; cases o <;> decide) ?_ | refine Et rfl (by rw [hp0]; cases o <;> decide) ?_ | refine A8 (by simp [Bu, Bo, *]) ?_
 refine Af (Ab (Se rfl (Om rfl (Oa rfl (Aa (Ai ?_)))))); refine Dd ?_; refine Ab (Se rfl (Om rfl (Om rfl (Oc rfl rfl rfl (Aa ?_))))); refine Bn rfl (by first | rfl | decide | (simp; done) | omega) ?_; refine Af (Ab (Ai ?_)); refine C0 fun hlr => ?_
 have hpl := a.pl_hits av (f) (t) k
 refine Ge 14 rfl rfl ?_; refine Da 0 rfl (Ae rfl) ?_; refine Dt 1 [13] rfl (A7 rfl) ?_; refine Da 2 rfl (Ac rfl) ?_; refine Da 3 rfl (Ae rfl) ?_; refine Dt 4 [13] rfl (A7 rfl) ?_; refine Da 5 rfl (Ac rfl) ?_
 first | refine Da 6 rfl (A4 rfl rfl _ rfl) ?_ | refine Da 6 rfl (A5 rfl rfl _ rfl) ?_
 refine Dt 7 [13] rfl (Bz rfl) ?_; refine Da 8 rfl (Ac rfl) ?_; refine Da 9 rfl (Ac rfl) ?_; refine Da 10 rfl (Ac rfl) ?_; refine Dc 11 rfl rfl (ihn (f := f) (t := t) (by omega) (hf.as 1 a.tree (by omega) rfl) hok.1 hfr hto (by simp [hft]) (by first | omega | (simp only [List.length_append, List.length_cons, List.length_nil]; omega)) hav bp _ (by omega) ha5 _) ?_; rintro _ J2 _ e2 ⟨cs2, rfl, hr_0, rfl⟩; obtain ⟨o2, k2, _, rfl, -⟩ := hr_0.open
 have hlr := hlr.trans e2
 have hf := hf.mono e2
 have hfr := hfr.mono e2
 have hto := hto.mono e2
 have hav := hav.mono e2
 have hle := hle.trans e2
 refine Hx ?_
 first | refine Da 12 rfl (A4 rfl rfl _ rfl) ?_ | refine Da 12 rfl (A5 rfl rfl _ rfl) ?_
 refine Dx 13 rfl rfl rfl rfl ?_; refine Au (by kernel_rfl) ?_; refine Ak (Ah rfl (Om rfl ?_)); refine Or rfl rfl rfl ?_; refine Oa rfl (Aa ?_); refine Bm ?_; refine Ab (Se rfl (Om rfl (Om rfl (Oc rfl rfl rfl (Aa ?_))))); refine Bn rfl (by first | rfl | decide | (simp; done) | omega) ?_; refine Af (Ab (Ai ?_)); refine C0 fun hlr => ?_
 have hpl := b.pl_hits av (f) (t) (a.pl av (f) (t) k).2
 refine Ge 14 rfl rfl ?_; refine Da 0 rfl (Ae rfl) ?_; refine Dt 1 [13] rfl (A7 rfl) ?_; refine Da 2 rfl (Ac rfl) ?_; refine Da 3 rfl (Ae rfl) ?_; refine Dt 4 [13] rfl (A7 rfl) ?_; refine Da 5 rfl (Ac rfl) ?_
 first | refine Da 6 rfl (A4 rfl rfl _ rfl) ?_ | refine Da 6 rfl (A5 rfl rfl _ rfl) ?_
 refine Dt 7 [13] rfl (Bz rfl) ?_; refine Da 8 rfl (Ac rfl) ?_; refine Da 9 rfl (Ac rfl) ?_; refine Da 10 rfl (Ac rfl) ?_; refine Dc 11 rfl rfl (ihn (f := f) (t := t) (by omega) (hf.as 2 b.tree (by omega) rfl) hok.2 hfr hto (by simp [hft]) (by first | omega | (simp only [List.length_append, List.length_cons, List.length_nil]; omega)) hav bp _ (by omega) ha5 _) ?_; rintro _ J2 _ e2 ⟨cs2, rfl, hr_1, rfl⟩; obtain ⟨o2, k2, _, rfl, -⟩ := hr_1.open
 have hlr := hlr.trans e2
 have hf := hf.mono e2
 have hfr := hfr.mono e2
 have hto := hto.mono e2
 have hav := hav.mono e2
 have hle := hle.trans e2
 have hr_0 := hr_0.mono e2
 refine Hx ?_
 first | refine Da 12 rfl (A4 rfl rfl _ rfl) ?_ | refine Da 12 rfl (A5 rfl rfl _ rfl) ?_
 refine Dx 13 rfl rfl rfl rfl ?_; refine Au (by kernel_rfl) ?_; refine Ak (Ah rfl (Om rfl ?_)); refine Or rfl rfl rfl ?_; refine Oa rfl (Aa ?_); refine Bm ?_; refine Ab (Se rfl (Om rfl (Om rfl (Oc rfl rfl rfl (Aa ?_))))); refine Co rfl (by first | rfl | decide | (simp; done) | omega) ?_; refine Bq rfl ?_; refine Se rfl ?_; refine Aw rfl .free rfl ?_; refine Bp rfl rfl rfl rfl .free ?_; refine Aa ?_; refine C4 (fun w h => h.f2) (Bx ?_); intro hz
 have hf := hf.mono hz
 refine Ag (.c rfl .nil) ?_
 exact ⟨_, _, hle.trans hz, fun w h => Mem.sub (L' := rn bp ov av cv _ :: L) (by repeat (first | exact List.Sublist.refl _ | apply List.Sublist.cons_cons | apply List.Sublist.cons)) h, _, rfl, .mk' rfl (.cons (hf.as 0 (.node o.txt []) (by omega) rfl) (.cons (hr_0.mono hz) (.cons (hr_1.mono hz) (.nil)))) (fun y hy => by cases hy; exact Ax (xs := [_, _, _, _, _, _])) (by simp) hcc (by simp [Ap]) (by simp [Ap]), rfl⟩
set_option maxHeartbeats 2000000 in
theorem Xl {n : Nat} (ihn : Mv n) {a b d : Ex} {I : Heap} {cs : List Value} (hlt : SizeOf.sizeOf (Ex.ite a b d) < n + 1) (h : Rep I (Ex.ite a b d).tree cs) (hok : (Ex.ite a b d).ok = true) {f t : List Am} {of ot : Option Addr} {cf ct : Nat} (hfr : Strs I of f cf) (hto : Strs I ot t ct) (hft : f.length = t.length) (hfl : f.length + 2 * (Ex.ite a b d).size ≤ 100000)
  {ov : Option Addr} {av : List Am} {cv : Nat} (hav : Strs I ov av cv) (bp k : Nat) (hk : k + (Ex.ite a b d).nb + av.length ≤ 90 + Eb 120 av k) (ha5 : av.length ≤ 500) (L : Bc) :
  Fun Tryz.prog 102 [.agg cs.toArray, .slice of f.length cf, .slice ot t.length ct, .pointer (some ⟨bp, 0, none⟩)] I (rn bp ov av cv k :: L) (PR bp ov av cv ((Ex.ite a b d).pl av f t k) L) := by
 obtain ⟨oa, c, oaf, cf1, rfl, hf, hcl, hcs⟩ := h.cells
 have hle : HLe I I := .refl _
 have ha := hf.alen
 have hh0 := Bf 120 av k
 refine Aj (by simp) ?_; refine Se rfl ?_; refine Cc rfl rfl .free rfl ?_; intro b4; refine At .free rfl ?_; intro b8; refine Aa (Ab (Se rfl (Oh rfl ?_))); refine Bg rfl .free rfl ?_; refine Od rfl rfl rfl (Aa ?_)
 first | refine Eu rfl (by simp [Ex.tree, Tree.atom]) ?_ | refine Et rfl (by simp [Ex.tree, Tree.atom]) ?_ | refine A8 (by simp [Bu, Bo, *]) ?_
 refine Af (Ab ?_)
 have hok0 := hok
 have hb : (Ex.ite a b d).bare = false := rfl
 have hpos : 0 < (Ex.ite a b d).tree.parts.length := by
  rw [Ex.bare_parts] at hb
  have : (Ex.ite a b d).tree.parts ≠ [] := by intro hh; rw [hh] at hb; cases hb
  exact List.length_pos_iff.2 this
 have hhd := Gg hpos
 obtain ⟨xa, rfl⟩ : ∃ xa, oa = some xa := ⟨_, Ev hf.nil hpos⟩
 have hp := hf.len
 unfold Ap at hp
 refine Ah rfl ?_; refine C5 .free rfl ?_; intro b29; refine Oh rfl ?_; refine Bg rfl .free rfl ?_; refine D5 (B := some (b29, [])) (xs := []) (ys := Df oaf cf1 0 (Ex.ite a b d).tree.parts) (m := 0) (c := 0) (by intro kk; simp) (by rfl) rfl rfl ⟨rfl, Nat.le_refl _, rfl⟩ (fun _ h => h) (by have := hcl.length; omega) (fun a ha => by cases ha; exact (hcs _ rfl).reads) (by simp) hcl.plain hpos (by decide) (by omega) (by decide) .free rfl ?_; intro bc sp cc hB'
 have hcc : (Ex.ite a b d).tree.parts.length ≤ cc := by have := hB'.2.1; omega
 refine F1 (t := 32) (v' := .slice (some ⟨bc, 0, none⟩) (Ex.ite a b d).tree.parts.length cc) rfl (by rw [Nat.zero_add]) ?_
 simp only [List.nil_append]
 refine Cf rfl rfl rfl .free rfl ?_; refine At .free rfl ?_; intro b9; refine Bp rfl rfl rfl rfl .free ?_; refine Aa (Se rfl (Oh rfl ?_)); refine Bg rfl .free rfl ?_
 first | refine Bi rfl rfl 0 rfl .free rfl ?_ | refine Bj rfl rfl 0 rfl .free rfl ?_
 refine A3 rfl .free rfl ?_; refine Es rfl .free rfl ?_; refine Ca rfl (H8 ((Ex.ite a b d).tree.pt 0).atom _ _) ?_; rw [← hhd]; rintro _ _ _ _ ⟨rfl, rfl, rfl⟩; refine Om rfl (Oe rfl rfl (Oe rfl rfl (Oa rfl (Oa rfl (Aa (Ab (Ab ?_)))))))
 have hkr : Ar (Ex.ite a b d).tree.head = (1, 4) := rfl
 rw [hkr]
 have hlen : (Ex.ite a b d).tree.parts.length = 4 := rfl
 have hki := Ia a b d
 have hp0 : ((Ex.ite a b d).tree.pt 0).atom = E9 := rfl
 simp only [Ex.ite.sizeOf_spec] at hlt
 simp only [Ex.ok, Bool.and_eq_true, decide_eq_true_eq] at hok
 simp only [Ex.nb] at hk
 simp only [Ex.size] at hfl
 simp only [show (Ex.ite a b d).tree.parts = [.node E9 [], a.tree, b.tree, d.tree] from rfl, Df, List.cons_append, List.nil_append]
 refine C4 (fun w h => h.f4) ?_; refine Ah rfl (Oh rfl ?_); refine Bg rfl .free rfl ?_
 first | refine Bi rfl rfl 0 rfl .free rfl ?_ | refine Bj rfl rfl 0 rfl .free rfl ?_
 refine A3 rfl .free rfl ?_; refine Es rfl .free rfl ?_; refine Od rfl rfl rfl (Aa ?_)
 first | refine Eu rfl (by rw [hp0]; decide) ?_ | refine Et rfl (by rw [hp0]; decide) ?_ | refine A8 (by simp [Bu, Bo, *]) ?_
 refine Af (Ab (Se rfl (Oh rfl ?_))); refine Bg rfl .free rfl ?_
 first | refine Bi rfl rfl 0 rfl .free rfl ?_ | refine Bj rfl rfl 0 rfl .free rfl ?_
 refine A3 rfl .free rfl ?_; refine Es rfl .free rfl ?_; refine Od rfl rfl rfl (Aa ?_)
 first | refine Eu rfl (by rw [hp0]; decide) ?_ | refine Et rfl (by rw [hp0]; decide) ?_ | refine A8 (by simp [Bu, Bo, *]) ?_
 refine Af (Ab (Se rfl (Om rfl (Oa rfl (Aa (Ai ?_)))))); refine Dd ?_; refine Ab (Se rfl (Om rfl (Om rfl (Oc rfl rfl rfl (Aa ?_))))); refine Bn rfl (by first | rfl | decide | (simp; done) | omega) ?_; refine Af (Ab (Ai ?_)); refine C0 fun hlr => ?_
 have hpl := a.pl_hits av (f) (t) k
 refine Ge 14 rfl rfl ?_; refine Da 0 rfl (Ae rfl) ?_; refine Dt 1 [13] rfl (A7 rfl) ?_; refine Da 2 rfl (Ac rfl) ?_; refine Da 3 rfl (Ae rfl) ?_; refine Dt 4 [13] rfl (A7 rfl) ?_; refine Da 5 rfl (Ac rfl) ?_
 first | refine Da 6 rfl (A4 rfl rfl _ rfl) ?_ | refine Da 6 rfl (A5 rfl rfl _ rfl) ?_
 refine Dt 7 [13] rfl (Bz rfl) ?_; refine Da 8 rfl (Ac rfl) ?_; refine Da 9 rfl (Ac rfl) ?_; refine Da 10 rfl (Ac rfl) ?_; refine Dc 11 rfl rfl (ihn (f := f) (t := t) (by omega) (hf.as 1 a.tree (by omega) rfl) hok.1.1 hfr hto (by simp [hft]) (by first | omega | (simp only [List.length_append, List.length_cons, List.length_nil]; omega)) hav bp _ (by omega) ha5 _) ?_; rintro _ J2 _ e2 ⟨cs2, rfl, hr_0, rfl⟩; obtain ⟨o2, k2, _, rfl, -⟩ := hr_0.open
 have hlr := hlr.trans e2
 have hf := hf.mono e2
 have hfr := hfr.mono e2
 have hto := hto.mono e2
 have hav := hav.mono e2
 have hle := hle.trans e2
 refine Hx ?_
 first | refine Da 12 rfl (A4 rfl rfl _ rfl) ?_ | refine Da 12 rfl (A5 rfl rfl _ rfl) ?_
 refine Dx 13 rfl rfl rfl rfl ?_; refine Au (by kernel_rfl) ?_; refine Ak (Ah rfl (Om rfl ?_)); refine Or rfl rfl rfl ?_; refine Oa rfl (Aa ?_); refine Bm ?_; refine Ab (Se rfl (Om rfl (Om rfl (Oc rfl rfl rfl (Aa ?_))))); refine Bn rfl (by first | rfl | decide | (simp; done) | omega) ?_; refine Af (Ab (Ai ?_)); refine C0 fun hlr => ?_
 have hpl := b.pl_hits av (f) (t) (a.pl av (f) (t) k).2
 refine Ge 14 rfl rfl ?_; refine Da 0 rfl (Ae rfl) ?_; refine Dt 1 [13] rfl (A7 rfl) ?_; refine Da 2 rfl (Ac rfl) ?_; refine Da 3 rfl (Ae rfl) ?_; refine Dt 4 [13] rfl (A7 rfl) ?_; refine Da 5 rfl (Ac rfl) ?_
 first | refine Da 6 rfl (A4 rfl rfl _ rfl) ?_ | refine Da 6 rfl (A5 rfl rfl _ rfl) ?_
 refine Dt 7 [13] rfl (Bz rfl) ?_; refine Da 8 rfl (Ac rfl) ?_; refine Da 9 rfl (Ac rfl) ?_; refine Da 10 rfl (Ac rfl) ?_; refine Dc 11 rfl rfl (ihn (f := f) (t := t) (by omega) (hf.as 2 b.tree (by omega) rfl) hok.1.2 hfr hto (by simp [hft]) (by first | omega | (simp only [List.length_append, List.length_cons, List.length_nil]; omega)) hav bp _ (by omega) ha5 _) ?_; rintro _ J2 _ e2 ⟨cs2, rfl, hr_1, rfl⟩; obtain ⟨o2, k2, _, rfl, -⟩ := hr_1.open
 have hlr := hlr.trans e2
 have hf := hf.mono e2
 have hfr := hfr.mono e2
 have hto := hto.mono e2
 have hav := hav.mono e2
 have hle := hle.trans e2
 have hr_0 := hr_0.mono e2
 refine Hx ?_
 first | refine Da 12 rfl (A4 rfl rfl _ rfl) ?_ | refine Da 12 rfl (A5 rfl rfl _ rfl) ?_
 refine Dx 13 rfl rfl rfl rfl ?_; refine Au (by kernel_rfl) ?_; refine Ak (Ah rfl (Om rfl ?_)); refine Or rfl rfl rfl ?_; refine Oa rfl (Aa ?_); refine Bm ?_; refine Ab (Se rfl (Om rfl (Om rfl (Oc rfl rfl rfl (Aa ?_))))); refine Bn rfl (by first | rfl | decide | (simp; done) | omega) ?_; refine Af (Ab (Ai ?_)); refine C0 fun hlr => ?_
 have hpl := d.pl_hits av (f) (t) (b.pl av (f) (t) (a.pl av (f) (t) k).2).2
 refine Ge 14 rfl rfl ?_; refine Da 0 rfl (Ae rfl) ?_; refine Dt 1 [13] rfl (A7 rfl) ?_; refine Da 2 rfl (Ac rfl) ?_; refine Da 3 rfl (Ae rfl) ?_; refine Dt 4 [13] rfl (A7 rfl) ?_; refine Da 5 rfl (Ac rfl) ?_
 first | refine Da 6 rfl (A4 rfl rfl _ rfl) ?_ | refine Da 6 rfl (A5 rfl rfl _ rfl) ?_
 refine Dt 7 [13] rfl (Bz rfl) ?_; refine Da 8 rfl (Ac rfl) ?_; refine Da 9 rfl (Ac rfl) ?_; refine Da 10 rfl (Ac rfl) ?_; refine Dc 11 rfl rfl (ihn (f := f) (t := t) (by omega) (hf.as 3 d.tree (by omega) rfl) hok.2 hfr hto (by simp [hft]) (by first | omega | (simp only [List.length_append, List.length_cons, List.length_nil]; omega)) hav bp _ (by omega) ha5 _) ?_; rintro _ J2 _ e2 ⟨cs2, rfl, hr_2, rfl⟩; obtain ⟨o2, k2, _, rfl, -⟩ := hr_2.open
 have hlr := hlr.trans e2
 have hf := hf.mono e2
 have hfr := hfr.mono e2
 have hto := hto.mono e2
 have hav := hav.mono e2
 have hle := hle.trans e2
 have hr_0 := hr_0.mono e2
 have hr_1 := hr_1.mono e2
 refine Hx ?_
 first | refine Da 12 rfl (A4 rfl rfl _ rfl) ?_ | refine Da 12 rfl (A5 rfl rfl _ rfl) ?_
 refine Dx 13 rfl rfl rfl rfl ?_; refine Au (by kernel_rfl) ?_; refine Ak (Ah rfl (Om rfl ?_)); refine Or rfl rfl rfl ?_; refine Oa rfl (Aa ?_); refine Bm ?_; refine Ab (Se rfl (Om rfl (Om rfl (Oc rfl rfl rfl (Aa ?_))))); refine Co rfl (by first | rfl | decide | (simp; done) | omega) ?_; refine Bq rfl ?_; refine Se rfl ?_; refine Aw rfl .free rfl ?_; refine Bp rfl rfl rfl rfl .free ?_; refine Aa ?_; refine C4 (fun w h => h.f2) (Bx ?_); intro hz
 have hf := hf.mono hz
 refine Ag (.c rfl .nil) ?_
 exact ⟨_, _, hle.trans hz, fun w h => Mem.sub (L' := rn bp ov av cv _ :: L) (by repeat (first | exact List.Sublist.refl _ | apply List.Sublist.cons_cons | apply List.Sublist.cons)) h, _, rfl, .mk' rfl (.cons (hf.as 0 (.node E9 []) (by omega) rfl) (.cons (hr_0.mono hz) (.cons (hr_1.mono hz) (.cons (hr_2.mono hz) (.nil))))) (fun y hy => by cases hy; exact Ax (xs := [_, _, _, _, _, _, _, _])) (by simp) hcc (by simp [Ap]) (by simp [Ap]), rfl⟩
set_option maxHeartbeats 2000000 in
theorem Zm {n : Nat} (ihn : Mv n) {z : Am} {a b : Ex} {I : Heap} {cs : List Value} (hlt : SizeOf.sizeOf (Ex.lt z a b) < n + 1) (h : Rep I (Ex.lt z a b).tree cs) (hok : (Ex.lt z a b).ok = true) {f t : List Am} {of ot : Option Addr} {cf ct : Nat} (hfr : Strs I of f cf) (hto : Strs I ot t ct) (hft : f.length = t.length) (hfl : f.length + 2 * (Ex.lt z a b).size ≤ 100000)
  {ov : Option Addr} {av : List Am} {cv : Nat} (hav : Strs I ov av cv) (bp k : Nat) (hk : k + (Ex.lt z a b).nb + av.length ≤ 90 + Eb 120 av k) (ha5 : av.length ≤ 500) (L : Bc) :
  Fun Tryz.prog 102 [.agg cs.toArray, .slice of f.length cf, .slice ot t.length ct, .pointer (some ⟨bp, 0, none⟩)] I (rn bp ov av cv k :: L) (PR bp ov av cv ((Ex.lt z a b).pl av f t k) L) := by
 obtain ⟨oa, c, oaf, cf1, rfl, hf, hcl, hcs⟩ := h.cells
 have hle : HLe I I := .refl _
 have ha := hf.alen
 have hh0 := Bf 120 av k
 refine Aj (by simp) ?_; refine Se rfl ?_; refine Cc rfl rfl .free rfl ?_; intro b4; refine At .free rfl ?_; intro b8; refine Aa (Ab (Se rfl (Oh rfl ?_))); refine Bg rfl .free rfl ?_; refine Od rfl rfl rfl (Aa ?_)
 first | refine Eu rfl (by simp [Ex.tree, Tree.atom]) ?_ | refine Et rfl (by simp [Ex.tree, Tree.atom]) ?_ | refine A8 (by simp [Bu, Bo, *]) ?_
 refine Af (Ab ?_)
 have hok0 := hok
 have hb : (Ex.lt z a b).bare = false := rfl
 have hpos : 0 < (Ex.lt z a b).tree.parts.length := by
  rw [Ex.bare_parts] at hb
  have : (Ex.lt z a b).tree.parts ≠ [] := by intro hh; rw [hh] at hb; cases hb
  exact List.length_pos_iff.2 this
 have hhd := Gg hpos
 obtain ⟨xa, rfl⟩ : ∃ xa, oa = some xa := ⟨_, Ev hf.nil hpos⟩
 have hp := hf.len
 unfold Ap at hp
 refine Ah rfl ?_; refine C5 .free rfl ?_; intro b29; refine Oh rfl ?_; refine Bg rfl .free rfl ?_; refine D5 (B := some (b29, [])) (xs := []) (ys := Df oaf cf1 0 (Ex.lt z a b).tree.parts) (m := 0) (c := 0) (by intro kk; simp) (by rfl) rfl rfl ⟨rfl, Nat.le_refl _, rfl⟩ (fun _ h => h) (by have := hcl.length; omega) (fun a ha => by cases ha; exact (hcs _ rfl).reads) (by simp) hcl.plain hpos (by decide) (by omega) (by decide) .free rfl ?_; intro bc sp cc hB'
 have hcc : (Ex.lt z a b).tree.parts.length ≤ cc := by have := hB'.2.1; omega
 refine F1 (t := 32) (v' := .slice (some ⟨bc, 0, none⟩) (Ex.lt z a b).tree.parts.length cc) rfl (by rw [Nat.zero_add]) ?_
 simp only [List.nil_append]
 refine Cf rfl rfl rfl .free rfl ?_; refine At .free rfl ?_; intro b9; refine Bp rfl rfl rfl rfl .free ?_; refine Aa (Se rfl (Oh rfl ?_)); refine Bg rfl .free rfl ?_
 first | refine Bi rfl rfl 0 rfl .free rfl ?_ | refine Bj rfl rfl 0 rfl .free rfl ?_
 refine A3 rfl .free rfl ?_; refine Es rfl .free rfl ?_; refine Ca rfl (H8 ((Ex.lt z a b).tree.pt 0).atom _ _) ?_; rw [← hhd]; rintro _ _ _ _ ⟨rfl, rfl, rfl⟩; refine Om rfl (Oe rfl rfl (Oe rfl rfl (Oa rfl (Oa rfl (Aa (Ab (Ab ?_)))))))
 have hkr : Ar (Ex.lt z a b).tree.head = (2, 4) := rfl
 rw [hkr]
 have hlen : (Ex.lt z a b).tree.parts.length = 4 := rfl
 have hki := Ib z a b
 have hp0 : ((Ex.lt z a b).tree.pt 0).atom = Cw := rfl
 simp only [Ex.lt.sizeOf_spec] at hlt
 simp only [Ex.ok, Bool.and_eq_true, decide_eq_true_eq] at hok
 simp only [Ex.nb] at hk
 simp only [Ex.size] at hfl
 simp only [show (Ex.lt z a b).tree.parts = [.node Cw [], .node z [], a.tree, b.tree] from rfl, Df, List.cons_append, List.nil_append]
 refine C4 (fun w h => h.f4) ?_; refine Ah rfl (Oh rfl ?_); refine Bg rfl .free rfl ?_
 first | refine Bi rfl rfl 0 rfl .free rfl ?_ | refine Bj rfl rfl 0 rfl .free rfl ?_
 refine A3 rfl .free rfl ?_; refine Es rfl .free rfl ?_; refine Od rfl rfl rfl (Aa ?_)
 first | refine Ji rfl (by rw [hp0]; rfl) ?_ | refine Jh rfl (by rw [hp0]; rfl) ?_ | refine Cm (by simp [Bu, Bo, *]) ?_
 refine Ab ?_; obtain ⟨x1, x2, x3⟩ := Dq 120 av k
 have x4 := Dz 120 av k
 have x5 := Bf 120 av (fr 120 av k)
 have x6 := Bf 120 av (fr 120 av k + 1)
 have hzl := Ex.name_len hok.1.1
 refine Ah rfl (Om rfl ?_); refine Ca rfl (M1 hav bp k (by omega) _) ?_; rintro _ _ _ _ ⟨rfl, rfl, rfl⟩
 have hnl1 := Nb (n := fr 120 av k) (by omega)
 generalize hn1e : nm 120 (fr 120 av k) = n1 at hnl1 ⊢
 refine Oa rfl (Aa (Ab ?_)); refine Do 6 rfl rfl ?_; refine Da 0 rfl (Ae rfl) ?_; refine Dt 1 [5] rfl (A7 rfl) ?_; refine Da 2 rfl (Ac rfl) ?_; refine Dc 3 rfl rfl (Gl n1 _ _) ?_; rintro _ _ _ _ ⟨rfl, rfl, rfl⟩; refine Hx ?_
 first | refine Da 4 rfl (A4 rfl rfl 1 rfl) ?_ | refine Da 4 rfl (A5 rfl rfl 1 rfl) ?_
 refine Dx 5 rfl rfl rfl rfl ?_; refine Au (by kernel_rfl) ?_; refine Ab ?_; refine C0 fun hlr => ?_
 have hpl := a.pl_hits av f t (fr 120 av k + 1)
 refine Ge 12 rfl rfl ?_; refine Da 0 rfl (Ae rfl) ?_; refine Dt 1 [11] rfl (A7 rfl) ?_; refine Da 2 rfl (Ae rfl) ?_; refine Dt 3 [11] rfl (A7 rfl) ?_
 first | refine Da 4 rfl (A4 rfl rfl 2 rfl) ?_ | refine Da 4 rfl (A5 rfl rfl 2 rfl) ?_
 refine Dt 5 [11] rfl (Bz rfl) ?_; refine Da 6 rfl (Ac rfl) ?_; refine Da 7 rfl (Ac rfl) ?_; refine Da 8 rfl (Ac rfl) ?_; refine Dc 9 rfl rfl (ihn (f := f) (t := t) (by omega) (hf.as 2 a.tree (by omega) rfl) hok.1.2 hfr hto hft (by omega) hav bp _ (by omega) ha5 _) ?_; rintro _ J2 _ e2 ⟨cs2, rfl, hr_0, rfl⟩; obtain ⟨o2, k2, _, rfl, -⟩ := hr_0.open
 have hlr := hlr.trans e2
 have hf := hf.mono e2
 have hfr := hfr.mono e2
 have hto := hto.mono e2
 have hav := hav.mono e2
 have hle := hle.trans e2
 refine Hx ?_
 first | refine Da 10 rfl (A4 rfl rfl 2 rfl) ?_ | refine Da 10 rfl (A5 rfl rfl 2 rfl) ?_
 refine Dx 11 rfl rfl rfl rfl ?_; refine Au (by kernel_rfl) ?_; refine Ab ?_; refine C0 fun hlr => ?_
 refine Ge 26 rfl rfl ?_; refine Da 0 rfl (Ae rfl) ?_; refine Dt 1 [25] rfl (A7 rfl) ?_; refine Da 2 rfl (Ae rfl) ?_; refine Dt 3 [25] rfl (A7 rfl) ?_
 first | refine Da 4 rfl (A4 rfl rfl 3 rfl) ?_ | refine Da 4 rfl (A5 rfl rfl 3 rfl) ?_
 refine Dt 5 [25] rfl (Bz rfl) ?_; refine Da 7 rfl (Ac rfl) ?_; refine Da 9 rfl (Ae rfl) ?_; refine Dt 10 [25] rfl (A7 rfl) ?_
 first | refine Da 11 rfl (A4 rfl rfl 1 rfl) ?_ | refine Da 11 rfl (A5 rfl rfl 1 rfl) ?_
 refine Da 12 rfl (Ba rfl) ?_; refine Dt 13 [25] rfl (Ii rfl) ?_; refine Da 17 rfl (Ac rfl) ?_; refine Da 19 rfl (Ac rfl) ?_; refine Da 22 rfl (Ac rfl) ?_; refine Cu (E' := [(8, _), (9, _), (68, _), (72, _), (74, _), (80, _), (84, _), (86, _), (89, _)]) ⟨rfl, rfl, rfl, rfl, rfl, rfl, rfl, rfl, rfl, trivial⟩ ?_
 refine Dn (X := Ly) 3 #[true, true, true, true, true, true, true, true, true, true, true, true, true, true, true, true, true, true, true, true, true, true, true, false, false, false] (fun x => [(82, Bd (0 + f.length + 1) x.c x.B), (88, Bd (0 + t.length + 1) x.e x.D)]) (fun x L => A2 9 ([] ++ f.map sv ++ [sv z]) x.B ++ ([(x.b14, .cells [sv z].toArray 9 (0, 0))] ++ (A2 9 ([] ++ t.map sv ++ [sv n1]) x.D ++ ([(x.b20, .cells [sv n1].toArray 9 (0, 0))] ++ L)))) (fun x => Cy 1 (0 + f.length + 1) x.c ([] ++ f.map sv ++ [sv z]) x.B ∧ Cy 1 (0 + t.length + 1) x.e ([] ++ t.map sv ++ [sv n1]) x.D) ?_ ?_
 ·rintro ⟨b6, b14, b16, b20, B2, c2, B4, c4⟩ ⟨hB2, hB4⟩
  simp only at hB2 hB4
  rw [show [] ++ f.map sv ++ [sv z] = (f ++ [z]).map sv by simp] at hB2; rw [show [] ++ t.map sv ++ [sv n1] = (t ++ [n1]).map sv by simp] at hB4; refine Be (L' := A2 9 ((f ++ [z]).map sv) B2 ++ ([(b14, .cells [sv z].toArray 9 (0, 0))] ++ (A2 9 ((t ++ [n1]).map sv) B4 ++ ([(b20, .cells [sv n1].toArray 9 (0, 0))] ++ _)))) (fun w h => by rw [show (f ++ [z]).map sv = [] ++ f.map sv ++ [sv z] by simp, show (t ++ [n1]).map sv = [] ++ t.map sv ++ [sv n1] by simp]; exact h) ?_
  refine Dp hB2 (by simp) (by simp [Ap]; omega) (by intro s hs; rcases List.mem_append.1 hs with hs | hs; exact hfr.each s hs; rw [List.mem_singleton.1 hs]; exact hzl) ?_; intro J3 o3 k3 ez hbv hs3; refine E6 (t := 82) rfl hbv ?_
  have hlr := hlr.trans ez
  have hf := hf.mono ez
  have hfr := hfr.mono ez
  have hto := hto.mono ez
  have hav := hav.mono ez
  have hle := hle.trans ez
  have hr_0 := hr_0.mono ez
  refine Be (fun w h => Mem.seg2 (A := [(b14, _)]) h) ?_; refine Dp hB4 (by simp) (by simp [Ap]; omega) (by intro s hs; rcases List.mem_append.1 hs with hs | hs; exact hto.each s hs; rw [List.mem_singleton.1 hs]; exact hnl1) ?_; intro J4 o4 k4 ey hbv4 hs4; refine E6 (t := 88) rfl hbv4 ?_
  have hs3 := hs3.mono ey
  have hlr := hlr.trans ey
  have hf := hf.mono ey
  have hfr := hfr.mono ey
  have hto := hto.mono ey
  have hav := hav.mono ey
  have hle := hle.trans ey
  have hr_0 := hr_0.mono ey
  refine Be (fun w h => h.drop.drop) ?_; refine Dc 23 rfl rfl (ihn (f := f ++ [z]) (t := t ++ [n1]) (by omega) (hf.as 3 b.tree (by omega) rfl) hok.2 hs3 hs4 (by simp [hft]) (by simp only [List.length_append, List.length_cons, List.length_nil]; omega) hav bp _ (by omega) ha5 _) ?_; rintro _ J5 _ e5 ⟨cs5, rfl, hr_1, rfl⟩; obtain ⟨o5, k5, _, rfl, -⟩ := hr_1.open
  have hlr := hlr.trans e5
  have hf := hf.mono e5
  have hfr := hfr.mono e5
  have hto := hto.mono e5
  have hav := hav.mono e5
  have hle := hle.trans e5
  have hr_0 := hr_0.mono e5
  refine Hx ?_
  first | refine Da 24 rfl (A4 rfl rfl 3 rfl) ?_ | refine Da 24 rfl (A5 rfl rfl 3 rfl) ?_
  refine Dx 25 rfl rfl rfl rfl ?_; refine Au (by kernel_rfl) ?_; refine Se rfl ?_; refine Aw rfl .free rfl ?_; refine Bp rfl rfl rfl rfl .free ?_; refine Aa ?_; refine C4 (fun w h => h.f2) (Bx ?_); intro hz
  have hf := hf.mono hz
  refine Ag (.c rfl .nil) ?_; subst hn1e
  exact ⟨_, _, hle.trans hz, fun w h => Mem.sub (L' := rn bp ov av cv _ :: L) (by repeat (first | exact List.Sublist.refl _ | apply List.Sublist.cons_cons | apply List.Sublist.cons)) h, _, rfl, .mk' rfl (.cons (hf.as 0 (.node Cw []) (by omega) rfl) (.cons (.ofAtom hnl1) (.cons (hr_0.mono hz) (.cons (hr_1.mono hz) .nil)))) (fun y hy => by cases hy; exact Ax (xs := [_, _, _, _, _, _, _, _])) (by simp) hcc (by simp [Ap]) (by simp [Ap]), rfl⟩
 ·intro k5111
  refine Dn (X := Ly) 4 #[true, true, true, true, true, true, true, true, true, true, true, true, true, true, true, true, true, true, true, true, true, false, true, false, false, false] (fun x => [(82, Bd (0 + f.length + 1) x.c x.B), (85, Bd (0 + t.length) x.e x.D), (87, .slice (some ⟨x.b20, 0, none⟩) 1 1)]) (fun x L => A2 9 ([] ++ f.map sv ++ [sv z]) x.B ++ ([(x.b14, .cells [sv z].toArray 9 (0, 0))] ++ (A2 9 ([] ++ t.map sv) x.D ++ ([(x.b20, .cells [sv n1].toArray 9 (0, 0))] ++ L)))) (fun x => Cy 1 (0 + f.length + 1) x.c ([] ++ f.map sv ++ [sv z]) x.B ∧ Cy 1 (0 + t.length) x.e ([] ++ t.map sv) x.D) ?_ ?_
  ·rintro ⟨b6, b14, b16, b20, B, c, D, e⟩ ⟨h1, h2⟩
   try simp only at h1
   try simp only at h2
   refine B8 21 (B := D) (xs := [] ++ t.map sv) (ys := [sv n1]) (m := 0 + t.length) (c := e) rfl (by kernel_rfl) rfl (by intro kk; simp) (by rfl) rfl rfl h2 (fun _ h => Mem.seg3 (B := [(b14, _)]) h) (by rfl) (fun a ha => by cases ha; exact B0 (List.mem_append_right _ (List.mem_append_right _ (List.mem_append_left _ (List.mem_singleton.2 rfl)))) (by rfl)) (by simp) (by rfl) (by decide) (by omega) (by decide) .free rfl (fun _ => .inr Al) ?_; intro D e h2; refine Be (fun w h => Mem.ins3 (A := A2 _ _ D) (B := A2 _ _ B) (C := [(b14, _)]) h) (Cu ?_ (k5111 ⟨b6, b14, b16, b20, B, c, D, e⟩ ⟨h1, h2⟩))
   exact ⟨rfl, rfl, rfl, rfl, rfl, rfl, rfl, rfl, rfl, rfl, rfl, trivial⟩
  ·intro k4111; refine Dn (X := Ly) 5 #[true, true, true, true, true, true, true, true, true, true, true, true, true, true, true, true, true, true, false, true, true, false, true, false, false, false] (fun x => [(82, Bd (0 + f.length + 1) x.c x.B), (83, .slice (some ⟨x.b16, 0, none⟩) 0 0), (87, .slice (some ⟨x.b20, 0, none⟩) 1 1)]) (fun x L => A2 9 ([] ++ f.map sv ++ [sv z]) x.B ++ ([(x.b14, .cells [sv z].toArray 9 (0, 0))] ++ ([(x.b16, .cells [].toArray 9 (0, 0))] ++ ([(x.b20, .cells [sv n1].toArray 9 (0, 0))] ++ L)))) (fun x => Cy 1 (0 + f.length + 1) x.c ([] ++ f.map sv ++ [sv z]) x.B) ?_ ?_
   ·rintro ⟨b6, b14, b16, b20, B, c, D, e⟩ h1
    try simp only at h1
    refine B8 18 (B := some (b16, [])) (xs := []) (ys := t.map sv) (m := 0) (c := 0) rfl (by kernel_rfl) rfl (by intro kk; simp) (by rfl) rfl rfl ⟨rfl, Nat.le_refl _, rfl⟩ (fun _ h => Mem.seg3 (B := [(b14, _)]) (C := [(b16, _)]) h) (by simp) hto.reads hto.none (Cg t) (by decide) (by omega) (by decide) .free rfl (fun _ => .inr Al) ?_; intro D e h2; refine Be (fun w h => Mem.ins3 (A := A2 _ _ D) (B := A2 _ _ B) (C := [(b14, _)]) h) (Cu ?_ (k4111 ⟨b6, b14, b16, b20, B, c, D, e⟩ ⟨h1, h2⟩))
    exact ⟨rfl, rfl, rfl, rfl, rfl, rfl, rfl, rfl, rfl, rfl, rfl, rfl, trivial⟩
   ·intro k3111; refine Dn (X := Ly) 5 #[true, true, true, true, true, true, true, true, true, true, true, true, true, true, true, true, true, true, true, true, false, false, true, false, false, false] (fun x => [(82, Bd (0 + f.length + 1) x.c x.B), (85, Bd (0 + t.length) x.e x.D)]) (fun x L => A2 9 ([] ++ f.map sv ++ [sv z]) x.B ++ ([(x.b14, .cells [sv z].toArray 9 (0, 0))] ++ (A2 9 ([] ++ t.map sv) x.D ++ ([] ++ L)))) (fun x => Cy 1 (0 + f.length + 1) x.c ([] ++ f.map sv ++ [sv z]) x.B ∧ Cy 1 (0 + t.length) x.e ([] ++ t.map sv) x.D) ?_ ?_
    ·rintro ⟨b6, b14, b16, b20, B, c, D, e⟩ ⟨h1, h2⟩
     try simp only at h1
     try simp only at h2
     refine C6 20 rfl (by kernel_rfl) rfl rfl rfl (by rfl) (by rfl) (by rfl) (by decide) (by decide) (by rfl) .free rfl (.inr Al) ?_; intro b20; refine Be (fun w h => Mem.ins4 (A := [(b20, _)]) (B := A2 _ _ B) (C := [(b14, _)]) (D := A2 _ _ D) h) (Cu ?_ (k4111 ⟨b6, b14, b16, b20, B, c, D, e⟩ ⟨h1, h2⟩))
     exact ⟨rfl, rfl, rfl, rfl, rfl, rfl, rfl, rfl, rfl, rfl, rfl, rfl, trivial⟩
    ·intro k4110
     refine Dn (X := Ly) 6 #[true, true, true, true, true, true, true, true, true, true, true, true, true, true, true, false, true, true, false, true, true, false, true, false, false, false] (fun x => [(75, Bd (0 + f.length) x.c x.B), (81, .slice (some ⟨x.b14, 0, none⟩) 1 1), (83, .slice (some ⟨x.b16, 0, none⟩) 0 0), (87, .slice (some ⟨x.b20, 0, none⟩) 1 1)]) (fun x L => A2 9 ([] ++ f.map sv) x.B ++ ([(x.b14, .cells [sv z].toArray 9 (0, 0))] ++ ([(x.b16, .cells [].toArray 9 (0, 0))] ++ ([(x.b20, .cells [sv n1].toArray 9 (0, 0))] ++ L)))) (fun x => Cy 1 (0 + f.length) x.c ([] ++ f.map sv) x.B) ?_ ?_
     ·rintro ⟨b6, b14, b16, b20, B, c, D, e⟩ h1
      try simp only at h1
      refine B8 15 (B := B) (xs := [] ++ f.map sv) (ys := [sv z]) (m := 0 + f.length) (c := c) rfl (by kernel_rfl) rfl (by intro kk; simp) (by rfl) rfl rfl h1 (fun _ h => h) (by rfl) (fun a ha => by cases ha; exact B0 (List.mem_append_left _ (List.mem_singleton.2 rfl)) (by rfl)) (by simp) (by rfl) (by decide) (by omega) (by decide) .free rfl (fun _ => .inr Al) ?_; intro B c h1; refine Be (fun w h => h) (Cu ?_ (k3111 ⟨b6, b14, b16, b20, B, c, D, e⟩ h1))
      exact ⟨rfl, rfl, rfl, rfl, rfl, rfl, rfl, rfl, rfl, rfl, rfl, rfl, trivial⟩
     ·intro k2111; refine Dn (X := Ly) 6 #[true, true, true, true, true, true, true, true, true, true, true, true, true, true, true, true, false, true, false, true, true, false, true, false, false, false] (fun x => [(82, Bd (0 + f.length + 1) x.c x.B), (87, .slice (some ⟨x.b20, 0, none⟩) 1 1)]) (fun x L => A2 9 ([] ++ f.map sv ++ [sv z]) x.B ++ ([(x.b14, .cells [sv z].toArray 9 (0, 0))] ++ ([] ++ ([(x.b20, .cells [sv n1].toArray 9 (0, 0))] ++ L)))) (fun x => Cy 1 (0 + f.length + 1) x.c ([] ++ f.map sv ++ [sv z]) x.B) ?_ ?_
      ·rintro ⟨b6, b14, b16, b20, B, c, D, e⟩ h1
       try simp only at h1
       refine Gn 16 rfl (by kernel_rfl) rfl .free rfl (.inr Al) ?_; intro b16; refine Be (fun w h => Mem.ins3 (A := [(b16, _)]) (B := A2 _ _ B) (C := [(b14, _)]) h) (Cu ?_ (k3111 ⟨b6, b14, b16, b20, B, c, D, e⟩ h1))
       exact ⟨rfl, rfl, rfl, rfl, rfl, rfl, rfl, rfl, rfl, rfl, rfl, rfl, trivial⟩
      ·intro k3101; refine Dn (X := Ly) 6 #[true, true, true, true, true, true, true, true, true, true, true, true, true, true, true, true, true, true, false, true, false, false, true, false, false, false] (fun x => [(82, Bd (0 + f.length + 1) x.c x.B), (83, .slice (some ⟨x.b16, 0, none⟩) 0 0)]) (fun x L => A2 9 ([] ++ f.map sv ++ [sv z]) x.B ++ ([(x.b14, .cells [sv z].toArray 9 (0, 0))] ++ ([(x.b16, .cells [].toArray 9 (0, 0))] ++ ([] ++ L)))) (fun x => Cy 1 (0 + f.length + 1) x.c ([] ++ f.map sv ++ [sv z]) x.B) ?_ ?_
       ·rintro ⟨b6, b14, b16, b20, B, c, D, e⟩ h1
        try simp only at h1
        refine E7 18 20 (by kernel_rfl) ?_ ?_
        ·skip
         refine Fa 18 (B := some (b16, [])) (xs := []) (ys := t.map sv) (m := 0) (c := 0) rfl rfl (by intro kk; simp) (by rfl) rfl rfl ⟨rfl, Nat.le_refl _, rfl⟩ (fun _ h => Mem.seg3 (B := [(b14, _)]) (C := [(b16, _)]) h) (by simp) hto.reads hto.none (Cg t) (by decide) (by omega) (by decide) .free rfl (fun _ => .inr Al) ?_; intro D e h2; refine Be (fun w h => Mem.ins3 (A := A2 _ _ D) (B := A2 _ _ B) (C := [(b14, _)]) h) (Cu ?_ (k4110 ⟨b6, b14, b16, b20, B, c, D, e⟩ ⟨h1, h2⟩))
         exact ⟨rfl, rfl, rfl, rfl, rfl, rfl, rfl, rfl, rfl, rfl, rfl, trivial⟩
        ·skip
         refine D0 20 rfl rfl rfl rfl (by rfl) (by rfl) (by rfl) (by decide) (by decide) (by rfl) .free rfl (.inr Al) ?_; intro b20; refine Be (fun w h => Mem.ins4 (A := [(b20, _)]) (B := A2 _ _ B) (C := [(b14, _)]) (D := [(b16, _)]) h) (Cu ?_ (k3111 ⟨b6, b14, b16, b20, B, c, D, e⟩ h1))
         exact ⟨rfl, rfl, rfl, rfl, rfl, rfl, rfl, rfl, rfl, rfl, rfl, rfl, trivial⟩
       ·intro k3110; refine Dn (X := Ly) 7 #[true, true, true, true, true, true, true, true, false, true, true, true, true, true, true, false, true, true, false, true, true, false, true, false, false, false] (fun x => [(73, .slice (some ⟨x.b6, 0, none⟩) 0 0), (81, .slice (some ⟨x.b14, 0, none⟩) 1 1), (83, .slice (some ⟨x.b16, 0, none⟩) 0 0), (87, .slice (some ⟨x.b20, 0, none⟩) 1 1)]) (fun x L => [(x.b6, .cells [].toArray 9 (0, 0))] ++ ([(x.b14, .cells [sv z].toArray 9 (0, 0))] ++ ([(x.b16, .cells [].toArray 9 (0, 0))] ++ ([(x.b20, .cells [sv n1].toArray 9 (0, 0))] ++ L)))) (fun x => True) ?_ ?_
        ·rintro ⟨b6, b14, b16, b20, B, c, D, e⟩ h1
         try simp only at h1
         refine B8 8 (B := some (b6, [])) (xs := []) (ys := f.map sv) (m := 0) (c := 0) rfl (by kernel_rfl) rfl (by intro kk; simp) (by rfl) rfl rfl ⟨rfl, Nat.le_refl _, rfl⟩ (fun _ h => h) (by simp) hfr.reads hfr.none (Cg f) (by decide) (by omega) (by decide) .free rfl (fun _ => .inr Al) ?_; intro B c h1; refine Be (fun w h => h) (Cu ?_ (k2111 ⟨b6, b14, b16, b20, B, c, D, e⟩ h1))
         exact ⟨rfl, rfl, rfl, rfl, rfl, rfl, rfl, rfl, rfl, rfl, rfl, rfl, rfl, trivial⟩
        ·intro k1111; refine Dn (X := Ly) 7 #[true, true, true, true, true, true, true, true, true, true, true, true, true, true, false, false, true, true, false, true, true, false, true, false, false, false] (fun x => [(75, Bd (0 + f.length) x.c x.B), (83, .slice (some ⟨x.b16, 0, none⟩) 0 0), (87, .slice (some ⟨x.b20, 0, none⟩) 1 1)]) (fun x L => A2 9 ([] ++ f.map sv) x.B ++ ([] ++ ([(x.b16, .cells [].toArray 9 (0, 0))] ++ ([(x.b20, .cells [sv n1].toArray 9 (0, 0))] ++ L)))) (fun x => Cy 1 (0 + f.length) x.c ([] ++ f.map sv) x.B) ?_ ?_
         ·rintro ⟨b6, b14, b16, b20, B, c, D, e⟩ h1
          try simp only at h1
          refine C6 14 rfl (by kernel_rfl) rfl rfl rfl (by rfl) (by rfl) (by rfl) (by decide) (by decide) (by rfl) .free rfl (.inr Al) ?_; intro b14; refine Be (fun w h => Mem.seg2 (A := [(b14, _)]) (B := A2 _ _ B) h) (Cu ?_ (k2111 ⟨b6, b14, b16, b20, B, c, D, e⟩ h1))
          exact ⟨rfl, rfl, rfl, rfl, rfl, rfl, rfl, rfl, rfl, rfl, rfl, rfl, rfl, trivial⟩
         ·intro k2011; refine Dn (X := Ly) 7 #[true, true, true, true, true, true, true, true, true, true, true, true, true, true, true, false, false, true, false, true, true, false, true, false, false, false] (fun x => [(75, Bd (0 + f.length) x.c x.B), (81, .slice (some ⟨x.b14, 0, none⟩) 1 1), (87, .slice (some ⟨x.b20, 0, none⟩) 1 1)]) (fun x L => A2 9 ([] ++ f.map sv) x.B ++ ([(x.b14, .cells [sv z].toArray 9 (0, 0))] ++ ([] ++ ([(x.b20, .cells [sv n1].toArray 9 (0, 0))] ++ L)))) (fun x => Cy 1 (0 + f.length) x.c ([] ++ f.map sv) x.B) ?_ ?_
          ·rintro ⟨b6, b14, b16, b20, B, c, D, e⟩ h1
           try simp only at h1
           refine E7 15 16 (by kernel_rfl) ?_ ?_
           ·skip
            refine Fa 15 (B := B) (xs := [] ++ f.map sv) (ys := [sv z]) (m := 0 + f.length) (c := c) rfl rfl (by intro kk; simp) (by rfl) rfl rfl h1 (fun _ h => h) (by rfl) (fun a ha => by cases ha; exact B0 (List.mem_append_left _ (List.mem_singleton.2 rfl)) (by rfl)) (by simp) (by rfl) (by decide) (by omega) (by decide) .free rfl (fun _ => .inr Al) ?_; intro B c h1; refine Be (fun w h => h) (Cu ?_ (k3101 ⟨b6, b14, b16, b20, B, c, D, e⟩ h1))
            exact ⟨rfl, rfl, rfl, rfl, rfl, rfl, rfl, rfl, rfl, rfl, rfl, trivial⟩
           ·skip
            refine Eo 16 rfl rfl .free rfl (.inr Al) ?_; intro b16; refine Be (fun w h => Mem.ins3 (A := [(b16, _)]) (B := A2 _ _ B) (C := [(b14, _)]) h) (Cu ?_ (k2111 ⟨b6, b14, b16, b20, B, c, D, e⟩ h1))
            exact ⟨rfl, rfl, rfl, rfl, rfl, rfl, rfl, rfl, rfl, rfl, rfl, rfl, rfl, trivial⟩
          ·intro k2101; refine Dn (X := Ly) 7 #[true, true, true, true, true, true, true, true, true, true, true, true, true, true, true, false, true, true, false, true, false, false, true, false, false, false] (fun x => [(75, Bd (0 + f.length) x.c x.B), (81, .slice (some ⟨x.b14, 0, none⟩) 1 1), (83, .slice (some ⟨x.b16, 0, none⟩) 0 0)]) (fun x L => A2 9 ([] ++ f.map sv) x.B ++ ([(x.b14, .cells [sv z].toArray 9 (0, 0))] ++ ([(x.b16, .cells [].toArray 9 (0, 0))] ++ ([] ++ L)))) (fun x => Cy 1 (0 + f.length) x.c ([] ++ f.map sv) x.B) ?_ ?_
           ·rintro ⟨b6, b14, b16, b20, B, c, D, e⟩ h1
            try simp only at h1
            refine E7 15 20 (by kernel_rfl) ?_ ?_
            ·skip
             refine Fa 15 (B := B) (xs := [] ++ f.map sv) (ys := [sv z]) (m := 0 + f.length) (c := c) rfl rfl (by intro kk; simp) (by rfl) rfl rfl h1 (fun _ h => h) (by rfl) (fun a ha => by cases ha; exact B0 (List.mem_append_left _ (List.mem_singleton.2 rfl)) (by rfl)) (by simp) (by rfl) (by decide) (by omega) (by decide) .free rfl (fun _ => .inr Al) ?_; intro B c h1; refine Be (fun w h => h) (Cu ?_ (k3110 ⟨b6, b14, b16, b20, B, c, D, e⟩ h1))
             exact ⟨rfl, rfl, rfl, rfl, rfl, rfl, rfl, rfl, rfl, rfl, rfl, trivial⟩
            ·skip
             refine D0 20 rfl rfl rfl rfl (by rfl) (by rfl) (by rfl) (by decide) (by decide) (by rfl) .free rfl (.inr Al) ?_; intro b20; refine Be (fun w h => Mem.ins4 (A := [(b20, _)]) (B := A2 _ _ B) (C := [(b14, _)]) (D := [(b16, _)]) h) (Cu ?_ (k2111 ⟨b6, b14, b16, b20, B, c, D, e⟩ h1))
             exact ⟨rfl, rfl, rfl, rfl, rfl, rfl, rfl, rfl, rfl, rfl, rfl, rfl, rfl, trivial⟩
           ·intro k2110; refine Dn (X := Ly) 7 #[true, true, true, true, true, true, true, true, true, true, true, true, true, true, true, true, false, true, false, true, false, false, true, false, false, false] (fun x => [(82, Bd (0 + f.length + 1) x.c x.B)]) (fun x L => A2 9 ([] ++ f.map sv ++ [sv z]) x.B ++ ([(x.b14, .cells [sv z].toArray 9 (0, 0))] ++ ([] ++ ([] ++ L)))) (fun x => Cy 1 (0 + f.length + 1) x.c ([] ++ f.map sv ++ [sv z]) x.B) ?_ ?_
            ·rintro ⟨b6, b14, b16, b20, B, c, D, e⟩ h1
             try simp only at h1
             refine E7 16 20 (by kernel_rfl) ?_ ?_
             ·skip
              refine Eo 16 rfl rfl .free rfl (.inr Al) ?_; intro b16; refine Be (fun w h => Mem.ins3 (A := [(b16, _)]) (B := A2 _ _ B) (C := [(b14, _)]) h) (Cu ?_ (k3110 ⟨b6, b14, b16, b20, B, c, D, e⟩ h1))
              exact ⟨rfl, rfl, rfl, rfl, rfl, rfl, rfl, rfl, rfl, rfl, rfl, trivial⟩
             ·skip
              refine D0 20 rfl rfl rfl rfl (by rfl) (by rfl) (by rfl) (by decide) (by decide) (by rfl) .free rfl (.inr Al) ?_; intro b20; refine Be (fun w h => Mem.ins4 (A := [(b20, _)]) (B := A2 _ _ B) (C := [(b14, _)]) (D := []) h) (Cu ?_ (k3101 ⟨b6, b14, b16, b20, B, c, D, e⟩ h1))
              exact ⟨rfl, rfl, rfl, rfl, rfl, rfl, rfl, rfl, rfl, rfl, rfl, trivial⟩
            ·intro k3100; refine Dn (X := Ly) 8 #[true, true, true, true, true, true, false, true, false, true, true, true, true, true, true, false, true, true, false, true, true, false, true, false, false, false] (fun x => [(81, .slice (some ⟨x.b14, 0, none⟩) 1 1), (83, .slice (some ⟨x.b16, 0, none⟩) 0 0), (87, .slice (some ⟨x.b20, 0, none⟩) 1 1)]) (fun x L => [] ++ ([(x.b14, .cells [sv z].toArray 9 (0, 0))] ++ ([(x.b16, .cells [].toArray 9 (0, 0))] ++ ([(x.b20, .cells [sv n1].toArray 9 (0, 0))] ++ L)))) (fun x => True) ?_ ?_
             ·rintro ⟨b6, b14, b16, b20, B, c, D, e⟩ h1
              try simp only at h1
              refine Gn 6 rfl (by kernel_rfl) rfl .free rfl (.inr Al) ?_; intro b6; refine Be (fun w h => h) (Cu ?_ (k1111 ⟨b6, b14, b16, b20, B, c, D, e⟩ trivial))
              exact ⟨rfl, rfl, rfl, rfl, rfl, rfl, rfl, rfl, rfl, rfl, rfl, rfl, rfl, trivial⟩
             ·intro k0111; refine Dn (X := Ly) 8 #[true, true, true, true, true, true, true, true, false, true, true, true, true, true, false, false, true, true, false, true, true, false, true, false, false, false] (fun x => [(73, .slice (some ⟨x.b6, 0, none⟩) 0 0), (83, .slice (some ⟨x.b16, 0, none⟩) 0 0), (87, .slice (some ⟨x.b20, 0, none⟩) 1 1)]) (fun x L => [(x.b6, .cells [].toArray 9 (0, 0))] ++ ([] ++ ([(x.b16, .cells [].toArray 9 (0, 0))] ++ ([(x.b20, .cells [sv n1].toArray 9 (0, 0))] ++ L)))) (fun x => True) ?_ ?_
              ·rintro ⟨b6, b14, b16, b20, B, c, D, e⟩ h1
               try simp only at h1
               refine E7 8 14 (by kernel_rfl) ?_ ?_
               ·skip
                refine Fa 8 (B := some (b6, [])) (xs := []) (ys := f.map sv) (m := 0) (c := 0) rfl rfl (by intro kk; simp) (by rfl) rfl rfl ⟨rfl, Nat.le_refl _, rfl⟩ (fun _ h => h) (by simp) hfr.reads hfr.none (Cg f) (by decide) (by omega) (by decide) .free rfl (fun _ => .inr Al) ?_; intro B c h1; refine Be (fun w h => h) (Cu ?_ (k2011 ⟨b6, b14, b16, b20, B, c, D, e⟩ h1))
                exact ⟨rfl, rfl, rfl, rfl, rfl, rfl, rfl, rfl, rfl, rfl, rfl, rfl, trivial⟩
               ·skip
                refine D0 14 rfl rfl rfl rfl (by rfl) (by rfl) (by rfl) (by decide) (by decide) (by rfl) .free rfl (.inr Al) ?_; intro b14; refine Be (fun w h => Mem.seg2 (A := [(b14, _)]) (B := [(b6, _)]) h) (Cu ?_ (k1111 ⟨b6, b14, b16, b20, B, c, D, e⟩ trivial))
                exact ⟨rfl, rfl, rfl, rfl, rfl, rfl, rfl, rfl, rfl, rfl, rfl, rfl, rfl, trivial⟩
              ·intro k1011; refine Dn (X := Ly) 8 #[true, true, true, true, true, true, true, true, false, true, true, true, true, true, true, false, false, true, false, true, true, false, true, false, false, false] (fun x => [(73, .slice (some ⟨x.b6, 0, none⟩) 0 0), (81, .slice (some ⟨x.b14, 0, none⟩) 1 1), (87, .slice (some ⟨x.b20, 0, none⟩) 1 1)]) (fun x L => [(x.b6, .cells [].toArray 9 (0, 0))] ++ ([(x.b14, .cells [sv z].toArray 9 (0, 0))] ++ ([] ++ ([(x.b20, .cells [sv n1].toArray 9 (0, 0))] ++ L)))) (fun x => True) ?_ ?_
               ·rintro ⟨b6, b14, b16, b20, B, c, D, e⟩ h1
                try simp only at h1
                refine E7 8 16 (by kernel_rfl) ?_ ?_
                ·skip
                 refine Fa 8 (B := some (b6, [])) (xs := []) (ys := f.map sv) (m := 0) (c := 0) rfl rfl (by intro kk; simp) (by rfl) rfl rfl ⟨rfl, Nat.le_refl _, rfl⟩ (fun _ h => h) (by simp) hfr.reads hfr.none (Cg f) (by decide) (by omega) (by decide) .free rfl (fun _ => .inr Al) ?_; intro B c h1; refine Be (fun w h => h) (Cu ?_ (k2101 ⟨b6, b14, b16, b20, B, c, D, e⟩ h1))
                 exact ⟨rfl, rfl, rfl, rfl, rfl, rfl, rfl, rfl, rfl, rfl, rfl, rfl, trivial⟩
                ·skip
                 refine Eo 16 rfl rfl .free rfl (.inr Al) ?_; intro b16; refine Be (fun w h => Mem.ins3 (A := [(b16, _)]) (B := [(b6, _)]) (C := [(b14, _)]) h) (Cu ?_ (k1111 ⟨b6, b14, b16, b20, B, c, D, e⟩ trivial))
                 exact ⟨rfl, rfl, rfl, rfl, rfl, rfl, rfl, rfl, rfl, rfl, rfl, rfl, rfl, trivial⟩
               ·intro k1101; refine Dn (X := Ly) 8 #[true, true, true, true, true, true, true, true, false, true, true, true, true, true, true, false, true, true, false, true, false, false, true, false, false, false] (fun x => [(73, .slice (some ⟨x.b6, 0, none⟩) 0 0), (81, .slice (some ⟨x.b14, 0, none⟩) 1 1), (83, .slice (some ⟨x.b16, 0, none⟩) 0 0)]) (fun x L => [(x.b6, .cells [].toArray 9 (0, 0))] ++ ([(x.b14, .cells [sv z].toArray 9 (0, 0))] ++ ([(x.b16, .cells [].toArray 9 (0, 0))] ++ ([] ++ L)))) (fun x => True) ?_ ?_
                ·rintro ⟨b6, b14, b16, b20, B, c, D, e⟩ h1
                 try simp only at h1
                 refine E7 8 20 (by kernel_rfl) ?_ ?_
                 ·skip
                  refine Fa 8 (B := some (b6, [])) (xs := []) (ys := f.map sv) (m := 0) (c := 0) rfl rfl (by intro kk; simp) (by rfl) rfl rfl ⟨rfl, Nat.le_refl _, rfl⟩ (fun _ h => h) (by simp) hfr.reads hfr.none (Cg f) (by decide) (by omega) (by decide) .free rfl (fun _ => .inr Al) ?_; intro B c h1; refine Be (fun w h => h) (Cu ?_ (k2110 ⟨b6, b14, b16, b20, B, c, D, e⟩ h1))
                  exact ⟨rfl, rfl, rfl, rfl, rfl, rfl, rfl, rfl, rfl, rfl, rfl, rfl, trivial⟩
                 ·skip
                  refine D0 20 rfl rfl rfl rfl (by rfl) (by rfl) (by rfl) (by decide) (by decide) (by rfl) .free rfl (.inr Al) ?_; intro b20; refine Be (fun w h => Mem.ins4 (A := [(b20, _)]) (B := [(b6, _)]) (C := [(b14, _)]) (D := [(b16, _)]) h) (Cu ?_ (k1111 ⟨b6, b14, b16, b20, B, c, D, e⟩ trivial))
                  exact ⟨rfl, rfl, rfl, rfl, rfl, rfl, rfl, rfl, rfl, rfl, rfl, rfl, rfl, trivial⟩
                ·intro k1110; refine Dn (X := Ly) 8 #[true, true, true, true, true, true, true, true, true, true, true, true, true, true, false, false, false, true, false, true, true, false, true, false, false, false] (fun x => [(75, Bd (0 + f.length) x.c x.B), (87, .slice (some ⟨x.b20, 0, none⟩) 1 1)]) (fun x L => A2 9 ([] ++ f.map sv) x.B ++ ([] ++ ([] ++ ([(x.b20, .cells [sv n1].toArray 9 (0, 0))] ++ L)))) (fun x => Cy 1 (0 + f.length) x.c ([] ++ f.map sv) x.B) ?_ ?_
                 ·rintro ⟨b6, b14, b16, b20, B, c, D, e⟩ h1
                  try simp only at h1
                  refine E7 14 16 (by kernel_rfl) ?_ ?_
                  ·skip
                   refine D0 14 rfl rfl rfl rfl (by rfl) (by rfl) (by rfl) (by decide) (by decide) (by rfl) .free rfl (.inr Al) ?_; intro b14; refine Be (fun w h => Mem.seg2 (A := [(b14, _)]) (B := A2 _ _ B) h) (Cu ?_ (k2101 ⟨b6, b14, b16, b20, B, c, D, e⟩ h1))
                   exact ⟨rfl, rfl, rfl, rfl, rfl, rfl, rfl, rfl, rfl, rfl, rfl, rfl, trivial⟩
                  ·skip
                   refine Eo 16 rfl rfl .free rfl (.inr Al) ?_; intro b16; refine Be (fun w h => Mem.ins3 (A := [(b16, _)]) (B := A2 _ _ B) (C := []) h) (Cu ?_ (k2011 ⟨b6, b14, b16, b20, B, c, D, e⟩ h1))
                   exact ⟨rfl, rfl, rfl, rfl, rfl, rfl, rfl, rfl, rfl, rfl, rfl, rfl, trivial⟩
                 ·intro k2001; refine Dn (X := Ly) 8 #[true, true, true, true, true, true, true, true, true, true, true, true, true, true, false, false, true, true, false, true, false, false, true, false, false, false] (fun x => [(75, Bd (0 + f.length) x.c x.B), (83, .slice (some ⟨x.b16, 0, none⟩) 0 0)]) (fun x L => A2 9 ([] ++ f.map sv) x.B ++ ([] ++ ([(x.b16, .cells [].toArray 9 (0, 0))] ++ ([] ++ L)))) (fun x => Cy 1 (0 + f.length) x.c ([] ++ f.map sv) x.B) ?_ ?_
                  ·rintro ⟨b6, b14, b16, b20, B, c, D, e⟩ h1
                   try simp only at h1
                   refine E7 14 20 (by kernel_rfl) ?_ ?_
                   ·skip
                    refine D0 14 rfl rfl rfl rfl (by rfl) (by rfl) (by rfl) (by decide) (by decide) (by rfl) .free rfl (.inr Al) ?_; intro b14; refine Be (fun w h => Mem.seg2 (A := [(b14, _)]) (B := A2 _ _ B) h) (Cu ?_ (k2110 ⟨b6, b14, b16, b20, B, c, D, e⟩ h1))
                    exact ⟨rfl, rfl, rfl, rfl, rfl, rfl, rfl, rfl, rfl, rfl, rfl, rfl, trivial⟩
                   ·skip
                    refine D0 20 rfl rfl rfl rfl (by rfl) (by rfl) (by rfl) (by decide) (by decide) (by rfl) .free rfl (.inr Al) ?_; intro b20; refine Be (fun w h => Mem.ins4 (A := [(b20, _)]) (B := A2 _ _ B) (C := []) (D := [(b16, _)]) h) (Cu ?_ (k2011 ⟨b6, b14, b16, b20, B, c, D, e⟩ h1))
                    exact ⟨rfl, rfl, rfl, rfl, rfl, rfl, rfl, rfl, rfl, rfl, rfl, rfl, trivial⟩
                  ·intro k2010; refine Dn (X := Ly) 8 #[true, true, true, true, true, true, true, true, true, true, true, true, true, true, true, false, false, true, false, true, false, false, true, false, false, false] (fun x => [(75, Bd (0 + f.length) x.c x.B), (81, .slice (some ⟨x.b14, 0, none⟩) 1 1)]) (fun x L => A2 9 ([] ++ f.map sv) x.B ++ ([(x.b14, .cells [sv z].toArray 9 (0, 0))] ++ ([] ++ ([] ++ L)))) (fun x => Cy 1 (0 + f.length) x.c ([] ++ f.map sv) x.B) ?_ ?_
                   ·rintro ⟨b6, b14, b16, b20, B, c, D, e⟩ h1
                    try simp only at h1
                    refine In 15 16 20 (by kernel_rfl) ?_ ?_ ?_
                    ·skip
                     refine Fa 15 (B := B) (xs := [] ++ f.map sv) (ys := [sv z]) (m := 0 + f.length) (c := c) rfl rfl (by intro kk; simp) (by rfl) rfl rfl h1 (fun _ h => h) (by rfl) (fun a ha => by cases ha; exact B0 (List.mem_append_left _ (List.mem_singleton.2 rfl)) (by rfl)) (by simp) (by rfl) (by decide) (by omega) (by decide) .free rfl (fun _ => .inr Al) ?_; intro B c h1; refine Be (fun w h => h) (Cu ?_ (k3100 ⟨b6, b14, b16, b20, B, c, D, e⟩ h1))
                     exact ⟨rfl, rfl, rfl, rfl, rfl, rfl, rfl, rfl, rfl, rfl, trivial⟩
                    ·skip
                     refine Eo 16 rfl rfl .free rfl (.inr Al) ?_; intro b16; refine Be (fun w h => Mem.ins3 (A := [(b16, _)]) (B := A2 _ _ B) (C := [(b14, _)]) h) (Cu ?_ (k2110 ⟨b6, b14, b16, b20, B, c, D, e⟩ h1))
                     exact ⟨rfl, rfl, rfl, rfl, rfl, rfl, rfl, rfl, rfl, rfl, rfl, rfl, trivial⟩
                    ·skip
                     refine D0 20 rfl rfl rfl rfl (by rfl) (by rfl) (by rfl) (by decide) (by decide) (by rfl) .free rfl (.inr Al) ?_; intro b20; refine Be (fun w h => Mem.ins4 (A := [(b20, _)]) (B := A2 _ _ B) (C := [(b14, _)]) (D := []) h) (Cu ?_ (k2101 ⟨b6, b14, b16, b20, B, c, D, e⟩ h1))
                     exact ⟨rfl, rfl, rfl, rfl, rfl, rfl, rfl, rfl, rfl, rfl, rfl, rfl, trivial⟩
                   ·intro k2100; refine Dn (X := Ly) 9 #[true, true, true, true, true, true, false, true, false, true, true, true, true, true, false, false, true, true, false, true, true, false, true, false, false, false] (fun x => [(83, .slice (some ⟨x.b16, 0, none⟩) 0 0), (87, .slice (some ⟨x.b20, 0, none⟩) 1 1)]) (fun x L => [] ++ ([] ++ ([(x.b16, .cells [].toArray 9 (0, 0))] ++ ([(x.b20, .cells [sv n1].toArray 9 (0, 0))] ++ L)))) (fun x => True) ?_ ?_
                    ·rintro ⟨b6, b14, b16, b20, B, c, D, e⟩ h1
                     try simp only at h1
                     refine E7 6 14 (by kernel_rfl) ?_ ?_
                     ·skip
                      refine Eo 6 rfl rfl .free rfl (.inr Al) ?_; intro b6; refine Be (fun w h => h) (Cu ?_ (k1011 ⟨b6, b14, b16, b20, B, c, D, e⟩ trivial))
                      exact ⟨rfl, rfl, rfl, rfl, rfl, rfl, rfl, rfl, rfl, rfl, rfl, rfl, trivial⟩
                     ·skip
                      refine D0 14 rfl rfl rfl rfl (by rfl) (by rfl) (by rfl) (by decide) (by decide) (by rfl) .free rfl (.inr Al) ?_; intro b14; refine Be (fun w h => Mem.seg2 (A := [(b14, _)]) (B := []) h) (Cu ?_ (k0111 ⟨b6, b14, b16, b20, B, c, D, e⟩ trivial))
                      exact ⟨rfl, rfl, rfl, rfl, rfl, rfl, rfl, rfl, rfl, rfl, rfl, rfl, trivial⟩
                    ·intro k0011; refine Dn (X := Ly) 9 #[true, true, true, true, true, true, false, true, false, true, true, true, true, true, true, false, false, true, false, true, true, false, true, false, false, false] (fun x => [(81, .slice (some ⟨x.b14, 0, none⟩) 1 1), (87, .slice (some ⟨x.b20, 0, none⟩) 1 1)]) (fun x L => [] ++ ([(x.b14, .cells [sv z].toArray 9 (0, 0))] ++ ([] ++ ([(x.b20, .cells [sv n1].toArray 9 (0, 0))] ++ L)))) (fun x => True) ?_ ?_
                     ·rintro ⟨b6, b14, b16, b20, B, c, D, e⟩ h1
                      try simp only at h1
                      refine E7 6 16 (by kernel_rfl) ?_ ?_
                      ·skip
                       refine Eo 6 rfl rfl .free rfl (.inr Al) ?_; intro b6; refine Be (fun w h => h) (Cu ?_ (k1101 ⟨b6, b14, b16, b20, B, c, D, e⟩ trivial))
                       exact ⟨rfl, rfl, rfl, rfl, rfl, rfl, rfl, rfl, rfl, rfl, rfl, rfl, trivial⟩
                      ·skip
                       refine Eo 16 rfl rfl .free rfl (.inr Al) ?_; intro b16; refine Be (fun w h => Mem.ins3 (A := [(b16, _)]) (B := []) (C := [(b14, _)]) h) (Cu ?_ (k0111 ⟨b6, b14, b16, b20, B, c, D, e⟩ trivial))
                       exact ⟨rfl, rfl, rfl, rfl, rfl, rfl, rfl, rfl, rfl, rfl, rfl, rfl, trivial⟩
                     ·intro k0101; refine Dn (X := Ly) 9 #[true, true, true, true, true, true, false, true, false, true, true, true, true, true, true, false, true, true, false, true, false, false, true, false, false, false] (fun x => [(81, .slice (some ⟨x.b14, 0, none⟩) 1 1), (83, .slice (some ⟨x.b16, 0, none⟩) 0 0)]) (fun x L => [] ++ ([(x.b14, .cells [sv z].toArray 9 (0, 0))] ++ ([(x.b16, .cells [].toArray 9 (0, 0))] ++ ([] ++ L)))) (fun x => True) ?_ ?_
                      ·rintro ⟨b6, b14, b16, b20, B, c, D, e⟩ h1
                       try simp only at h1
                       refine E7 6 20 (by kernel_rfl) ?_ ?_
                       ·skip
                        refine Eo 6 rfl rfl .free rfl (.inr Al) ?_; intro b6; refine Be (fun w h => h) (Cu ?_ (k1110 ⟨b6, b14, b16, b20, B, c, D, e⟩ trivial))
                        exact ⟨rfl, rfl, rfl, rfl, rfl, rfl, rfl, rfl, rfl, rfl, rfl, rfl, trivial⟩
                       ·skip
                        refine D0 20 rfl rfl rfl rfl (by rfl) (by rfl) (by rfl) (by decide) (by decide) (by rfl) .free rfl (.inr Al) ?_; intro b20; refine Be (fun w h => Mem.ins4 (A := [(b20, _)]) (B := []) (C := [(b14, _)]) (D := [(b16, _)]) h) (Cu ?_ (k0111 ⟨b6, b14, b16, b20, B, c, D, e⟩ trivial))
                        exact ⟨rfl, rfl, rfl, rfl, rfl, rfl, rfl, rfl, rfl, rfl, rfl, rfl, trivial⟩
                      ·intro k0110; refine Dn (X := Ly) 9 #[true, true, true, true, true, true, true, true, false, true, true, true, true, true, false, false, false, true, false, true, true, false, true, false, false, false] (fun x => [(73, .slice (some ⟨x.b6, 0, none⟩) 0 0), (87, .slice (some ⟨x.b20, 0, none⟩) 1 1)]) (fun x L => [(x.b6, .cells [].toArray 9 (0, 0))] ++ ([] ++ ([] ++ ([(x.b20, .cells [sv n1].toArray 9 (0, 0))] ++ L)))) (fun x => True) ?_ ?_
                       ·rintro ⟨b6, b14, b16, b20, B, c, D, e⟩ h1
                        try simp only at h1
                        refine In 8 14 16 (by kernel_rfl) ?_ ?_ ?_
                        ·skip
                         refine Fa 8 (B := some (b6, [])) (xs := []) (ys := f.map sv) (m := 0) (c := 0) rfl rfl (by intro kk; simp) (by rfl) rfl rfl ⟨rfl, Nat.le_refl _, rfl⟩ (fun _ h => h) (by simp) hfr.reads hfr.none (Cg f) (by decide) (by omega) (by decide) .free rfl (fun _ => .inr Al) ?_; intro B c h1; refine Be (fun w h => h) (Cu ?_ (k2001 ⟨b6, b14, b16, b20, B, c, D, e⟩ h1))
                         exact ⟨rfl, rfl, rfl, rfl, rfl, rfl, rfl, rfl, rfl, rfl, rfl, trivial⟩
                        ·skip
                         refine D0 14 rfl rfl rfl rfl (by rfl) (by rfl) (by rfl) (by decide) (by decide) (by rfl) .free rfl (.inr Al) ?_; intro b14; refine Be (fun w h => Mem.seg2 (A := [(b14, _)]) (B := [(b6, _)]) h) (Cu ?_ (k1101 ⟨b6, b14, b16, b20, B, c, D, e⟩ trivial))
                         exact ⟨rfl, rfl, rfl, rfl, rfl, rfl, rfl, rfl, rfl, rfl, rfl, rfl, trivial⟩
                        ·skip
                         refine Eo 16 rfl rfl .free rfl (.inr Al) ?_; intro b16; refine Be (fun w h => Mem.ins3 (A := [(b16, _)]) (B := [(b6, _)]) (C := []) h) (Cu ?_ (k1011 ⟨b6, b14, b16, b20, B, c, D, e⟩ trivial))
                         exact ⟨rfl, rfl, rfl, rfl, rfl, rfl, rfl, rfl, rfl, rfl, rfl, rfl, trivial⟩
                       ·intro k1001; refine Dn (X := Ly) 9 #[true, true, true, true, true, true, true, true, false, true, true, true, true, true, false, false, true, true, false, true, false, false, true, false, false, false] (fun x => [(73, .slice (some ⟨x.b6, 0, none⟩) 0 0), (83, .slice (some ⟨x.b16, 0, none⟩) 0 0)]) (fun x L => [(x.b6, .cells [].toArray 9 (0, 0))] ++ ([] ++ ([(x.b16, .cells [].toArray 9 (0, 0))] ++ ([] ++ L)))) (fun x => True) ?_ ?_
                        ·rintro ⟨b6, b14, b16, b20, B, c, D, e⟩ h1
                         try simp only at h1
                         refine In 8 14 20 (by kernel_rfl) ?_ ?_ ?_
                         ·skip
                          refine Fa 8 (B := some (b6, [])) (xs := []) (ys := f.map sv) (m := 0) (c := 0) rfl rfl (by intro kk; simp) (by rfl) rfl rfl ⟨rfl, Nat.le_refl _, rfl⟩ (fun _ h => h) (by simp) hfr.reads hfr.none (Cg f) (by decide) (by omega) (by decide) .free rfl (fun _ => .inr Al) ?_; intro B c h1; refine Be (fun w h => h) (Cu ?_ (k2010 ⟨b6, b14, b16, b20, B, c, D, e⟩ h1))
                          exact ⟨rfl, rfl, rfl, rfl, rfl, rfl, rfl, rfl, rfl, rfl, rfl, trivial⟩
                         ·skip
                          refine D0 14 rfl rfl rfl rfl (by rfl) (by rfl) (by rfl) (by decide) (by decide) (by rfl) .free rfl (.inr Al) ?_; intro b14; refine Be (fun w h => Mem.seg2 (A := [(b14, _)]) (B := [(b6, _)]) h) (Cu ?_ (k1110 ⟨b6, b14, b16, b20, B, c, D, e⟩ trivial))
                          exact ⟨rfl, rfl, rfl, rfl, rfl, rfl, rfl, rfl, rfl, rfl, rfl, rfl, trivial⟩
                         ·skip
                          refine D0 20 rfl rfl rfl rfl (by rfl) (by rfl) (by rfl) (by decide) (by decide) (by rfl) .free rfl (.inr Al) ?_; intro b20; refine Be (fun w h => Mem.ins4 (A := [(b20, _)]) (B := [(b6, _)]) (C := []) (D := [(b16, _)]) h) (Cu ?_ (k1011 ⟨b6, b14, b16, b20, B, c, D, e⟩ trivial))
                          exact ⟨rfl, rfl, rfl, rfl, rfl, rfl, rfl, rfl, rfl, rfl, rfl, rfl, trivial⟩
                        ·intro k1010; refine Dn (X := Ly) 9 #[true, true, true, true, true, true, true, true, false, true, true, true, true, true, true, false, false, true, false, true, false, false, true, false, false, false] (fun x => [(73, .slice (some ⟨x.b6, 0, none⟩) 0 0), (81, .slice (some ⟨x.b14, 0, none⟩) 1 1)]) (fun x L => [(x.b6, .cells [].toArray 9 (0, 0))] ++ ([(x.b14, .cells [sv z].toArray 9 (0, 0))] ++ ([] ++ ([] ++ L)))) (fun x => True) ?_ ?_
                         ·rintro ⟨b6, b14, b16, b20, B, c, D, e⟩ h1
                          try simp only at h1
                          refine In 8 16 20 (by kernel_rfl) ?_ ?_ ?_
                          ·skip
                           refine Fa 8 (B := some (b6, [])) (xs := []) (ys := f.map sv) (m := 0) (c := 0) rfl rfl (by intro kk; simp) (by rfl) rfl rfl ⟨rfl, Nat.le_refl _, rfl⟩ (fun _ h => h) (by simp) hfr.reads hfr.none (Cg f) (by decide) (by omega) (by decide) .free rfl (fun _ => .inr Al) ?_; intro B c h1; refine Be (fun w h => h) (Cu ?_ (k2100 ⟨b6, b14, b16, b20, B, c, D, e⟩ h1))
                           exact ⟨rfl, rfl, rfl, rfl, rfl, rfl, rfl, rfl, rfl, rfl, rfl, trivial⟩
                          ·skip
                           refine Eo 16 rfl rfl .free rfl (.inr Al) ?_; intro b16; refine Be (fun w h => Mem.ins3 (A := [(b16, _)]) (B := [(b6, _)]) (C := [(b14, _)]) h) (Cu ?_ (k1110 ⟨b6, b14, b16, b20, B, c, D, e⟩ trivial))
                           exact ⟨rfl, rfl, rfl, rfl, rfl, rfl, rfl, rfl, rfl, rfl, rfl, rfl, trivial⟩
                          ·skip
                           refine D0 20 rfl rfl rfl rfl (by rfl) (by rfl) (by rfl) (by decide) (by decide) (by rfl) .free rfl (.inr Al) ?_; intro b20; refine Be (fun w h => Mem.ins4 (A := [(b20, _)]) (B := [(b6, _)]) (C := [(b14, _)]) (D := []) h) (Cu ?_ (k1101 ⟨b6, b14, b16, b20, B, c, D, e⟩ trivial))
                           exact ⟨rfl, rfl, rfl, rfl, rfl, rfl, rfl, rfl, rfl, rfl, rfl, rfl, trivial⟩
                         ·intro k1100; refine Dn (X := Ly) 9 #[true, true, true, true, true, true, true, true, true, true, true, true, true, true, false, false, false, true, false, true, false, false, true, false, false, false] (fun x => [(75, Bd (0 + f.length) x.c x.B)]) (fun x L => A2 9 ([] ++ f.map sv) x.B ++ ([] ++ ([] ++ ([] ++ L)))) (fun x => Cy 1 (0 + f.length) x.c ([] ++ f.map sv) x.B) ?_ ?_
                          ·rintro ⟨b6, b14, b16, b20, B, c, D, e⟩ h1
                           try simp only at h1
                           refine In 14 16 20 (by kernel_rfl) ?_ ?_ ?_
                           ·skip
                            refine D0 14 rfl rfl rfl rfl (by rfl) (by rfl) (by rfl) (by decide) (by decide) (by rfl) .free rfl (.inr Al) ?_; intro b14; refine Be (fun w h => Mem.seg2 (A := [(b14, _)]) (B := A2 _ _ B) h) (Cu ?_ (k2100 ⟨b6, b14, b16, b20, B, c, D, e⟩ h1))
                            exact ⟨rfl, rfl, rfl, rfl, rfl, rfl, rfl, rfl, rfl, rfl, rfl, trivial⟩
                           ·skip
                            refine Eo 16 rfl rfl .free rfl (.inr Al) ?_; intro b16; refine Be (fun w h => Mem.ins3 (A := [(b16, _)]) (B := A2 _ _ B) (C := []) h) (Cu ?_ (k2010 ⟨b6, b14, b16, b20, B, c, D, e⟩ h1))
                            exact ⟨rfl, rfl, rfl, rfl, rfl, rfl, rfl, rfl, rfl, rfl, rfl, trivial⟩
                           ·skip
                            refine D0 20 rfl rfl rfl rfl (by rfl) (by rfl) (by rfl) (by decide) (by decide) (by rfl) .free rfl (.inr Al) ?_; intro b20; refine Be (fun w h => Mem.ins4 (A := [(b20, _)]) (B := A2 _ _ B) (C := []) (D := []) h) (Cu ?_ (k2001 ⟨b6, b14, b16, b20, B, c, D, e⟩ h1))
                            exact ⟨rfl, rfl, rfl, rfl, rfl, rfl, rfl, rfl, rfl, rfl, rfl, trivial⟩
                          ·intro k2000; refine Dn (X := Ly) 10 #[true, true, true, true, true, true, false, true, false, true, true, true, true, true, false, false, false, true, false, true, true, false, true, false, false, false] (fun x => [(87, .slice (some ⟨x.b20, 0, none⟩) 1 1)]) (fun x L => [] ++ ([] ++ ([] ++ ([(x.b20, .cells [sv n1].toArray 9 (0, 0))] ++ L)))) (fun x => True) ?_ ?_
                           ·rintro ⟨b6, b14, b16, b20, B, c, D, e⟩ h1
                            try simp only at h1
                            refine In 6 14 16 (by kernel_rfl) ?_ ?_ ?_
                            ·skip
                             refine Eo 6 rfl rfl .free rfl (.inr Al) ?_; intro b6; refine Be (fun w h => h) (Cu ?_ (k1001 ⟨b6, b14, b16, b20, B, c, D, e⟩ trivial))
                             exact ⟨rfl, rfl, rfl, rfl, rfl, rfl, rfl, rfl, rfl, rfl, rfl, trivial⟩
                            ·skip
                             refine D0 14 rfl rfl rfl rfl (by rfl) (by rfl) (by rfl) (by decide) (by decide) (by rfl) .free rfl (.inr Al) ?_; intro b14; refine Be (fun w h => Mem.seg2 (A := [(b14, _)]) (B := []) h) (Cu ?_ (k0101 ⟨b6, b14, b16, b20, B, c, D, e⟩ trivial))
                             exact ⟨rfl, rfl, rfl, rfl, rfl, rfl, rfl, rfl, rfl, rfl, rfl, trivial⟩
                            ·skip
                             refine Eo 16 rfl rfl .free rfl (.inr Al) ?_; intro b16; refine Be (fun w h => Mem.ins3 (A := [(b16, _)]) (B := []) (C := []) h) (Cu ?_ (k0011 ⟨b6, b14, b16, b20, B, c, D, e⟩ trivial))
                             exact ⟨rfl, rfl, rfl, rfl, rfl, rfl, rfl, rfl, rfl, rfl, rfl, trivial⟩
                           ·intro k0001; refine Dn (X := Ly) 10 #[true, true, true, true, true, true, false, true, false, true, true, true, true, true, false, false, true, true, false, true, false, false, true, false, false, false] (fun x => [(83, .slice (some ⟨x.b16, 0, none⟩) 0 0)]) (fun x L => [] ++ ([] ++ ([(x.b16, .cells [].toArray 9 (0, 0))] ++ ([] ++ L)))) (fun x => True) ?_ ?_
                            ·rintro ⟨b6, b14, b16, b20, B, c, D, e⟩ h1
                             try simp only at h1
                             refine In 6 14 20 (by kernel_rfl) ?_ ?_ ?_
                             ·skip
                              refine Eo 6 rfl rfl .free rfl (.inr Al) ?_; intro b6; refine Be (fun w h => h) (Cu ?_ (k1010 ⟨b6, b14, b16, b20, B, c, D, e⟩ trivial))
                              exact ⟨rfl, rfl, rfl, rfl, rfl, rfl, rfl, rfl, rfl, rfl, rfl, trivial⟩
                             ·skip
                              refine D0 14 rfl rfl rfl rfl (by rfl) (by rfl) (by rfl) (by decide) (by decide) (by rfl) .free rfl (.inr Al) ?_; intro b14; refine Be (fun w h => Mem.seg2 (A := [(b14, _)]) (B := []) h) (Cu ?_ (k0110 ⟨b6, b14, b16, b20, B, c, D, e⟩ trivial))
                              exact ⟨rfl, rfl, rfl, rfl, rfl, rfl, rfl, rfl, rfl, rfl, rfl, trivial⟩
                             ·skip
                              refine D0 20 rfl rfl rfl rfl (by rfl) (by rfl) (by rfl) (by decide) (by decide) (by rfl) .free rfl (.inr Al) ?_; intro b20; refine Be (fun w h => Mem.ins4 (A := [(b20, _)]) (B := []) (C := []) (D := [(b16, _)]) h) (Cu ?_ (k0011 ⟨b6, b14, b16, b20, B, c, D, e⟩ trivial))
                              exact ⟨rfl, rfl, rfl, rfl, rfl, rfl, rfl, rfl, rfl, rfl, rfl, trivial⟩
                            ·intro k0010; refine Dn (X := Ly) 10 #[true, true, true, true, true, true, false, true, false, true, true, true, true, true, true, false, false, true, false, true, false, false, true, false, false, false] (fun x => [(81, .slice (some ⟨x.b14, 0, none⟩) 1 1)]) (fun x L => [] ++ ([(x.b14, .cells [sv z].toArray 9 (0, 0))] ++ ([] ++ ([] ++ L)))) (fun x => True) ?_ ?_
                             ·rintro ⟨b6, b14, b16, b20, B, c, D, e⟩ h1
                              try simp only at h1
                              refine In 6 16 20 (by kernel_rfl) ?_ ?_ ?_
                              ·skip
                               refine Eo 6 rfl rfl .free rfl (.inr Al) ?_; intro b6; refine Be (fun w h => h) (Cu ?_ (k1100 ⟨b6, b14, b16, b20, B, c, D, e⟩ trivial))
                               exact ⟨rfl, rfl, rfl, rfl, rfl, rfl, rfl, rfl, rfl, rfl, rfl, trivial⟩
                              ·skip
                               refine Eo 16 rfl rfl .free rfl (.inr Al) ?_; intro b16; refine Be (fun w h => Mem.ins3 (A := [(b16, _)]) (B := []) (C := [(b14, _)]) h) (Cu ?_ (k0110 ⟨b6, b14, b16, b20, B, c, D, e⟩ trivial))
                               exact ⟨rfl, rfl, rfl, rfl, rfl, rfl, rfl, rfl, rfl, rfl, rfl, trivial⟩
                              ·skip
                               refine D0 20 rfl rfl rfl rfl (by rfl) (by rfl) (by rfl) (by decide) (by decide) (by rfl) .free rfl (.inr Al) ?_; intro b20; refine Be (fun w h => Mem.ins4 (A := [(b20, _)]) (B := []) (C := [(b14, _)]) (D := []) h) (Cu ?_ (k0101 ⟨b6, b14, b16, b20, B, c, D, e⟩ trivial))
                               exact ⟨rfl, rfl, rfl, rfl, rfl, rfl, rfl, rfl, rfl, rfl, rfl, trivial⟩
                             ·intro k0100; refine Dn (X := Ly) 10 #[true, true, true, true, true, true, true, true, false, true, true, true, true, true, false, false, false, true, false, true, false, false, true, false, false, false] (fun x => [(73, .slice (some ⟨x.b6, 0, none⟩) 0 0)]) (fun x L => [(x.b6, .cells [].toArray 9 (0, 0))] ++ ([] ++ ([] ++ ([] ++ L)))) (fun x => True) ?_ ?_
                              ·rintro ⟨b6, b14, b16, b20, B, c, D, e⟩ h1
                               try simp only at h1
                               refine X4 8 14 16 20 (by kernel_rfl) ?_ ?_ ?_ ?_
                               ·skip
                                refine Fa 8 (B := some (b6, [])) (xs := []) (ys := f.map sv) (m := 0) (c := 0) rfl rfl (by intro kk; simp) (by rfl) rfl rfl ⟨rfl, Nat.le_refl _, rfl⟩ (fun _ h => h) (by simp) hfr.reads hfr.none (Cg f) (by decide) (by omega) (by decide) .free rfl (fun _ => .inr Al) ?_; intro B c h1; refine Be (fun w h => h) (Cu ?_ (k2000 ⟨b6, b14, b16, b20, B, c, D, e⟩ h1))
                                exact ⟨rfl, rfl, rfl, rfl, rfl, rfl, rfl, rfl, rfl, rfl, trivial⟩
                               ·skip
                                refine D0 14 rfl rfl rfl rfl (by rfl) (by rfl) (by rfl) (by decide) (by decide) (by rfl) .free rfl (.inr Al) ?_; intro b14; refine Be (fun w h => Mem.seg2 (A := [(b14, _)]) (B := [(b6, _)]) h) (Cu ?_ (k1100 ⟨b6, b14, b16, b20, B, c, D, e⟩ trivial))
                                exact ⟨rfl, rfl, rfl, rfl, rfl, rfl, rfl, rfl, rfl, rfl, rfl, trivial⟩
                               ·skip
                                refine Eo 16 rfl rfl .free rfl (.inr Al) ?_; intro b16; refine Be (fun w h => Mem.ins3 (A := [(b16, _)]) (B := [(b6, _)]) (C := []) h) (Cu ?_ (k1010 ⟨b6, b14, b16, b20, B, c, D, e⟩ trivial))
                                exact ⟨rfl, rfl, rfl, rfl, rfl, rfl, rfl, rfl, rfl, rfl, rfl, trivial⟩
                               ·skip
                                refine D0 20 rfl rfl rfl rfl (by rfl) (by rfl) (by rfl) (by decide) (by decide) (by rfl) .free rfl (.inr Al) ?_; intro b20; refine Be (fun w h => Mem.ins4 (A := [(b20, _)]) (B := [(b6, _)]) (C := []) (D := []) h) (Cu ?_ (k1001 ⟨b6, b14, b16, b20, B, c, D, e⟩ trivial))
                                exact ⟨rfl, rfl, rfl, rfl, rfl, rfl, rfl, rfl, rfl, rfl, rfl, trivial⟩
                              ·intro k1000; refine X4 6 14 16 20 (by kernel_rfl) ?_ ?_ ?_ ?_
                               ·skip
                                refine Eo 6 rfl rfl .free rfl (.inr Al) ?_; intro b6; refine Be (fun w h => h) (Cu ?_ (k1000 ⟨b6, 0, 0, 0, none, 0, none, 0⟩ trivial))
                                exact ⟨rfl, rfl, rfl, rfl, rfl, rfl, rfl, rfl, rfl, rfl, trivial⟩
                               ·skip
                                refine D0 14 rfl rfl rfl rfl (by rfl) (by rfl) (by rfl) (by decide) (by decide) (by rfl) .free rfl (.inr Al) ?_; intro b14; refine Be (fun w h => Mem.seg2 (A := [(b14, _)]) (B := []) h) (Cu ?_ (k0100 ⟨0, b14, 0, 0, none, 0, none, 0⟩ trivial))
                                exact ⟨rfl, rfl, rfl, rfl, rfl, rfl, rfl, rfl, rfl, rfl, trivial⟩
                               ·skip
                                refine Eo 16 rfl rfl .free rfl (.inr Al) ?_; intro b16; refine Be (fun w h => Mem.ins3 (A := [(b16, _)]) (B := []) (C := []) h) (Cu ?_ (k0010 ⟨0, 0, b16, 0, none, 0, none, 0⟩ trivial))
                                exact ⟨rfl, rfl, rfl, rfl, rfl, rfl, rfl, rfl, rfl, rfl, trivial⟩
                               ·skip
                                refine D0 20 rfl rfl rfl rfl (by rfl) (by rfl) (by rfl) (by decide) (by decide) (by rfl) .free rfl (.inr Al) ?_; intro b20; refine Be (fun w h => Mem.ins4 (A := [(b20, _)]) (B := []) (C := []) (D := []) h) (Cu ?_ (k0001 ⟨0, 0, 0, b20, none, 0, none, 0⟩ trivial))
                                exact ⟨rfl, rfl, rfl, rfl, rfl, rfl, rfl, rfl, rfl, rfl, trivial⟩
set_option maxHeartbeats 2000000 in
theorem Zl {n : Nat} (ihn : Mv n) {h1 z : Am} {s u : Ty} {b : Ex} {I : Heap} {cs : List Value} (hlt : SizeOf.sizeOf (Ex.fn h1 z s u b) < n + 1) (h : Rep I (Ex.fn h1 z s u b).tree cs) (hok : (Ex.fn h1 z s u b).ok = true) {f t : List Am} {of ot : Option Addr} {cf ct : Nat} (hfr : Strs I of f cf) (hto : Strs I ot t ct) (hft : f.length = t.length) (hfl : f.length + 2 * (Ex.fn h1 z s u b).size ≤ 100000)
  {ov : Option Addr} {av : List Am} {cv : Nat} (hav : Strs I ov av cv) (bp k : Nat) (hk : k + (Ex.fn h1 z s u b).nb + av.length ≤ 90 + Eb 120 av k) (ha5 : av.length ≤ 500) (L : Bc) :
  Fun Tryz.prog 102 [.agg cs.toArray, .slice of f.length cf, .slice ot t.length ct, .pointer (some ⟨bp, 0, none⟩)] I (rn bp ov av cv k :: L) (PR bp ov av cv ((Ex.fn h1 z s u b).pl av f t k) L) := by
 obtain ⟨oa, c, oaf, cf1, rfl, hf, hcl, hcs⟩ := h.cells
 have hle : HLe I I := .refl _
 have ha := hf.alen
 have hh0 := Bf 120 av k
 refine Aj (by simp) ?_; refine Se rfl ?_; refine Cc rfl rfl .free rfl ?_; intro b4; refine At .free rfl ?_; intro b8; refine Aa (Ab (Se rfl (Oh rfl ?_))); refine Bg rfl .free rfl ?_; refine Od rfl rfl rfl (Aa ?_)
 first | refine Eu rfl (by simp [Ex.tree, Tree.atom]) ?_ | refine Et rfl (by simp [Ex.tree, Tree.atom]) ?_ | refine A8 (by simp [Bu, Bo, *]) ?_
 refine Af (Ab ?_)
 have hok0 := hok
 have hb : (Ex.fn h1 z s u b).bare = false := rfl
 have hpos : 0 < (Ex.fn h1 z s u b).tree.parts.length := by
  rw [Ex.bare_parts] at hb
  have : (Ex.fn h1 z s u b).tree.parts ≠ [] := by intro hh; rw [hh] at hb; cases hb
  exact List.length_pos_iff.2 this
 have hhd := Gg hpos
 obtain ⟨xa, rfl⟩ : ∃ xa, oa = some xa := ⟨_, Ev hf.nil hpos⟩
 have hp := hf.len
 unfold Ap at hp
 refine Ah rfl ?_; refine C5 .free rfl ?_; intro b29; refine Oh rfl ?_; refine Bg rfl .free rfl ?_; refine D5 (B := some (b29, [])) (xs := []) (ys := Df oaf cf1 0 (Ex.fn h1 z s u b).tree.parts) (m := 0) (c := 0) (by intro kk; simp) (by rfl) rfl rfl ⟨rfl, Nat.le_refl _, rfl⟩ (fun _ h => h) (by have := hcl.length; omega) (fun a ha => by cases ha; exact (hcs _ rfl).reads) (by simp) hcl.plain hpos (by decide) (by omega) (by decide) .free rfl ?_; intro bc sp cc hB'
 have hcc : (Ex.fn h1 z s u b).tree.parts.length ≤ cc := by have := hB'.2.1; omega
 refine F1 (t := 32) (v' := .slice (some ⟨bc, 0, none⟩) (Ex.fn h1 z s u b).tree.parts.length cc) rfl (by rw [Nat.zero_add]) ?_
 simp only [List.nil_append]
 refine Cf rfl rfl rfl .free rfl ?_; refine At .free rfl ?_; intro b9; refine Bp rfl rfl rfl rfl .free ?_; refine Aa (Se rfl (Oh rfl ?_)); refine Bg rfl .free rfl ?_
 first | refine Bi rfl rfl 0 rfl .free rfl ?_ | refine Bj rfl rfl 0 rfl .free rfl ?_
 refine A3 rfl .free rfl ?_; refine Es rfl .free rfl ?_; refine Ca rfl (H8 ((Ex.fn h1 z s u b).tree.pt 0).atom _ _) ?_; rw [← hhd]; rintro _ _ _ _ ⟨rfl, rfl, rfl⟩; refine Om rfl (Oe rfl rfl (Oe rfl rfl (Oa rfl (Oa rfl (Aa (Ab (Ab ?_)))))))
 have hkr : Ar (Ex.fn h1 z s u b).tree.head = (5, 6) := rfl
 rw [hkr]
 have hlen : (Ex.fn h1 z s u b).tree.parts.length = 6 := rfl
 have hki := Ip h1 z s u b
 have hp0 : ((Ex.fn h1 z s u b).tree.pt 0).atom = Cq := rfl
 simp only [Ex.fn.sizeOf_spec] at hlt
 simp only [Ex.ok, Bool.and_eq_true, decide_eq_true_eq] at hok
 simp only [Ex.nb] at hk
 simp only [Ex.size] at hfl
 simp only [show (Ex.fn h1 z s u b).tree.parts = [.node Cq [], .node h1 [], .node z [], s.tree, u.tree, b.tree] from rfl, Df, List.cons_append, List.nil_append]
 refine C4 (fun w h => h.f4) ?_; refine Ah rfl (Oh rfl ?_); refine Bg rfl .free rfl ?_
 first | refine Bi rfl rfl 0 rfl .free rfl ?_ | refine Bj rfl rfl 0 rfl .free rfl ?_
 refine A3 rfl .free rfl ?_; refine Es rfl .free rfl ?_; refine Od rfl rfl rfl (Aa ?_)
 first | refine Eu rfl (by rw [hp0]; decide) ?_ | refine Et rfl (by rw [hp0]; decide) ?_ | refine A8 (by simp [Bu, Bo, *]) ?_
 refine Af (Ab (Se rfl (Oh rfl ?_))); refine Bg rfl .free rfl ?_
 first | refine Bi rfl rfl 0 rfl .free rfl ?_ | refine Bj rfl rfl 0 rfl .free rfl ?_
 refine A3 rfl .free rfl ?_; refine Es rfl .free rfl ?_; refine Od rfl rfl rfl (Aa ?_)
 first | refine Ji rfl (by rw [hp0]; rfl) ?_ | refine Jh rfl (by rw [hp0]; rfl) ?_ | refine Cm (by simp [Bu, Bo, *]) ?_
 refine Ab ?_; obtain ⟨x1, x2, x3⟩ := Dq 120 av k
 have x4 := Dz 120 av k
 have x5 := Bf 120 av (fr 120 av k)
 have x6 := Bf 120 av (fr 120 av k + 1)
 obtain ⟨y1, y2, y3⟩ := Dq 120 av (fr 120 av k + 1)
 have y4 := Dz 120 av (fr 120 av k + 1)
 have y5 := Bf 120 av (fr 120 av (fr 120 av k + 1))
 have y6 := Bf 120 av (fr 120 av (fr 120 av k + 1) + 1)
 have hhl := Ex.name_len hok.1.1.1.1.1
 have hzl := Ex.name_len hok.1.1.1.1.2
 refine Ah rfl (Om rfl ?_); refine Ca rfl (M1 hav bp k (by omega) _) ?_; rintro _ _ _ _ ⟨rfl, rfl, rfl⟩
 have hnl1 := Nb (n := fr 120 av k) (by omega)
 generalize hn1e : nm 120 (fr 120 av k) = n1 at hnl1 ⊢
 refine Oa rfl (Aa (Se rfl (Om rfl ?_))); refine Ca rfl (M1 hav bp (fr 120 av k + 1) (by omega) _) ?_; rintro _ _ _ _ ⟨rfl, rfl, rfl⟩
 have hnl2 := Nb (n := fr 120 av (fr 120 av k + 1)) (by omega)
 generalize hn2e : nm 120 (fr 120 av (fr 120 av k + 1)) = n2 at hnl2 ⊢
 refine Oa rfl (Aa (Ab ?_)); refine Do 6 rfl rfl ?_; refine Da 0 rfl (Ae rfl) ?_; refine Dt 1 [5] rfl (A7 rfl) ?_; refine Da 2 rfl (Ac rfl) ?_; refine Dc 3 rfl rfl (Gl n1 _ _) ?_; rintro _ _ _ _ ⟨rfl, rfl, rfl⟩; refine Hx ?_
 first | refine Da 4 rfl (A4 rfl rfl 1 rfl) ?_ | refine Da 4 rfl (A5 rfl rfl 1 rfl) ?_
 refine Dx 5 rfl rfl rfl rfl ?_; refine Au (by kernel_rfl) ?_; refine Ab ?_; refine Do 6 rfl rfl ?_; refine Da 0 rfl (Ae rfl) ?_; refine Dt 1 [5] rfl (A7 rfl) ?_; refine Da 2 rfl (Ac rfl) ?_; refine Dc 3 rfl rfl (Gl n2 _ _) ?_; rintro _ _ _ _ ⟨rfl, rfl, rfl⟩; refine Hx ?_
 first | refine Da 4 rfl (A4 rfl rfl 2 rfl) ?_ | refine Da 4 rfl (A5 rfl rfl 2 rfl) ?_
 refine Dx 5 rfl rfl rfl rfl ?_; refine Au (by kernel_rfl) ?_; refine Ab ?_; refine Do 16 rfl rfl ?_; refine Da 1 rfl (Ac rfl) ?_; refine Da 3 rfl (Ae rfl) ?_; refine Dt 4 [16] rfl (A7 rfl) ?_
 first | refine Da 5 rfl (A4 rfl rfl 1 rfl) ?_ | refine Da 5 rfl (A5 rfl rfl 1 rfl) ?_
 refine Da 6 rfl (Ba rfl) ?_; refine Dt 7 [16] rfl (Ii rfl) ?_; refine Da 8 rfl (Ae rfl) ?_; refine Dt 9 [16] rfl (A7 rfl) ?_
 first | refine Da 10 rfl (A4 rfl rfl 2 rfl) ?_ | refine Da 10 rfl (A5 rfl rfl 2 rfl) ?_
 refine Da 11 rfl (Ba rfl) ?_; refine Dt 12 [16] rfl (Ii rfl) ?_; refine E7 0 13 (by kernel_rfl) ?_ ?_
 ·skip
  refine Eo 0 rfl rfl .free rfl (.inr Al) ?_; intro b113; refine E7 2 13 (by kernel_rfl) ?_ ?_
  ·skip
   refine Fa 2 (B := some (b113, [])) (xs := []) (ys := f.map sv) (m := 0) (c := 0) rfl rfl (by intro kk; simp) (by rfl) rfl rfl ⟨rfl, Nat.le_refl _, rfl⟩ (by first | exact fun _ h => h | exact fun _ h => h.f1 | exact fun _ h => h.f2 | exact fun _ h => h.f3) (by simp) hfr.reads hfr.none (Cg f) (by decide) (by omega) (by decide) .free rfl (fun _ => .inr Al) ?_; intro B1 c1 hB1; refine C6 13 rfl (by kernel_rfl) rfl rfl rfl (by rfl) (by rfl) (by rfl) (by decide) (by decide) (by rfl) .free rfl (.inr Al) ?_; intro b126
   refine B8 14 (B := B1) (xs := f.map sv) (ys := [sv h1, sv z]) (m := 0 + f.length) (c := c1) rfl (by kernel_rfl) rfl (by intro kk; simp) (by rfl) rfl rfl hB1 (by first | exact fun _ h => h | exact fun _ h => h.u1 | exact fun _ h => h.u2 | exact fun _ h => h.u3) (by rfl) (fun a ha => by cases ha; exact B0 (by repeat first | exact .head _ | apply List.Mem.tail | apply List.mem_append_right) (by rfl)) (by simp) (by rfl) (by decide) (by omega) (by decide) .free rfl (fun _ => .inr Al) ?_; intro B2 c2 hB2; rw [show f.map sv ++ [sv h1, sv z] = (f ++ [h1, z]).map sv by simp] at hB2 ⊢
   refine Dp hB2 (by simp) (by simp [Ap]; omega) (by intro s hs; rcases List.mem_append.1 hs with hs | hs; exact hfr.each s hs; simp only [List.mem_cons, List.not_mem_nil, or_false] at hs; rcases hs with rfl | rfl; exact hhl; exact hzl) ?_; intro J3 o3 k3 ez hbv hs3; refine E6 (t := 127) rfl hbv ?_
   have hf := hf.mono ez
   have hfr := hfr.mono ez
   have hto := hto.mono ez
   have hav := hav.mono ez
   have hle := hle.trans ez
   refine Da 15 rfl (Bh rfl) ?_; refine Au (by kernel_rfl) ?_; refine Ah rfl ?_; refine C5 .free rfl ?_; intro b128; refine Om rfl ?_; refine Fm (B := some (b128, [])) (xs := []) (ys := t.map sv) (m := 0) (c := 0) (by intro kk; simp) (by rfl) rfl rfl ⟨rfl, Nat.le_refl _, rfl⟩ (by first | exact fun _ h => h | exact fun _ h => h.f1 | exact fun _ h => h.f2 | exact fun _ h => h.f3) (by simp) hto.reads hto.none (Cg t) (by decide) (by omega) (by decide) .free rfl ?_; intro B3 c3 hB3; refine Om rfl (Om rfl ?_); refine Ol rfl rfl ?_; intro b133
   refine Fm (B := B3) (xs := t.map sv) (ys := [sv n1, sv n2]) (m := 0 + t.length) (c := c3) (by intro kk; simp) (by rfl) rfl rfl hB3 (by first | exact fun _ h => h | exact fun _ h => h.u1 | exact fun _ h => h.u2 | exact fun _ h => h.u3) (by rfl) (fun a ha => by cases ha; exact B0 (by repeat first | exact .head _ | apply List.Mem.tail | apply List.mem_append_right) (by rfl)) (by simp) (by rfl) (by decide) (by omega) (by decide) .free rfl ?_; intro B4 c4 hB4; rw [show t.map sv ++ [sv n1, sv n2] = (t ++ [n1, n2]).map sv by simp] at hB4 ⊢; refine Oa rfl (Aa (Ab (Ab ?_)))
   refine Ff hB4 (by simp) (by simp [Ap]; omega) (by intro s hs; rcases List.mem_append.1 hs with hs | hs; exact hto.each s hs; simp only [List.mem_cons, List.not_mem_nil, or_false] at hs; rcases hs with rfl | rfl; exact hnl1; exact hnl2) ?_; intro J4 o4 k4 ey hbv4 hs4; refine Hp (t := 2) rfl hbv4 ?_; refine C4 (fun w h => h.drop.drop) ?_
   have hs3 := hs3.mono ey
   have hf := hf.mono ey
   have hfr := hfr.mono ey
   have hto := hto.mono ey
   have hav := hav.mono ey
   have hle := hle.trans ey
   refine Ah rfl (Om rfl (Oa rfl (Aa (Ai ?_)))); refine Dd ?_; refine Ab (Se rfl (Om rfl (Om rfl (Oc rfl rfl rfl (Aa ?_))))); refine Bn rfl (by first | rfl | decide | (simp; done) | omega) ?_; refine Af (Ab (Ai ?_)); refine C0 fun hlr => ?_
   have hpl := b.pl_hits av (f ++ [h1, z]) (t ++ [n1, n2]) (fr 120 av (fr 120 av k + 1) + 1)
   refine Ge 14 rfl rfl ?_; refine Da 0 rfl (Ae rfl) ?_; refine Dt 1 [13] rfl (A7 rfl) ?_; refine Da 2 rfl (Ac rfl) ?_; refine Da 3 rfl (Ae rfl) ?_; refine Dt 4 [13] rfl (A7 rfl) ?_; refine Da 5 rfl (Ac rfl) ?_
   first | refine Da 6 rfl (A4 rfl rfl _ rfl) ?_ | refine Da 6 rfl (A5 rfl rfl _ rfl) ?_
   refine Dt 7 [13] rfl (Bz rfl) ?_; refine Da 8 rfl (Ac rfl) ?_; refine Da 9 rfl (Ac rfl) ?_; refine Da 10 rfl (Ac rfl) ?_; refine Dc 11 rfl rfl (ihn (f := f ++ [h1, z]) (t := t ++ [n1, n2]) (by omega) (hf.as 5 b.tree (by omega) rfl) hok.2 hs3 hs4 (by simp [hft]) (by first | omega | (simp only [List.length_append, List.length_cons, List.length_nil]; omega)) hav bp _ (by omega) ha5 _) ?_; rintro _ J2 _ e2 ⟨cs2, rfl, hr_0, rfl⟩; obtain ⟨o2, k2, _, rfl, -⟩ := hr_0.open
   have hlr := hlr.trans e2
   have hf := hf.mono e2
   have hfr := hfr.mono e2
   have hto := hto.mono e2
   have hav := hav.mono e2
   have hle := hle.trans e2
   refine Hx ?_
   first | refine Da 12 rfl (A4 rfl rfl _ rfl) ?_ | refine Da 12 rfl (A5 rfl rfl _ rfl) ?_
   refine Dx 13 rfl rfl rfl rfl ?_; refine Au (by kernel_rfl) ?_; refine Ak (Ah rfl (Om rfl ?_)); refine Or rfl rfl rfl ?_; refine Oa rfl (Aa ?_); refine Bm ?_; refine Ab (Se rfl (Om rfl (Om rfl (Oc rfl rfl rfl (Aa ?_))))); refine Co rfl (by first | rfl | decide | (simp; done) | omega) ?_; refine Bq rfl ?_; refine Se rfl ?_; refine Aw rfl .free rfl ?_; refine Bp rfl rfl rfl rfl .free ?_; refine Aa ?_; refine C4 (fun w h => h.f2) (Bx ?_); intro hz
   have hf := hf.mono hz
   refine Ag (.c rfl .nil) ?_; subst hn1e hn2e
   exact ⟨_, _, hle.trans hz, fun w h => Mem.sub (L' := rn bp ov av cv _ :: L) (by repeat (first | exact List.Sublist.refl _ | apply List.Sublist.cons_cons | apply List.Sublist.cons)) h, _, rfl, .mk' rfl (.cons (hf.as 0 (.node Cq []) (by omega) rfl) (.cons (.ofAtom hnl1) (.cons (.ofAtom hnl2) (.cons (hf.as 3 (s.tree) (by omega) rfl) (.cons (hf.as 4 (u.tree) (by omega) rfl) (.cons (hr_0.mono hz) (.nil))))))) (fun y hy => by cases hy; exact Ax (xs := [_, _, _, _, _, _, _, _, _, _, _, _])) (by simp) hcc (by simp [Ap]) (by simp [Ap]), rfl⟩
  ·skip
   refine D0 13 rfl rfl rfl rfl (by rfl) (by rfl) (by rfl) (by decide) (by decide) (by rfl) .free rfl (.inr Al) ?_; intro b126; refine B8 2 (B := some (b113, [])) (xs := []) (ys := f.map sv) (m := 0) (c := 0) rfl (by kernel_rfl) rfl (by intro kk; simp) (by rfl) rfl rfl ⟨rfl, Nat.le_refl _, rfl⟩ (by first | exact fun _ h => h | exact fun _ h => h.f1 | exact fun _ h => h.f2 | exact fun _ h => h.f3) (by simp) hfr.reads hfr.none (Cg f) (by decide) (by omega) (by decide) .free rfl (fun _ => .inr Al) ?_; intro B1 c1 hB1
   refine B8 14 (B := B1) (xs := f.map sv) (ys := [sv h1, sv z]) (m := 0 + f.length) (c := c1) rfl (by kernel_rfl) rfl (by intro kk; simp) (by rfl) rfl rfl hB1 (by first | exact fun _ h => h | exact fun _ h => h.u1 | exact fun _ h => h.u2 | exact fun _ h => h.u3) (by rfl) (fun a ha => by cases ha; exact B0 (by repeat first | exact .head _ | apply List.Mem.tail | apply List.mem_append_right) (by rfl)) (by simp) (by rfl) (by decide) (by omega) (by decide) .free rfl (fun _ => .inr Al) ?_; intro B2 c2 hB2; rw [show f.map sv ++ [sv h1, sv z] = (f ++ [h1, z]).map sv by simp] at hB2 ⊢
   refine Dp hB2 (by simp) (by simp [Ap]; omega) (by intro s hs; rcases List.mem_append.1 hs with hs | hs; exact hfr.each s hs; simp only [List.mem_cons, List.not_mem_nil, or_false] at hs; rcases hs with rfl | rfl; exact hhl; exact hzl) ?_; intro J3 o3 k3 ez hbv hs3; refine E6 (t := 127) rfl hbv ?_
   have hf := hf.mono ez
   have hfr := hfr.mono ez
   have hto := hto.mono ez
   have hav := hav.mono ez
   have hle := hle.trans ez
   refine Da 15 rfl (Bh rfl) ?_; refine Au (by kernel_rfl) ?_; refine Ah rfl ?_; refine C5 .free rfl ?_; intro b128; refine Om rfl ?_; refine Fm (B := some (b128, [])) (xs := []) (ys := t.map sv) (m := 0) (c := 0) (by intro kk; simp) (by rfl) rfl rfl ⟨rfl, Nat.le_refl _, rfl⟩ (by first | exact fun _ h => h | exact fun _ h => h.f1 | exact fun _ h => h.f2 | exact fun _ h => h.f3) (by simp) hto.reads hto.none (Cg t) (by decide) (by omega) (by decide) .free rfl ?_; intro B3 c3 hB3; refine Om rfl (Om rfl ?_); refine Ol rfl rfl ?_; intro b133
   refine Fm (B := B3) (xs := t.map sv) (ys := [sv n1, sv n2]) (m := 0 + t.length) (c := c3) (by intro kk; simp) (by rfl) rfl rfl hB3 (by first | exact fun _ h => h | exact fun _ h => h.u1 | exact fun _ h => h.u2 | exact fun _ h => h.u3) (by rfl) (fun a ha => by cases ha; exact B0 (by repeat first | exact .head _ | apply List.Mem.tail | apply List.mem_append_right) (by rfl)) (by simp) (by rfl) (by decide) (by omega) (by decide) .free rfl ?_; intro B4 c4 hB4; rw [show t.map sv ++ [sv n1, sv n2] = (t ++ [n1, n2]).map sv by simp] at hB4 ⊢; refine Oa rfl (Aa (Ab (Ab ?_)))
   refine Ff hB4 (by simp) (by simp [Ap]; omega) (by intro s hs; rcases List.mem_append.1 hs with hs | hs; exact hto.each s hs; simp only [List.mem_cons, List.not_mem_nil, or_false] at hs; rcases hs with rfl | rfl; exact hnl1; exact hnl2) ?_; intro J4 o4 k4 ey hbv4 hs4; refine Hp (t := 2) rfl hbv4 ?_; refine C4 (fun w h => h.drop.drop) ?_
   have hs3 := hs3.mono ey
   have hf := hf.mono ey
   have hfr := hfr.mono ey
   have hto := hto.mono ey
   have hav := hav.mono ey
   have hle := hle.trans ey
   refine Ah rfl (Om rfl (Oa rfl (Aa (Ai ?_)))); refine Dd ?_; refine Ab (Se rfl (Om rfl (Om rfl (Oc rfl rfl rfl (Aa ?_))))); refine Bn rfl (by first | rfl | decide | (simp; done) | omega) ?_; refine Af (Ab (Ai ?_)); refine C0 fun hlr => ?_
   have hpl := b.pl_hits av (f ++ [h1, z]) (t ++ [n1, n2]) (fr 120 av (fr 120 av k + 1) + 1)
   refine Ge 14 rfl rfl ?_; refine Da 0 rfl (Ae rfl) ?_; refine Dt 1 [13] rfl (A7 rfl) ?_; refine Da 2 rfl (Ac rfl) ?_; refine Da 3 rfl (Ae rfl) ?_; refine Dt 4 [13] rfl (A7 rfl) ?_; refine Da 5 rfl (Ac rfl) ?_
   first | refine Da 6 rfl (A4 rfl rfl _ rfl) ?_ | refine Da 6 rfl (A5 rfl rfl _ rfl) ?_
   refine Dt 7 [13] rfl (Bz rfl) ?_; refine Da 8 rfl (Ac rfl) ?_; refine Da 9 rfl (Ac rfl) ?_; refine Da 10 rfl (Ac rfl) ?_; refine Dc 11 rfl rfl (ihn (f := f ++ [h1, z]) (t := t ++ [n1, n2]) (by omega) (hf.as 5 b.tree (by omega) rfl) hok.2 hs3 hs4 (by simp [hft]) (by first | omega | (simp only [List.length_append, List.length_cons, List.length_nil]; omega)) hav bp _ (by omega) ha5 _) ?_; rintro _ J2 _ e2 ⟨cs2, rfl, hr_0, rfl⟩; obtain ⟨o2, k2, _, rfl, -⟩ := hr_0.open
   have hlr := hlr.trans e2
   have hf := hf.mono e2
   have hfr := hfr.mono e2
   have hto := hto.mono e2
   have hav := hav.mono e2
   have hle := hle.trans e2
   refine Hx ?_
   first | refine Da 12 rfl (A4 rfl rfl _ rfl) ?_ | refine Da 12 rfl (A5 rfl rfl _ rfl) ?_
   refine Dx 13 rfl rfl rfl rfl ?_; refine Au (by kernel_rfl) ?_; refine Ak (Ah rfl (Om rfl ?_)); refine Or rfl rfl rfl ?_; refine Oa rfl (Aa ?_); refine Bm ?_; refine Ab (Se rfl (Om rfl (Om rfl (Oc rfl rfl rfl (Aa ?_))))); refine Co rfl (by first | rfl | decide | (simp; done) | omega) ?_; refine Bq rfl ?_; refine Se rfl ?_; refine Aw rfl .free rfl ?_; refine Bp rfl rfl rfl rfl .free ?_; refine Aa ?_; refine C4 (fun w h => h.f2) (Bx ?_); intro hz
   have hf := hf.mono hz
   refine Ag (.c rfl .nil) ?_; subst hn1e hn2e
   exact ⟨_, _, hle.trans hz, fun w h => Mem.sub (L' := rn bp ov av cv _ :: L) (by repeat (first | exact List.Sublist.refl _ | apply List.Sublist.cons_cons | apply List.Sublist.cons)) h, _, rfl, .mk' rfl (.cons (hf.as 0 (.node Cq []) (by omega) rfl) (.cons (.ofAtom hnl1) (.cons (.ofAtom hnl2) (.cons (hf.as 3 (s.tree) (by omega) rfl) (.cons (hf.as 4 (u.tree) (by omega) rfl) (.cons (hr_0.mono hz) (.nil))))))) (fun y hy => by cases hy; exact Ax (xs := [_, _, _, _, _, _, _, _, _, _, _, _])) (by simp) hcc (by simp [Ap]) (by simp [Ap]), rfl⟩
 ·skip
  refine D0 13 rfl rfl rfl rfl (by rfl) (by rfl) (by rfl) (by decide) (by decide) (by rfl) .free rfl (.inr Al) ?_; intro b126; refine Gn 0 rfl (by kernel_rfl) rfl .free rfl (.inr Al) ?_; intro b113; refine B8 2 (B := some (b113, [])) (xs := []) (ys := f.map sv) (m := 0) (c := 0) rfl (by kernel_rfl) rfl (by intro kk; simp) (by rfl) rfl rfl ⟨rfl, Nat.le_refl _, rfl⟩ (by first | exact fun _ h => h | exact fun _ h => h.f1 | exact fun _ h => h.f2 | exact fun _ h => h.f3) (by simp) hfr.reads hfr.none (Cg f) (by decide) (by omega) (by decide) .free rfl (fun _ => .inr Al) ?_; intro B1 c1 hB1
  refine B8 14 (B := B1) (xs := f.map sv) (ys := [sv h1, sv z]) (m := 0 + f.length) (c := c1) rfl (by kernel_rfl) rfl (by intro kk; simp) (by rfl) rfl rfl hB1 (by first | exact fun _ h => h | exact fun _ h => h.u1 | exact fun _ h => h.u2 | exact fun _ h => h.u3) (by rfl) (fun a ha => by cases ha; exact B0 (by repeat first | exact .head _ | apply List.Mem.tail | apply List.mem_append_right) (by rfl)) (by simp) (by rfl) (by decide) (by omega) (by decide) .free rfl (fun _ => .inr Al) ?_; intro B2 c2 hB2; rw [show f.map sv ++ [sv h1, sv z] = (f ++ [h1, z]).map sv by simp] at hB2 ⊢
  refine Dp hB2 (by simp) (by simp [Ap]; omega) (by intro s hs; rcases List.mem_append.1 hs with hs | hs; exact hfr.each s hs; simp only [List.mem_cons, List.not_mem_nil, or_false] at hs; rcases hs with rfl | rfl; exact hhl; exact hzl) ?_; intro J3 o3 k3 ez hbv hs3; refine E6 (t := 127) rfl hbv ?_
  have hf := hf.mono ez
  have hfr := hfr.mono ez
  have hto := hto.mono ez
  have hav := hav.mono ez
  have hle := hle.trans ez
  refine Da 15 rfl (Bh rfl) ?_; refine Au (by kernel_rfl) ?_; refine Ah rfl ?_; refine C5 .free rfl ?_; intro b128; refine Om rfl ?_; refine Fm (B := some (b128, [])) (xs := []) (ys := t.map sv) (m := 0) (c := 0) (by intro kk; simp) (by rfl) rfl rfl ⟨rfl, Nat.le_refl _, rfl⟩ (by first | exact fun _ h => h | exact fun _ h => h.f1 | exact fun _ h => h.f2 | exact fun _ h => h.f3) (by simp) hto.reads hto.none (Cg t) (by decide) (by omega) (by decide) .free rfl ?_; intro B3 c3 hB3; refine Om rfl (Om rfl ?_); refine Ol rfl rfl ?_; intro b133
  refine Fm (B := B3) (xs := t.map sv) (ys := [sv n1, sv n2]) (m := 0 + t.length) (c := c3) (by intro kk; simp) (by rfl) rfl rfl hB3 (by first | exact fun _ h => h | exact fun _ h => h.u1 | exact fun _ h => h.u2 | exact fun _ h => h.u3) (by rfl) (fun a ha => by cases ha; exact B0 (by repeat first | exact .head _ | apply List.Mem.tail | apply List.mem_append_right) (by rfl)) (by simp) (by rfl) (by decide) (by omega) (by decide) .free rfl ?_; intro B4 c4 hB4; rw [show t.map sv ++ [sv n1, sv n2] = (t ++ [n1, n2]).map sv by simp] at hB4 ⊢; refine Oa rfl (Aa (Ab (Ab ?_)))
  refine Ff hB4 (by simp) (by simp [Ap]; omega) (by intro s hs; rcases List.mem_append.1 hs with hs | hs; exact hto.each s hs; simp only [List.mem_cons, List.not_mem_nil, or_false] at hs; rcases hs with rfl | rfl; exact hnl1; exact hnl2) ?_; intro J4 o4 k4 ey hbv4 hs4; refine Hp (t := 2) rfl hbv4 ?_; refine C4 (fun w h => h.drop.drop) ?_
  have hs3 := hs3.mono ey
  have hf := hf.mono ey
  have hfr := hfr.mono ey
  have hto := hto.mono ey
  have hav := hav.mono ey
  have hle := hle.trans ey
  refine Ah rfl (Om rfl (Oa rfl (Aa (Ai ?_)))); refine Dd ?_; refine Ab (Se rfl (Om rfl (Om rfl (Oc rfl rfl rfl (Aa ?_))))); refine Bn rfl (by first | rfl | decide | (simp; done) | omega) ?_; refine Af (Ab (Ai ?_)); refine C0 fun hlr => ?_
  have hpl := b.pl_hits av (f ++ [h1, z]) (t ++ [n1, n2]) (fr 120 av (fr 120 av k + 1) + 1)
  refine Ge 14 rfl rfl ?_; refine Da 0 rfl (Ae rfl) ?_; refine Dt 1 [13] rfl (A7 rfl) ?_; refine Da 2 rfl (Ac rfl) ?_; refine Da 3 rfl (Ae rfl) ?_; refine Dt 4 [13] rfl (A7 rfl) ?_; refine Da 5 rfl (Ac rfl) ?_
  first | refine Da 6 rfl (A4 rfl rfl _ rfl) ?_ | refine Da 6 rfl (A5 rfl rfl _ rfl) ?_
  refine Dt 7 [13] rfl (Bz rfl) ?_; refine Da 8 rfl (Ac rfl) ?_; refine Da 9 rfl (Ac rfl) ?_; refine Da 10 rfl (Ac rfl) ?_; refine Dc 11 rfl rfl (ihn (f := f ++ [h1, z]) (t := t ++ [n1, n2]) (by omega) (hf.as 5 b.tree (by omega) rfl) hok.2 hs3 hs4 (by simp [hft]) (by first | omega | (simp only [List.length_append, List.length_cons, List.length_nil]; omega)) hav bp _ (by omega) ha5 _) ?_; rintro _ J2 _ e2 ⟨cs2, rfl, hr_0, rfl⟩; obtain ⟨o2, k2, _, rfl, -⟩ := hr_0.open
  have hlr := hlr.trans e2
  have hf := hf.mono e2
  have hfr := hfr.mono e2
  have hto := hto.mono e2
  have hav := hav.mono e2
  have hle := hle.trans e2
  refine Hx ?_
  first | refine Da 12 rfl (A4 rfl rfl _ rfl) ?_ | refine Da 12 rfl (A5 rfl rfl _ rfl) ?_
  refine Dx 13 rfl rfl rfl rfl ?_; refine Au (by kernel_rfl) ?_; refine Ak (Ah rfl (Om rfl ?_)); refine Or rfl rfl rfl ?_; refine Oa rfl (Aa ?_); refine Bm ?_; refine Ab (Se rfl (Om rfl (Om rfl (Oc rfl rfl rfl (Aa ?_))))); refine Co rfl (by first | rfl | decide | (simp; done) | omega) ?_; refine Bq rfl ?_; refine Se rfl ?_; refine Aw rfl .free rfl ?_; refine Bp rfl rfl rfl rfl .free ?_; refine Aa ?_; refine C4 (fun w h => h.f2) (Bx ?_); intro hz
  have hf := hf.mono hz
  refine Ag (.c rfl .nil) ?_; subst hn1e hn2e
  exact ⟨_, _, hle.trans hz, fun w h => Mem.sub (L' := rn bp ov av cv _ :: L) (by repeat (first | exact List.Sublist.refl _ | apply List.Sublist.cons_cons | apply List.Sublist.cons)) h, _, rfl, .mk' rfl (.cons (hf.as 0 (.node Cq []) (by omega) rfl) (.cons (.ofAtom hnl1) (.cons (.ofAtom hnl2) (.cons (hf.as 3 (s.tree) (by omega) rfl) (.cons (hf.as 4 (u.tree) (by omega) rfl) (.cons (hr_0.mono hz) (.nil))))))) (fun y hy => by cases hy; exact Ax (xs := [_, _, _, _, _, _, _, _, _, _, _, _])) (by simp) hcc (by simp [Ap]) (by simp [Ap]), rfl⟩
set_option maxHeartbeats 2000000 in
theorem Zn {n : Nat} (ihn : Mv n) {o : U2} {a : Ex} {I : Heap} {cs : List Value} (hlt : SizeOf.sizeOf (Ex.un o a) < n + 1) (h : Rep I (Ex.un o a).tree cs) (hok : (Ex.un o a).ok = true) {f t : List Am} {of ot : Option Addr} {cf ct : Nat} (hfr : Strs I of f cf) (hto : Strs I ot t ct) (hft : f.length = t.length) (hfl : f.length + 2 * (Ex.un o a).size ≤ 100000)
  {ov : Option Addr} {av : List Am} {cv : Nat} (hav : Strs I ov av cv) (bp k : Nat) (hk : k + (Ex.un o a).nb + av.length ≤ 90 + Eb 120 av k) (ha5 : av.length ≤ 500) (L : Bc) :
  Fun Tryz.prog 102 [.agg cs.toArray, .slice of f.length cf, .slice ot t.length ct, .pointer (some ⟨bp, 0, none⟩)] I (rn bp ov av cv k :: L) (PR bp ov av cv ((Ex.un o a).pl av f t k) L) := by
 obtain ⟨oa, c, oaf, cf1, rfl, hf, hcl, hcs⟩ := h.cells
 have hle : HLe I I := .refl _
 have ha := hf.alen
 have hh0 := Bf 120 av k
 refine Aj (by simp) ?_; refine Se rfl ?_; refine Cc rfl rfl .free rfl ?_; intro b4; refine At .free rfl ?_; intro b8; refine Aa (Ab (Se rfl (Oh rfl ?_))); refine Bg rfl .free rfl ?_; refine Od rfl rfl rfl (Aa ?_)
 first | refine Eu rfl (by simp [Ex.tree, Tree.atom]) ?_ | refine Et rfl (by simp [Ex.tree, Tree.atom]) ?_ | refine A8 (by simp [Bu, Bo, *]) ?_
 refine Af (Ab ?_)
 have hok0 := hok
 have hb : (Ex.un o a).bare = false := rfl
 have hpos : 0 < (Ex.un o a).tree.parts.length := by
  rw [Ex.bare_parts] at hb
  have : (Ex.un o a).tree.parts ≠ [] := by intro hh; rw [hh] at hb; cases hb
  exact List.length_pos_iff.2 this
 have hhd := Gg hpos
 obtain ⟨xa, rfl⟩ : ∃ xa, oa = some xa := ⟨_, Ev hf.nil hpos⟩
 have hp := hf.len
 unfold Ap at hp
 refine Ah rfl ?_; refine C5 .free rfl ?_; intro b29; refine Oh rfl ?_; refine Bg rfl .free rfl ?_; refine D5 (B := some (b29, [])) (xs := []) (ys := Df oaf cf1 0 (Ex.un o a).tree.parts) (m := 0) (c := 0) (by intro kk; simp) (by rfl) rfl rfl ⟨rfl, Nat.le_refl _, rfl⟩ (fun _ h => h) (by have := hcl.length; omega) (fun a ha => by cases ha; exact (hcs _ rfl).reads) (by simp) hcl.plain hpos (by decide) (by omega) (by decide) .free rfl ?_; intro bc sp cc hB'
 have hcc : (Ex.un o a).tree.parts.length ≤ cc := by have := hB'.2.1; omega
 refine F1 (t := 32) (v' := .slice (some ⟨bc, 0, none⟩) (Ex.un o a).tree.parts.length cc) rfl (by rw [Nat.zero_add]) ?_
 simp only [List.nil_append]
 refine Cf rfl rfl rfl .free rfl ?_; refine At .free rfl ?_; intro b9; refine Bp rfl rfl rfl rfl .free ?_; refine Aa (Se rfl (Oh rfl ?_)); refine Bg rfl .free rfl ?_
 first | refine Bi rfl rfl 0 rfl .free rfl ?_ | refine Bj rfl rfl 0 rfl .free rfl ?_
 refine A3 rfl .free rfl ?_; refine Es rfl .free rfl ?_; refine Ca rfl (H8 ((Ex.un o a).tree.pt 0).atom _ _) ?_; rw [← hhd]; rintro _ _ _ _ ⟨rfl, rfl, rfl⟩; refine Om rfl (Oe rfl rfl (Oe rfl rfl (Oa rfl (Oa rfl (Aa (Ab (Ab ?_)))))))
 have hkr : Ar (Ex.un o a).tree.head = (1, 2) := by cases o <;> rfl
 rw [hkr]
 have hlen : (Ex.un o a).tree.parts.length = 2 := rfl
 have hki := G5 o a
 have hp0 : ((Ex.un o a).tree.pt 0).atom = o.txt := rfl
 simp only [Ex.un.sizeOf_spec] at hlt
 simp only [Ex.ok, Bool.and_eq_true, decide_eq_true_eq] at hok
 simp only [Ex.nb] at hk
 simp only [Ex.size] at hfl
 simp only [show (Ex.un o a).tree.parts = [.node o.txt [], a.tree] from rfl, Df, List.cons_append, List.nil_append]
 refine C4 (fun w h => h.f4) ?_; refine Ah rfl (Oh rfl ?_); refine Bg rfl .free rfl ?_
 first | refine Bi rfl rfl 0 rfl .free rfl ?_ | refine Bj rfl rfl 0 rfl .free rfl ?_
 refine A3 rfl .free rfl ?_; refine Es rfl .free rfl ?_; refine Od rfl rfl rfl (Aa ?_)
 first | refine Eu rfl (by rw [hp0]; cases o <;> decide) ?_ | refine Et rfl (by rw [hp0]; cases o <;> decide) ?_ | refine A8 (by simp [Bu, Bo, *]) ?_
 refine Af (Ab (Se rfl (Oh rfl ?_))); refine Bg rfl .free rfl ?_
 first | refine Bi rfl rfl 0 rfl .free rfl ?_ | refine Bj rfl rfl 0 rfl .free rfl ?_
 refine A3 rfl .free rfl ?_; refine Es rfl .free rfl ?_; refine Od rfl rfl rfl (Aa ?_)
 first | refine Eu rfl (by rw [hp0]; cases o <;> decide) ?_ | refine Et rfl (by rw [hp0]; cases o <;> decide) ?_ | refine A8 (by simp [Bu, Bo, *]) ?_
 refine Af (Ab (Se rfl (Om rfl (Oa rfl (Aa (Ai ?_)))))); refine Dd ?_; refine Ab (Se rfl (Om rfl (Om rfl (Oc rfl rfl rfl (Aa ?_))))); refine Bn rfl (by first | rfl | decide | (simp; done) | omega) ?_; refine Af (Ab (Ai ?_)); refine C0 fun hlr => ?_
 have hpl := a.pl_hits av (f) (t) k
 refine Ge 14 rfl rfl ?_; refine Da 0 rfl (Ae rfl) ?_; refine Dt 1 [13] rfl (A7 rfl) ?_; refine Da 2 rfl (Ac rfl) ?_; refine Da 3 rfl (Ae rfl) ?_; refine Dt 4 [13] rfl (A7 rfl) ?_; refine Da 5 rfl (Ac rfl) ?_
 first | refine Da 6 rfl (A4 rfl rfl _ rfl) ?_ | refine Da 6 rfl (A5 rfl rfl _ rfl) ?_
 refine Dt 7 [13] rfl (Bz rfl) ?_; refine Da 8 rfl (Ac rfl) ?_; refine Da 9 rfl (Ac rfl) ?_; refine Da 10 rfl (Ac rfl) ?_; refine Dc 11 rfl rfl (ihn (f := f) (t := t) (by omega) (hf.as 1 a.tree (by omega) rfl) hok hfr hto (by simp [hft]) (by first | omega | (simp only [List.length_append, List.length_cons, List.length_nil]; omega)) hav bp _ (by omega) ha5 _) ?_; rintro _ J2 _ e2 ⟨cs2, rfl, hr_0, rfl⟩; obtain ⟨o2, k2, _, rfl, -⟩ := hr_0.open
 have hlr := hlr.trans e2
 have hf := hf.mono e2
 have hfr := hfr.mono e2
 have hto := hto.mono e2
 have hav := hav.mono e2
 have hle := hle.trans e2
 refine Hx ?_
 first | refine Da 12 rfl (A4 rfl rfl _ rfl) ?_ | refine Da 12 rfl (A5 rfl rfl _ rfl) ?_
 refine Dx 13 rfl rfl rfl rfl ?_; refine Au (by kernel_rfl) ?_; refine Ak (Ah rfl (Om rfl ?_)); refine Or rfl rfl rfl ?_; refine Oa rfl (Aa ?_); refine Bm ?_; refine Ab (Se rfl (Om rfl (Om rfl (Oc rfl rfl rfl (Aa ?_))))); refine Co rfl (by first | rfl | decide | (simp; done) | omega) ?_; refine Bq rfl ?_; refine Se rfl ?_; refine Aw rfl .free rfl ?_; refine Bp rfl rfl rfl rfl .free ?_; refine Aa ?_; refine C4 (fun w h => h.f2) (Bx ?_); intro hz
 have hf := hf.mono hz
 refine Ag (.c rfl .nil) ?_
 exact ⟨_, _, hle.trans hz, fun w h => Mem.sub (L' := rn bp ov av cv _ :: L) (by repeat (first | exact List.Sublist.refl _ | apply List.Sublist.cons_cons | apply List.Sublist.cons)) h, _, rfl, .mk' rfl (.cons (hf.as 0 (.node o.txt []) (by omega) rfl) (.cons (hr_0.mono hz) (.nil))) (fun y hy => by cases hy; exact Ax (xs := [_, _, _, _])) (by simp) hcc (by simp [Ap]) (by simp [Ap]), rfl⟩
set_option maxHeartbeats 2000000 in
theorem Vs {e : Ex} {I : Heap} {cs : List Value} (hb : e.bare = true) (h : Rep I e.tree cs) (hok : e.ok = true) {f t : List Am} {of ot : Option Addr} {cf ct : Nat} (hfr : Strs I of f cf) (hto : Strs I ot t ct) (hft : f.length = t.length)
  {ov : Option Addr} {av : List Am} {cv : Nat} (hav : Strs I ov av cv) (bp k : Nat) (L : Bc) :
  Fun Tryz.prog 102 [.agg cs.toArray, .slice of f.length cf, .slice ot t.length ct, .pointer (some ⟨bp, 0, none⟩)] I (rn bp ov av cv k :: L) (PR bp ov av cv (e.pl av f t k) L) := by
 obtain ⟨oa, c, oaf, cf1, rfl, hf, hcl, hcs⟩ := h.cells
 have hle : HLe I I := .refl _
 have ha := hf.alen
 have hh0 := Bf 120 av k
 refine Aj (by simp) ?_; refine Se rfl ?_; refine Cc rfl rfl .free rfl ?_; intro b4; refine At .free rfl ?_; intro b8; refine Aa (Ab (Se rfl (Oh rfl ?_))); refine Bg rfl .free rfl ?_; refine Od rfl rfl rfl (Aa ?_)
 first | refine Ji rfl (by exact fun h2 => by have h3 := (Ex.atom_iff hok).1 h2; rw [hb] at h3; cases h3) ?_ | refine Jh rfl (by exact fun h2 => by have h3 := (Ex.atom_iff hok).1 h2; rw [hb] at h3; cases h3) ?_ | refine Cm (by simp [Bu, Bo, *]) ?_
 refine Ab (Se rfl (Oh rfl ?_)); refine Bg rfl .free rfl ?_; refine Ca rfl (Kn e.tree.atom ha _ _) ?_; rintro _ _ _ _ ⟨rfl, rfl, rfl⟩; refine Aa ?_; refine Av rfl ?_ ?_
 ·intro c1
  try simp only [nb] at c1
  refine Se rfl (Om rfl (Om rfl (Oh rfl ?_))); refine Bg rfl .free rfl ?_; refine Ca rfl (Yi hfr hto hft e.tree.atom _) ?_; rintro _ _ _ _ ⟨rfl, rfl, rfl⟩; refine Ca rfl (Gl (Sm f t e.tree.atom) _ _) ?_; rintro _ _ _ _ ⟨rfl, rfl, rfl⟩; refine Bp rfl rfl rfl rfl .free ?_; refine Aa ?_; refine Ag (.c rfl .nil) ?_
  cases e with
  | name s =>
   refine ⟨I, _, .refl _, fun w h => Mem.sub (L' := rn bp ov av cv k :: L) (by repeat (first | exact List.Sublist.refl _ | apply List.Sublist.cons_cons | apply List.Sublist.cons)) h, _, rfl, .ofAtom ?_, rfl⟩
   show (match Br f s with | some i => t.getD i [] | none => s).length ≤ Ap
   cases hi : Br f s with
   | none => exact ha
   | some i =>
    have hil := (Jf (show E8 f s f.length = some i from hi)).1
    have hit : i < t.length := by omega
    show (t.getD i []).length ≤ Ap
    rw [show t.getD i [] = t[i] by simp [hit]]; exact hto.each _ (List.getElem_mem _)
  | num s =>
   have h1 := Fe (show Bs s = true from c1)
   rw [show Cr s = true from hok] at h1; cases h1
  | _ => cases hb
 intro c1
 try simp only [nb] at c1
 refine Af (Se rfl ?_); refine Aw rfl .free rfl ?_; refine Bp rfl rfl rfl rfl .free ?_; refine Aa ?_; refine Ag (.c rfl .nil) ?_
 cases e with
 | num s => exact ⟨I, _, .refl _, fun w h => Mem.sub (L' := rn bp ov av cv k :: L) (by repeat (first | exact List.Sublist.refl _ | apply List.Sublist.cons_cons | apply List.Sublist.cons)) h, _, rfl, hf.rep, rfl⟩
 | name s => rw [show Bs (Ex.name s).tree.atom = true from hok] at c1; cases c1
 | _ => cases hb
theorem Ql : ∀ n : Nat, Mv n := by
 intro n
 induction n with
 | zero => intro I e cs h; omega
 | succ n ihn =>
  intro I e cs hlt h hok f t of ot cf ct hfr hto hft hfl ov av cv hav bp k hk ha5 L
  cases hb : e.bare with
  | true => exact Vs hb h hok hfr hto hft hav bp k L
  | false =>
   cases e with
   | num s => cases hb
   | name s => cases hb
   | bin o a b => exact Xk ihn hlt h hok hfr hto hft hfl hav bp k hk ha5 L
   | ite a b d => exact Xl ihn hlt h hok hfr hto hft hfl hav bp k hk ha5 L
   | lt z a b => exact Zm ihn hlt h hok hfr hto hft hfl hav bp k hk ha5 L
   | fn h1 z s u b => exact Zl ihn hlt h hok hfr hto hft hfl hav bp k hk ha5 L
   | un o a => exact Zn ihn hlt h hok hfr hto hft hfl hav bp k hk ha5 L
theorem Wy (n : Nat) {I : Heap} {e : Ex} {cs : List Value} (h1 : SizeOf.sizeOf e < n) (h2 : Rep I e.tree cs) (h3 : e.ok = true) {f t : List Am} {of ot : Option Addr} {cf ct : Nat} (h4 : Strs I of f cf) (h5 : Strs I ot t ct) (h6 : f.length = t.length) (h7 : f.length + 2 * e.size ≤ 100000)
  {oa : Option Addr} {av : List Am} {c : Nat} (h8 : Strs I oa av c) (b k : Nat) (h9 : k + e.nb + av.length ≤ 90 + Eb 120 av k) (h10 : av.length ≤ 500) (L : Bc) :
  Fun Tryz.prog 102 [.agg cs.toArray, .slice of f.length cf, .slice ot t.length ct, .pointer (some ⟨b, 0, none⟩)] I (rn b oa av c k :: L) (PR b oa av c (e.pl av f t k) L) :=
 Ql n h1 h2 h3 h4 h5 h6 h7 h8 b k h9 h10 L
def Aco (s nm by' : Am) : Option Am := match Ea s, I8 by' with
 | some e, some v => if Bs nm = true ∧ (e.put nm v).fine = true then some (e.put nm v).tree.text else none
 | _, _ => none
theorem Jq {P : Program} {f : FuncId} {n : Nat} {I₀ : Heap} {Q : C3} {k : List Item} {E : Gj} {I : Heap} {L : Bc} {ops : Array Oper} {ol : List Oper} {e : TypeId} {l : List Am} {B : H3} {m c : Nat}
  (hB : Cy 1 m c (l.map sv) B) (hm : m = l.length) (hlen : l.length ≤ Ap) (hs : ∀ s ∈ l, s.length ≤ Ap)
  (h : ∀ I' oa c', HLe I I' → Bd m c B = .slice oa l.length c' → Strs I' oa l c' → A6 P f n I₀ Q ops ol k E I' L) : A6 P f n I₀ Q ops ol k E I (A2 e (l.map sv) B ++ L) := by
 cases B with
 | none =>
  obtain ⟨h1, h2, h3⟩ := hB; obtain rfl : l = [] := by simpa using h1
  exact h I .none 0 (.refl _) rfl ⟨by simp, by simp, by simp, hlen, hs⟩
 | some p =>
  obtain ⟨b, sp⟩ := p; refine Fo fun hle => h _ (some ⟨b, 0, .none⟩) c hle (by rw [← hm]; rfl) ⟨fun y hy => ?_, by simp, by have := hB.2.1; omega, hlen, hs⟩
  cases hy; exact Ax
theorem T5 {I : Heap} {e : Ex} {cs : List Value} (h : Rep I e.tree cs) (hfine : e.fine = true) (L : Bc) : Fun Tryz.prog 75 [.agg cs.toArray] I L (fun v I' L' => ∃ ds, v = .tuple #[.agg (List.toArray ds), .bool true] ∧ Rep I' e.plain.tree ds ∧ L = L') := by
 obtain ⟨oa, c, oaf, cf, rfl, hf⟩ := h.at'
 have hf2 := hfine
 simp only [Ex.fine, Bool.and_eq_true, decide_eq_true_eq, Tree.fits] at hf2
 have hroom := Lt hf2.1.2
 have hph := e.pl_hits e.free [] [] 0
 have hh0 : Eb 120 e.free 0 = 0 := rfl
 have hh1 := Bf 120 e.free (e.pl e.free [] [] 0).2
 refine Aj (by simp) ?_; refine Se rfl ?_; refine Cc rfl rfl .free rfl ?_; intro b1; refine At .free rfl ?_; intro b2; refine Oa rfl (Aa (Se rfl ?_)); refine Aw rfl .free rfl ?_; refine C5 .free rfl ?_; intro b7; refine C5 .free rfl ?_; intro b8; refine Cz (L' := A2 9 (([] : List Am).map sv) (some (b8, [])) ++ _) (fun w h => h) ?_; refine Ca rfl (Yh _ (Nat.lt_succ_self _) hf.rep hf2.1.1 (Gv _ _) (by unfold Ap; simp; omega) [] (some (b8, [])) 0 (by simp; omega) ⟨rfl, Nat.le_refl _, rfl⟩ _) ?_; rintro _ J1 _ e1 ⟨B, cB, rfl, hB, rfl⟩
 have hll := Gp [] (e.occ [])
 have hol := e.occ_len []
 simp only [List.length_nil, Nat.zero_add] at hll
 have hnm : ∀ z ∈ Cx [] (e.occ []), Bs z = true := fun z hz => Ex.occ_name hf2.1.1 z (by simpa [Hb] using hz)
 refine Jq hB rfl (by unfold Ap; omega) (Pt hnm) ?_; intro J2 ov cv ez hbv hav; refine F1 (t := 9) rfl hbv ?_
 have hav : Strs J2 ov e.free cv := hav
 have hf := (hf.mono e1).mono ez
 have hle := e1.trans ez
 refine Cf rfl rfl rfl .free rfl ?_; refine Cc rfl rfl .free rfl ?_; intro b11; refine Oa rfl (Aa (Se rfl ?_)); refine Aw rfl .free rfl ?_; refine C5 .free rfl ?_; intro b13; refine C5 .free rfl ?_; intro b14; refine Om rfl ?_; refine Cz (L' := rn b11 ov e.free cv 0 :: _) (fun w h => h.f2) ?_; refine Ca rfl (Wy _ (Nat.lt_succ_self _) hf.rep hf2.1.1 (Gv _ _) (Gv _ _) rfl (by simp; omega) hav b11 0 (by omega) (by omega) _) ?_; rintro _ J3 _ e3 ⟨ds, rfl, hr, rfl⟩
 have hr : Rep J3 e.plain.tree ds := hr
 obtain ⟨od, cd, _, rfl, -⟩ := hr.open
 have hle := hle.trans e3
 unfold rn
 refine At .free rfl ?_; intro b5; refine Bp rfl rfl rfl rfl .free ?_; refine Aa (Ab ?_); refine Do 8 rfl rfl ?_; refine Dt 0 [6] rfl (Cd rfl) ?_; refine Da 1 rfl (Ac rfl) ?_; refine Da 2 rfl (Ch rfl) ?_
 first | refine Da 3 rfl (Ae rfl) ?_ | refine Da 3 rfl (Ba rfl) ?_
 refine E7 4 6 (by kernel_rfl) ?_ ?_
 ·skip
  refine Nx 4 rfl rfl (Nn rfl) .free rfl (.inr Al) ?_; refine Da 5 rfl (Iu rfl rfl rfl) ?_; refine Dx 6 rfl rfl rfl rfl ?_; refine Db 7 rfl (Bh rfl) ?_; refine Au (by kernel_rfl) ?_; refine Ag (.c rfl (.tmp rfl .nil)) ?_; refine ⟨J3, L, hle, Bt, _, ?_, hr, rfl⟩
  simp [By]; omega
 ·skip
  refine Pp 6 rfl rfl rfl rfl rfl rfl .free (.inl (by kernel_rfl)) ?_; refine Pc 4 rfl (by kernel_rfl) rfl (Nn rfl) .free rfl (.inl (by kernel_rfl)) ?_; refine Db 5 rfl (Iu rfl rfl rfl) ?_; refine Db 7 rfl (Bh rfl) ?_; refine Au (by kernel_rfl) ?_; refine Ag (.c rfl (.tmp rfl .nil)) ?_; refine ⟨J3, L, hle, Bt, _, ?_, hr, rfl⟩
  simp [By]; omega
structure MK where
 e : Ex
 ns : List (Am × Ex)
 n : Nat
 g : Nat
def MK.pt (tk : List Am) (p : MK) : MK := if p.e.bare = true then p else ⟨.name (nm 121 (fr 121 tk p.n)), p.ns ++ [(nm 121 (fr 121 tk p.n), p.e)], fr 121 tk p.n + 1, p.g + 1⟩
def MK.all (p : MK) : Ex := G8 p.ns p.e
def Ex.mk (tk : List Am) : Ex → Nat → MK
 | .num s, n => ⟨.num s, [], n, 0⟩
 | .name s, n => ⟨.name s, [], n, 0⟩
 | .lt x a b, n => let p := a.mk tk n; let q := b.mk tk p.n; ⟨q.e, p.ns ++ (x, p.e) :: q.ns, q.n, p.g + q.g⟩
 | .fn f x s t b, n => let p := b.mk tk n; ⟨.fn f x s t p.all, [], p.n, p.g⟩
 | .ite a b c, n => let p := (a.mk tk n).pt tk; let q := b.mk tk p.n; let r := c.mk tk q.n; ⟨.ite p.e q.all r.all, p.ns, r.n, p.g + q.g + r.g⟩
 | .bin o a b, n => let p := (a.mk tk n).pt tk; let q := (b.mk tk p.n).pt tk; ⟨.bin o p.e q.e, p.ns ++ q.ns, q.n, p.g + q.g⟩
 | .un o a, n => let p := (a.mk tk n).pt tk; ⟨.un o p.e, p.ns, p.n, p.g⟩
def S9 : List (Am × Ex) → Nat
 | [] => 0
 | p :: ps => 2 + p.2.size + S9 ps
theorem O0 : ∀ (a b : List (Am × Ex)), S9 (a ++ b) = S9 a + S9 b
 | [], b => by simp [S9]
 | p :: a, b => by simp only [List.cons_append, S9, O0 a b]; omega
theorem Ps : ∀ (l : List (Am × Ex)) (e : Ex), (G8 l e).size = S9 l + e.size
 | [], e => by simp [G8, S9]
 | p :: l, e => by simp only [G8, Ex.size, Ps l e, S9]; omega
theorem MK.all_size (p : MK) : p.all.size = S9 p.ns + p.e.size := Ps _ _
theorem MK.pt_size (tk : List Am) (p : MK) {s : Nat} (h : S9 p.ns + p.e.size = s + 3 * p.g) : S9 (p.pt tk).ns + (p.pt tk).e.size = s + 3 * (p.pt tk).g := by
 unfold MK.pt
 split
 ·exact h
 ·simp only [O0, S9, Ex.size]; omega
theorem Ex.mk_size (tk : List Am) : ∀ (e : Ex) (n : Nat), S9 (e.mk tk n).ns + (e.mk tk n).e.size = e.size + 3 * (e.mk tk n).g
 | .num s, n => by simp [Ex.mk, S9, Ex.size]
 | .name s, n => by simp [Ex.mk, S9, Ex.size]
 | .lt x a b, n => by
  have h1 := a.mk_size tk n; have h2 := b.mk_size tk (a.mk tk n).n
  simp only [Ex.mk, O0, S9, Ex.size]; omega
 | .fn f x s t b, n => by
  have h1 := b.mk_size tk n
  simp only [Ex.mk, S9, Ex.size, MK.all_size]; omega
 | .ite a b c, n => by
  have h1 := MK.pt_size tk _ (a.mk_size tk n)
  have h2 := b.mk_size tk ((a.mk tk n).pt tk).n
  have h3 := c.mk_size tk (b.mk tk ((a.mk tk n).pt tk).n).n
  simp only [Ex.mk, Ex.size, MK.all_size]; omega
 | .bin o a b, n => by
  have h1 := MK.pt_size tk _ (a.mk_size tk n)
  have h2 := MK.pt_size tk _ (b.mk_size tk ((a.mk tk n).pt tk).n)
  simp only [Ex.mk, O0, Ex.size]; omega
 | .un o a, n => by
  have h1 := MK.pt_size tk _ (a.mk_size tk n)
  simp only [Ex.mk, Ex.size]; omega
theorem MK.pt_hits (tk : List Am) (p : MK) {n : Nat} (h : n ≤ p.n ∧ p.n + Eb 121 tk n = n + p.g + Eb 121 tk p.n) : n ≤ (p.pt tk).n ∧ (p.pt tk).n + Eb 121 tk n = n + (p.pt tk).g + Eb 121 tk (p.pt tk).n := by
 unfold MK.pt
 split
 ·exact h
 ·have h1 := Dz 121 tk p.n
  have h2 := (Dq 121 tk p.n).2.1
  simp only; omega
theorem Ex.mk_hits (tk : List Am) : ∀ (e : Ex) (n : Nat), n ≤ (e.mk tk n).n ∧ (e.mk tk n).n + Eb 121 tk n = n + (e.mk tk n).g + Eb 121 tk (e.mk tk n).n
 | .num s, n => ⟨Nat.le_refl _, by simp [Ex.mk]⟩
 | .name s, n => ⟨Nat.le_refl _, by simp [Ex.mk]⟩
 | .lt x a b, n => by
  have h1 := a.mk_hits tk n; have h2 := b.mk_hits tk (a.mk tk n).n
  simp only [Ex.mk]; omega
 | .fn f x s t b, n => by
  have h1 := b.mk_hits tk n
  simp only [Ex.mk]; omega
 | .ite a b c, n => by
  have h1 := MK.pt_hits tk _ (a.mk_hits tk n)
  have h2 := b.mk_hits tk ((a.mk tk n).pt tk).n
  have h3 := c.mk_hits tk (b.mk tk ((a.mk tk n).pt tk).n).n
  simp only [Ex.mk]; omega
 | .bin o a b, n => by
  have h1 := MK.pt_hits tk _ (a.mk_hits tk n)
  have h2 := MK.pt_hits tk _ (b.mk_hits tk ((a.mk tk n).pt tk).n)
  simp only [Ex.mk]; omega
 | .un o a, n => by
  have h1 := MK.pt_hits tk _ (a.mk_hits tk n)
  simp only [Ex.mk]; omega
theorem MK.pt_g (tk : List Am) (p : MK) {s : Nat} (h : p.g + 1 ≤ s) (hb : p.e.bare = false → p.g + 2 ≤ s) : (p.pt tk).g + 1 ≤ s := by
 unfold MK.pt
 split
 ·exact h
 ·rename_i hx; simp only; have := hb (by simpa using hx); omega
theorem Ex.mk_g (tk : List Am) : ∀ (e : Ex) (n : Nat), (e.mk tk n).g + 1 ≤ e.size ∧ ((e.mk tk n).e.bare = false → (e.mk tk n).g + 2 ≤ e.size)
 | .num s, n => ⟨Nat.le_refl _, fun h => by cases h⟩
 | .name s, n => ⟨Nat.le_refl _, fun h => by cases h⟩
 | .lt x a b, n => by
  have h1 := a.mk_g tk n; have h2 := b.mk_g tk (a.mk tk n).n
  simp only [Ex.mk, Ex.size]; omega
 | .fn f x s t b, n => by
  have h1 := b.mk_g tk n; have := s.size_pos
  simp only [Ex.mk, Ex.size]; omega
 | .ite a b c, n => by
  have h0 := a.mk_g tk n
  have h1 := MK.pt_g tk _ h0.1 h0.2
  have h2 := b.mk_g tk ((a.mk tk n).pt tk).n
  have h3 := c.mk_g tk (b.mk tk ((a.mk tk n).pt tk).n).n
  simp only [Ex.mk, Ex.size]; omega
 | .bin o a b, n => by
  have h0 := a.mk_g tk n
  have h1 := MK.pt_g tk _ h0.1 h0.2
  have h00 := b.mk_g tk ((a.mk tk n).pt tk).n
  have h2 := MK.pt_g tk _ h00.1 h00.2
  simp only [Ex.mk, Ex.size]; omega
 | .un o a, n => by
  have h0 := a.mk_g tk n
  have h1 := MK.pt_g tk _ h0.1 h0.2
  simp only [Ex.mk, Ex.size]; omega
theorem MK.pt_len (tk : List Am) (p : MK) {s : Nat} (h : p.ns.length + 1 ≤ s) : (p.pt tk).ns.length ≤ s := by
 unfold MK.pt
 split
 ·omega
 ·simp only [List.length_append, List.length_cons, List.length_nil]; omega
theorem Ex.mk_len (tk : List Am) : ∀ (e : Ex) (n : Nat), (e.mk tk n).ns.length + 1 ≤ e.size
 | .num s, n => Nat.le_refl _
 | .name s, n => Nat.le_refl _
 | .lt x a b, n => by
  have h1 := a.mk_len tk n; have h2 := b.mk_len tk (a.mk tk n).n
  simp only [Ex.mk, Ex.size, List.length_append, List.length_cons]; omega
 | .fn f x s t b, n => by simp only [Ex.mk, Ex.size, List.length_nil]; omega
 | .ite a b c, n => by
  have h1 := MK.pt_len tk _ (a.mk_len tk n)
  simp only [Ex.mk, Ex.size]; omega
 | .bin o a b, n => by
  have h1 := MK.pt_len tk _ (a.mk_len tk n)
  have h2 := MK.pt_len tk _ (b.mk_len tk ((a.mk tk n).pt tk).n)
  simp only [Ex.mk, Ex.size, List.length_append]; omega
 | .un o a, n => by
  have h1 := MK.pt_len tk _ (a.mk_len tk n)
  simp only [Ex.mk, Ex.size]; omega
def okNs (l : List (Am × Ex)) : Prop := ∀ p ∈ l, Bs p.1 = true ∧ p.2.ok = true
theorem okNs.add {l m : List (Am × Ex)} (h : okNs l) (h' : okNs m) : okNs (l ++ m) := by
 intro p hp
 rcases List.mem_append.1 hp with hp | hp
 ·exact h p hp
 ·exact h' p hp
theorem Kr : ∀ {l : List (Am × Ex)} {e : Ex}, okNs l → e.ok = true → (G8 l e).ok = true
 | [], e, _, h => h
 | p :: l, e, hl, h => by
  have h1 := hl p (.head _)
  simp only [G8, Ex.ok, Bool.and_eq_true]
  exact ⟨⟨h1.1, h1.2⟩, Kr (fun q hq => hl q (.tail _ hq)) h⟩
theorem MK.pt_ok {tk : List Am} {p : MK} (h : okNs p.ns ∧ p.e.ok = true) (hn : p.n + tk.length < 1000 + Eb 121 tk p.n) : okNs (p.pt tk).ns ∧ (p.pt tk).e.ok = true := by
 unfold MK.pt
 split
 ·exact h
 ·have h1 := (Dq 121 tk p.n).2.2
  have h2 := Bf 121 tk (fr 121 tk p.n)
  have hz : Bs (nm 121 (fr 121 tk p.n)) = true := Jo (by decide) (by omega)
  exact ⟨h.1.add fun q hq => by rw [List.mem_singleton.1 hq]; exact ⟨hz, h.2⟩, hz⟩
theorem MK.n_le {tk : List Am} {p : MK} {n : Nat} (h : n ≤ p.n ∧ p.n + Eb 121 tk n = n + p.g + Eb 121 tk p.n) : p.n ≤ n + p.g + tk.length := by
 have := Bf 121 tk p.n; omega
theorem Ex.mk_ok {tk : List Am} : ∀ {e : Ex} {n : Nat}, e.ok = true → n + e.size + tk.length ≤ 900 + Eb 121 tk n → okNs (e.mk tk n).ns ∧ (e.mk tk n).e.ok = true
 | .num s, n, h, _ => ⟨fun p hp => (by cases hp), h⟩
 | .name s, n, h, _ => ⟨fun p hp => (by cases hp), h⟩
 | .lt x a b, n, h, hn => by
  simp only [Ex.ok, Bool.and_eq_true] at h
  simp only [Ex.size] at hn
  have g1 := a.mk_g tk n; have m1 := a.mk_hits tk n
  have h1 := Ex.mk_ok (tk := tk) (n := n) h.1.2 (by omega)
  have h2 := Ex.mk_ok (tk := tk) (n := (a.mk tk n).n) h.2 (by omega)
  simp only [Ex.mk]
  refine ⟨h1.1.add fun p hp => ?_, h2.2⟩
  rcases List.mem_cons.1 hp with rfl | hp
  ·exact ⟨h.1.1, h1.2⟩
  ·exact h2.1 p hp
 | .fn f x s t b, n, h, hn => by
  simp only [Ex.ok, Bool.and_eq_true, decide_eq_true_eq] at h
  simp only [Ex.size] at hn
  have h1 := Ex.mk_ok (tk := tk) (n := n) h.2 (by omega)
  simp only [Ex.mk, Ex.ok, Bool.and_eq_true, decide_eq_true_eq]
  exact ⟨fun p hp => (by cases hp), h.1, Kr h1.1 h1.2⟩
 | .ite a b c, n, h, hn => by
  simp only [Ex.ok, Bool.and_eq_true] at h
  simp only [Ex.size] at hn
  have g1 := a.mk_g tk n; have m1 := a.mk_hits tk n; have k0 := Bf 121 tk (a.mk tk n).n; have k00 := Bf 121 tk n
  have gp := MK.pt_g tk _ g1.1 g1.2; have mp := MK.pt_hits tk _ m1
  have h1 := MK.pt_ok (tk := tk) (Ex.mk_ok (tk := tk) (n := n) h.1.1 (by omega)) (by omega)
  have g2 := b.mk_g tk ((a.mk tk n).pt tk).n; have m2 := b.mk_hits tk ((a.mk tk n).pt tk).n
  have h2 := Ex.mk_ok (tk := tk) (n := ((a.mk tk n).pt tk).n) h.1.2 (by omega)
  have h3 := Ex.mk_ok (tk := tk) (n := (b.mk tk ((a.mk tk n).pt tk).n).n) h.2 (by omega)
  simp only [Ex.mk, Ex.ok, Bool.and_eq_true]
  exact ⟨h1.1, ⟨h1.2, Kr h2.1 h2.2⟩, Kr h3.1 h3.2⟩
 | .bin o a b, n, h, hn => by
  simp only [Ex.ok, Bool.and_eq_true] at h
  simp only [Ex.size] at hn
  have g1 := a.mk_g tk n; have m1 := a.mk_hits tk n; have k0 := Bf 121 tk (a.mk tk n).n; have k00 := Bf 121 tk n
  have gp := MK.pt_g tk _ g1.1 g1.2; have mp := MK.pt_hits tk _ m1
  have h1 := MK.pt_ok (tk := tk) (Ex.mk_ok (tk := tk) (n := n) h.1 (by omega)) (by omega)
  have g2 := b.mk_g tk ((a.mk tk n).pt tk).n; have m2 := b.mk_hits tk ((a.mk tk n).pt tk).n; have k2 := Bf 121 tk (b.mk tk ((a.mk tk n).pt tk).n).n
  have h2 := MK.pt_ok (tk := tk) (Ex.mk_ok (tk := tk) (n := ((a.mk tk n).pt tk).n) h.2 (by omega)) (by omega)
  simp only [Ex.mk, Ex.ok, Bool.and_eq_true]
  exact ⟨h1.1.add h2.1, h1.2, h2.2⟩
 | .un o a, n, h, hn => by
  have h : a.ok = true := h
  simp only [Ex.size] at hn
  have g1 := a.mk_g tk n; have m1 := a.mk_hits tk n; have k0 := Bf 121 tk (a.mk tk n).n; have k00 := Bf 121 tk n
  have h1 := MK.pt_ok (tk := tk) (Ex.mk_ok (tk := tk) (n := n) h (by omega)) (by omega)
  exact ⟨h1.1, h1.2⟩
theorem T7 {c : UInt8} {av av' : List Am} (h : ∀ j, nm c j ∈ av → nm c j ∈ av') : ∀ n, Eb c av n ≤ Eb c av' n
 | 0 => Nat.le_refl _
 | n + 1 => by
  rw [Hd, Hd]
  have := T7 h n
  by_cases h1 : nm c n ∈ av
  ·rw [if_pos h1, if_pos (h n h1)]; omega
  ·rw [if_neg h1]; omega
def Ex.lv : Ex → List Am
 | .num _ => []
 | .name s => [s]
 | .bin _ a b => a.lv ++ b.lv
 | .ite a b c => a.lv ++ b.lv ++ c.lv
 | .lt _ a b => a.lv ++ b.lv
 | .fn _ _ _ _ b => b.lv
 | .un _ a => a.lv
theorem Ex.lv_size : ∀ e : Ex, 3 * e.lv.length ≤ 2 * e.size + 1
 | .num _ => by simp [Ex.lv]
 | .name _ => by simp [Ex.lv, Ex.size]
 | .bin _ a b => by have := a.lv_size; have := b.lv_size; simp only [Ex.lv, List.length_append, Ex.size]; omega
 | .ite a b c => by have := a.lv_size; have := b.lv_size; have := c.lv_size; simp only [Ex.lv, List.length_append, Ex.size]; omega
 | .lt _ a b => by have := a.lv_size; have := b.lv_size; simp only [Ex.lv, List.length_append, Ex.size]; omega
 | .fn _ _ _ _ b => by have := b.lv_size; simp only [Ex.lv, Ex.size]; omega
 | .un _ a => by have := a.lv_size; simp only [Ex.lv, Ex.size]; omega
def Ex.bx : Ex → Bool
 | .num _ => true
 | .name _ => true
 | .bin _ a b => a.bx && b.bx
 | .ite a b c => a.bx && b.bx && c.bx
 | .lt x a b => decide (x.head? ≠ some 121) && a.bx && b.bx
 | .fn f x _ _ b => decide (f.head? ≠ some 121) && decide (x.head? ≠ some 121) && b.bx
 | .un _ a => a.bx
theorem Ex.pl_bx (av : List Am) : ∀ (e : Ex) (f t : List Am) (n : Nat), (e.pl av f t n).1.bx = true
 | .num s, f, t, n => rfl
 | .name s, f, t, n => rfl
 | .bin o a b, f, t, n => by simp only [Ex.pl, Ex.bx, a.pl_bx, b.pl_bx, Bool.and_self]
 | .ite a b c, f, t, n => by simp only [Ex.pl, Ex.bx, a.pl_bx, b.pl_bx, c.pl_bx, Bool.and_self]
 | .lt x a b, f, t, n => by simp only [Ex.pl, Ex.bx, a.pl_bx, b.pl_bx, nm, List.head?_cons, Bool.and_true]; rfl
 | .fn g x s u b, f, t, n => by simp only [Ex.pl, Ex.bx, b.pl_bx, nm, List.head?_cons, Bool.and_true]; rfl
 | .un o a, f, t, n => by simp only [Ex.pl, Ex.bx, a.pl_bx]
theorem Ty.atom_y : ∀ {t : Ty} {s : Am}, s ∈ t.tree.atomL → s.head? ≠ some 121
 | .i, s, h => by simp only [Ty.tree, Tree.atomL, List.mem_singleton] at h; subst h; decide
 | .fn a b, s, h => by
  simp only [Ty.tree, Tree.atomL, Du, List.mem_append, List.mem_singleton, List.append_nil] at h
  rcases h with h | h | h
  ·subst h; decide
  ·exact Ty.atom_y h
  ·exact Ty.atom_y h
 | .pr a b, s, h => by
  simp only [Ty.tree, Tree.atomL, Du, List.mem_append, List.mem_singleton, List.append_nil] at h
  rcases h with h | h | h
  ·subst h; decide
  ·exact Ty.atom_y h
  ·exact Ty.atom_y h
theorem B5.head_y (o : B5) : o.txt.head? ≠ some 121 := by cases o <;> decide
theorem U2.head_y (o : U2) : o.txt.head? ≠ some 121 := by cases o <;> decide
theorem Y4 {s : Am} (h : Cr s = true) : s.head? ≠ some 121 := by
 cases s with
 | nil => simp
 | cons c r =>
  intro e
  simp only [List.head?_cons, Option.some.injEq] at e
  subst e
  have e : Ec (121 :: r) = 121 :: r := by simp [Ec]
  simp only [Cr, e] at h
  simp [E2] at h
theorem Ex.atom_lv : ∀ {e : Ex} {s : Am}, e.ok = true → e.bx = true → s ∈ e.tree.atomL → s.head? = some 121 → s ∈ e.lv
 | .num a, s, h, _, hs, hy => by
  simp only [Ex.tree, Tree.atomL, List.mem_singleton] at hs; subst hs
  exact absurd hy (Y4 h)
 | .name a, s, h, _, hs, hy => by simpa only [Ex.tree, Tree.atomL, Ex.lv] using hs
 | .bin o a b, s, h, hb, hs, hy => by
  simp only [Ex.ok, Ex.bx, Bool.and_eq_true] at h hb
  simp only [Ex.tree, Tree.atomL, Du, List.mem_append, List.mem_singleton, List.append_nil] at hs
  simp only [Ex.lv, List.mem_append]
  rcases hs with hs | hs | hs
  ·subst hs; exact absurd hy o.head_y
  ·exact .inl (Ex.atom_lv h.1 hb.1 hs hy)
  ·exact .inr (Ex.atom_lv h.2 hb.2 hs hy)
 | .ite a b c, s, h, hb, hs, hy => by
  simp only [Ex.ok, Ex.bx, Bool.and_eq_true] at h hb
  simp only [Ex.tree, Tree.atomL, Du, List.mem_append, List.mem_singleton, List.append_nil] at hs
  simp only [Ex.lv, List.mem_append]
  rcases hs with hs | hs | hs | hs
  ·subst hs; exact absurd hy (by decide)
  ·exact .inl (.inl (Ex.atom_lv h.1.1 hb.1.1 hs hy))
  ·exact .inl (.inr (Ex.atom_lv h.1.2 hb.1.2 hs hy))
  ·exact .inr (Ex.atom_lv h.2 hb.2 hs hy)
 | .lt x a b, s, h, hb, hs, hy => by
  simp only [Ex.ok, Ex.bx, Bool.and_eq_true, decide_eq_true_eq] at h hb
  simp only [Ex.tree, Tree.atomL, Du, List.mem_append, List.mem_singleton, List.append_nil] at hs
  simp only [Ex.lv, List.mem_append]
  rcases hs with hs | hs | hs | hs
  ·subst hs; exact absurd hy (by decide)
  ·subst hs; exact absurd hy hb.1.1
  ·exact .inl (Ex.atom_lv h.1.2 hb.1.2 hs hy)
  ·exact .inr (Ex.atom_lv h.2 hb.2 hs hy)
 | .fn f x t u b, s, h, hb, hs, hy => by
  simp only [Ex.ok, Ex.bx, Bool.and_eq_true, decide_eq_true_eq] at h hb
  simp only [Ex.tree, Tree.atomL, Du, List.mem_append, List.mem_singleton, List.append_nil] at hs
  simp only [Ex.lv]
  rcases hs with hs | hs | hs | hs | hs | hs
  ·subst hs; exact absurd hy (by decide)
  ·subst hs; exact absurd hy hb.1.1
  ·subst hs; exact absurd hy hb.1.2
  ·exact absurd hy (Ty.atom_y hs)
  ·exact absurd hy (Ty.atom_y hs)
  ·exact Ex.atom_lv h.2 hb.2 hs hy
 | .un o a, s, h, hb, hs, hy => by
  simp only [Ex.tree, Tree.atomL, Du, List.mem_append, List.mem_singleton, List.append_nil] at hs
  rcases hs with hs | hs
  ·subst hs; exact absurd hy o.head_y
  ·exact Ex.atom_lv (e := a) h hb hs hy
def Ex.tk (e : Ex) : List Am := Cx [] e.plain.tree.atomL
def Ex.made (e : Ex) : MK := e.plain.mk e.tk 0
def Ex.normal (e : Ex) : Ex := e.made.all
theorem Jt (e : Ex) : e.plain.size = e.size := (e.pl_size e.free [] [] 0).1
theorem Abg (e : Ex) : e.tk.length ≤ e.size := by
 have h := Nq [] e.plain.tree.atomL
 rw [Tree.atomL_len, Ex.tree_size, Jt] at h
 simpa [Ex.tk] using h
theorem K3 {e : Ex} (h : e.fine = true) : e.made.g ≤ 119 ∧ e.made.n ≤ 240 ∧ e.tk.length ≤ 120 := by
 have hf := Fx h
 simp only [Ex.fine, Bool.and_eq_true, decide_eq_true_eq, Tree.fits] at h
 have h1 := Abg e
 have h2 := e.plain.mk_g e.tk 0
 have h3 := e.plain.mk_hits e.tk 0
 have h4 := MK.n_le h3
 rw [Jt] at h2
 unfold Ex.made
 omega
theorem K5 {e : Ex} (h : e.fine = true) : e.normal.ok = true := by
 have hf := Fx h
 have h0 := K3 h
 simp only [Ex.fine, Bool.and_eq_true, decide_eq_true_eq, Tree.fits] at hf
 have h1 := Ex.mk_ok (tk := e.tk) (n := 0) hf.1.1 (by omega)
 exact Kr h1.1 h1.2
theorem N0 (e : Ex) : e.normal.size = e.size + 3 * e.made.g := by
 unfold Ex.normal
 rw [MK.all_size]
 unfold Ex.made
 rw [Ex.mk_size, Jt]
theorem Nz {e : Ex} (h : e.fine = true) (hn : e.normal.fine = true) : e.made.g ≤ 100 ∧ e.made.n ≤ 100 := by
 have hf := Fx h
 have hs := N0 e
 simp only [Ex.fine, Bool.and_eq_true, decide_eq_true_eq, Tree.fits] at hf hn
 have h3 := e.plain.mk_hits e.tk 0
 have h4 : Eb 121 e.tk (e.plain.mk e.tk 0).n ≤ Eb 121 e.plain.lv (e.plain.mk e.tk 0).n := T7 (fun j hj => by
  have hj : nm 121 j ∈ Cx [] e.plain.tree.atomL := hj
  rw [Hb] at hj
  rcases hj with hj | hj
  ·cases hj
  ·exact Ex.atom_lv hf.1.1 (Ex.pl_bx _ _ _ _ _) hj rfl) _
 have h5 := Bf 121 e.plain.lv (e.plain.mk e.tk 0).n
 have h6 := e.plain.lv_size
 rw [Jt] at h6
 have h7 : Eb 121 e.tk 0 = 0 := rfl
 unfold Ex.made at *
 omega
theorem Aam {e : Ex} (h : e.fine = true) : ∀ s ∈ e.tk, s.length ≤ Ap := Qv (by have := Fx h; simp only [Ex.fine, Bool.and_eq_true, decide_eq_true_eq, Tree.fits] at this; have := this.2.2; omega)
theorem Lq {e : Ex} (h : e.fine = true) : e.normal.tree.len ≤ 12000 := by
 have h1 := Ex.len_size (K5 h)
 have h2 := N0 e
 have h3 := K3 h
 simp only [Ex.fine, Bool.and_eq_true, decide_eq_true_eq] at h
 omega
def Pv (s : Am) : Option Am := (Ea s).bind fun e => if e.normal.fine = true then some e.normal.tree.text else none
theorem Rb {s : Am} (h : Ea s = none) : Pv s = none := by unfold Pv; rw [h]; rfl
theorem Na {s : Am} {e : Ex} (h : Ea s = some e) : Pv s = if e.normal.fine = true then some e.normal.tree.text else none := by unfold Pv; rw [h]; rfl
theorem Mem.mv {I : Heap} {X A B L : Bc} {m : Nat × Obj} {w : World} (h : Mem I (X ++ (m :: (A ++ (B ++ L)))) w) : Mem I (m :: (A ++ (B ++ (X ++ L)))) w :=
 h.perm (List.perm_middle.trans (List.Perm.cons _ (((List.perm_append_comm_assoc X A (B ++ L)).trans (List.Perm.append_left A (List.perm_append_comm_assoc X B L))))))
theorem Mem.vm {I : Heap} {X A B L : Bc} {m : Nat × Obj} {w : World} (h : Mem I (m :: (A ++ (B ++ (X ++ L)))) w) : Mem I (X ++ (m :: (A ++ (B ++ L)))) w :=
 h.perm (List.perm_middle.trans (List.Perm.cons _ (((List.perm_append_comm_assoc X A (B ++ L)).trans (List.Perm.append_left A (List.perm_append_comm_assoc X B L)))))).symm
theorem Mem.u6 {I : Heap} {a b c d e g : Nat × Obj} {X L : Bc} {w : World} (h : Mem I (a :: b :: c :: d :: e :: g :: (X ++ L)) w) : Mem I (X ++ a :: b :: c :: d :: e :: g :: L) w := h.perm (List.perm_append_comm_assoc [a, b, c, d, e, g] X L)
theorem Mem.u7 {I : Heap} {a b c d e g k : Nat × Obj} {X L : Bc} {w : World} (h : Mem I (a :: b :: c :: d :: e :: g :: k :: (X ++ L)) w) : Mem I (X ++ a :: b :: c :: d :: e :: g :: k :: L) w := h.perm (List.perm_append_comm_assoc [a, b, c, d, e, g, k] X L)
theorem Mem.u8 {I : Heap} {a b c d e g k l : Nat × Obj} {X L : Bc} {w : World} (h : Mem I (a :: b :: c :: d :: e :: g :: k :: l :: (X ++ L)) w) : Mem I (X ++ a :: b :: c :: d :: e :: g :: k :: l :: L) w := h.perm (List.perm_append_comm_assoc [a, b, c, d, e, g, k, l] X L)
theorem L0 (b n : Nat) : (⟨b, 0, none⟩ : Addr).add n = ⟨b, n, none⟩ := by
 unfold Addr.add
 split
 ·subst_vars; rfl
 ·simp
theorem F8 {z m c : Nat} {xs : List Value} {B : H3} (h : Cy z m c xs B) : ∃ a j, Bd m c B = .slice a m j := by
 cases B with
 | none => obtain ⟨_, rfl, rfl⟩ := h; exact ⟨_, _, rfl⟩
 | some p => exact ⟨_, _, rfl⟩
theorem Uo : ∀ {xs ys zs sp : List Value}, ys.length = zs.length → Kc xs.length ys (xs ++ (zs ++ sp)) = some (xs ++ (ys ++ sp))
 | x :: xs, ys, zs, sp, h => by simp only [List.cons_append, List.length_cons, Kc, Uo (xs := xs) h]
 | [], ys, zs, sp, h => by
  show Me ys (zs ++ sp) = _
  induction ys generalizing zs with
  | nil => obtain rfl : zs = [] := List.eq_nil_of_length_eq_zero h.symm; cases sp <;> rfl
  | cons y ys ih =>
   cases zs with
   | nil => cases h
   | cons z zs => simp only [List.cons_append, Me, ih (zs := zs) (by simpa using h), List.nil_append]
theorem Gz {o : Nat} {xs ys zs sp : List Value} (ho : o = xs.length) (h : ys.length = zs.length) : Kc o ys (xs ++ (zs ++ sp)) = some (xs ++ (ys ++ sp)) := by subst ho; exact Uo h
theorem Mem.u9 {I : Heap} {a b c d e g k l m : Nat × Obj} {X L : Bc} {w : World} (h : Mem I (a :: b :: c :: d :: e :: g :: k :: l :: m :: (X ++ L)) w) : Mem I (X ++ a :: b :: c :: d :: e :: g :: k :: l :: m :: L) w := h.perm (List.perm_append_comm_assoc [a, b, c, d, e, g, k, l, m] X L)
theorem u7 {b : Nat} {o o' : Obj} {p p1 p2 p3 p4 p5 p6 : Nat × Obj} {L : Bc} : Upd b o' o (p :: p1 :: p2 :: p3 :: p4 :: p5 :: p6 :: (b, o) :: L) (p :: p1 :: p2 :: p3 :: p4 :: p5 :: p6 :: (b, o') :: L) := .there u6
theorem u8 {b : Nat} {o o' : Obj} {p p1 p2 p3 p4 p5 p6 p7 : Nat × Obj} {L : Bc} : Upd b o' o (p :: p1 :: p2 :: p3 :: p4 :: p5 :: p6 :: p7 :: (b, o) :: L) (p :: p1 :: p2 :: p3 :: p4 :: p5 :: p6 :: p7 :: (b, o') :: L) := .there u7
theorem u9 {b : Nat} {o o' : Obj} {p p1 p2 p3 p4 p5 p6 p7 p8 : Nat × Obj} {L : Bc} : Upd b o' o (p :: p1 :: p2 :: p3 :: p4 :: p5 :: p6 :: p7 :: p8 :: (b, o) :: L) (p :: p1 :: p2 :: p3 :: p4 :: p5 :: p6 :: p7 :: p8 :: (b, o') :: L) := .there u8
def Mu (b : Nat) (ot : Option Addr) (tk : List Am) (ct n : Nat) (u v : Value) : Nat × Obj := (b, .cells [.slice ot tk.length ct, .int .i64 (n : Nat), u, v].toArray 112 (0, 0))
structure MS where
 ns : List Am
 es : List Ex
 B1 : H3
 c1 : Nat
 xs : List Value
 B2 : H3
 c2 : Nat
structure MS.ok (I : Heap) (x : MS) : Prop where
 b1 : Cy 1 x.ns.length x.c1 (x.ns.map sv) x.B1
 b2 : Cy 2 x.es.length x.c2 x.xs x.B2
 rep : RepL I (x.es.map Ex.tree) x.xs
 each : ∀ s ∈ x.ns, s.length ≤ Ap
theorem MS.ok.mono {I I' : Heap} {x : MS} (hle : HLe I I') (h : x.ok I) : x.ok I' := ⟨h.b1, h.b2, h.rep.mono hle, h.each⟩
def MS.own (b : Nat) (ot : Option Addr) (tk : List Am) (ct n : Nat) (x : MS) (L : Bc) : Bc :=
 Mu b ot tk ct n (Bd x.ns.length x.c1 x.B1) (Bd x.es.length x.c2 x.B2) :: (A2 9 (x.ns.map sv) x.B1 ++ (A2 41 x.xs x.B2 ++ L))
def MP (b : Nat) (ot : Option Addr) (tk : List Am) (ct : Nat) (x : MS) (p : MK) (L : Bc) : C3 := fun v I' L' => ∃ cs y, v = .agg (List.toArray cs) ∧ Rep I' p.e.tree cs ∧ MS.ok I' y ∧ y.ns = x.ns ++ p.ns.map (·.1) ∧ y.es = x.es ++ p.ns.map (·.2) ∧ L' = y.own b ot tk ct p.n L
theorem W0 {I : Heap} {ot : Option Addr} {tk : List Am} {ct : Nat} (hav : Strs I ot tk ct) (b n : Nat) (hn : n + tk.length ≤ 1000 + Eb 121 tk n) (h3 : n ≤ 1000) {a1 a2 : Option Addr} {m1 k1 m2 k2 : Nat} (L : Bc) :
  Fun Tryz.prog 130 [.pointer (some ⟨b, 0, none⟩)] I (Mu b ot tk ct n (.slice a1 m1 k1) (.slice a2 m2 k2) :: L) (fun v I' L' => v = .string (str (nm 121 (fr 121 tk n))) ∧ I = I' ∧ L' = Mu b ot tk ct (fr 121 tk n + 1) (.slice a1 m1 k1) (.slice a2 m2 k2) :: L) := by
 obtain ⟨f1, f2, f3⟩ := Dq 121 tk n
 have f4 := Bf 121 tk (fr 121 tk n)
 refine Aj (by simp) ?_; refine Se rfl (Oa rfl (Aa (Ai ?_))); refine Ct (X := Nat) (fun m => fr 121 tk n + 1 - m) (fun m => [(0, .pointer (some ⟨b, 0, none⟩))]) (fun _ => I) (fun m => Mu b ot tk ct m (.slice a1 m1 k1) (.slice a2 m2 k2) :: L) (fun m => n ≤ m ∧ m ≤ fr 121 tk n ∧ ∀ j, n ≤ j → j < m → nm 121 j ∈ tk) n ⟨Nat.le_refl _, f2, fun j h1 h2 => absurd h2 (by omega)⟩ ⟨rfl, trivial⟩ (fun _ h => h) ?_; rintro m ⟨hm1, hm2, hm3⟩ ih
 unfold Mu
 have hdl := Ou (n := m) (by omega)
 refine Ai (Se rfl (Om rfl ?_)); refine Bl rfl .free rfl ?_
 first | refine Oh rfl ?_ | refine Oj rfl ?_
 refine Cp rfl .free rfl ?_; refine Ca rfl (Sc _ m (Nat.lt_succ_self _) (by omega) _ _) ?_; rintro _ _ _ _ ⟨rfl, rfl, rfl⟩; refine Ok rfl rfl ?_; refine Oa rfl (Aa (Se rfl (Om rfl (Om rfl ?_)))); refine Bl rfl .free rfl ?_
 first | refine Oh rfl ?_ | refine Oj rfl ?_
 refine Cp rfl .free rfl ?_; refine Or rfl rfl rfl ?_; refine Bl rfl .free rfl ?_
 first | refine Oh rfl ?_ | refine Oj rfl ?_
 refine Bp rfl rfl rfl rfl .free ?_; refine Aa (Se rfl (Om rfl ?_)); refine Bl rfl .free rfl ?_
 first | refine Oh rfl ?_ | refine Oj rfl ?_
 refine Cp rfl .free rfl ?_; refine Om rfl ?_; refine Ca rfl (Ox (hav.rd _) ct (nm 121 m)) ?_; rintro _ _ _ _ ⟨rfl, rfl, rfl⟩; refine Dy rfl .free rfl ?_; refine Aa ?_; refine Si rfl ?_ ?_
 ·intro c0; refine Se rfl (Om rfl (Oa rfl (Aa (Ag (.tmp rfl .nil) ?_))))
  have hfm : fr 121 tk n = m := Ov hm3 hm1 c0
  exact ⟨I, _, .refl _, fun _ h => h, by rw [hfm]; rfl, rfl, by rw [hfm]; rfl⟩
 intro c0; refine Af (Ak ?_)
 have hne : m ≠ fr 121 tk n := fun e => f1 (e ▸ c0)
 refine Dr (E' := [(0, .pointer (some ⟨b, 0, none⟩))]) ⟨rfl, trivial⟩ (ih (m + 1) ⟨by omega, by omega, fun j h1 h2 => ?_⟩ (by omega))
 by_cases hj : j = m
 ·subst hj; exact c0
 ·exact hm3 j h1 (by omega)
def Np (N : Nat) : Prop := ∀ {I : Heap} {e : Ex} {cs : List Value} (_ : SizeOf.sizeOf e < N) (_ : Rep I e.tree cs) (_ : e.ok = true) {ot : Option Addr} {tk : List Am} {ct : Nat} (_ : Strs I ot tk ct) (b n : Nat) (_ : n + e.size + tk.length ≤ 900 + Eb 121 tk n) (x : MS) (_ : x.ok I) (_ : x.ns.length + e.size ≤ 100000) (_ : x.es.length = x.ns.length) (L : Bc),
 Fun Tryz.prog 103 [.pointer (some ⟨b, 0, none⟩), .agg cs.toArray] I (x.own b ot tk ct n L) (MP b ot tk ct x (e.mk tk n) L)
theorem Mem.sw {I : Heap} {m a b : Nat × Obj} {L : Bc} {w : World} (h : Mem I (m :: a :: b :: L) w) : Mem I (m :: b :: a :: L) w := h.perm (List.Perm.cons _ (List.Perm.swap ..))
theorem Mem.rev3 {I : Heap} {a b c : Nat × Obj} {L : Bc} {w : World} (h : Mem I (a :: b :: c :: L) w) : Mem I (c :: b :: a :: L) w := h.perm ((List.Perm.cons a (List.Perm.swap c b L)).trans ((List.Perm.swap c a (b :: L)).trans (List.Perm.cons c (List.Perm.swap b a L))))
theorem Abn {P : Program} {f : FuncId} {n : Nat} {I₀ : Heap} {Q : C3} {k : List Item} {E : Gj} {I : Heap} {id : Nat} {ops : Array Oper} {a b c p q r : Nat × Obj} {B L : Bc} (N : Nat) (hN : ops.size = N) (hm : P.follows .mixedOrders = true)
  (h : Cn P f n I₀ Q ops (Mem I (p :: q :: r :: L)) N (Array.replicate N false) k E I (a :: b :: c :: p :: q :: r :: (B ++ L))) : RunS P f n I₀ Q (.code (.region id ops true) :: k) E I (a :: b :: c :: p :: q :: r :: (B ++ L)) := Iw I (p :: q :: r :: L) N hN hm h
theorem Jm {N : Nat} (ih : Np N) {I : Heap} {e : Ex} {cs : List Value} (hlt : SizeOf.sizeOf e < N) (h : Rep I e.tree cs) (hok : e.ok = true) {ot : Option Addr} {tk : List Am} {ct : Nat} (htk : Strs I ot tk ct) (b n : Nat) (hn : n + e.size + tk.length ≤ 900 + Eb 121 tk n) (x : MS) (hx : x.ok I) (hxl : x.ns.length + e.size ≤ 100000) (hxe : x.es.length = x.ns.length) (L : Bc) :
  Fun Tryz.prog 124 [.pointer (some ⟨b, 0, none⟩), .agg cs.toArray] I (x.own b ot tk ct n L) (MP b ot tk ct x ((e.mk tk n).pt tk) L) := by
 obtain ⟨oa, c, oaf, cf, rfl, hf⟩ := h.at'
 have hmo := Ex.mk_ok (tk := tk) (n := n) hok hn
 have hmh := e.mk_hits tk n
 have hmg := e.mk_g tk n
 have hml := e.mk_len tk n
 have hh0 := Bf 121 tk n
 have hh1 := Bf 121 tk (e.mk tk n).n
 generalize hp : e.mk tk n = p at *
 refine Aj (by simp) ?_; refine Se rfl ?_; refine Cc rfl rfl .free rfl ?_; intro b3; refine At .free rfl ?_; intro b4; refine Aa (Se rfl (Om rfl ?_)); refine Aw rfl .free rfl ?_; refine Cz (fun w h => Mem.mv (X := [_, _]) h) ?_; refine Ca rfl (ih hlt hf.rep hok htk b n hn x hx hxl hxe _) ?_; rw [hp]; rintro _ J1 _ e1 ⟨cs1, y, rfl, hr, hy, hyn, hye, rfl⟩; obtain ⟨o1, k1, _, rfl, -⟩ := hr.open
 have hyl : y.ns.length = x.ns.length + p.ns.length := by rw [hyn]; simp
 have hyl2 : y.es.length = y.ns.length := by rw [hye, hyn]; simp [hxe]
 obtain ⟨a1, k2, hu1⟩ := F8 hy.b1; obtain ⟨a2, k3, hu2⟩ := F8 hy.b2; refine Cz (fun w h => Mem.vm (X := [_, _]) h) ?_; rw [hu1, hu2]
 simp only [List.cons_append, List.nil_append]
 refine At .free rfl ?_; intro b5; refine Bp rfl rfl rfl rfl .free ?_; refine Aa (Ab (Se rfl (Oh rfl ?_))); refine Bg rfl .free rfl ?_; refine Od rfl rfl rfl (Aa ?_); refine Av rfl ?_ ?_
 ·intro c0
  try simp only [nb] at c0
  have hb : p.e.bare = true := by
   cases hb : p.e.bare with
   | true => rfl
   | false => exact absurd ((Ex.atom_iff hmo.2).2 hb) c0
  refine Se rfl ?_; refine Aw rfl .free rfl ?_; refine Bp rfl rfl rfl rfl .free ?_; refine Aa ?_; refine Ag (.c rfl .nil) ?_; refine ⟨J1, _, e1, fun w h => Mem.sub (L' := y.own b ot tk ct p.n L) (by unfold MS.own; rw [hu1, hu2]; repeat (first | exact List.Sublist.refl _ | apply List.Sublist.cons_cons | apply List.Sublist.cons)) h, _, y, rfl, by unfold MK.pt; rw [if_pos hb]; exact hr, hy, by unfold MK.pt; rw [if_pos hb]; exact hyn, by unfold MK.pt; rw [if_pos hb]; exact hye, by unfold MK.pt; rw [if_pos hb]⟩
 intro c0
 try simp only [nb] at c0
 have hb : p.e.bare = false := (Ex.atom_iff hmo.2).1 (by simpa using c0)
 have htk := htk.mono e1
 refine Af (Se rfl (Om rfl ?_)); refine Cz (fun w h => h.f3) ?_; refine Ca rfl (W0 htk b p.n (by omega) (by omega) _) ?_; rintro _ _ _ _ ⟨rfl, rfl, rfl⟩
 have hfr := Dq 121 tk p.n
 have hfr2 := Bf 121 tk (fr 121 tk p.n)
 have hnl : (nm 121 (fr 121 tk p.n)).length ≤ Ap := Ex.name_len (Jo (by decide) (by omega))
 generalize hn1e : nm 121 (fr 121 tk p.n) = n1 at hnl ⊢
 have hpt : p.pt tk = ⟨.name n1, p.ns ++ [(n1, p.e)], fr 121 tk p.n + 1, p.g + 1⟩ := by unfold MK.pt; rw [if_neg (by rw [hb]; simp), hn1e]
 rw [hpt]
 unfold Mu
 refine Oa rfl (Aa (Se rfl (Om rfl (Om rfl ?_)))); refine Bl rfl .free rfl ?_
 first | refine Oh rfl ?_ | refine Oj rfl ?_
 refine Md rfl .free rfl ?_; refine Om rfl ?_; refine Ol rfl rfl ?_; intro b22; refine D5 (B := y.B1) (xs := y.ns.map sv) (ys := [sv n1]) (m := y.ns.length) (c := y.c1) (by intro kk; simp) (by rfl) (by rw [hu1]; rfl) rfl hy.b1 (fun _ h => h.u5) (by rfl) (fun a ha => by cases ha; exact B0 (.head _) (by rfl)) (by simp) (by rfl) (by decide) (by decide) (by omega) (by decide) .free rfl ?_; intro bb sp c2 hB'; refine Bl rfl .free rfl ?_
 first | refine Oh rfl ?_ | refine Oj rfl ?_
 refine Bp rfl rfl rfl rfl .free ?_; refine Aa (Ab ?_); refine Abn 13 rfl rfl ?_; refine Da 0 rfl (Ac rfl) ?_; refine Da 1 rfl (Ch rfl) ?_
 first | refine Da 2 rfl (Ae rfl) ?_ | refine Da 2 rfl (Ba rfl) ?_
 refine Dt 4 [9] rfl (Cd rfl) ?_; refine E7 3 6 (by kernel_rfl) ?_ ?_
 ·skip
  refine Nx 3 rfl rfl (Nn rfl) .free rfl (.inr Al) ?_; refine Da 5 rfl (D9 rfl) ?_; refine C6 6 rfl (by kernel_rfl) rfl rfl rfl (by rfl) (by rfl) (by rfl) (by decide) (by decide) (by rfl) .free rfl (.inr Al) ?_; intro b32; refine B8 7 (B := y.B2) (xs := y.xs) (ys := [.string (str []), .slice none 0 0]) (m := y.es.length) (c := y.c2) rfl (by kernel_rfl) rfl (by intro kk; simp) (by rfl) (by rw [hu2]; rfl) rfl hy.b2 (fun _ h => h.u7) (by rfl) (fun a ha => by cases ha; exact B0 (.head _) (by rfl)) (by simp) (by rfl) (by decide) (by omega) (by decide) .free rfl (fun _ => .inr Al) ?_; intro B2 c3 hB2
  obtain ⟨bq, sq, rfl⟩ : ∃ bq sq, B2 = some (bq, sq) := by
   cases B2 with
   | none => exact absurd hB2.1 (by simp)
   | some z => exact ⟨z.1, z.2, rfl⟩
  have hxl2 := hy.rep.length
  rw [List.length_map] at hxl2
  simp only [A2, List.cons_append, List.nil_append, List.append_assoc]
  refine Da 8 rfl (E1 rfl rfl _ rfl (by omega) rfl) ?_; refine E6 (t := 34) rfl (congrArg (fun a => Value.pointer (some a)) (L0 bq (y.es.length * 2))) ?_; refine Da 10 rfl (Ch rfl) ?_
  first | refine Da 11 rfl (Ae rfl) ?_ | refine Da 11 rfl (Ba rfl) ?_
  refine E7 9 12 (by kernel_rfl) ?_ ?_
  ·skip
   refine Pp 9 rfl rfl rfl rfl rfl rfl .free (.inl (by kernel_rfl)) ?_ (hu := u0) (hus := Gz (xs := y.xs) (zs := [_, _]) (sp := sq) (by omega) rfl); refine Dx 12 rfl rfl rfl rfl ?_; refine Au (by kernel_rfl) ?_; refine Se rfl (Om rfl ?_); refine Ca rfl (Gl ..) ?_; rintro _ _ _ _ ⟨rfl, rfl, rfl⟩; refine Bp rfl rfl rfl rfl .free ?_; refine Aa ?_; refine Ag (.c rfl .nil) ?_
   refine ⟨J1, _, e1, fun w h => Mem.rev3 (Mem.sub (L' := (bq, _) :: (bb, _) :: (b, _) :: L) (by repeat (first | exact List.Sublist.refl _ | apply List.Sublist.cons_cons | apply List.Sublist.cons)) h), _, ⟨y.ns ++ [n1], y.es ++ [p.e], some (bb, sp), c2, y.xs ++ [.string (str p.e.tree.atom), .slice o1 p.e.tree.parts.length k1], some (bq, sq), c3⟩, rfl, .ofAtom hnl, ⟨by simpa using hB', ⟨by have := hB2.1; simp at this ⊢; omega, by simpa using hB2.2.1, by simpa using hB2.2.2⟩, by simpa using hy.rep.append (.one hr), ?_⟩, ?_, ?_, ?_⟩
   ·intro s hs
    rcases List.mem_append.1 hs with hs | hs
    ·exact hy.each s hs
    ·rw [List.mem_singleton.1 hs]; exact hnl
   ·simp only [hyn, List.map_append, List.map_cons, List.map_nil, List.append_assoc]
   ·simp only [hye, List.map_append, List.map_cons, List.map_nil, List.append_assoc]
   ·simp only [MS.own, Mu, A2, Bd, List.map_append, List.map_cons, List.map_nil, List.append_assoc, List.length_append, List.length_cons, List.length_nil, List.cons_append, List.nil_append]
  ·skip
   refine Pp 12 rfl rfl rfl rfl rfl rfl .free (.inr Al) ?_; refine Dx 9 rfl rfl rfl rfl ?_ (hu := u0) (hus := Gz (xs := y.xs) (zs := [_, _]) (sp := sq) (by omega) rfl); refine Au (by kernel_rfl) ?_; refine Se rfl (Om rfl ?_); refine Ca rfl (Gl ..) ?_; rintro _ _ _ _ ⟨rfl, rfl, rfl⟩; refine Bp rfl rfl rfl rfl .free ?_; refine Aa ?_; refine Ag (.c rfl .nil) ?_
   refine ⟨J1, _, e1, fun w h => Mem.rev3 (Mem.sub (L' := (bq, _) :: (bb, _) :: (b, _) :: L) (by repeat (first | exact List.Sublist.refl _ | apply List.Sublist.cons_cons | apply List.Sublist.cons)) h), _, ⟨y.ns ++ [n1], y.es ++ [p.e], some (bb, sp), c2, y.xs ++ [.string (str p.e.tree.atom), .slice o1 p.e.tree.parts.length k1], some (bq, sq), c3⟩, rfl, .ofAtom hnl, ⟨by simpa using hB', ⟨by have := hB2.1; simp at this ⊢; omega, by simpa using hB2.2.1, by simpa using hB2.2.2⟩, by simpa using hy.rep.append (.one hr), ?_⟩, ?_, ?_, ?_⟩
   ·intro s hs
    rcases List.mem_append.1 hs with hs | hs
    ·exact hy.each s hs
    ·rw [List.mem_singleton.1 hs]; exact hnl
   ·simp only [hyn, List.map_append, List.map_cons, List.map_nil, List.append_assoc]
   ·simp only [hye, List.map_append, List.map_cons, List.map_nil, List.append_assoc]
   ·simp only [MS.own, Mu, A2, Bd, List.map_append, List.map_cons, List.map_nil, List.append_assoc, List.length_append, List.length_cons, List.length_nil, List.cons_append, List.nil_append]
 ·skip
  refine D0 6 rfl rfl rfl rfl (by rfl) (by rfl) (by rfl) (by decide) (by decide) (by rfl) .free rfl (.inr Al) ?_; intro b32; refine Pc 3 rfl (by kernel_rfl) rfl (Nn rfl) .free rfl (.inr Al) ?_; refine Da 5 rfl (D9 rfl) ?_; refine B8 7 (B := y.B2) (xs := y.xs) (ys := [.string (str []), .slice none 0 0]) (m := y.es.length) (c := y.c2) rfl (by kernel_rfl) rfl (by intro kk; simp) (by rfl) (by rw [hu2]; rfl) rfl hy.b2 (fun _ h => h.u7) (by rfl) (fun a ha => by cases ha; exact B0 (.head _) (by rfl)) (by simp) (by rfl) (by decide) (by omega) (by decide) .free rfl (fun _ => .inr Al) ?_; intro B2 c3 hB2
  obtain ⟨bq, sq, rfl⟩ : ∃ bq sq, B2 = some (bq, sq) := by
   cases B2 with
   | none => exact absurd hB2.1 (by simp)
   | some z => exact ⟨z.1, z.2, rfl⟩
  have hxl2 := hy.rep.length
  rw [List.length_map] at hxl2
  simp only [A2, List.cons_append, List.nil_append, List.append_assoc]
  refine Da 8 rfl (E1 rfl rfl _ rfl (by omega) rfl) ?_; refine E6 (t := 34) rfl (congrArg (fun a => Value.pointer (some a)) (L0 bq (y.es.length * 2))) ?_; refine Da 10 rfl (Ch rfl) ?_
  first | refine Da 11 rfl (Ae rfl) ?_ | refine Da 11 rfl (Ba rfl) ?_
  refine E7 9 12 (by kernel_rfl) ?_ ?_
  ·skip
   refine Pp 9 rfl rfl rfl rfl rfl rfl .free (.inl (by kernel_rfl)) ?_ (hu := u0) (hus := Gz (xs := y.xs) (zs := [_, _]) (sp := sq) (by omega) rfl); refine Dx 12 rfl rfl rfl rfl ?_; refine Au (by kernel_rfl) ?_; refine Se rfl (Om rfl ?_); refine Ca rfl (Gl ..) ?_; rintro _ _ _ _ ⟨rfl, rfl, rfl⟩; refine Bp rfl rfl rfl rfl .free ?_; refine Aa ?_; refine Ag (.c rfl .nil) ?_
   refine ⟨J1, _, e1, fun w h => Mem.rev3 (Mem.sub (L' := (bq, _) :: (bb, _) :: (b, _) :: L) (by repeat (first | exact List.Sublist.refl _ | apply List.Sublist.cons_cons | apply List.Sublist.cons)) h), _, ⟨y.ns ++ [n1], y.es ++ [p.e], some (bb, sp), c2, y.xs ++ [.string (str p.e.tree.atom), .slice o1 p.e.tree.parts.length k1], some (bq, sq), c3⟩, rfl, .ofAtom hnl, ⟨by simpa using hB', ⟨by have := hB2.1; simp at this ⊢; omega, by simpa using hB2.2.1, by simpa using hB2.2.2⟩, by simpa using hy.rep.append (.one hr), ?_⟩, ?_, ?_, ?_⟩
   ·intro s hs
    rcases List.mem_append.1 hs with hs | hs
    ·exact hy.each s hs
    ·rw [List.mem_singleton.1 hs]; exact hnl
   ·simp only [hyn, List.map_append, List.map_cons, List.map_nil, List.append_assoc]
   ·simp only [hye, List.map_append, List.map_cons, List.map_nil, List.append_assoc]
   ·simp only [MS.own, Mu, A2, Bd, List.map_append, List.map_cons, List.map_nil, List.append_assoc, List.length_append, List.length_cons, List.length_nil, List.cons_append, List.nil_append]
  ·skip
   refine Pp 12 rfl rfl rfl rfl rfl rfl .free (.inr Al) ?_; refine Dx 9 rfl rfl rfl rfl ?_ (hu := u0) (hus := Gz (xs := y.xs) (zs := [_, _]) (sp := sq) (by omega) rfl); refine Au (by kernel_rfl) ?_; refine Se rfl (Om rfl ?_); refine Ca rfl (Gl ..) ?_; rintro _ _ _ _ ⟨rfl, rfl, rfl⟩; refine Bp rfl rfl rfl rfl .free ?_; refine Aa ?_; refine Ag (.c rfl .nil) ?_
   refine ⟨J1, _, e1, fun w h => Mem.rev3 (Mem.sub (L' := (bq, _) :: (bb, _) :: (b, _) :: L) (by repeat (first | exact List.Sublist.refl _ | apply List.Sublist.cons_cons | apply List.Sublist.cons)) h), _, ⟨y.ns ++ [n1], y.es ++ [p.e], some (bb, sp), c2, y.xs ++ [.string (str p.e.tree.atom), .slice o1 p.e.tree.parts.length k1], some (bq, sq), c3⟩, rfl, .ofAtom hnl, ⟨by simpa using hB', ⟨by have := hB2.1; simp at this ⊢; omega, by simpa using hB2.2.1, by simpa using hB2.2.2⟩, by simpa using hy.rep.append (.one hr), ?_⟩, ?_, ?_, ?_⟩
   ·intro s hs
    rcases List.mem_append.1 hs with hs | hs
    ·exact hy.each s hs
    ·rw [List.mem_singleton.1 hs]; exact hnl
   ·simp only [hyn, List.map_append, List.map_cons, List.map_nil, List.append_assoc]
   ·simp only [hye, List.map_append, List.map_cons, List.map_nil, List.append_assoc]
   ·simp only [MS.own, Mu, A2, Bd, List.map_append, List.map_cons, List.map_nil, List.append_assoc, List.length_append, List.length_cons, List.length_nil, List.cons_append, List.nil_append]
end Go.Proofs.YtbohngcdgmjfaaaGreatDoor
