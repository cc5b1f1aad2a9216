/- Plain names given to an expression, by the reference. No conditions. -/
import Derived.Test.YtmfagaajiakgoaaGreatDoorG11
import Derived.Laws.Small
import Derived.Shelf.Strconv.Itoa3
import Derived.Test.YtmfagaajiakgoaaGreatDoorProg

namespace Go.Proofs.YtmfagaajiakgoaaGreatDoor
set_option maxRecDepth 100000
set_option linter.unusedVariables false
set_option linter.unusedSimpArgs false

structure Pc where
 b6 : Nat
 b14 : Nat
 b16 : Nat
 b20 : Nat
 B : Kg
 c : Nat
 D : Kg
 e : Nat
def PR (b : Nat) (oa : Option Addr) (av : List As) (c : Nat) (p : Ex × Nat) (L : Bj) : Cv := fun v I' L' => ∃ cs, v = .agg (List.toArray cs) ∧ Rep I' p.1.tree cs ∧ L' = rn b oa av c p.2 :: L
def Qa (n : Nat) : Prop := ∀ {I : Heap} {e : Ex} {cs : List Value} (_ : SizeOf.sizeOf e < n) (_ : Rep I e.tree cs) (_ : e.ok = true) {f t : List As} {of ot : Option Addr} {cf ct : Nat} (_ : Strs I of f cf) (_ : Strs I ot t ct) (_ : f.length = t.length) (_ : f.length + 2 * e.size ≤ 100000)
  {oa : Option Addr} {av : List As} {c : Nat} (_ : Strs I oa av c) (b k : Nat) (_ : k + e.nb + av.length ≤ 90 + E3 120 av k) (_ : av.length ≤ 500) (L : Bj),
  Fun Tryz.prog 169 [.agg cs.toArray, .slice of f.length cf, .slice ot t.length ct, .pointer (some ⟨b, 0, none⟩)] I (rn b oa av c k :: L) (PR b oa av c (e.pl av f t k) L)
set_option maxHeartbeats 2000000 in
theorem Ab3 {n : Nat} (ihn : Qa n) {o : B5} {a b : Ex} {I : Heap} {cs : List Value} (hlt : SizeOf.sizeOf (Ex.bin o a b) < n + 1) (h : Rep I (Ex.bin o a b).tree cs) (hok : (Ex.bin o a b).ok = true) {f t : List As} {of ot : Option Addr} {cf ct : Nat} (hfr : Strs I of f cf) (hto : Strs I ot t ct) (hft : f.length = t.length) (hfl : f.length + 2 * (Ex.bin o a b).size ≤ 100000)
  {ov : Option Addr} {av : List As} {cv : Nat} (hav : Strs I ov av cv) (bp k : Nat) (hk : k + (Ex.bin o a b).nb + av.length ≤ 90 + E3 120 av k) (ha5 : av.length ≤ 500) (L : Bj) :
  Fun Tryz.prog 169 [.agg cs.toArray, .slice of f.length cf, .slice ot t.length ct, .pointer (some ⟨bp, 0, none⟩)] I (rn bp ov av cv k :: L) (PR bp ov av cv ((Ex.bin o a b).pl av f t k) L) := by
 obtain ⟨oa, c, oaf, cf1, rfl, hf, hcl, hcs⟩ := h.cells
 have hle : HLe I I := .refl _
 have ha := hf.alen
 have hh0 := Bp 120 av k
 refine Ao Ae ?_; refine Se rfl ?_; refine Cm rfl rfl .free rfl ?_; intro b4; refine A1 .free rfl ?_; intro b8; refine Ab (Ah (Se rfl (Oh rfl ?_))); refine Bv rfl .free rfl ?_; refine Od rfl rfl rfl (Ab ?_)
 first | refine Ez rfl Ek ?_ | refine Ey rfl Ek ?_ | refine A0 Ar ?_
 refine Ak (Ah ?_)
 have hok0 := hok
 have hb : (Ex.bin o a b).bare = false := rfl
 have hpos : 0 < (Ex.bin o a b).tree.parts.length := by
  rw [Ex.bare_parts] at hb
  have : (Ex.bin o a b).tree.parts ≠ [] := by intro hh; rw [hh] at hb; cases hb
  exact List.length_pos_iff.2 this
 have hhd := I7 hpos
 obtain ⟨xa, rfl⟩ : ∃ xa, oa = some xa := ⟨_, En hf.nil hpos⟩
 have hp := hf.len
 unfold Bg at hp
 refine Al rfl ?_; refine Dl .free rfl ?_; intro b29; refine Oh rfl ?_; refine Bv rfl .free rfl ?_; refine D1 (B := some (b29, [])) (xs := []) (ys := D7 oaf cf1 0 (Ex.bin o a b).tree.parts) (m := 0) (c := 0) Av Ac rfl rfl ⟨rfl, Nat.le_refl _, rfl⟩ (fun _ h => h) Ff (fun a ha => by cases ha; exact (hcs _ rfl).reads) Ae hcl.plain hpos Ad Aa Ad .free rfl ?_; intro bc sp cc hB'
 have hcc : (Ex.bin o a b).tree.parts.length ≤ cc := by have := hB'.2.1; omega
 refine Gl (t := 32) (v' := .slice (some ⟨bc, 0, none⟩) (Ex.bin o a b).tree.parts.length cc) rfl Hc ?_
 simp only [List.nil_append]
 refine Cd rfl rfl rfl .free rfl ?_; refine A1 .free rfl ?_; intro b9; refine By rfl rfl rfl rfl .free ?_; refine Ab (Se rfl (Oh rfl ?_)); refine Bv rfl .free rfl ?_
 first | refine Bs rfl rfl 0 rfl .free rfl ?_ | refine Bt rfl rfl 0 rfl .free rfl ?_
 refine Bh rfl .free rfl ?_; refine Gj rfl .free rfl ?_; refine Ca rfl (Kr ((Ex.bin o a b).tree.pt 0).atom _ _) ?_; rw [← hhd]; rintro _ _ _ _ ⟨rfl, rfl, rfl⟩; refine Om rfl (Oe rfl rfl (Oe rfl rfl (Oa rfl (Oa rfl (Ab (Ah (Ah ?_)))))))
 have hkr : Ax (Ex.bin o a b).tree.head = (1, 3) := by cases o <;> rfl
 rw [hkr]
 have hlen : (Ex.bin o a b).tree.parts.length = 3 := rfl
 have hki := L5 o a b
 have hp0 : ((Ex.bin o a b).tree.pt 0).atom = o.txt := rfl
 simp only [Ex.bin.sizeOf_spec] at hlt
 simp only [Ex.ok, Bool.and_eq_true, decide_eq_true_eq] at hok
 simp only [Ex.nb] at hk
 simp only [Ex.size] at hfl
 simp only [show (Ex.bin o a b).tree.parts = [.node o.txt [], a.tree, b.tree] from rfl, D7, List.cons_append, List.nil_append]
 refine Cu (fun w h => h.f4) ?_; refine Al rfl (Oh rfl ?_); refine Bv rfl .free rfl ?_
 first | refine Bs rfl rfl 0 rfl .free rfl ?_ | refine Bt rfl rfl 0 rfl .free rfl ?_
 refine Bh rfl .free rfl ?_; refine Gj rfl .free rfl ?_; refine Od rfl rfl rfl (Ab ?_)
 first | refine Ez rfl Ej ?_ | refine Ey rfl Ej ?_ | refine A0 Ar ?_
 refine Ak (Ah (Se rfl (Oh rfl ?_))); refine Bv rfl .free rfl ?_
 first | refine Bs rfl rfl 0 rfl .free rfl ?_ | refine Bt rfl rfl 0 rfl .free rfl ?_
 refine Bh rfl .free rfl ?_; refine Gj rfl .free rfl ?_; refine Od rfl rfl rfl (Ab ?_)
 first | refine Ez rfl Ej ?_ | refine Ey rfl Ej ?_ | refine A0 Ar ?_
 refine Ak (Ah (Se rfl (Om rfl (Oa rfl (Ab (Aq ?_)))))); refine Ee ?_; refine Ah (Se rfl (Om rfl (Om rfl (Oc rfl rfl rfl (Ab ?_))))); refine B6 rfl Ay ?_; refine Ak (Ah (Aq ?_)); refine C9 fun hlr => ?_
 have hpl := a.pl_hits av (f) (t) k
 refine Hl 14 rfl rfl ?_; refine Da 0 rfl (Aj rfl) ?_; refine Dt 1 [13] rfl (Bo rfl) ?_; refine Da 2 rfl (Ai rfl) ?_; refine Da 3 rfl (Aj rfl) ?_; refine Dt 4 [13] rfl (Bo rfl) ?_; refine Da 5 rfl (Ai rfl) ?_
 first | refine Da 6 rfl (Bc rfl rfl _ rfl) ?_ | refine Da 6 rfl (Bd rfl rfl _ rfl) ?_
 refine Dt 7 [13] rfl (C5 rfl) ?_; refine Da 8 rfl (Ai rfl) ?_; refine Da 9 rfl (Ai rfl) ?_; refine Da 10 rfl (Ai rfl) ?_; refine Dc 11 rfl rfl (ihn (f := f) (t := t) Aa (hf.as 1 a.tree Aa rfl) hok.1 hfr hto D6 Cq hav bp _ Aa ha5 _) ?_; rintro _ J2 _ e2 ⟨cs2, rfl, hr_0, rfl⟩; obtain ⟨o2, k2, _, rfl, -⟩ := hr_0.open
 have hlr := hlr.trans e2
 have hf := hf.mono e2
 have hfr := hfr.mono e2
 have hto := hto.mono e2
 have hav := hav.mono e2
 have hle := hle.trans e2
 refine Hx ?_
 first | refine Da 12 rfl (Bc rfl rfl _ rfl) ?_ | refine Da 12 rfl (Bd rfl rfl _ rfl) ?_
 refine Dx 13 rfl rfl rfl rfl ?_; refine A5 Af ?_; refine Ap (Al rfl (Om rfl ?_)); refine Or rfl rfl rfl ?_; refine Oa rfl (Ab ?_); refine Bz ?_; refine Ah (Se rfl (Om rfl (Om rfl (Oc rfl rfl rfl (Ab ?_))))); refine B6 rfl Ay ?_; refine Ak (Ah (Aq ?_)); refine C9 fun hlr => ?_
 have hpl := b.pl_hits av (f) (t) (a.pl av (f) (t) k).2
 refine Hl 14 rfl rfl ?_; refine Da 0 rfl (Aj rfl) ?_; refine Dt 1 [13] rfl (Bo rfl) ?_; refine Da 2 rfl (Ai rfl) ?_; refine Da 3 rfl (Aj rfl) ?_; refine Dt 4 [13] rfl (Bo rfl) ?_; refine Da 5 rfl (Ai rfl) ?_
 first | refine Da 6 rfl (Bc rfl rfl _ rfl) ?_ | refine Da 6 rfl (Bd rfl rfl _ rfl) ?_
 refine Dt 7 [13] rfl (C5 rfl) ?_; refine Da 8 rfl (Ai rfl) ?_; refine Da 9 rfl (Ai rfl) ?_; refine Da 10 rfl (Ai rfl) ?_; refine Dc 11 rfl rfl (ihn (f := f) (t := t) Aa (hf.as 2 b.tree Aa rfl) hok.2 hfr hto D6 Cq hav bp _ Aa ha5 _) ?_; rintro _ J2 _ e2 ⟨cs2, rfl, hr_1, rfl⟩; obtain ⟨o2, k2, _, rfl, -⟩ := hr_1.open
 have hlr := hlr.trans e2
 have hf := hf.mono e2
 have hfr := hfr.mono e2
 have hto := hto.mono e2
 have hav := hav.mono e2
 have hle := hle.trans e2
 have hr_0 := hr_0.mono e2
 refine Hx ?_
 first | refine Da 12 rfl (Bc rfl rfl _ rfl) ?_ | refine Da 12 rfl (Bd rfl rfl _ rfl) ?_
 refine Dx 13 rfl rfl rfl rfl ?_; refine A5 Af ?_; refine Ap (Al rfl (Om rfl ?_)); refine Or rfl rfl rfl ?_; refine Oa rfl (Ab ?_); refine Bz ?_; refine Ah (Se rfl (Om rfl (Om rfl (Oc rfl rfl rfl (Ab ?_))))); refine De rfl Ay ?_; refine Cc rfl ?_; refine Se rfl ?_; refine Az rfl .free rfl ?_; refine By rfl rfl rfl rfl .free ?_; refine Ab ?_; refine Cu (fun w h => h.f2) (Bu ?_); intro hz
 have hf := hf.mono hz
 refine Am (.c rfl .nil) ?_
 exact ⟨_, _, hle.trans hz, fun w h => Mem.sub (L' := rn bp ov av cv _ :: L) A7 h, _, rfl, .mk' rfl (.cons (hf.as 0 (.node o.txt []) Aa rfl) (.cons (hr_0.mono hz) (.cons (hr_1.mono hz) (.nil)))) (fun y hy => by cases hy; exact A9 (xs := [_, _, _, _, _, _])) Ae hcc Bf Bf, rfl⟩
set_option maxHeartbeats 2000000 in
theorem Ab5 {n : Nat} (ihn : Qa n) {a b d : Ex} {I : Heap} {cs : List Value} (hlt : SizeOf.sizeOf (Ex.ite a b d) < n + 1) (h : Rep I (Ex.ite a b d).tree cs) (hok : (Ex.ite a b d).ok = true) {f t : List As} {of ot : Option Addr} {cf ct : Nat} (hfr : Strs I of f cf) (hto : Strs I ot t ct) (hft : f.length = t.length) (hfl : f.length + 2 * (Ex.ite a b d).size ≤ 100000)
  {ov : Option Addr} {av : List As} {cv : Nat} (hav : Strs I ov av cv) (bp k : Nat) (hk : k + (Ex.ite a b d).nb + av.length ≤ 90 + E3 120 av k) (ha5 : av.length ≤ 500) (L : Bj) :
  Fun Tryz.prog 169 [.agg cs.toArray, .slice of f.length cf, .slice ot t.length ct, .pointer (some ⟨bp, 0, none⟩)] I (rn bp ov av cv k :: L) (PR bp ov av cv ((Ex.ite a b d).pl av f t k) L) := by
 obtain ⟨oa, c, oaf, cf1, rfl, hf, hcl, hcs⟩ := h.cells
 have hle : HLe I I := .refl _
 have ha := hf.alen
 have hh0 := Bp 120 av k
 refine Ao Ae ?_; refine Se rfl ?_; refine Cm rfl rfl .free rfl ?_; intro b4; refine A1 .free rfl ?_; intro b8; refine Ab (Ah (Se rfl (Oh rfl ?_))); refine Bv rfl .free rfl ?_; refine Od rfl rfl rfl (Ab ?_)
 first | refine Ez rfl Ek ?_ | refine Ey rfl Ek ?_ | refine A0 Ar ?_
 refine Ak (Ah ?_)
 have hok0 := hok
 have hb : (Ex.ite a b d).bare = false := rfl
 have hpos : 0 < (Ex.ite a b d).tree.parts.length := by
  rw [Ex.bare_parts] at hb
  have : (Ex.ite a b d).tree.parts ≠ [] := by intro hh; rw [hh] at hb; cases hb
  exact List.length_pos_iff.2 this
 have hhd := I7 hpos
 obtain ⟨xa, rfl⟩ : ∃ xa, oa = some xa := ⟨_, En hf.nil hpos⟩
 have hp := hf.len
 unfold Bg at hp
 refine Al rfl ?_; refine Dl .free rfl ?_; intro b29; refine Oh rfl ?_; refine Bv rfl .free rfl ?_; refine D1 (B := some (b29, [])) (xs := []) (ys := D7 oaf cf1 0 (Ex.ite a b d).tree.parts) (m := 0) (c := 0) Av Ac rfl rfl ⟨rfl, Nat.le_refl _, rfl⟩ (fun _ h => h) Ff (fun a ha => by cases ha; exact (hcs _ rfl).reads) Ae hcl.plain hpos Ad Aa Ad .free rfl ?_; intro bc sp cc hB'
 have hcc : (Ex.ite a b d).tree.parts.length ≤ cc := by have := hB'.2.1; omega
 refine Gl (t := 32) (v' := .slice (some ⟨bc, 0, none⟩) (Ex.ite a b d).tree.parts.length cc) rfl Hc ?_
 simp only [List.nil_append]
 refine Cd rfl rfl rfl .free rfl ?_; refine A1 .free rfl ?_; intro b9; refine By rfl rfl rfl rfl .free ?_; refine Ab (Se rfl (Oh rfl ?_)); refine Bv rfl .free rfl ?_
 first | refine Bs rfl rfl 0 rfl .free rfl ?_ | refine Bt rfl rfl 0 rfl .free rfl ?_
 refine Bh rfl .free rfl ?_; refine Gj rfl .free rfl ?_; refine Ca rfl (Kr ((Ex.ite a b d).tree.pt 0).atom _ _) ?_; rw [← hhd]; rintro _ _ _ _ ⟨rfl, rfl, rfl⟩; refine Om rfl (Oe rfl rfl (Oe rfl rfl (Oa rfl (Oa rfl (Ab (Ah (Ah ?_)))))))
 have hkr : Ax (Ex.ite a b d).tree.head = (1, 4) := rfl
 rw [hkr]
 have hlen : (Ex.ite a b d).tree.parts.length = 4 := rfl
 have hki := L6 a b d
 have hp0 : ((Ex.ite a b d).tree.pt 0).atom = Gy := rfl
 simp only [Ex.ite.sizeOf_spec] at hlt
 simp only [Ex.ok, Bool.and_eq_true, decide_eq_true_eq] at hok
 simp only [Ex.nb] at hk
 simp only [Ex.size] at hfl
 simp only [show (Ex.ite a b d).tree.parts = [.node Gy [], a.tree, b.tree, d.tree] from rfl, D7, List.cons_append, List.nil_append]
 refine Cu (fun w h => h.f4) ?_; refine Al rfl (Oh rfl ?_); refine Bv rfl .free rfl ?_
 first | refine Bs rfl rfl 0 rfl .free rfl ?_ | refine Bt rfl rfl 0 rfl .free rfl ?_
 refine Bh rfl .free rfl ?_; refine Gj rfl .free rfl ?_; refine Od rfl rfl rfl (Ab ?_)
 first | refine Ez rfl Gf ?_ | refine Ey rfl Gf ?_ | refine A0 Ar ?_
 refine Ak (Ah (Se rfl (Oh rfl ?_))); refine Bv rfl .free rfl ?_
 first | refine Bs rfl rfl 0 rfl .free rfl ?_ | refine Bt rfl rfl 0 rfl .free rfl ?_
 refine Bh rfl .free rfl ?_; refine Gj rfl .free rfl ?_; refine Od rfl rfl rfl (Ab ?_)
 first | refine Ez rfl Gf ?_ | refine Ey rfl Gf ?_ | refine A0 Ar ?_
 refine Ak (Ah (Se rfl (Om rfl (Oa rfl (Ab (Aq ?_)))))); refine Ee ?_; refine Ah (Se rfl (Om rfl (Om rfl (Oc rfl rfl rfl (Ab ?_))))); refine B6 rfl Ay ?_; refine Ak (Ah (Aq ?_)); refine C9 fun hlr => ?_
 have hpl := a.pl_hits av (f) (t) k
 refine Hl 14 rfl rfl ?_; refine Da 0 rfl (Aj rfl) ?_; refine Dt 1 [13] rfl (Bo rfl) ?_; refine Da 2 rfl (Ai rfl) ?_; refine Da 3 rfl (Aj rfl) ?_; refine Dt 4 [13] rfl (Bo rfl) ?_; refine Da 5 rfl (Ai rfl) ?_
 first | refine Da 6 rfl (Bc rfl rfl _ rfl) ?_ | refine Da 6 rfl (Bd rfl rfl _ rfl) ?_
 refine Dt 7 [13] rfl (C5 rfl) ?_; refine Da 8 rfl (Ai rfl) ?_; refine Da 9 rfl (Ai rfl) ?_; refine Da 10 rfl (Ai rfl) ?_; refine Dc 11 rfl rfl (ihn (f := f) (t := t) Aa (hf.as 1 a.tree Aa rfl) hok.1.1 hfr hto D6 Cq hav bp _ Aa ha5 _) ?_; rintro _ J2 _ e2 ⟨cs2, rfl, hr_0, rfl⟩; obtain ⟨o2, k2, _, rfl, -⟩ := hr_0.open
 have hlr := hlr.trans e2
 have hf := hf.mono e2
 have hfr := hfr.mono e2
 have hto := hto.mono e2
 have hav := hav.mono e2
 have hle := hle.trans e2
 refine Hx ?_
 first | refine Da 12 rfl (Bc rfl rfl _ rfl) ?_ | refine Da 12 rfl (Bd rfl rfl _ rfl) ?_
 refine Dx 13 rfl rfl rfl rfl ?_; refine A5 Af ?_; refine Ap (Al rfl (Om rfl ?_)); refine Or rfl rfl rfl ?_; refine Oa rfl (Ab ?_); refine Bz ?_; refine Ah (Se rfl (Om rfl (Om rfl (Oc rfl rfl rfl (Ab ?_))))); refine B6 rfl Ay ?_; refine Ak (Ah (Aq ?_)); refine C9 fun hlr => ?_
 have hpl := b.pl_hits av (f) (t) (a.pl av (f) (t) k).2
 refine Hl 14 rfl rfl ?_; refine Da 0 rfl (Aj rfl) ?_; refine Dt 1 [13] rfl (Bo rfl) ?_; refine Da 2 rfl (Ai rfl) ?_; refine Da 3 rfl (Aj rfl) ?_; refine Dt 4 [13] rfl (Bo rfl) ?_; refine Da 5 rfl (Ai rfl) ?_
 first | refine Da 6 rfl (Bc rfl rfl _ rfl) ?_ | refine Da 6 rfl (Bd rfl rfl _ rfl) ?_
 refine Dt 7 [13] rfl (C5 rfl) ?_; refine Da 8 rfl (Ai rfl) ?_; refine Da 9 rfl (Ai rfl) ?_; refine Da 10 rfl (Ai rfl) ?_; refine Dc 11 rfl rfl (ihn (f := f) (t := t) Aa (hf.as 2 b.tree Aa rfl) hok.1.2 hfr hto D6 Cq hav bp _ Aa ha5 _) ?_; rintro _ J2 _ e2 ⟨cs2, rfl, hr_1, rfl⟩; obtain ⟨o2, k2, _, rfl, -⟩ := hr_1.open
 have hlr := hlr.trans e2
 have hf := hf.mono e2
 have hfr := hfr.mono e2
 have hto := hto.mono e2
 have hav := hav.mono e2
 have hle := hle.trans e2
 have hr_0 := hr_0.mono e2
 refine Hx ?_
 first | refine Da 12 rfl (Bc rfl rfl _ rfl) ?_ | refine Da 12 rfl (Bd rfl rfl _ rfl) ?_
 refine Dx 13 rfl rfl rfl rfl ?_; refine A5 Af ?_; refine Ap (Al rfl (Om rfl ?_)); refine Or rfl rfl rfl ?_; refine Oa rfl (Ab ?_); refine Bz ?_; refine Ah (Se rfl (Om rfl (Om rfl (Oc rfl rfl rfl (Ab ?_))))); refine B6 rfl Ay ?_; refine Ak (Ah (Aq ?_)); refine C9 fun hlr => ?_
 have hpl := d.pl_hits av (f) (t) (b.pl av (f) (t) (a.pl av (f) (t) k).2).2
 refine Hl 14 rfl rfl ?_; refine Da 0 rfl (Aj rfl) ?_; refine Dt 1 [13] rfl (Bo rfl) ?_; refine Da 2 rfl (Ai rfl) ?_; refine Da 3 rfl (Aj rfl) ?_; refine Dt 4 [13] rfl (Bo rfl) ?_; refine Da 5 rfl (Ai rfl) ?_
 first | refine Da 6 rfl (Bc rfl rfl _ rfl) ?_ | refine Da 6 rfl (Bd rfl rfl _ rfl) ?_
 refine Dt 7 [13] rfl (C5 rfl) ?_; refine Da 8 rfl (Ai rfl) ?_; refine Da 9 rfl (Ai rfl) ?_; refine Da 10 rfl (Ai rfl) ?_; refine Dc 11 rfl rfl (ihn (f := f) (t := t) Aa (hf.as 3 d.tree Aa rfl) hok.2 hfr hto D6 Cq hav bp _ Aa ha5 _) ?_; rintro _ J2 _ e2 ⟨cs2, rfl, hr_2, rfl⟩; obtain ⟨o2, k2, _, rfl, -⟩ := hr_2.open
 have hlr := hlr.trans e2
 have hf := hf.mono e2
 have hfr := hfr.mono e2
 have hto := hto.mono e2
 have hav := hav.mono e2
 have hle := hle.trans e2
 have hr_0 := hr_0.mono e2
 have hr_1 := hr_1.mono e2
 refine Hx ?_
 first | refine Da 12 rfl (Bc rfl rfl _ rfl) ?_ | refine Da 12 rfl (Bd rfl rfl _ rfl) ?_
 refine Dx 13 rfl rfl rfl rfl ?_; refine A5 Af ?_; refine Ap (Al rfl (Om rfl ?_)); refine Or rfl rfl rfl ?_; refine Oa rfl (Ab ?_); refine Bz ?_; refine Ah (Se rfl (Om rfl (Om rfl (Oc rfl rfl rfl (Ab ?_))))); refine De rfl Ay ?_; refine Cc rfl ?_; refine Se rfl ?_; refine Az rfl .free rfl ?_; refine By rfl rfl rfl rfl .free ?_; refine Ab ?_; refine Cu (fun w h => h.f2) (Bu ?_); intro hz
 have hf := hf.mono hz
 refine Am (.c rfl .nil) ?_
 exact ⟨_, _, hle.trans hz, fun w h => Mem.sub (L' := rn bp ov av cv _ :: L) A7 h, _, rfl, .mk' rfl (.cons (hf.as 0 (.node Gy []) Aa rfl) (.cons (hr_0.mono hz) (.cons (hr_1.mono hz) (.cons (hr_2.mono hz) (.nil))))) (fun y hy => by cases hy; exact A9 (xs := [_, _, _, _, _, _, _, _])) Ae hcc Bf Bf, rfl⟩
set_option maxHeartbeats 2000000 in
theorem Ael {n : Nat} (ihn : Qa n) {z : As} {a b : Ex} {I : Heap} {cs : List Value} (hlt : SizeOf.sizeOf (Ex.lt z a b) < n + 1) (h : Rep I (Ex.lt z a b).tree cs) (hok : (Ex.lt z a b).ok = true) {f t : List As} {of ot : Option Addr} {cf ct : Nat} (hfr : Strs I of f cf) (hto : Strs I ot t ct) (hft : f.length = t.length) (hfl : f.length + 2 * (Ex.lt z a b).size ≤ 100000)
  {ov : Option Addr} {av : List As} {cv : Nat} (hav : Strs I ov av cv) (bp k : Nat) (hk : k + (Ex.lt z a b).nb + av.length ≤ 90 + E3 120 av k) (ha5 : av.length ≤ 500) (L : Bj) :
  Fun Tryz.prog 169 [.agg cs.toArray, .slice of f.length cf, .slice ot t.length ct, .pointer (some ⟨bp, 0, none⟩)] I (rn bp ov av cv k :: L) (PR bp ov av cv ((Ex.lt z a b).pl av f t k) L) := by
 obtain ⟨oa, c, oaf, cf1, rfl, hf, hcl, hcs⟩ := h.cells
 have hle : HLe I I := .refl _
 have ha := hf.alen
 have hh0 := Bp 120 av k
 refine Ao Ae ?_; refine Se rfl ?_; refine Cm rfl rfl .free rfl ?_; intro b4; refine A1 .free rfl ?_; intro b8; refine Ab (Ah (Se rfl (Oh rfl ?_))); refine Bv rfl .free rfl ?_; refine Od rfl rfl rfl (Ab ?_)
 first | refine Ez rfl Ek ?_ | refine Ey rfl Ek ?_ | refine A0 Ar ?_
 refine Ak (Ah ?_)
 have hok0 := hok
 have hb : (Ex.lt z a b).bare = false := rfl
 have hpos : 0 < (Ex.lt z a b).tree.parts.length := by
  rw [Ex.bare_parts] at hb
  have : (Ex.lt z a b).tree.parts ≠ [] := by intro hh; rw [hh] at hb; cases hb
  exact List.length_pos_iff.2 this
 have hhd := I7 hpos
 obtain ⟨xa, rfl⟩ : ∃ xa, oa = some xa := ⟨_, En hf.nil hpos⟩
 have hp := hf.len
 unfold Bg at hp
 refine Al rfl ?_; refine Dl .free rfl ?_; intro b29; refine Oh rfl ?_; refine Bv rfl .free rfl ?_; refine D1 (B := some (b29, [])) (xs := []) (ys := D7 oaf cf1 0 (Ex.lt z a b).tree.parts) (m := 0) (c := 0) Av Ac rfl rfl ⟨rfl, Nat.le_refl _, rfl⟩ (fun _ h => h) Ff (fun a ha => by cases ha; exact (hcs _ rfl).reads) Ae hcl.plain hpos Ad Aa Ad .free rfl ?_; intro bc sp cc hB'
 have hcc : (Ex.lt z a b).tree.parts.length ≤ cc := by have := hB'.2.1; omega
 refine Gl (t := 32) (v' := .slice (some ⟨bc, 0, none⟩) (Ex.lt z a b).tree.parts.length cc) rfl Hc ?_
 simp only [List.nil_append]
 refine Cd rfl rfl rfl .free rfl ?_; refine A1 .free rfl ?_; intro b9; refine By rfl rfl rfl rfl .free ?_; refine Ab (Se rfl (Oh rfl ?_)); refine Bv rfl .free rfl ?_
 first | refine Bs rfl rfl 0 rfl .free rfl ?_ | refine Bt rfl rfl 0 rfl .free rfl ?_
 refine Bh rfl .free rfl ?_; refine Gj rfl .free rfl ?_; refine Ca rfl (Kr ((Ex.lt z a b).tree.pt 0).atom _ _) ?_; rw [← hhd]; rintro _ _ _ _ ⟨rfl, rfl, rfl⟩; refine Om rfl (Oe rfl rfl (Oe rfl rfl (Oa rfl (Oa rfl (Ab (Ah (Ah ?_)))))))
 have hkr : Ax (Ex.lt z a b).tree.head = (2, 4) := rfl
 rw [hkr]
 have hlen : (Ex.lt z a b).tree.parts.length = 4 := rfl
 have hki := L7 z a b
 have hp0 : ((Ex.lt z a b).tree.pt 0).atom = Dz := rfl
 simp only [Ex.lt.sizeOf_spec] at hlt
 simp only [Ex.ok, Bool.and_eq_true, decide_eq_true_eq] at hok
 simp only [Ex.nb] at hk
 simp only [Ex.size] at hfl
 simp only [show (Ex.lt z a b).tree.parts = [.node Dz [], .node z [], a.tree, b.tree] from rfl, D7, List.cons_append, List.nil_append]
 refine Cu (fun w h => h.f4) ?_; refine Al rfl (Oh rfl ?_); refine Bv rfl .free rfl ?_
 first | refine Bs rfl rfl 0 rfl .free rfl ?_ | refine Bt rfl rfl 0 rfl .free rfl ?_
 refine Bh rfl .free rfl ?_; refine Gj rfl .free rfl ?_; refine Od rfl rfl rfl (Ab ?_)
 first | refine K3 rfl (by rw [hp0]; rfl) ?_ | refine K2 rfl (by rw [hp0]; rfl) ?_ | refine B9 Ar ?_
 refine Ah ?_; obtain ⟨x1, x2, x3⟩ := Dv 120 av k
 have x4 := Eo 120 av k
 have x5 := Bp 120 av (fr 120 av k)
 have x6 := Bp 120 av (fr 120 av k + 1)
 have hzl := Ex.name_len hok.1.1
 refine Al rfl (Om rfl ?_); refine Ca rfl (Qh hav bp k Aa _) ?_; rintro _ _ _ _ ⟨rfl, rfl, rfl⟩
 have hnl1 := Qu (n := fr 120 av k) Aa
 generalize hn1e : nm 120 (fr 120 av k) = n1 at hnl1 ⊢
 refine Oa rfl (Ab (Ah ?_)); refine Fh 6 rfl rfl ?_; refine Da 0 rfl (Aj rfl) ?_; refine Dt 1 [5] rfl (Bo rfl) ?_; refine Da 2 rfl (Ai rfl) ?_; refine Dc 3 rfl rfl (H6 n1 _ _) ?_; rintro _ _ _ _ ⟨rfl, rfl, rfl⟩; refine Hx ?_
 first | refine Da 4 rfl (Bc rfl rfl 1 rfl) ?_ | refine Da 4 rfl (Bd rfl rfl 1 rfl) ?_
 refine Dx 5 rfl rfl rfl rfl ?_; refine A5 Af ?_; refine Ah ?_; refine C9 fun hlr => ?_
 have hpl := a.pl_hits av f t (fr 120 av k + 1)
 refine Hl 12 rfl rfl ?_; refine Da 0 rfl (Aj rfl) ?_; refine Dt 1 [11] rfl (Bo rfl) ?_; refine Da 2 rfl (Aj rfl) ?_; refine Dt 3 [11] rfl (Bo rfl) ?_
 first | refine Da 4 rfl (Bc rfl rfl 2 rfl) ?_ | refine Da 4 rfl (Bd rfl rfl 2 rfl) ?_
 refine Dt 5 [11] rfl (C5 rfl) ?_; refine Da 6 rfl (Ai rfl) ?_; refine Da 7 rfl (Ai rfl) ?_; refine Da 8 rfl (Ai rfl) ?_; refine Dc 9 rfl rfl (ihn (f := f) (t := t) Aa (hf.as 2 a.tree Aa rfl) hok.1.2 hfr hto hft Aa hav bp _ Aa ha5 _) ?_; rintro _ J2 _ e2 ⟨cs2, rfl, hr_0, rfl⟩; obtain ⟨o2, k2, _, rfl, -⟩ := hr_0.open
 have hlr := hlr.trans e2
 have hf := hf.mono e2
 have hfr := hfr.mono e2
 have hto := hto.mono e2
 have hav := hav.mono e2
 have hle := hle.trans e2
 refine Hx ?_
 first | refine Da 10 rfl (Bc rfl rfl 2 rfl) ?_ | refine Da 10 rfl (Bd rfl rfl 2 rfl) ?_
 refine Dx 11 rfl rfl rfl rfl ?_; refine A5 Af ?_; refine Ah ?_; refine C9 fun hlr => ?_
 refine Hl 26 rfl rfl ?_; refine Da 0 rfl (Aj rfl) ?_; refine Dt 1 [25] rfl (Bo rfl) ?_; refine Da 2 rfl (Aj rfl) ?_; refine Dt 3 [25] rfl (Bo rfl) ?_
 first | refine Da 4 rfl (Bc rfl rfl 3 rfl) ?_ | refine Da 4 rfl (Bd rfl rfl 3 rfl) ?_
 refine Dt 5 [25] rfl (C5 rfl) ?_; refine Da 7 rfl (Ai rfl) ?_; refine Da 9 rfl (Aj rfl) ?_; refine Dt 10 [25] rfl (Bo rfl) ?_
 first | refine Da 11 rfl (Bc rfl rfl 1 rfl) ?_ | refine Da 11 rfl (Bd rfl rfl 1 rfl) ?_
 refine Da 12 rfl (A4 rfl) ?_; refine Dt 13 [25] rfl (Kb rfl) ?_; refine Da 17 rfl (Ai rfl) ?_; refine Da 19 rfl (Ai rfl) ?_; refine Da 22 rfl (Ai rfl) ?_; refine C7 (E' := [(8, _), (9, _), (68, _), (72, _), (74, _), (80, _), (84, _), (86, _), (89, _)]) ⟨rfl, rfl, rfl, rfl, rfl, rfl, rfl, rfl, rfl, trivial⟩ ?_
 refine Eg (X := Pc) 3 #[true, true, true, true, true, true, true, true, true, true, true, true, true, true, true, true, true, true, true, true, true, true, true, false, false, false] (fun x => [(82, Bm (0 + f.length + 1) x.c x.B), (88, Bm (0 + t.length + 1) x.e x.D)]) (fun x L => A2 9 ([] ++ f.map sv ++ [sv z]) x.B ++ ([(x.b14, .cells [sv z].toArray 9 (0, 0))] ++ (A2 9 ([] ++ t.map sv ++ [sv n1]) x.D ++ ([(x.b20, .cells [sv n1].toArray 9 (0, 0))] ++ L)))) (fun x => Dd 1 (0 + f.length + 1) x.c ([] ++ f.map sv ++ [sv z]) x.B ∧ Dd 1 (0 + t.length + 1) x.e ([] ++ t.map sv ++ [sv n1]) x.D) ?_ ?_
 ·rintro ⟨b6, b14, b16, b20, B2, c2, B4, c4⟩ ⟨hB2, hB4⟩
  simp only at hB2 hB4
  rw [show [] ++ f.map sv ++ [sv z] = (f ++ [z]).map sv by simp] at hB2; rw [show [] ++ t.map sv ++ [sv n1] = (t ++ [n1]).map sv by simp] at hB4; refine Bn (L' := A2 9 ((f ++ [z]).map sv) B2 ++ ([(b14, .cells [sv z].toArray 9 (0, 0))] ++ (A2 9 ((t ++ [n1]).map sv) B4 ++ ([(b20, .cells [sv n1].toArray 9 (0, 0))] ++ _)))) (fun w h => by rw [show (f ++ [z]).map sv = [] ++ f.map sv ++ [sv z] by simp, show (t ++ [n1]).map sv = [] ++ t.map sv ++ [sv n1] by simp]; exact h) ?_
  refine Eh hB2 Ae Hb (by intro s hs; rcases List.mem_append.1 hs with hs | hs; exact hfr.each s hs; rw [List.mem_singleton.1 hs]; exact hzl) ?_; intro J3 o3 k3 ez hbv hs3; refine G8 (t := 82) rfl hbv ?_
  have hlr := hlr.trans ez
  have hf := hf.mono ez
  have hfr := hfr.mono ez
  have hto := hto.mono ez
  have hav := hav.mono ez
  have hle := hle.trans ez
  have hr_0 := hr_0.mono ez
  refine Bn (fun w h => Mem.seg2 (A := [(b14, _)]) h) ?_; refine Eh hB4 Ae Hb (by intro s hs; rcases List.mem_append.1 hs with hs | hs; exact hto.each s hs; rw [List.mem_singleton.1 hs]; exact hnl1) ?_; intro J4 o4 k4 ey hbv4 hs4; refine G8 (t := 88) rfl hbv4 ?_
  have hs3 := hs3.mono ey
  have hlr := hlr.trans ey
  have hf := hf.mono ey
  have hfr := hfr.mono ey
  have hto := hto.mono ey
  have hav := hav.mono ey
  have hle := hle.trans ey
  have hr_0 := hr_0.mono ey
  refine Bn (fun w h => h.drop.drop) ?_; refine Dc 23 rfl rfl (ihn (f := f ++ [z]) (t := t ++ [n1]) Aa (hf.as 3 b.tree Aa rfl) hok.2 hs3 hs4 D6 Ht hav bp _ Aa ha5 _) ?_; rintro _ J5 _ e5 ⟨cs5, rfl, hr_1, rfl⟩; obtain ⟨o5, k5, _, rfl, -⟩ := hr_1.open
  have hlr := hlr.trans e5
  have hf := hf.mono e5
  have hfr := hfr.mono e5
  have hto := hto.mono e5
  have hav := hav.mono e5
  have hle := hle.trans e5
  have hr_0 := hr_0.mono e5
  refine Hx ?_
  first | refine Da 24 rfl (Bc rfl rfl 3 rfl) ?_ | refine Da 24 rfl (Bd rfl rfl 3 rfl) ?_
  refine Dx 25 rfl rfl rfl rfl ?_; refine A5 Af ?_; refine Se rfl ?_; refine Az rfl .free rfl ?_; refine By rfl rfl rfl rfl .free ?_; refine Ab ?_; refine Cu (fun w h => h.f2) (Bu ?_); intro hz
  have hf := hf.mono hz
  refine Am (.c rfl .nil) ?_; subst hn1e
  exact ⟨_, _, hle.trans hz, fun w h => Mem.sub (L' := rn bp ov av cv _ :: L) A7 h, _, rfl, .mk' rfl (.cons (hf.as 0 (.node Dz []) Aa rfl) (.cons (.ofAtom hnl1) (.cons (hr_0.mono hz) (.cons (hr_1.mono hz) .nil)))) (fun y hy => by cases hy; exact A9 (xs := [_, _, _, _, _, _, _, _])) Ae hcc Bf Bf, rfl⟩
 ·intro k5111
  refine Eg (X := Pc) 4 #[true, true, true, true, true, true, true, true, true, true, true, true, true, true, true, true, true, true, true, true, true, false, true, false, false, false] (fun x => [(82, Bm (0 + f.length + 1) x.c x.B), (85, Bm (0 + t.length) x.e x.D), (87, .slice (some ⟨x.b20, 0, none⟩) 1 1)]) (fun x L => A2 9 ([] ++ f.map sv ++ [sv z]) x.B ++ ([(x.b14, .cells [sv z].toArray 9 (0, 0))] ++ (A2 9 ([] ++ t.map sv) x.D ++ ([(x.b20, .cells [sv n1].toArray 9 (0, 0))] ++ L)))) (fun x => Dd 1 (0 + f.length + 1) x.c ([] ++ f.map sv ++ [sv z]) x.B ∧ Dd 1 (0 + t.length) x.e ([] ++ t.map sv) x.D) ?_ ?_
  ·rintro ⟨b6, b14, b16, b20, B, c, D, e⟩ ⟨h1, h2⟩
   try simp only at h1
   try simp only at h2
   refine Cg 21 (B := D) (xs := [] ++ t.map sv) (ys := [sv n1]) (m := 0 + t.length) (c := e) rfl Af rfl Av Ac rfl rfl h2 (fun _ h => Mem.seg3 (B := [(b14, _)]) h) Ac (fun a ha => by cases ha; exact Bw (List.mem_append_right _ (List.mem_append_right _ (List.mem_append_left _ (List.mem_singleton.2 rfl)))) Ac) Ae Ac Ad Aa Ad .free rfl (fun _ => .inr Au) ?_; intro D e h2; refine Bn (fun w h => Mem.ins3 (A := A2 _ _ D) (B := A2 _ _ B) (C := [(b14, _)]) h) (C7 ?_ (k5111 ⟨b6, b14, b16, b20, B, c, D, e⟩ ⟨h1, h2⟩))
   exact ⟨rfl, rfl, rfl, rfl, rfl, rfl, rfl, rfl, rfl, rfl, rfl, trivial⟩
  ·intro k4111; refine Eg (X := Pc) 5 #[true, true, true, true, true, true, true, true, true, true, true, true, true, true, true, true, true, true, false, true, true, false, true, false, false, false] (fun x => [(82, Bm (0 + f.length + 1) x.c x.B), (83, .slice (some ⟨x.b16, 0, none⟩) 0 0), (87, .slice (some ⟨x.b20, 0, none⟩) 1 1)]) (fun x L => A2 9 ([] ++ f.map sv ++ [sv z]) x.B ++ ([(x.b14, .cells [sv z].toArray 9 (0, 0))] ++ ([(x.b16, .cells [].toArray 9 (0, 0))] ++ ([(x.b20, .cells [sv n1].toArray 9 (0, 0))] ++ L)))) (fun x => Dd 1 (0 + f.length + 1) x.c ([] ++ f.map sv ++ [sv z]) x.B) ?_ ?_
   ·rintro ⟨b6, b14, b16, b20, B, c, D, e⟩ h1
    try simp only at h1
    refine Cg 18 (B := some (b16, [])) (xs := []) (ys := t.map sv) (m := 0) (c := 0) rfl Af rfl Av Ac rfl rfl ⟨rfl, Nat.le_refl _, rfl⟩ (fun _ h => Mem.seg3 (B := [(b14, _)]) (C := [(b16, _)]) h) Ae hto.reads hto.none (Cn t) Ad Aa Ad .free rfl (fun _ => .inr Au) ?_; intro D e h2; refine Bn (fun w h => Mem.ins3 (A := A2 _ _ D) (B := A2 _ _ B) (C := [(b14, _)]) h) (C7 ?_ (k4111 ⟨b6, b14, b16, b20, B, c, D, e⟩ ⟨h1, h2⟩))
    exact ⟨rfl, rfl, rfl, rfl, rfl, rfl, rfl, rfl, rfl, rfl, rfl, rfl, trivial⟩
   ·intro k3111; refine Eg (X := Pc) 5 #[true, true, true, true, true, true, true, true, true, true, true, true, true, true, true, true, true, true, true, true, false, false, true, false, false, false] (fun x => [(82, Bm (0 + f.length + 1) x.c x.B), (85, Bm (0 + t.length) x.e x.D)]) (fun x L => A2 9 ([] ++ f.map sv ++ [sv z]) x.B ++ ([(x.b14, .cells [sv z].toArray 9 (0, 0))] ++ (A2 9 ([] ++ t.map sv) x.D ++ ([] ++ L)))) (fun x => Dd 1 (0 + f.length + 1) x.c ([] ++ f.map sv ++ [sv z]) x.B ∧ Dd 1 (0 + t.length) x.e ([] ++ t.map sv) x.D) ?_ ?_
    ·rintro ⟨b6, b14, b16, b20, B, c, D, e⟩ ⟨h1, h2⟩
     try simp only at h1
     try simp only at h2
     refine Fg 20 rfl Af rfl rfl rfl Ac Ac Ac Ad Ad Ac .free rfl (.inr Au) ?_; intro b20; refine Bn (fun w h => Mem.ins4 (A := [(b20, _)]) (B := A2 _ _ B) (C := [(b14, _)]) (D := A2 _ _ D) h) (C7 ?_ (k4111 ⟨b6, b14, b16, b20, B, c, D, e⟩ ⟨h1, h2⟩))
     exact ⟨rfl, rfl, rfl, rfl, rfl, rfl, rfl, rfl, rfl, rfl, rfl, rfl, trivial⟩
    ·intro k4110
     refine Eg (X := Pc) 6 #[true, true, true, true, true, true, true, true, true, true, true, true, true, true, true, false, true, true, false, true, true, false, true, false, false, false] (fun x => [(75, Bm (0 + f.length) x.c x.B), (81, .slice (some ⟨x.b14, 0, none⟩) 1 1), (83, .slice (some ⟨x.b16, 0, none⟩) 0 0), (87, .slice (some ⟨x.b20, 0, none⟩) 1 1)]) (fun x L => A2 9 ([] ++ f.map sv) x.B ++ ([(x.b14, .cells [sv z].toArray 9 (0, 0))] ++ ([(x.b16, .cells [].toArray 9 (0, 0))] ++ ([(x.b20, .cells [sv n1].toArray 9 (0, 0))] ++ L)))) (fun x => Dd 1 (0 + f.length) x.c ([] ++ f.map sv) x.B) ?_ ?_
     ·rintro ⟨b6, b14, b16, b20, B, c, D, e⟩ h1
      try simp only at h1
      refine Cg 15 (B := B) (xs := [] ++ f.map sv) (ys := [sv z]) (m := 0 + f.length) (c := c) rfl Af rfl Av Ac rfl rfl h1 (fun _ h => h) Ac (fun a ha => by cases ha; exact Bw (List.mem_append_left _ (List.mem_singleton.2 rfl)) Ac) Ae Ac Ad Aa Ad .free rfl (fun _ => .inr Au) ?_; intro B c h1; refine Bn (fun w h => h) (C7 ?_ (k3111 ⟨b6, b14, b16, b20, B, c, D, e⟩ h1))
      exact ⟨rfl, rfl, rfl, rfl, rfl, rfl, rfl, rfl, rfl, rfl, rfl, rfl, trivial⟩
     ·intro k2111; refine Eg (X := Pc) 6 #[true, true, true, true, true, true, true, true, true, true, true, true, true, true, true, true, false, true, false, true, true, false, true, false, false, false] (fun x => [(82, Bm (0 + f.length + 1) x.c x.B), (87, .slice (some ⟨x.b20, 0, none⟩) 1 1)]) (fun x L => A2 9 ([] ++ f.map sv ++ [sv z]) x.B ++ ([(x.b14, .cells [sv z].toArray 9 (0, 0))] ++ ([] ++ ([(x.b20, .cells [sv n1].toArray 9 (0, 0))] ++ L)))) (fun x => Dd 1 (0 + f.length + 1) x.c ([] ++ f.map sv ++ [sv z]) x.B) ?_ ?_
      ·rintro ⟨b6, b14, b16, b20, B, c, D, e⟩ h1
       try simp only at h1
       refine Ib 16 rfl Af rfl .free rfl (.inr Au) ?_; intro b16; refine Bn (fun w h => Mem.ins3 (A := [(b16, _)]) (B := A2 _ _ B) (C := [(b14, _)]) h) (C7 ?_ (k3111 ⟨b6, b14, b16, b20, B, c, D, e⟩ h1))
       exact ⟨rfl, rfl, rfl, rfl, rfl, rfl, rfl, rfl, rfl, rfl, rfl, rfl, trivial⟩
      ·intro k3101; refine Eg (X := Pc) 6 #[true, true, true, true, true, true, true, true, true, true, true, true, true, true, true, true, true, true, false, true, false, false, true, false, false, false] (fun x => [(82, Bm (0 + f.length + 1) x.c x.B), (83, .slice (some ⟨x.b16, 0, none⟩) 0 0)]) (fun x L => A2 9 ([] ++ f.map sv ++ [sv z]) x.B ++ ([(x.b14, .cells [sv z].toArray 9 (0, 0))] ++ ([(x.b16, .cells [].toArray 9 (0, 0))] ++ ([] ++ L)))) (fun x => Dd 1 (0 + f.length + 1) x.c ([] ++ f.map sv ++ [sv z]) x.B) ?_ ?_
       ·rintro ⟨b6, b14, b16, b20, B, c, D, e⟩ h1
        try simp only at h1
        refine Gd 18 20 Af ?_ ?_
        ·skip
         refine Gg 18 (B := some (b16, [])) (xs := []) (ys := t.map sv) (m := 0) (c := 0) rfl rfl Av Ac rfl rfl ⟨rfl, Nat.le_refl _, rfl⟩ (fun _ h => Mem.seg3 (B := [(b14, _)]) (C := [(b16, _)]) h) Ae hto.reads hto.none (Cn t) Ad Aa Ad .free rfl (fun _ => .inr Au) ?_; intro D e h2; refine Bn (fun w h => Mem.ins3 (A := A2 _ _ D) (B := A2 _ _ B) (C := [(b14, _)]) h) (C7 ?_ (k4110 ⟨b6, b14, b16, b20, B, c, D, e⟩ ⟨h1, h2⟩))
         exact ⟨rfl, rfl, rfl, rfl, rfl, rfl, rfl, rfl, rfl, rfl, rfl, trivial⟩
        ·skip
         refine Ep 20 rfl rfl rfl rfl Ac Ac Ac Ad Ad Ac .free rfl (.inr Au) ?_; intro b20; refine Bn (fun w h => Mem.ins4 (A := [(b20, _)]) (B := A2 _ _ B) (C := [(b14, _)]) (D := [(b16, _)]) h) (C7 ?_ (k3111 ⟨b6, b14, b16, b20, B, c, D, e⟩ h1))
         exact ⟨rfl, rfl, rfl, rfl, rfl, rfl, rfl, rfl, rfl, rfl, rfl, rfl, trivial⟩
       ·intro k3110; refine Eg (X := Pc) 7 #[true, true, true, true, true, true, true, true, false, true, true, true, true, true, true, false, true, true, false, true, true, false, true, false, false, false] (fun x => [(73, .slice (some ⟨x.b6, 0, none⟩) 0 0), (81, .slice (some ⟨x.b14, 0, none⟩) 1 1), (83, .slice (some ⟨x.b16, 0, none⟩) 0 0), (87, .slice (some ⟨x.b20, 0, none⟩) 1 1)]) (fun x L => [(x.b6, .cells [].toArray 9 (0, 0))] ++ ([(x.b14, .cells [sv z].toArray 9 (0, 0))] ++ ([(x.b16, .cells [].toArray 9 (0, 0))] ++ ([(x.b20, .cells [sv n1].toArray 9 (0, 0))] ++ L)))) (fun x => True) ?_ ?_
        ·rintro ⟨b6, b14, b16, b20, B, c, D, e⟩ h1
         try simp only at h1
         refine Cg 8 (B := some (b6, [])) (xs := []) (ys := f.map sv) (m := 0) (c := 0) rfl Af rfl Av Ac rfl rfl ⟨rfl, Nat.le_refl _, rfl⟩ (fun _ h => h) Ae hfr.reads hfr.none (Cn f) Ad Aa Ad .free rfl (fun _ => .inr Au) ?_; intro B c h1; refine Bn (fun w h => h) (C7 ?_ (k2111 ⟨b6, b14, b16, b20, B, c, D, e⟩ h1))
         exact ⟨rfl, rfl, rfl, rfl, rfl, rfl, rfl, rfl, rfl, rfl, rfl, rfl, rfl, trivial⟩
        ·intro k1111; refine Eg (X := Pc) 7 #[true, true, true, true, true, true, true, true, true, true, true, true, true, true, false, false, true, true, false, true, true, false, true, false, false, false] (fun x => [(75, Bm (0 + f.length) x.c x.B), (83, .slice (some ⟨x.b16, 0, none⟩) 0 0), (87, .slice (some ⟨x.b20, 0, none⟩) 1 1)]) (fun x L => A2 9 ([] ++ f.map sv) x.B ++ ([] ++ ([(x.b16, .cells [].toArray 9 (0, 0))] ++ ([(x.b20, .cells [sv n1].toArray 9 (0, 0))] ++ L)))) (fun x => Dd 1 (0 + f.length) x.c ([] ++ f.map sv) x.B) ?_ ?_
         ·rintro ⟨b6, b14, b16, b20, B, c, D, e⟩ h1
          try simp only at h1
          refine Fg 14 rfl Af rfl rfl rfl Ac Ac Ac Ad Ad Ac .free rfl (.inr Au) ?_; intro b14; refine Bn (fun w h => Mem.seg2 (A := [(b14, _)]) (B := A2 _ _ B) h) (C7 ?_ (k2111 ⟨b6, b14, b16, b20, B, c, D, e⟩ h1))
          exact ⟨rfl, rfl, rfl, rfl, rfl, rfl, rfl, rfl, rfl, rfl, rfl, rfl, rfl, trivial⟩
         ·intro k2011; refine Eg (X := Pc) 7 #[true, true, true, true, true, true, true, true, true, true, true, true, true, true, true, false, false, true, false, true, true, false, true, false, false, false] (fun x => [(75, Bm (0 + f.length) x.c x.B), (81, .slice (some ⟨x.b14, 0, none⟩) 1 1), (87, .slice (some ⟨x.b20, 0, none⟩) 1 1)]) (fun x L => A2 9 ([] ++ f.map sv) x.B ++ ([(x.b14, .cells [sv z].toArray 9 (0, 0))] ++ ([] ++ ([(x.b20, .cells [sv n1].toArray 9 (0, 0))] ++ L)))) (fun x => Dd 1 (0 + f.length) x.c ([] ++ f.map sv) x.B) ?_ ?_
          ·rintro ⟨b6, b14, b16, b20, B, c, D, e⟩ h1
           try simp only at h1
           refine Gd 15 16 Af ?_ ?_
           ·skip
            refine Gg 15 (B := B) (xs := [] ++ f.map sv) (ys := [sv z]) (m := 0 + f.length) (c := c) rfl rfl Av Ac rfl rfl h1 (fun _ h => h) Ac (fun a ha => by cases ha; exact Bw (List.mem_append_left _ (List.mem_singleton.2 rfl)) Ac) Ae Ac Ad Aa Ad .free rfl (fun _ => .inr Au) ?_; intro B c h1; refine Bn (fun w h => h) (C7 ?_ (k3101 ⟨b6, b14, b16, b20, B, c, D, e⟩ h1))
            exact ⟨rfl, rfl, rfl, rfl, rfl, rfl, rfl, rfl, rfl, rfl, rfl, trivial⟩
           ·skip
            refine Fk 16 rfl rfl .free rfl (.inr Au) ?_; intro b16; refine Bn (fun w h => Mem.ins3 (A := [(b16, _)]) (B := A2 _ _ B) (C := [(b14, _)]) h) (C7 ?_ (k2111 ⟨b6, b14, b16, b20, B, c, D, e⟩ h1))
            exact ⟨rfl, rfl, rfl, rfl, rfl, rfl, rfl, rfl, rfl, rfl, rfl, rfl, rfl, trivial⟩
          ·intro k2101; refine Eg (X := Pc) 7 #[true, true, true, true, true, true, true, true, true, true, true, true, true, true, true, false, true, true, false, true, false, false, true, false, false, false] (fun x => [(75, Bm (0 + f.length) x.c x.B), (81, .slice (some ⟨x.b14, 0, none⟩) 1 1), (83, .slice (some ⟨x.b16, 0, none⟩) 0 0)]) (fun x L => A2 9 ([] ++ f.map sv) x.B ++ ([(x.b14, .cells [sv z].toArray 9 (0, 0))] ++ ([(x.b16, .cells [].toArray 9 (0, 0))] ++ ([] ++ L)))) (fun x => Dd 1 (0 + f.length) x.c ([] ++ f.map sv) x.B) ?_ ?_
           ·rintro ⟨b6, b14, b16, b20, B, c, D, e⟩ h1
            try simp only at h1
            refine Gd 15 20 Af ?_ ?_
            ·skip
             refine Gg 15 (B := B) (xs := [] ++ f.map sv) (ys := [sv z]) (m := 0 + f.length) (c := c) rfl rfl Av Ac rfl rfl h1 (fun _ h => h) Ac (fun a ha => by cases ha; exact Bw (List.mem_append_left _ (List.mem_singleton.2 rfl)) Ac) Ae Ac Ad Aa Ad .free rfl (fun _ => .inr Au) ?_; intro B c h1; refine Bn (fun w h => h) (C7 ?_ (k3110 ⟨b6, b14, b16, b20, B, c, D, e⟩ h1))
             exact ⟨rfl, rfl, rfl, rfl, rfl, rfl, rfl, rfl, rfl, rfl, rfl, trivial⟩
            ·skip
             refine Ep 20 rfl rfl rfl rfl Ac Ac Ac Ad Ad Ac .free rfl (.inr Au) ?_; intro b20; refine Bn (fun w h => Mem.ins4 (A := [(b20, _)]) (B := A2 _ _ B) (C := [(b14, _)]) (D := [(b16, _)]) h) (C7 ?_ (k2111 ⟨b6, b14, b16, b20, B, c, D, e⟩ h1))
             exact ⟨rfl, rfl, rfl, rfl, rfl, rfl, rfl, rfl, rfl, rfl, rfl, rfl, rfl, trivial⟩
           ·intro k2110; refine Eg (X := Pc) 7 #[true, true, true, true, true, true, true, true, true, true, true, true, true, true, true, true, false, true, false, true, false, false, true, false, false, false] (fun x => [(82, Bm (0 + f.length + 1) x.c x.B)]) (fun x L => A2 9 ([] ++ f.map sv ++ [sv z]) x.B ++ ([(x.b14, .cells [sv z].toArray 9 (0, 0))] ++ ([] ++ ([] ++ L)))) (fun x => Dd 1 (0 + f.length + 1) x.c ([] ++ f.map sv ++ [sv z]) x.B) ?_ ?_
            ·rintro ⟨b6, b14, b16, b20, B, c, D, e⟩ h1
             try simp only at h1
             refine Gd 16 20 Af ?_ ?_
             ·skip
              refine Fk 16 rfl rfl .free rfl (.inr Au) ?_; intro b16; refine Bn (fun w h => Mem.ins3 (A := [(b16, _)]) (B := A2 _ _ B) (C := [(b14, _)]) h) (C7 ?_ (k3110 ⟨b6, b14, b16, b20, B, c, D, e⟩ h1))
              exact ⟨rfl, rfl, rfl, rfl, rfl, rfl, rfl, rfl, rfl, rfl, rfl, trivial⟩
             ·skip
              refine Ep 20 rfl rfl rfl rfl Ac Ac Ac Ad Ad Ac .free rfl (.inr Au) ?_; intro b20; refine Bn (fun w h => Mem.ins4 (A := [(b20, _)]) (B := A2 _ _ B) (C := [(b14, _)]) (D := []) h) (C7 ?_ (k3101 ⟨b6, b14, b16, b20, B, c, D, e⟩ h1))
              exact ⟨rfl, rfl, rfl, rfl, rfl, rfl, rfl, rfl, rfl, rfl, rfl, trivial⟩
            ·intro k3100; refine Eg (X := Pc) 8 #[true, true, true, true, true, true, false, true, false, true, true, true, true, true, true, false, true, true, false, true, true, false, true, false, false, false] (fun x => [(81, .slice (some ⟨x.b14, 0, none⟩) 1 1), (83, .slice (some ⟨x.b16, 0, none⟩) 0 0), (87, .slice (some ⟨x.b20, 0, none⟩) 1 1)]) (fun x L => [] ++ ([(x.b14, .cells [sv z].toArray 9 (0, 0))] ++ ([(x.b16, .cells [].toArray 9 (0, 0))] ++ ([(x.b20, .cells [sv n1].toArray 9 (0, 0))] ++ L)))) (fun x => True) ?_ ?_
             ·rintro ⟨b6, b14, b16, b20, B, c, D, e⟩ h1
              try simp only at h1
              refine Ib 6 rfl Af rfl .free rfl (.inr Au) ?_; intro b6; refine Bn (fun w h => h) (C7 ?_ (k1111 ⟨b6, b14, b16, b20, B, c, D, e⟩ trivial))
              exact ⟨rfl, rfl, rfl, rfl, rfl, rfl, rfl, rfl, rfl, rfl, rfl, rfl, rfl, trivial⟩
             ·intro k0111; refine Eg (X := Pc) 8 #[true, true, true, true, true, true, true, true, false, true, true, true, true, true, false, false, true, true, false, true, true, false, true, false, false, false] (fun x => [(73, .slice (some ⟨x.b6, 0, none⟩) 0 0), (83, .slice (some ⟨x.b16, 0, none⟩) 0 0), (87, .slice (some ⟨x.b20, 0, none⟩) 1 1)]) (fun x L => [(x.b6, .cells [].toArray 9 (0, 0))] ++ ([] ++ ([(x.b16, .cells [].toArray 9 (0, 0))] ++ ([(x.b20, .cells [sv n1].toArray 9 (0, 0))] ++ L)))) (fun x => True) ?_ ?_
              ·rintro ⟨b6, b14, b16, b20, B, c, D, e⟩ h1
               try simp only at h1
               refine Gd 8 14 Af ?_ ?_
               ·skip
                refine Gg 8 (B := some (b6, [])) (xs := []) (ys := f.map sv) (m := 0) (c := 0) rfl rfl Av Ac rfl rfl ⟨rfl, Nat.le_refl _, rfl⟩ (fun _ h => h) Ae hfr.reads hfr.none (Cn f) Ad Aa Ad .free rfl (fun _ => .inr Au) ?_; intro B c h1; refine Bn (fun w h => h) (C7 ?_ (k2011 ⟨b6, b14, b16, b20, B, c, D, e⟩ h1))
                exact ⟨rfl, rfl, rfl, rfl, rfl, rfl, rfl, rfl, rfl, rfl, rfl, rfl, trivial⟩
               ·skip
                refine Ep 14 rfl rfl rfl rfl Ac Ac Ac Ad Ad Ac .free rfl (.inr Au) ?_; intro b14; refine Bn (fun w h => Mem.seg2 (A := [(b14, _)]) (B := [(b6, _)]) h) (C7 ?_ (k1111 ⟨b6, b14, b16, b20, B, c, D, e⟩ trivial))
                exact ⟨rfl, rfl, rfl, rfl, rfl, rfl, rfl, rfl, rfl, rfl, rfl, rfl, rfl, trivial⟩
              ·intro k1011; refine Eg (X := Pc) 8 #[true, true, true, true, true, true, true, true, false, true, true, true, true, true, true, false, false, true, false, true, true, false, true, false, false, false] (fun x => [(73, .slice (some ⟨x.b6, 0, none⟩) 0 0), (81, .slice (some ⟨x.b14, 0, none⟩) 1 1), (87, .slice (some ⟨x.b20, 0, none⟩) 1 1)]) (fun x L => [(x.b6, .cells [].toArray 9 (0, 0))] ++ ([(x.b14, .cells [sv z].toArray 9 (0, 0))] ++ ([] ++ ([(x.b20, .cells [sv n1].toArray 9 (0, 0))] ++ L)))) (fun x => True) ?_ ?_
               ·rintro ⟨b6, b14, b16, b20, B, c, D, e⟩ h1
                try simp only at h1
                refine Gd 8 16 Af ?_ ?_
                ·skip
                 refine Gg 8 (B := some (b6, [])) (xs := []) (ys := f.map sv) (m := 0) (c := 0) rfl rfl Av Ac rfl rfl ⟨rfl, Nat.le_refl _, rfl⟩ (fun _ h => h) Ae hfr.reads hfr.none (Cn f) Ad Aa Ad .free rfl (fun _ => .inr Au) ?_; intro B c h1; refine Bn (fun w h => h) (C7 ?_ (k2101 ⟨b6, b14, b16, b20, B, c, D, e⟩ h1))
                 exact ⟨rfl, rfl, rfl, rfl, rfl, rfl, rfl, rfl, rfl, rfl, rfl, rfl, trivial⟩
                ·skip
                 refine Fk 16 rfl rfl .free rfl (.inr Au) ?_; intro b16; refine Bn (fun w h => Mem.ins3 (A := [(b16, _)]) (B := [(b6, _)]) (C := [(b14, _)]) h) (C7 ?_ (k1111 ⟨b6, b14, b16, b20, B, c, D, e⟩ trivial))
                 exact ⟨rfl, rfl, rfl, rfl, rfl, rfl, rfl, rfl, rfl, rfl, rfl, rfl, rfl, trivial⟩
               ·intro k1101; refine Eg (X := Pc) 8 #[true, true, true, true, true, true, true, true, false, true, true, true, true, true, true, false, true, true, false, true, false, false, true, false, false, false] (fun x => [(73, .slice (some ⟨x.b6, 0, none⟩) 0 0), (81, .slice (some ⟨x.b14, 0, none⟩) 1 1), (83, .slice (some ⟨x.b16, 0, none⟩) 0 0)]) (fun x L => [(x.b6, .cells [].toArray 9 (0, 0))] ++ ([(x.b14, .cells [sv z].toArray 9 (0, 0))] ++ ([(x.b16, .cells [].toArray 9 (0, 0))] ++ ([] ++ L)))) (fun x => True) ?_ ?_
                ·rintro ⟨b6, b14, b16, b20, B, c, D, e⟩ h1
                 try simp only at h1
                 refine Gd 8 20 Af ?_ ?_
                 ·skip
                  refine Gg 8 (B := some (b6, [])) (xs := []) (ys := f.map sv) (m := 0) (c := 0) rfl rfl Av Ac rfl rfl ⟨rfl, Nat.le_refl _, rfl⟩ (fun _ h => h) Ae hfr.reads hfr.none (Cn f) Ad Aa Ad .free rfl (fun _ => .inr Au) ?_; intro B c h1; refine Bn (fun w h => h) (C7 ?_ (k2110 ⟨b6, b14, b16, b20, B, c, D, e⟩ h1))
                  exact ⟨rfl, rfl, rfl, rfl, rfl, rfl, rfl, rfl, rfl, rfl, rfl, rfl, trivial⟩
                 ·skip
                  refine Ep 20 rfl rfl rfl rfl Ac Ac Ac Ad Ad Ac .free rfl (.inr Au) ?_; intro b20; refine Bn (fun w h => Mem.ins4 (A := [(b20, _)]) (B := [(b6, _)]) (C := [(b14, _)]) (D := [(b16, _)]) h) (C7 ?_ (k1111 ⟨b6, b14, b16, b20, B, c, D, e⟩ trivial))
                  exact ⟨rfl, rfl, rfl, rfl, rfl, rfl, rfl, rfl, rfl, rfl, rfl, rfl, rfl, trivial⟩
                ·intro k1110; refine Eg (X := Pc) 8 #[true, true, true, true, true, true, true, true, true, true, true, true, true, true, false, false, false, true, false, true, true, false, true, false, false, false] (fun x => [(75, Bm (0 + f.length) x.c x.B), (87, .slice (some ⟨x.b20, 0, none⟩) 1 1)]) (fun x L => A2 9 ([] ++ f.map sv) x.B ++ ([] ++ ([] ++ ([(x.b20, .cells [sv n1].toArray 9 (0, 0))] ++ L)))) (fun x => Dd 1 (0 + f.length) x.c ([] ++ f.map sv) x.B) ?_ ?_
                 ·rintro ⟨b6, b14, b16, b20, B, c, D, e⟩ h1
                  try simp only at h1
                  refine Gd 14 16 Af ?_ ?_
                  ·skip
                   refine Ep 14 rfl rfl rfl rfl Ac Ac Ac Ad Ad Ac .free rfl (.inr Au) ?_; intro b14; refine Bn (fun w h => Mem.seg2 (A := [(b14, _)]) (B := A2 _ _ B) h) (C7 ?_ (k2101 ⟨b6, b14, b16, b20, B, c, D, e⟩ h1))
                   exact ⟨rfl, rfl, rfl, rfl, rfl, rfl, rfl, rfl, rfl, rfl, rfl, rfl, trivial⟩
                  ·skip
                   refine Fk 16 rfl rfl .free rfl (.inr Au) ?_; intro b16; refine Bn (fun w h => Mem.ins3 (A := [(b16, _)]) (B := A2 _ _ B) (C := []) h) (C7 ?_ (k2011 ⟨b6, b14, b16, b20, B, c, D, e⟩ h1))
                   exact ⟨rfl, rfl, rfl, rfl, rfl, rfl, rfl, rfl, rfl, rfl, rfl, rfl, trivial⟩
                 ·intro k2001; refine Eg (X := Pc) 8 #[true, true, true, true, true, true, true, true, true, true, true, true, true, true, false, false, true, true, false, true, false, false, true, false, false, false] (fun x => [(75, Bm (0 + f.length) x.c x.B), (83, .slice (some ⟨x.b16, 0, none⟩) 0 0)]) (fun x L => A2 9 ([] ++ f.map sv) x.B ++ ([] ++ ([(x.b16, .cells [].toArray 9 (0, 0))] ++ ([] ++ L)))) (fun x => Dd 1 (0 + f.length) x.c ([] ++ f.map sv) x.B) ?_ ?_
                  ·rintro ⟨b6, b14, b16, b20, B, c, D, e⟩ h1
                   try simp only at h1
                   refine Gd 14 20 Af ?_ ?_
                   ·skip
                    refine Ep 14 rfl rfl rfl rfl Ac Ac Ac Ad Ad Ac .free rfl (.inr Au) ?_; intro b14; refine Bn (fun w h => Mem.seg2 (A := [(b14, _)]) (B := A2 _ _ B) h) (C7 ?_ (k2110 ⟨b6, b14, b16, b20, B, c, D, e⟩ h1))
                    exact ⟨rfl, rfl, rfl, rfl, rfl, rfl, rfl, rfl, rfl, rfl, rfl, rfl, trivial⟩
                   ·skip
                    refine Ep 20 rfl rfl rfl rfl Ac Ac Ac Ad Ad Ac .free rfl (.inr Au) ?_; intro b20; refine Bn (fun w h => Mem.ins4 (A := [(b20, _)]) (B := A2 _ _ B) (C := []) (D := [(b16, _)]) h) (C7 ?_ (k2011 ⟨b6, b14, b16, b20, B, c, D, e⟩ h1))
                    exact ⟨rfl, rfl, rfl, rfl, rfl, rfl, rfl, rfl, rfl, rfl, rfl, rfl, trivial⟩
                  ·intro k2010; refine Eg (X := Pc) 8 #[true, true, true, true, true, true, true, true, true, true, true, true, true, true, true, false, false, true, false, true, false, false, true, false, false, false] (fun x => [(75, Bm (0 + f.length) x.c x.B), (81, .slice (some ⟨x.b14, 0, none⟩) 1 1)]) (fun x L => A2 9 ([] ++ f.map sv) x.B ++ ([(x.b14, .cells [sv z].toArray 9 (0, 0))] ++ ([] ++ ([] ++ L)))) (fun x => Dd 1 (0 + f.length) x.c ([] ++ f.map sv) x.B) ?_ ?_
                   ·rintro ⟨b6, b14, b16, b20, B, c, D, e⟩ h1
                    try simp only at h1
                    refine K4 15 16 20 Af ?_ ?_ ?_
                    ·skip
                     refine Gg 15 (B := B) (xs := [] ++ f.map sv) (ys := [sv z]) (m := 0 + f.length) (c := c) rfl rfl Av Ac rfl rfl h1 (fun _ h => h) Ac (fun a ha => by cases ha; exact Bw (List.mem_append_left _ (List.mem_singleton.2 rfl)) Ac) Ae Ac Ad Aa Ad .free rfl (fun _ => .inr Au) ?_; intro B c h1; refine Bn (fun w h => h) (C7 ?_ (k3100 ⟨b6, b14, b16, b20, B, c, D, e⟩ h1))
                     exact ⟨rfl, rfl, rfl, rfl, rfl, rfl, rfl, rfl, rfl, rfl, trivial⟩
                    ·skip
                     refine Fk 16 rfl rfl .free rfl (.inr Au) ?_; intro b16; refine Bn (fun w h => Mem.ins3 (A := [(b16, _)]) (B := A2 _ _ B) (C := [(b14, _)]) h) (C7 ?_ (k2110 ⟨b6, b14, b16, b20, B, c, D, e⟩ h1))
                     exact ⟨rfl, rfl, rfl, rfl, rfl, rfl, rfl, rfl, rfl, rfl, rfl, rfl, trivial⟩
                    ·skip
                     refine Ep 20 rfl rfl rfl rfl Ac Ac Ac Ad Ad Ac .free rfl (.inr Au) ?_; intro b20; refine Bn (fun w h => Mem.ins4 (A := [(b20, _)]) (B := A2 _ _ B) (C := [(b14, _)]) (D := []) h) (C7 ?_ (k2101 ⟨b6, b14, b16, b20, B, c, D, e⟩ h1))
                     exact ⟨rfl, rfl, rfl, rfl, rfl, rfl, rfl, rfl, rfl, rfl, rfl, rfl, trivial⟩
                   ·intro k2100; refine Eg (X := Pc) 9 #[true, true, true, true, true, true, false, true, false, true, true, true, true, true, false, false, true, true, false, true, true, false, true, false, false, false] (fun x => [(83, .slice (some ⟨x.b16, 0, none⟩) 0 0), (87, .slice (some ⟨x.b20, 0, none⟩) 1 1)]) (fun x L => [] ++ ([] ++ ([(x.b16, .cells [].toArray 9 (0, 0))] ++ ([(x.b20, .cells [sv n1].toArray 9 (0, 0))] ++ L)))) (fun x => True) ?_ ?_
                    ·rintro ⟨b6, b14, b16, b20, B, c, D, e⟩ h1
                     try simp only at h1
                     refine Gd 6 14 Af ?_ ?_
                     ·skip
                      refine Fk 6 rfl rfl .free rfl (.inr Au) ?_; intro b6; refine Bn (fun w h => h) (C7 ?_ (k1011 ⟨b6, b14, b16, b20, B, c, D, e⟩ trivial))
                      exact ⟨rfl, rfl, rfl, rfl, rfl, rfl, rfl, rfl, rfl, rfl, rfl, rfl, trivial⟩
                     ·skip
                      refine Ep 14 rfl rfl rfl rfl Ac Ac Ac Ad Ad Ac .free rfl (.inr Au) ?_; intro b14; refine Bn (fun w h => Mem.seg2 (A := [(b14, _)]) (B := []) h) (C7 ?_ (k0111 ⟨b6, b14, b16, b20, B, c, D, e⟩ trivial))
                      exact ⟨rfl, rfl, rfl, rfl, rfl, rfl, rfl, rfl, rfl, rfl, rfl, rfl, trivial⟩
                    ·intro k0011; refine Eg (X := Pc) 9 #[true, true, true, true, true, true, false, true, false, true, true, true, true, true, true, false, false, true, false, true, true, false, true, false, false, false] (fun x => [(81, .slice (some ⟨x.b14, 0, none⟩) 1 1), (87, .slice (some ⟨x.b20, 0, none⟩) 1 1)]) (fun x L => [] ++ ([(x.b14, .cells [sv z].toArray 9 (0, 0))] ++ ([] ++ ([(x.b20, .cells [sv n1].toArray 9 (0, 0))] ++ L)))) (fun x => True) ?_ ?_
                     ·rintro ⟨b6, b14, b16, b20, B, c, D, e⟩ h1
                      try simp only at h1
                      refine Gd 6 16 Af ?_ ?_
                      ·skip
                       refine Fk 6 rfl rfl .free rfl (.inr Au) ?_; intro b6; refine Bn (fun w h => h) (C7 ?_ (k1101 ⟨b6, b14, b16, b20, B, c, D, e⟩ trivial))
                       exact ⟨rfl, rfl, rfl, rfl, rfl, rfl, rfl, rfl, rfl, rfl, rfl, rfl, trivial⟩
                      ·skip
                       refine Fk 16 rfl rfl .free rfl (.inr Au) ?_; intro b16; refine Bn (fun w h => Mem.ins3 (A := [(b16, _)]) (B := []) (C := [(b14, _)]) h) (C7 ?_ (k0111 ⟨b6, b14, b16, b20, B, c, D, e⟩ trivial))
                       exact ⟨rfl, rfl, rfl, rfl, rfl, rfl, rfl, rfl, rfl, rfl, rfl, rfl, trivial⟩
                     ·intro k0101; refine Eg (X := Pc) 9 #[true, true, true, true, true, true, false, true, false, true, true, true, true, true, true, false, true, true, false, true, false, false, true, false, false, false] (fun x => [(81, .slice (some ⟨x.b14, 0, none⟩) 1 1), (83, .slice (some ⟨x.b16, 0, none⟩) 0 0)]) (fun x L => [] ++ ([(x.b14, .cells [sv z].toArray 9 (0, 0))] ++ ([(x.b16, .cells [].toArray 9 (0, 0))] ++ ([] ++ L)))) (fun x => True) ?_ ?_
                      ·rintro ⟨b6, b14, b16, b20, B, c, D, e⟩ h1
                       try simp only at h1
                       refine Gd 6 20 Af ?_ ?_
                       ·skip
                        refine Fk 6 rfl rfl .free rfl (.inr Au) ?_; intro b6; refine Bn (fun w h => h) (C7 ?_ (k1110 ⟨b6, b14, b16, b20, B, c, D, e⟩ trivial))
                        exact ⟨rfl, rfl, rfl, rfl, rfl, rfl, rfl, rfl, rfl, rfl, rfl, rfl, trivial⟩
                       ·skip
                        refine Ep 20 rfl rfl rfl rfl Ac Ac Ac Ad Ad Ac .free rfl (.inr Au) ?_; intro b20; refine Bn (fun w h => Mem.ins4 (A := [(b20, _)]) (B := []) (C := [(b14, _)]) (D := [(b16, _)]) h) (C7 ?_ (k0111 ⟨b6, b14, b16, b20, B, c, D, e⟩ trivial))
                        exact ⟨rfl, rfl, rfl, rfl, rfl, rfl, rfl, rfl, rfl, rfl, rfl, rfl, trivial⟩
                      ·intro k0110; refine Eg (X := Pc) 9 #[true, true, true, true, true, true, true, true, false, true, true, true, true, true, false, false, false, true, false, true, true, false, true, false, false, false] (fun x => [(73, .slice (some ⟨x.b6, 0, none⟩) 0 0), (87, .slice (some ⟨x.b20, 0, none⟩) 1 1)]) (fun x L => [(x.b6, .cells [].toArray 9 (0, 0))] ++ ([] ++ ([] ++ ([(x.b20, .cells [sv n1].toArray 9 (0, 0))] ++ L)))) (fun x => True) ?_ ?_
                       ·rintro ⟨b6, b14, b16, b20, B, c, D, e⟩ h1
                        try simp only at h1
                        refine K4 8 14 16 Af ?_ ?_ ?_
                        ·skip
                         refine Gg 8 (B := some (b6, [])) (xs := []) (ys := f.map sv) (m := 0) (c := 0) rfl rfl Av Ac rfl rfl ⟨rfl, Nat.le_refl _, rfl⟩ (fun _ h => h) Ae hfr.reads hfr.none (Cn f) Ad Aa Ad .free rfl (fun _ => .inr Au) ?_; intro B c h1; refine Bn (fun w h => h) (C7 ?_ (k2001 ⟨b6, b14, b16, b20, B, c, D, e⟩ h1))
                         exact ⟨rfl, rfl, rfl, rfl, rfl, rfl, rfl, rfl, rfl, rfl, rfl, trivial⟩
                        ·skip
                         refine Ep 14 rfl rfl rfl rfl Ac Ac Ac Ad Ad Ac .free rfl (.inr Au) ?_; intro b14; refine Bn (fun w h => Mem.seg2 (A := [(b14, _)]) (B := [(b6, _)]) h) (C7 ?_ (k1101 ⟨b6, b14, b16, b20, B, c, D, e⟩ trivial))
                         exact ⟨rfl, rfl, rfl, rfl, rfl, rfl, rfl, rfl, rfl, rfl, rfl, rfl, trivial⟩
                        ·skip
                         refine Fk 16 rfl rfl .free rfl (.inr Au) ?_; intro b16; refine Bn (fun w h => Mem.ins3 (A := [(b16, _)]) (B := [(b6, _)]) (C := []) h) (C7 ?_ (k1011 ⟨b6, b14, b16, b20, B, c, D, e⟩ trivial))
                         exact ⟨rfl, rfl, rfl, rfl, rfl, rfl, rfl, rfl, rfl, rfl, rfl, rfl, trivial⟩
                       ·intro k1001; refine Eg (X := Pc) 9 #[true, true, true, true, true, true, true, true, false, true, true, true, true, true, false, false, true, true, false, true, false, false, true, false, false, false] (fun x => [(73, .slice (some ⟨x.b6, 0, none⟩) 0 0), (83, .slice (some ⟨x.b16, 0, none⟩) 0 0)]) (fun x L => [(x.b6, .cells [].toArray 9 (0, 0))] ++ ([] ++ ([(x.b16, .cells [].toArray 9 (0, 0))] ++ ([] ++ L)))) (fun x => True) ?_ ?_
                        ·rintro ⟨b6, b14, b16, b20, B, c, D, e⟩ h1
                         try simp only at h1
                         refine K4 8 14 20 Af ?_ ?_ ?_
                         ·skip
                          refine Gg 8 (B := some (b6, [])) (xs := []) (ys := f.map sv) (m := 0) (c := 0) rfl rfl Av Ac rfl rfl ⟨rfl, Nat.le_refl _, rfl⟩ (fun _ h => h) Ae hfr.reads hfr.none (Cn f) Ad Aa Ad .free rfl (fun _ => .inr Au) ?_; intro B c h1; refine Bn (fun w h => h) (C7 ?_ (k2010 ⟨b6, b14, b16, b20, B, c, D, e⟩ h1))
                          exact ⟨rfl, rfl, rfl, rfl, rfl, rfl, rfl, rfl, rfl, rfl, rfl, trivial⟩
                         ·skip
                          refine Ep 14 rfl rfl rfl rfl Ac Ac Ac Ad Ad Ac .free rfl (.inr Au) ?_; intro b14; refine Bn (fun w h => Mem.seg2 (A := [(b14, _)]) (B := [(b6, _)]) h) (C7 ?_ (k1110 ⟨b6, b14, b16, b20, B, c, D, e⟩ trivial))
                          exact ⟨rfl, rfl, rfl, rfl, rfl, rfl, rfl, rfl, rfl, rfl, rfl, rfl, trivial⟩
                         ·skip
                          refine Ep 20 rfl rfl rfl rfl Ac Ac Ac Ad Ad Ac .free rfl (.inr Au) ?_; intro b20; refine Bn (fun w h => Mem.ins4 (A := [(b20, _)]) (B := [(b6, _)]) (C := []) (D := [(b16, _)]) h) (C7 ?_ (k1011 ⟨b6, b14, b16, b20, B, c, D, e⟩ trivial))
                          exact ⟨rfl, rfl, rfl, rfl, rfl, rfl, rfl, rfl, rfl, rfl, rfl, rfl, trivial⟩
                        ·intro k1010; refine Eg (X := Pc) 9 #[true, true, true, true, true, true, true, true, false, true, true, true, true, true, true, false, false, true, false, true, false, false, true, false, false, false] (fun x => [(73, .slice (some ⟨x.b6, 0, none⟩) 0 0), (81, .slice (some ⟨x.b14, 0, none⟩) 1 1)]) (fun x L => [(x.b6, .cells [].toArray 9 (0, 0))] ++ ([(x.b14, .cells [sv z].toArray 9 (0, 0))] ++ ([] ++ ([] ++ L)))) (fun x => True) ?_ ?_
                         ·rintro ⟨b6, b14, b16, b20, B, c, D, e⟩ h1
                          try simp only at h1
                          refine K4 8 16 20 Af ?_ ?_ ?_
                          ·skip
                           refine Gg 8 (B := some (b6, [])) (xs := []) (ys := f.map sv) (m := 0) (c := 0) rfl rfl Av Ac rfl rfl ⟨rfl, Nat.le_refl _, rfl⟩ (fun _ h => h) Ae hfr.reads hfr.none (Cn f) Ad Aa Ad .free rfl (fun _ => .inr Au) ?_; intro B c h1; refine Bn (fun w h => h) (C7 ?_ (k2100 ⟨b6, b14, b16, b20, B, c, D, e⟩ h1))
                           exact ⟨rfl, rfl, rfl, rfl, rfl, rfl, rfl, rfl, rfl, rfl, rfl, trivial⟩
                          ·skip
                           refine Fk 16 rfl rfl .free rfl (.inr Au) ?_; intro b16; refine Bn (fun w h => Mem.ins3 (A := [(b16, _)]) (B := [(b6, _)]) (C := [(b14, _)]) h) (C7 ?_ (k1110 ⟨b6, b14, b16, b20, B, c, D, e⟩ trivial))
                           exact ⟨rfl, rfl, rfl, rfl, rfl, rfl, rfl, rfl, rfl, rfl, rfl, rfl, trivial⟩
                          ·skip
                           refine Ep 20 rfl rfl rfl rfl Ac Ac Ac Ad Ad Ac .free rfl (.inr Au) ?_; intro b20; refine Bn (fun w h => Mem.ins4 (A := [(b20, _)]) (B := [(b6, _)]) (C := [(b14, _)]) (D := []) h) (C7 ?_ (k1101 ⟨b6, b14, b16, b20, B, c, D, e⟩ trivial))
                           exact ⟨rfl, rfl, rfl, rfl, rfl, rfl, rfl, rfl, rfl, rfl, rfl, rfl, trivial⟩
                         ·intro k1100; refine Eg (X := Pc) 9 #[true, true, true, true, true, true, true, true, true, true, true, true, true, true, false, false, false, true, false, true, false, false, true, false, false, false] (fun x => [(75, Bm (0 + f.length) x.c x.B)]) (fun x L => A2 9 ([] ++ f.map sv) x.B ++ ([] ++ ([] ++ ([] ++ L)))) (fun x => Dd 1 (0 + f.length) x.c ([] ++ f.map sv) x.B) ?_ ?_
                          ·rintro ⟨b6, b14, b16, b20, B, c, D, e⟩ h1
                           try simp only at h1
                           refine K4 14 16 20 Af ?_ ?_ ?_
                           ·skip
                            refine Ep 14 rfl rfl rfl rfl Ac Ac Ac Ad Ad Ac .free rfl (.inr Au) ?_; intro b14; refine Bn (fun w h => Mem.seg2 (A := [(b14, _)]) (B := A2 _ _ B) h) (C7 ?_ (k2100 ⟨b6, b14, b16, b20, B, c, D, e⟩ h1))
                            exact ⟨rfl, rfl, rfl, rfl, rfl, rfl, rfl, rfl, rfl, rfl, rfl, trivial⟩
                           ·skip
                            refine Fk 16 rfl rfl .free rfl (.inr Au) ?_; intro b16; refine Bn (fun w h => Mem.ins3 (A := [(b16, _)]) (B := A2 _ _ B) (C := []) h) (C7 ?_ (k2010 ⟨b6, b14, b16, b20, B, c, D, e⟩ h1))
                            exact ⟨rfl, rfl, rfl, rfl, rfl, rfl, rfl, rfl, rfl, rfl, rfl, trivial⟩
                           ·skip
                            refine Ep 20 rfl rfl rfl rfl Ac Ac Ac Ad Ad Ac .free rfl (.inr Au) ?_; intro b20; refine Bn (fun w h => Mem.ins4 (A := [(b20, _)]) (B := A2 _ _ B) (C := []) (D := []) h) (C7 ?_ (k2001 ⟨b6, b14, b16, b20, B, c, D, e⟩ h1))
                            exact ⟨rfl, rfl, rfl, rfl, rfl, rfl, rfl, rfl, rfl, rfl, rfl, trivial⟩
                          ·intro k2000; refine Eg (X := Pc) 10 #[true, true, true, true, true, true, false, true, false, true, true, true, true, true, false, false, false, true, false, true, true, false, true, false, false, false] (fun x => [(87, .slice (some ⟨x.b20, 0, none⟩) 1 1)]) (fun x L => [] ++ ([] ++ ([] ++ ([(x.b20, .cells [sv n1].toArray 9 (0, 0))] ++ L)))) (fun x => True) ?_ ?_
                           ·rintro ⟨b6, b14, b16, b20, B, c, D, e⟩ h1
                            try simp only at h1
                            refine K4 6 14 16 Af ?_ ?_ ?_
                            ·skip
                             refine Fk 6 rfl rfl .free rfl (.inr Au) ?_; intro b6; refine Bn (fun w h => h) (C7 ?_ (k1001 ⟨b6, b14, b16, b20, B, c, D, e⟩ trivial))
                             exact ⟨rfl, rfl, rfl, rfl, rfl, rfl, rfl, rfl, rfl, rfl, rfl, trivial⟩
                            ·skip
                             refine Ep 14 rfl rfl rfl rfl Ac Ac Ac Ad Ad Ac .free rfl (.inr Au) ?_; intro b14; refine Bn (fun w h => Mem.seg2 (A := [(b14, _)]) (B := []) h) (C7 ?_ (k0101 ⟨b6, b14, b16, b20, B, c, D, e⟩ trivial))
                             exact ⟨rfl, rfl, rfl, rfl, rfl, rfl, rfl, rfl, rfl, rfl, rfl, trivial⟩
                            ·skip
                             refine Fk 16 rfl rfl .free rfl (.inr Au) ?_; intro b16; refine Bn (fun w h => Mem.ins3 (A := [(b16, _)]) (B := []) (C := []) h) (C7 ?_ (k0011 ⟨b6, b14, b16, b20, B, c, D, e⟩ trivial))
                             exact ⟨rfl, rfl, rfl, rfl, rfl, rfl, rfl, rfl, rfl, rfl, rfl, trivial⟩
                           ·intro k0001; refine Eg (X := Pc) 10 #[true, true, true, true, true, true, false, true, false, true, true, true, true, true, false, false, true, true, false, true, false, false, true, false, false, false] (fun x => [(83, .slice (some ⟨x.b16, 0, none⟩) 0 0)]) (fun x L => [] ++ ([] ++ ([(x.b16, .cells [].toArray 9 (0, 0))] ++ ([] ++ L)))) (fun x => True) ?_ ?_
                            ·rintro ⟨b6, b14, b16, b20, B, c, D, e⟩ h1
                             try simp only at h1
                             refine K4 6 14 20 Af ?_ ?_ ?_
                             ·skip
                              refine Fk 6 rfl rfl .free rfl (.inr Au) ?_; intro b6; refine Bn (fun w h => h) (C7 ?_ (k1010 ⟨b6, b14, b16, b20, B, c, D, e⟩ trivial))
                              exact ⟨rfl, rfl, rfl, rfl, rfl, rfl, rfl, rfl, rfl, rfl, rfl, trivial⟩
                             ·skip
                              refine Ep 14 rfl rfl rfl rfl Ac Ac Ac Ad Ad Ac .free rfl (.inr Au) ?_; intro b14; refine Bn (fun w h => Mem.seg2 (A := [(b14, _)]) (B := []) h) (C7 ?_ (k0110 ⟨b6, b14, b16, b20, B, c, D, e⟩ trivial))
                              exact ⟨rfl, rfl, rfl, rfl, rfl, rfl, rfl, rfl, rfl, rfl, rfl, trivial⟩
                             ·skip
                              refine Ep 20 rfl rfl rfl rfl Ac Ac Ac Ad Ad Ac .free rfl (.inr Au) ?_; intro b20; refine Bn (fun w h => Mem.ins4 (A := [(b20, _)]) (B := []) (C := []) (D := [(b16, _)]) h) (C7 ?_ (k0011 ⟨b6, b14, b16, b20, B, c, D, e⟩ trivial))
                              exact ⟨rfl, rfl, rfl, rfl, rfl, rfl, rfl, rfl, rfl, rfl, rfl, trivial⟩
                            ·intro k0010; refine Eg (X := Pc) 10 #[true, true, true, true, true, true, false, true, false, true, true, true, true, true, true, false, false, true, false, true, false, false, true, false, false, false] (fun x => [(81, .slice (some ⟨x.b14, 0, none⟩) 1 1)]) (fun x L => [] ++ ([(x.b14, .cells [sv z].toArray 9 (0, 0))] ++ ([] ++ ([] ++ L)))) (fun x => True) ?_ ?_
                             ·rintro ⟨b6, b14, b16, b20, B, c, D, e⟩ h1
                              try simp only at h1
                              refine K4 6 16 20 Af ?_ ?_ ?_
                              ·skip
                               refine Fk 6 rfl rfl .free rfl (.inr Au) ?_; intro b6; refine Bn (fun w h => h) (C7 ?_ (k1100 ⟨b6, b14, b16, b20, B, c, D, e⟩ trivial))
                               exact ⟨rfl, rfl, rfl, rfl, rfl, rfl, rfl, rfl, rfl, rfl, rfl, trivial⟩
                              ·skip
                               refine Fk 16 rfl rfl .free rfl (.inr Au) ?_; intro b16; refine Bn (fun w h => Mem.ins3 (A := [(b16, _)]) (B := []) (C := [(b14, _)]) h) (C7 ?_ (k0110 ⟨b6, b14, b16, b20, B, c, D, e⟩ trivial))
                               exact ⟨rfl, rfl, rfl, rfl, rfl, rfl, rfl, rfl, rfl, rfl, rfl, trivial⟩
                              ·skip
                               refine Ep 20 rfl rfl rfl rfl Ac Ac Ac Ad Ad Ac .free rfl (.inr Au) ?_; intro b20; refine Bn (fun w h => Mem.ins4 (A := [(b20, _)]) (B := []) (C := [(b14, _)]) (D := []) h) (C7 ?_ (k0101 ⟨b6, b14, b16, b20, B, c, D, e⟩ trivial))
                               exact ⟨rfl, rfl, rfl, rfl, rfl, rfl, rfl, rfl, rfl, rfl, rfl, trivial⟩
                             ·intro k0100; refine Eg (X := Pc) 10 #[true, true, true, true, true, true, true, true, false, true, true, true, true, true, false, false, false, true, false, true, false, false, true, false, false, false] (fun x => [(73, .slice (some ⟨x.b6, 0, none⟩) 0 0)]) (fun x L => [(x.b6, .cells [].toArray 9 (0, 0))] ++ ([] ++ ([] ++ ([] ++ L)))) (fun x => True) ?_ ?_
                              ·rintro ⟨b6, b14, b16, b20, B, c, D, e⟩ h1
                               try simp only at h1
                               refine Acy 8 14 16 20 Af ?_ ?_ ?_ ?_
                               ·skip
                                refine Gg 8 (B := some (b6, [])) (xs := []) (ys := f.map sv) (m := 0) (c := 0) rfl rfl Av Ac rfl rfl ⟨rfl, Nat.le_refl _, rfl⟩ (fun _ h => h) Ae hfr.reads hfr.none (Cn f) Ad Aa Ad .free rfl (fun _ => .inr Au) ?_; intro B c h1; refine Bn (fun w h => h) (C7 ?_ (k2000 ⟨b6, b14, b16, b20, B, c, D, e⟩ h1))
                                exact ⟨rfl, rfl, rfl, rfl, rfl, rfl, rfl, rfl, rfl, rfl, trivial⟩
                               ·skip
                                refine Ep 14 rfl rfl rfl rfl Ac Ac Ac Ad Ad Ac .free rfl (.inr Au) ?_; intro b14; refine Bn (fun w h => Mem.seg2 (A := [(b14, _)]) (B := [(b6, _)]) h) (C7 ?_ (k1100 ⟨b6, b14, b16, b20, B, c, D, e⟩ trivial))
                                exact ⟨rfl, rfl, rfl, rfl, rfl, rfl, rfl, rfl, rfl, rfl, rfl, trivial⟩
                               ·skip
                                refine Fk 16 rfl rfl .free rfl (.inr Au) ?_; intro b16; refine Bn (fun w h => Mem.ins3 (A := [(b16, _)]) (B := [(b6, _)]) (C := []) h) (C7 ?_ (k1010 ⟨b6, b14, b16, b20, B, c, D, e⟩ trivial))
                                exact ⟨rfl, rfl, rfl, rfl, rfl, rfl, rfl, rfl, rfl, rfl, rfl, trivial⟩
                               ·skip
                                refine Ep 20 rfl rfl rfl rfl Ac Ac Ac Ad Ad Ac .free rfl (.inr Au) ?_; intro b20; refine Bn (fun w h => Mem.ins4 (A := [(b20, _)]) (B := [(b6, _)]) (C := []) (D := []) h) (C7 ?_ (k1001 ⟨b6, b14, b16, b20, B, c, D, e⟩ trivial))
                                exact ⟨rfl, rfl, rfl, rfl, rfl, rfl, rfl, rfl, rfl, rfl, rfl, trivial⟩
                              ·intro k1000; refine Acy 6 14 16 20 Af ?_ ?_ ?_ ?_
                               ·skip
                                refine Fk 6 rfl rfl .free rfl (.inr Au) ?_; intro b6; refine Bn (fun w h => h) (C7 ?_ (k1000 ⟨b6, 0, 0, 0, none, 0, none, 0⟩ trivial))
                                exact ⟨rfl, rfl, rfl, rfl, rfl, rfl, rfl, rfl, rfl, rfl, trivial⟩
                               ·skip
                                refine Ep 14 rfl rfl rfl rfl Ac Ac Ac Ad Ad Ac .free rfl (.inr Au) ?_; intro b14; refine Bn (fun w h => Mem.seg2 (A := [(b14, _)]) (B := []) h) (C7 ?_ (k0100 ⟨0, b14, 0, 0, none, 0, none, 0⟩ trivial))
                                exact ⟨rfl, rfl, rfl, rfl, rfl, rfl, rfl, rfl, rfl, rfl, trivial⟩
                               ·skip
                                refine Fk 16 rfl rfl .free rfl (.inr Au) ?_; intro b16; refine Bn (fun w h => Mem.ins3 (A := [(b16, _)]) (B := []) (C := []) h) (C7 ?_ (k0010 ⟨0, 0, b16, 0, none, 0, none, 0⟩ trivial))
                                exact ⟨rfl, rfl, rfl, rfl, rfl, rfl, rfl, rfl, rfl, rfl, trivial⟩
                               ·skip
                                refine Ep 20 rfl rfl rfl rfl Ac Ac Ac Ad Ad Ac .free rfl (.inr Au) ?_; intro b20; refine Bn (fun w h => Mem.ins4 (A := [(b20, _)]) (B := []) (C := []) (D := []) h) (C7 ?_ (k0001 ⟨0, 0, 0, b20, none, 0, none, 0⟩ trivial))
                                exact ⟨rfl, rfl, rfl, rfl, rfl, rfl, rfl, rfl, rfl, rfl, trivial⟩
set_option maxHeartbeats 2000000 in
theorem Aek {n : Nat} (ihn : Qa n) {h1 z : As} {s u : Ty} {b : Ex} {I : Heap} {cs : List Value} (hlt : SizeOf.sizeOf (Ex.fn h1 z s u b) < n + 1) (h : Rep I (Ex.fn h1 z s u b).tree cs) (hok : (Ex.fn h1 z s u b).ok = true) {f t : List As} {of ot : Option Addr} {cf ct : Nat} (hfr : Strs I of f cf) (hto : Strs I ot t ct) (hft : f.length = t.length) (hfl : f.length + 2 * (Ex.fn h1 z s u b).size ≤ 100000)
  {ov : Option Addr} {av : List As} {cv : Nat} (hav : Strs I ov av cv) (bp k : Nat) (hk : k + (Ex.fn h1 z s u b).nb + av.length ≤ 90 + E3 120 av k) (ha5 : av.length ≤ 500) (L : Bj) :
  Fun Tryz.prog 169 [.agg cs.toArray, .slice of f.length cf, .slice ot t.length ct, .pointer (some ⟨bp, 0, none⟩)] I (rn bp ov av cv k :: L) (PR bp ov av cv ((Ex.fn h1 z s u b).pl av f t k) L) := by
 obtain ⟨oa, c, oaf, cf1, rfl, hf, hcl, hcs⟩ := h.cells
 have hle : HLe I I := .refl _
 have ha := hf.alen
 have hh0 := Bp 120 av k
 refine Ao Ae ?_; refine Se rfl ?_; refine Cm rfl rfl .free rfl ?_; intro b4; refine A1 .free rfl ?_; intro b8; refine Ab (Ah (Se rfl (Oh rfl ?_))); refine Bv rfl .free rfl ?_; refine Od rfl rfl rfl (Ab ?_)
 first | refine Ez rfl Ek ?_ | refine Ey rfl Ek ?_ | refine A0 Ar ?_
 refine Ak (Ah ?_)
 have hok0 := hok
 have hb : (Ex.fn h1 z s u b).bare = false := rfl
 have hpos : 0 < (Ex.fn h1 z s u b).tree.parts.length := by
  rw [Ex.bare_parts] at hb
  have : (Ex.fn h1 z s u b).tree.parts ≠ [] := by intro hh; rw [hh] at hb; cases hb
  exact List.length_pos_iff.2 this
 have hhd := I7 hpos
 obtain ⟨xa, rfl⟩ : ∃ xa, oa = some xa := ⟨_, En hf.nil hpos⟩
 have hp := hf.len
 unfold Bg at hp
 refine Al rfl ?_; refine Dl .free rfl ?_; intro b29; refine Oh rfl ?_; refine Bv rfl .free rfl ?_; refine D1 (B := some (b29, [])) (xs := []) (ys := D7 oaf cf1 0 (Ex.fn h1 z s u b).tree.parts) (m := 0) (c := 0) Av Ac rfl rfl ⟨rfl, Nat.le_refl _, rfl⟩ (fun _ h => h) Ff (fun a ha => by cases ha; exact (hcs _ rfl).reads) Ae hcl.plain hpos Ad Aa Ad .free rfl ?_; intro bc sp cc hB'
 have hcc : (Ex.fn h1 z s u b).tree.parts.length ≤ cc := by have := hB'.2.1; omega
 refine Gl (t := 32) (v' := .slice (some ⟨bc, 0, none⟩) (Ex.fn h1 z s u b).tree.parts.length cc) rfl Hc ?_
 simp only [List.nil_append]
 refine Cd rfl rfl rfl .free rfl ?_; refine A1 .free rfl ?_; intro b9; refine By rfl rfl rfl rfl .free ?_; refine Ab (Se rfl (Oh rfl ?_)); refine Bv rfl .free rfl ?_
 first | refine Bs rfl rfl 0 rfl .free rfl ?_ | refine Bt rfl rfl 0 rfl .free rfl ?_
 refine Bh rfl .free rfl ?_; refine Gj rfl .free rfl ?_; refine Ca rfl (Kr ((Ex.fn h1 z s u b).tree.pt 0).atom _ _) ?_; rw [← hhd]; rintro _ _ _ _ ⟨rfl, rfl, rfl⟩; refine Om rfl (Oe rfl rfl (Oe rfl rfl (Oa rfl (Oa rfl (Ab (Ah (Ah ?_)))))))
 have hkr : Ax (Ex.fn h1 z s u b).tree.head = (5, 6) := rfl
 rw [hkr]
 have hlen : (Ex.fn h1 z s u b).tree.parts.length = 6 := rfl
 have hki := Mh h1 z s u b
 have hp0 : ((Ex.fn h1 z s u b).tree.pt 0).atom = Dk := rfl
 simp only [Ex.fn.sizeOf_spec] at hlt
 simp only [Ex.ok, Bool.and_eq_true, decide_eq_true_eq] at hok
 simp only [Ex.nb] at hk
 simp only [Ex.size] at hfl
 simp only [show (Ex.fn h1 z s u b).tree.parts = [.node Dk [], .node h1 [], .node z [], s.tree, u.tree, b.tree] from rfl, D7, List.cons_append, List.nil_append]
 refine Cu (fun w h => h.f4) ?_; refine Al rfl (Oh rfl ?_); refine Bv rfl .free rfl ?_
 first | refine Bs rfl rfl 0 rfl .free rfl ?_ | refine Bt rfl rfl 0 rfl .free rfl ?_
 refine Bh rfl .free rfl ?_; refine Gj rfl .free rfl ?_; refine Od rfl rfl rfl (Ab ?_)
 first | refine Ez rfl Gf ?_ | refine Ey rfl Gf ?_ | refine A0 Ar ?_
 refine Ak (Ah (Se rfl (Oh rfl ?_))); refine Bv rfl .free rfl ?_
 first | refine Bs rfl rfl 0 rfl .free rfl ?_ | refine Bt rfl rfl 0 rfl .free rfl ?_
 refine Bh rfl .free rfl ?_; refine Gj rfl .free rfl ?_; refine Od rfl rfl rfl (Ab ?_)
 first | refine K3 rfl (by rw [hp0]; rfl) ?_ | refine K2 rfl (by rw [hp0]; rfl) ?_ | refine B9 Ar ?_
 refine Ah ?_; obtain ⟨x1, x2, x3⟩ := Dv 120 av k
 have x4 := Eo 120 av k
 have x5 := Bp 120 av (fr 120 av k)
 have x6 := Bp 120 av (fr 120 av k + 1)
 obtain ⟨y1, y2, y3⟩ := Dv 120 av (fr 120 av k + 1)
 have y4 := Eo 120 av (fr 120 av k + 1)
 have y5 := Bp 120 av (fr 120 av (fr 120 av k + 1))
 have y6 := Bp 120 av (fr 120 av (fr 120 av k + 1) + 1)
 have hhl := Ex.name_len hok.1.1.1.1.1
 have hzl := Ex.name_len hok.1.1.1.1.2
 refine Al rfl (Om rfl ?_); refine Ca rfl (Qh hav bp k Aa _) ?_; rintro _ _ _ _ ⟨rfl, rfl, rfl⟩
 have hnl1 := Qu (n := fr 120 av k) Aa
 generalize hn1e : nm 120 (fr 120 av k) = n1 at hnl1 ⊢
 refine Oa rfl (Ab (Se rfl (Om rfl ?_))); refine Ca rfl (Qh hav bp (fr 120 av k + 1) Aa _) ?_; rintro _ _ _ _ ⟨rfl, rfl, rfl⟩
 have hnl2 := Qu (n := fr 120 av (fr 120 av k + 1)) Aa
 generalize hn2e : nm 120 (fr 120 av (fr 120 av k + 1)) = n2 at hnl2 ⊢
 refine Oa rfl (Ab (Ah ?_)); refine Fh 6 rfl rfl ?_; refine Da 0 rfl (Aj rfl) ?_; refine Dt 1 [5] rfl (Bo rfl) ?_; refine Da 2 rfl (Ai rfl) ?_; refine Dc 3 rfl rfl (H6 n1 _ _) ?_; rintro _ _ _ _ ⟨rfl, rfl, rfl⟩; refine Hx ?_
 first | refine Da 4 rfl (Bc rfl rfl 1 rfl) ?_ | refine Da 4 rfl (Bd rfl rfl 1 rfl) ?_
 refine Dx 5 rfl rfl rfl rfl ?_; refine A5 Af ?_; refine Ah ?_; refine Fh 6 rfl rfl ?_; refine Da 0 rfl (Aj rfl) ?_; refine Dt 1 [5] rfl (Bo rfl) ?_; refine Da 2 rfl (Ai rfl) ?_; refine Dc 3 rfl rfl (H6 n2 _ _) ?_; rintro _ _ _ _ ⟨rfl, rfl, rfl⟩; refine Hx ?_
 first | refine Da 4 rfl (Bc rfl rfl 2 rfl) ?_ | refine Da 4 rfl (Bd rfl rfl 2 rfl) ?_
 refine Dx 5 rfl rfl rfl rfl ?_; refine A5 Af ?_; refine Ah ?_; refine Fh 16 rfl rfl ?_; refine Da 1 rfl (Ai rfl) ?_; refine Da 3 rfl (Aj rfl) ?_; refine Dt 4 [16] rfl (Bo rfl) ?_
 first | refine Da 5 rfl (Bc rfl rfl 1 rfl) ?_ | refine Da 5 rfl (Bd rfl rfl 1 rfl) ?_
 refine Da 6 rfl (A4 rfl) ?_; refine Dt 7 [16] rfl (Kb rfl) ?_; refine Da 8 rfl (Aj rfl) ?_; refine Dt 9 [16] rfl (Bo rfl) ?_
 first | refine Da 10 rfl (Bc rfl rfl 2 rfl) ?_ | refine Da 10 rfl (Bd rfl rfl 2 rfl) ?_
 refine Da 11 rfl (A4 rfl) ?_; refine Dt 12 [16] rfl (Kb rfl) ?_; refine Gd 0 13 Af ?_ ?_
 ·skip
  refine Fk 0 rfl rfl .free rfl (.inr Au) ?_; intro b113; refine Gd 2 13 Af ?_ ?_
  ·skip
   refine Gg 2 (B := some (b113, [])) (xs := []) (ys := f.map sv) (m := 0) (c := 0) rfl rfl Av Ac rfl rfl ⟨rfl, Nat.le_refl _, rfl⟩ Lp Ae hfr.reads hfr.none (Cn f) Ad Aa Ad .free rfl (fun _ => .inr Au) ?_; intro B1 c1 hB1; refine Fg 13 rfl Af rfl rfl rfl Ac Ac Ac Ad Ad Ac .free rfl (.inr Au) ?_; intro b126; refine Cg 14 (B := B1) (xs := f.map sv) (ys := [sv h1, sv z]) (m := 0 + f.length) (c := c1) rfl Af rfl Av Ac rfl rfl hB1 Lq Ac (fun a ha => by cases ha; exact Bw G7 Ac) Ae Ac Ad Aa Ad .free rfl (fun _ => .inr Au) ?_; intro B2 c2 hB2
   rw [show f.map sv ++ [sv h1, sv z] = (f ++ [h1, z]).map sv by simp] at hB2 ⊢; refine Eh hB2 Ae Hb (by intro s hs; rcases List.mem_append.1 hs with hs | hs; exact hfr.each s hs; simp only [List.mem_cons, List.not_mem_nil, or_false] at hs; rcases hs with rfl | rfl; exact hhl; exact hzl) ?_; intro J3 o3 k3 ez hbv hs3; refine G8 (t := 127) rfl hbv ?_
   have hf := hf.mono ez
   have hfr := hfr.mono ez
   have hto := hto.mono ez
   have hav := hav.mono ez
   have hle := hle.trans ez
   refine Da 15 rfl (Bk rfl) ?_; refine A5 Af ?_; refine Al rfl ?_; refine Dl .free rfl ?_; intro b128; refine Om rfl ?_; refine Gt (B := some (b128, [])) (xs := []) (ys := t.map sv) (m := 0) (c := 0) Av Ac rfl rfl ⟨rfl, Nat.le_refl _, rfl⟩ Lp Ae hto.reads hto.none (Cn t) Ad Aa Ad .free rfl ?_; intro B3 c3 hB3; refine Om rfl (Om rfl ?_); refine Ol rfl rfl ?_; intro b133; refine Gt (B := B3) (xs := t.map sv) (ys := [sv n1, sv n2]) (m := 0 + t.length) (c := c3) Av Ac rfl rfl hB3 Lq Ac (fun a ha => by cases ha; exact Bw G7 Ac) Ae Ac Ad Aa Ad .free rfl ?_; intro B4 c4 hB4
   rw [show t.map sv ++ [sv n1, sv n2] = (t ++ [n1, n2]).map sv by simp] at hB4 ⊢; refine Oa rfl (Ab (Ah (Ah ?_))); refine Gk hB4 Ae Hb (by intro s hs; rcases List.mem_append.1 hs with hs | hs; exact hto.each s hs; simp only [List.mem_cons, List.not_mem_nil, or_false] at hs; rcases hs with rfl | rfl; exact hnl1; exact hnl2) ?_; intro J4 o4 k4 ey hbv4 hs4; refine Jv (t := 2) rfl hbv4 ?_; refine Cu (fun w h => h.drop.drop) ?_
   have hs3 := hs3.mono ey
   have hf := hf.mono ey
   have hfr := hfr.mono ey
   have hto := hto.mono ey
   have hav := hav.mono ey
   have hle := hle.trans ey
   refine Al rfl (Om rfl (Oa rfl (Ab (Aq ?_)))); refine Ee ?_; refine Ah (Se rfl (Om rfl (Om rfl (Oc rfl rfl rfl (Ab ?_))))); refine B6 rfl Ay ?_; refine Ak (Ah (Aq ?_)); refine C9 fun hlr => ?_
   have hpl := b.pl_hits av (f ++ [h1, z]) (t ++ [n1, n2]) (fr 120 av (fr 120 av k + 1) + 1)
   refine Hl 14 rfl rfl ?_; refine Da 0 rfl (Aj rfl) ?_; refine Dt 1 [13] rfl (Bo rfl) ?_; refine Da 2 rfl (Ai rfl) ?_; refine Da 3 rfl (Aj rfl) ?_; refine Dt 4 [13] rfl (Bo rfl) ?_; refine Da 5 rfl (Ai rfl) ?_
   first | refine Da 6 rfl (Bc rfl rfl _ rfl) ?_ | refine Da 6 rfl (Bd rfl rfl _ rfl) ?_
   refine Dt 7 [13] rfl (C5 rfl) ?_; refine Da 8 rfl (Ai rfl) ?_; refine Da 9 rfl (Ai rfl) ?_; refine Da 10 rfl (Ai rfl) ?_; refine Dc 11 rfl rfl (ihn (f := f ++ [h1, z]) (t := t ++ [n1, n2]) Aa (hf.as 5 b.tree Aa rfl) hok.2 hs3 hs4 D6 Cq hav bp _ Aa ha5 _) ?_; rintro _ J2 _ e2 ⟨cs2, rfl, hr_0, rfl⟩; obtain ⟨o2, k2, _, rfl, -⟩ := hr_0.open
   have hlr := hlr.trans e2
   have hf := hf.mono e2
   have hfr := hfr.mono e2
   have hto := hto.mono e2
   have hav := hav.mono e2
   have hle := hle.trans e2
   refine Hx ?_
   first | refine Da 12 rfl (Bc rfl rfl _ rfl) ?_ | refine Da 12 rfl (Bd rfl rfl _ rfl) ?_
   refine Dx 13 rfl rfl rfl rfl ?_; refine A5 Af ?_; refine Ap (Al rfl (Om rfl ?_)); refine Or rfl rfl rfl ?_; refine Oa rfl (Ab ?_); refine Bz ?_; refine Ah (Se rfl (Om rfl (Om rfl (Oc rfl rfl rfl (Ab ?_))))); refine De rfl Ay ?_; refine Cc rfl ?_; refine Se rfl ?_; refine Az rfl .free rfl ?_; refine By rfl rfl rfl rfl .free ?_; refine Ab ?_; refine Cu (fun w h => h.f2) (Bu ?_); intro hz
   have hf := hf.mono hz
   refine Am (.c rfl .nil) ?_; subst hn1e hn2e
   exact ⟨_, _, hle.trans hz, fun w h => Mem.sub (L' := rn bp ov av cv _ :: L) A7 h, _, rfl, .mk' rfl (.cons (hf.as 0 (.node Dk []) Aa rfl) (.cons (.ofAtom hnl1) (.cons (.ofAtom hnl2) (.cons (hf.as 3 (s.tree) Aa rfl) (.cons (hf.as 4 (u.tree) Aa rfl) (.cons (hr_0.mono hz) (.nil))))))) (fun y hy => by cases hy; exact A9 (xs := [_, _, _, _, _, _, _, _, _, _, _, _])) Ae hcc Bf Bf, rfl⟩
  ·skip
   refine Ep 13 rfl rfl rfl rfl Ac Ac Ac Ad Ad Ac .free rfl (.inr Au) ?_; intro b126; refine Cg 2 (B := some (b113, [])) (xs := []) (ys := f.map sv) (m := 0) (c := 0) rfl Af rfl Av Ac rfl rfl ⟨rfl, Nat.le_refl _, rfl⟩ Lp Ae hfr.reads hfr.none (Cn f) Ad Aa Ad .free rfl (fun _ => .inr Au) ?_; intro B1 c1 hB1; refine Cg 14 (B := B1) (xs := f.map sv) (ys := [sv h1, sv z]) (m := 0 + f.length) (c := c1) rfl Af rfl Av Ac rfl rfl hB1 Lq Ac (fun a ha => by cases ha; exact Bw G7 Ac) Ae Ac Ad Aa Ad .free rfl (fun _ => .inr Au) ?_; intro B2 c2 hB2
   rw [show f.map sv ++ [sv h1, sv z] = (f ++ [h1, z]).map sv by simp] at hB2 ⊢; refine Eh hB2 Ae Hb (by intro s hs; rcases List.mem_append.1 hs with hs | hs; exact hfr.each s hs; simp only [List.mem_cons, List.not_mem_nil, or_false] at hs; rcases hs with rfl | rfl; exact hhl; exact hzl) ?_; intro J3 o3 k3 ez hbv hs3; refine G8 (t := 127) rfl hbv ?_
   have hf := hf.mono ez
   have hfr := hfr.mono ez
   have hto := hto.mono ez
   have hav := hav.mono ez
   have hle := hle.trans ez
   refine Da 15 rfl (Bk rfl) ?_; refine A5 Af ?_; refine Al rfl ?_; refine Dl .free rfl ?_; intro b128; refine Om rfl ?_; refine Gt (B := some (b128, [])) (xs := []) (ys := t.map sv) (m := 0) (c := 0) Av Ac rfl rfl ⟨rfl, Nat.le_refl _, rfl⟩ Lp Ae hto.reads hto.none (Cn t) Ad Aa Ad .free rfl ?_; intro B3 c3 hB3; refine Om rfl (Om rfl ?_); refine Ol rfl rfl ?_; intro b133; refine Gt (B := B3) (xs := t.map sv) (ys := [sv n1, sv n2]) (m := 0 + t.length) (c := c3) Av Ac rfl rfl hB3 Lq Ac (fun a ha => by cases ha; exact Bw G7 Ac) Ae Ac Ad Aa Ad .free rfl ?_; intro B4 c4 hB4
   rw [show t.map sv ++ [sv n1, sv n2] = (t ++ [n1, n2]).map sv by simp] at hB4 ⊢; refine Oa rfl (Ab (Ah (Ah ?_))); refine Gk hB4 Ae Hb (by intro s hs; rcases List.mem_append.1 hs with hs | hs; exact hto.each s hs; simp only [List.mem_cons, List.not_mem_nil, or_false] at hs; rcases hs with rfl | rfl; exact hnl1; exact hnl2) ?_; intro J4 o4 k4 ey hbv4 hs4; refine Jv (t := 2) rfl hbv4 ?_; refine Cu (fun w h => h.drop.drop) ?_
   have hs3 := hs3.mono ey
   have hf := hf.mono ey
   have hfr := hfr.mono ey
   have hto := hto.mono ey
   have hav := hav.mono ey
   have hle := hle.trans ey
   refine Al rfl (Om rfl (Oa rfl (Ab (Aq ?_)))); refine Ee ?_; refine Ah (Se rfl (Om rfl (Om rfl (Oc rfl rfl rfl (Ab ?_))))); refine B6 rfl Ay ?_; refine Ak (Ah (Aq ?_)); refine C9 fun hlr => ?_
   have hpl := b.pl_hits av (f ++ [h1, z]) (t ++ [n1, n2]) (fr 120 av (fr 120 av k + 1) + 1)
   refine Hl 14 rfl rfl ?_; refine Da 0 rfl (Aj rfl) ?_; refine Dt 1 [13] rfl (Bo rfl) ?_; refine Da 2 rfl (Ai rfl) ?_; refine Da 3 rfl (Aj rfl) ?_; refine Dt 4 [13] rfl (Bo rfl) ?_; refine Da 5 rfl (Ai rfl) ?_
   first | refine Da 6 rfl (Bc rfl rfl _ rfl) ?_ | refine Da 6 rfl (Bd rfl rfl _ rfl) ?_
   refine Dt 7 [13] rfl (C5 rfl) ?_; refine Da 8 rfl (Ai rfl) ?_; refine Da 9 rfl (Ai rfl) ?_; refine Da 10 rfl (Ai rfl) ?_; refine Dc 11 rfl rfl (ihn (f := f ++ [h1, z]) (t := t ++ [n1, n2]) Aa (hf.as 5 b.tree Aa rfl) hok.2 hs3 hs4 D6 Cq hav bp _ Aa ha5 _) ?_; rintro _ J2 _ e2 ⟨cs2, rfl, hr_0, rfl⟩; obtain ⟨o2, k2, _, rfl, -⟩ := hr_0.open
   have hlr := hlr.trans e2
   have hf := hf.mono e2
   have hfr := hfr.mono e2
   have hto := hto.mono e2
   have hav := hav.mono e2
   have hle := hle.trans e2
   refine Hx ?_
   first | refine Da 12 rfl (Bc rfl rfl _ rfl) ?_ | refine Da 12 rfl (Bd rfl rfl _ rfl) ?_
   refine Dx 13 rfl rfl rfl rfl ?_; refine A5 Af ?_; refine Ap (Al rfl (Om rfl ?_)); refine Or rfl rfl rfl ?_; refine Oa rfl (Ab ?_); refine Bz ?_; refine Ah (Se rfl (Om rfl (Om rfl (Oc rfl rfl rfl (Ab ?_))))); refine De rfl Ay ?_; refine Cc rfl ?_; refine Se rfl ?_; refine Az rfl .free rfl ?_; refine By rfl rfl rfl rfl .free ?_; refine Ab ?_; refine Cu (fun w h => h.f2) (Bu ?_); intro hz
   have hf := hf.mono hz
   refine Am (.c rfl .nil) ?_; subst hn1e hn2e
   exact ⟨_, _, hle.trans hz, fun w h => Mem.sub (L' := rn bp ov av cv _ :: L) A7 h, _, rfl, .mk' rfl (.cons (hf.as 0 (.node Dk []) Aa rfl) (.cons (.ofAtom hnl1) (.cons (.ofAtom hnl2) (.cons (hf.as 3 (s.tree) Aa rfl) (.cons (hf.as 4 (u.tree) Aa rfl) (.cons (hr_0.mono hz) (.nil))))))) (fun y hy => by cases hy; exact A9 (xs := [_, _, _, _, _, _, _, _, _, _, _, _])) Ae hcc Bf Bf, rfl⟩
 ·skip
  refine Ep 13 rfl rfl rfl rfl Ac Ac Ac Ad Ad Ac .free rfl (.inr Au) ?_; intro b126; refine Ib 0 rfl Af rfl .free rfl (.inr Au) ?_; intro b113; refine Cg 2 (B := some (b113, [])) (xs := []) (ys := f.map sv) (m := 0) (c := 0) rfl Af rfl Av Ac rfl rfl ⟨rfl, Nat.le_refl _, rfl⟩ Lp Ae hfr.reads hfr.none (Cn f) Ad Aa Ad .free rfl (fun _ => .inr Au) ?_; intro B1 c1 hB1; refine Cg 14 (B := B1) (xs := f.map sv) (ys := [sv h1, sv z]) (m := 0 + f.length) (c := c1) rfl Af rfl Av Ac rfl rfl hB1 Lq Ac (fun a ha => by cases ha; exact Bw G7 Ac) Ae Ac Ad Aa Ad .free rfl (fun _ => .inr Au) ?_; intro B2 c2 hB2
  rw [show f.map sv ++ [sv h1, sv z] = (f ++ [h1, z]).map sv by simp] at hB2 ⊢; refine Eh hB2 Ae Hb (by intro s hs; rcases List.mem_append.1 hs with hs | hs; exact hfr.each s hs; simp only [List.mem_cons, List.not_mem_nil, or_false] at hs; rcases hs with rfl | rfl; exact hhl; exact hzl) ?_; intro J3 o3 k3 ez hbv hs3; refine G8 (t := 127) rfl hbv ?_
  have hf := hf.mono ez
  have hfr := hfr.mono ez
  have hto := hto.mono ez
  have hav := hav.mono ez
  have hle := hle.trans ez
  refine Da 15 rfl (Bk rfl) ?_; refine A5 Af ?_; refine Al rfl ?_; refine Dl .free rfl ?_; intro b128; refine Om rfl ?_; refine Gt (B := some (b128, [])) (xs := []) (ys := t.map sv) (m := 0) (c := 0) Av Ac rfl rfl ⟨rfl, Nat.le_refl _, rfl⟩ Lp Ae hto.reads hto.none (Cn t) Ad Aa Ad .free rfl ?_; intro B3 c3 hB3; refine Om rfl (Om rfl ?_); refine Ol rfl rfl ?_; intro b133; refine Gt (B := B3) (xs := t.map sv) (ys := [sv n1, sv n2]) (m := 0 + t.length) (c := c3) Av Ac rfl rfl hB3 Lq Ac (fun a ha => by cases ha; exact Bw G7 Ac) Ae Ac Ad Aa Ad .free rfl ?_; intro B4 c4 hB4
  rw [show t.map sv ++ [sv n1, sv n2] = (t ++ [n1, n2]).map sv by simp] at hB4 ⊢; refine Oa rfl (Ab (Ah (Ah ?_))); refine Gk hB4 Ae Hb (by intro s hs; rcases List.mem_append.1 hs with hs | hs; exact hto.each s hs; simp only [List.mem_cons, List.not_mem_nil, or_false] at hs; rcases hs with rfl | rfl; exact hnl1; exact hnl2) ?_; intro J4 o4 k4 ey hbv4 hs4; refine Jv (t := 2) rfl hbv4 ?_; refine Cu (fun w h => h.drop.drop) ?_
  have hs3 := hs3.mono ey
  have hf := hf.mono ey
  have hfr := hfr.mono ey
  have hto := hto.mono ey
  have hav := hav.mono ey
  have hle := hle.trans ey
  refine Al rfl (Om rfl (Oa rfl (Ab (Aq ?_)))); refine Ee ?_; refine Ah (Se rfl (Om rfl (Om rfl (Oc rfl rfl rfl (Ab ?_))))); refine B6 rfl Ay ?_; refine Ak (Ah (Aq ?_)); refine C9 fun hlr => ?_
  have hpl := b.pl_hits av (f ++ [h1, z]) (t ++ [n1, n2]) (fr 120 av (fr 120 av k + 1) + 1)
  refine Hl 14 rfl rfl ?_; refine Da 0 rfl (Aj rfl) ?_; refine Dt 1 [13] rfl (Bo rfl) ?_; refine Da 2 rfl (Ai rfl) ?_; refine Da 3 rfl (Aj rfl) ?_; refine Dt 4 [13] rfl (Bo rfl) ?_; refine Da 5 rfl (Ai rfl) ?_
  first | refine Da 6 rfl (Bc rfl rfl _ rfl) ?_ | refine Da 6 rfl (Bd rfl rfl _ rfl) ?_
  refine Dt 7 [13] rfl (C5 rfl) ?_; refine Da 8 rfl (Ai rfl) ?_; refine Da 9 rfl (Ai rfl) ?_; refine Da 10 rfl (Ai rfl) ?_; refine Dc 11 rfl rfl (ihn (f := f ++ [h1, z]) (t := t ++ [n1, n2]) Aa (hf.as 5 b.tree Aa rfl) hok.2 hs3 hs4 D6 Cq hav bp _ Aa ha5 _) ?_; rintro _ J2 _ e2 ⟨cs2, rfl, hr_0, rfl⟩; obtain ⟨o2, k2, _, rfl, -⟩ := hr_0.open
  have hlr := hlr.trans e2
  have hf := hf.mono e2
  have hfr := hfr.mono e2
  have hto := hto.mono e2
  have hav := hav.mono e2
  have hle := hle.trans e2
  refine Hx ?_
  first | refine Da 12 rfl (Bc rfl rfl _ rfl) ?_ | refine Da 12 rfl (Bd rfl rfl _ rfl) ?_
  refine Dx 13 rfl rfl rfl rfl ?_; refine A5 Af ?_; refine Ap (Al rfl (Om rfl ?_)); refine Or rfl rfl rfl ?_; refine Oa rfl (Ab ?_); refine Bz ?_; refine Ah (Se rfl (Om rfl (Om rfl (Oc rfl rfl rfl (Ab ?_))))); refine De rfl Ay ?_; refine Cc rfl ?_; refine Se rfl ?_; refine Az rfl .free rfl ?_; refine By rfl rfl rfl rfl .free ?_; refine Ab ?_; refine Cu (fun w h => h.f2) (Bu ?_); intro hz
  have hf := hf.mono hz
  refine Am (.c rfl .nil) ?_; subst hn1e hn2e
  exact ⟨_, _, hle.trans hz, fun w h => Mem.sub (L' := rn bp ov av cv _ :: L) A7 h, _, rfl, .mk' rfl (.cons (hf.as 0 (.node Dk []) Aa rfl) (.cons (.ofAtom hnl1) (.cons (.ofAtom hnl2) (.cons (hf.as 3 (s.tree) Aa rfl) (.cons (hf.as 4 (u.tree) Aa rfl) (.cons (hr_0.mono hz) (.nil))))))) (fun y hy => by cases hy; exact A9 (xs := [_, _, _, _, _, _, _, _, _, _, _, _])) Ae hcc Bf Bf, rfl⟩
set_option maxHeartbeats 2000000 in
theorem Aem {n : Nat} (ihn : Qa n) {o : U2} {a : Ex} {I : Heap} {cs : List Value} (hlt : SizeOf.sizeOf (Ex.un o a) < n + 1) (h : Rep I (Ex.un o a).tree cs) (hok : (Ex.un o a).ok = true) {f t : List As} {of ot : Option Addr} {cf ct : Nat} (hfr : Strs I of f cf) (hto : Strs I ot t ct) (hft : f.length = t.length) (hfl : f.length + 2 * (Ex.un o a).size ≤ 100000)
  {ov : Option Addr} {av : List As} {cv : Nat} (hav : Strs I ov av cv) (bp k : Nat) (hk : k + (Ex.un o a).nb + av.length ≤ 90 + E3 120 av k) (ha5 : av.length ≤ 500) (L : Bj) :
  Fun Tryz.prog 169 [.agg cs.toArray, .slice of f.length cf, .slice ot t.length ct, .pointer (some ⟨bp, 0, none⟩)] I (rn bp ov av cv k :: L) (PR bp ov av cv ((Ex.un o a).pl av f t k) L) := by
 obtain ⟨oa, c, oaf, cf1, rfl, hf, hcl, hcs⟩ := h.cells
 have hle : HLe I I := .refl _
 have ha := hf.alen
 have hh0 := Bp 120 av k
 refine Ao Ae ?_; refine Se rfl ?_; refine Cm rfl rfl .free rfl ?_; intro b4; refine A1 .free rfl ?_; intro b8; refine Ab (Ah (Se rfl (Oh rfl ?_))); refine Bv rfl .free rfl ?_; refine Od rfl rfl rfl (Ab ?_)
 first | refine Ez rfl Ek ?_ | refine Ey rfl Ek ?_ | refine A0 Ar ?_
 refine Ak (Ah ?_)
 have hok0 := hok
 have hb : (Ex.un o a).bare = false := rfl
 have hpos : 0 < (Ex.un o a).tree.parts.length := by
  rw [Ex.bare_parts] at hb
  have : (Ex.un o a).tree.parts ≠ [] := by intro hh; rw [hh] at hb; cases hb
  exact List.length_pos_iff.2 this
 have hhd := I7 hpos
 obtain ⟨xa, rfl⟩ : ∃ xa, oa = some xa := ⟨_, En hf.nil hpos⟩
 have hp := hf.len
 unfold Bg at hp
 refine Al rfl ?_; refine Dl .free rfl ?_; intro b29; refine Oh rfl ?_; refine Bv rfl .free rfl ?_; refine D1 (B := some (b29, [])) (xs := []) (ys := D7 oaf cf1 0 (Ex.un o a).tree.parts) (m := 0) (c := 0) Av Ac rfl rfl ⟨rfl, Nat.le_refl _, rfl⟩ (fun _ h => h) Ff (fun a ha => by cases ha; exact (hcs _ rfl).reads) Ae hcl.plain hpos Ad Aa Ad .free rfl ?_; intro bc sp cc hB'
 have hcc : (Ex.un o a).tree.parts.length ≤ cc := by have := hB'.2.1; omega
 refine Gl (t := 32) (v' := .slice (some ⟨bc, 0, none⟩) (Ex.un o a).tree.parts.length cc) rfl Hc ?_
 simp only [List.nil_append]
 refine Cd rfl rfl rfl .free rfl ?_; refine A1 .free rfl ?_; intro b9; refine By rfl rfl rfl rfl .free ?_; refine Ab (Se rfl (Oh rfl ?_)); refine Bv rfl .free rfl ?_
 first | refine Bs rfl rfl 0 rfl .free rfl ?_ | refine Bt rfl rfl 0 rfl .free rfl ?_
 refine Bh rfl .free rfl ?_; refine Gj rfl .free rfl ?_; refine Ca rfl (Kr ((Ex.un o a).tree.pt 0).atom _ _) ?_; rw [← hhd]; rintro _ _ _ _ ⟨rfl, rfl, rfl⟩; refine Om rfl (Oe rfl rfl (Oe rfl rfl (Oa rfl (Oa rfl (Ab (Ah (Ah ?_)))))))
 have hkr : Ax (Ex.un o a).tree.head = (1, 2) := by cases o <;> rfl
 rw [hkr]
 have hlen : (Ex.un o a).tree.parts.length = 2 := rfl
 have hki := Nz o a
 have hp0 : ((Ex.un o a).tree.pt 0).atom = o.txt := rfl
 simp only [Ex.un.sizeOf_spec] at hlt
 simp only [Ex.ok, Bool.and_eq_true, decide_eq_true_eq] at hok
 simp only [Ex.nb] at hk
 simp only [Ex.size] at hfl
 simp only [show (Ex.un o a).tree.parts = [.node o.txt [], a.tree] from rfl, D7, List.cons_append, List.nil_append]
 refine Cu (fun w h => h.f4) ?_; refine Al rfl (Oh rfl ?_); refine Bv rfl .free rfl ?_
 first | refine Bs rfl rfl 0 rfl .free rfl ?_ | refine Bt rfl rfl 0 rfl .free rfl ?_
 refine Bh rfl .free rfl ?_; refine Gj rfl .free rfl ?_; refine Od rfl rfl rfl (Ab ?_)
 first | refine Ez rfl Ej ?_ | refine Ey rfl Ej ?_ | refine A0 Ar ?_
 refine Ak (Ah (Se rfl (Oh rfl ?_))); refine Bv rfl .free rfl ?_
 first | refine Bs rfl rfl 0 rfl .free rfl ?_ | refine Bt rfl rfl 0 rfl .free rfl ?_
 refine Bh rfl .free rfl ?_; refine Gj rfl .free rfl ?_; refine Od rfl rfl rfl (Ab ?_)
 first | refine Ez rfl Ej ?_ | refine Ey rfl Ej ?_ | refine A0 Ar ?_
 refine Ak (Ah (Se rfl (Om rfl (Oa rfl (Ab (Aq ?_)))))); refine Ee ?_; refine Ah (Se rfl (Om rfl (Om rfl (Oc rfl rfl rfl (Ab ?_))))); refine B6 rfl Ay ?_; refine Ak (Ah (Aq ?_)); refine C9 fun hlr => ?_
 have hpl := a.pl_hits av (f) (t) k
 refine Hl 14 rfl rfl ?_; refine Da 0 rfl (Aj rfl) ?_; refine Dt 1 [13] rfl (Bo rfl) ?_; refine Da 2 rfl (Ai rfl) ?_; refine Da 3 rfl (Aj rfl) ?_; refine Dt 4 [13] rfl (Bo rfl) ?_; refine Da 5 rfl (Ai rfl) ?_
 first | refine Da 6 rfl (Bc rfl rfl _ rfl) ?_ | refine Da 6 rfl (Bd rfl rfl _ rfl) ?_
 refine Dt 7 [13] rfl (C5 rfl) ?_; refine Da 8 rfl (Ai rfl) ?_; refine Da 9 rfl (Ai rfl) ?_; refine Da 10 rfl (Ai rfl) ?_; refine Dc 11 rfl rfl (ihn (f := f) (t := t) Aa (hf.as 1 a.tree Aa rfl) hok hfr hto D6 Cq hav bp _ Aa ha5 _) ?_; rintro _ J2 _ e2 ⟨cs2, rfl, hr_0, rfl⟩; obtain ⟨o2, k2, _, rfl, -⟩ := hr_0.open
 have hlr := hlr.trans e2
 have hf := hf.mono e2
 have hfr := hfr.mono e2
 have hto := hto.mono e2
 have hav := hav.mono e2
 have hle := hle.trans e2
 refine Hx ?_
 first | refine Da 12 rfl (Bc rfl rfl _ rfl) ?_ | refine Da 12 rfl (Bd rfl rfl _ rfl) ?_
 refine Dx 13 rfl rfl rfl rfl ?_; refine A5 Af ?_; refine Ap (Al rfl (Om rfl ?_)); refine Or rfl rfl rfl ?_; refine Oa rfl (Ab ?_); refine Bz ?_; refine Ah (Se rfl (Om rfl (Om rfl (Oc rfl rfl rfl (Ab ?_))))); refine De rfl Ay ?_; refine Cc rfl ?_; refine Se rfl ?_; refine Az rfl .free rfl ?_; refine By rfl rfl rfl rfl .free ?_; refine Ab ?_; refine Cu (fun w h => h.f2) (Bu ?_); intro hz
 have hf := hf.mono hz
 refine Am (.c rfl .nil) ?_
 exact ⟨_, _, hle.trans hz, fun w h => Mem.sub (L' := rn bp ov av cv _ :: L) A7 h, _, rfl, .mk' rfl (.cons (hf.as 0 (.node o.txt []) Aa rfl) (.cons (hr_0.mono hz) (.nil))) (fun y hy => by cases hy; exact A9 (xs := [_, _, _, _])) Ae hcc Bf Bf, rfl⟩
set_option maxHeartbeats 2000000 in
theorem Zx {e : Ex} {I : Heap} {cs : List Value} (hb : e.bare = true) (h : Rep I e.tree cs) (hok : e.ok = true) {f t : List As} {of ot : Option Addr} {cf ct : Nat} (hfr : Strs I of f cf) (hto : Strs I ot t ct) (hft : f.length = t.length)
  {ov : Option Addr} {av : List As} {cv : Nat} (hav : Strs I ov av cv) (bp k : Nat) (L : Bj) :
  Fun Tryz.prog 169 [.agg cs.toArray, .slice of f.length cf, .slice ot t.length ct, .pointer (some ⟨bp, 0, none⟩)] I (rn bp ov av cv k :: L) (PR bp ov av cv (e.pl av f t k) L) := by
 obtain ⟨oa, c, oaf, cf1, rfl, hf, hcl, hcs⟩ := h.cells
 have hle : HLe I I := .refl _
 have ha := hf.alen
 have hh0 := Bp 120 av k
 refine Ao Ae ?_; refine Se rfl ?_; refine Cm rfl rfl .free rfl ?_; intro b4; refine A1 .free rfl ?_; intro b8; refine Ab (Ah (Se rfl (Oh rfl ?_))); refine Bv rfl .free rfl ?_; refine Od rfl rfl rfl (Ab ?_)
 first | refine K3 rfl Pe ?_ | refine K2 rfl Pe ?_ | refine B9 Ar ?_
 refine Ah (Se rfl (Oh rfl ?_)); refine Bv rfl .free rfl ?_; refine Ca rfl (Nf e.tree.atom ha _ _) ?_; rintro _ _ _ _ ⟨rfl, rfl, rfl⟩; refine Ab ?_; refine A6 rfl ?_ ?_
 ·intro c1
  try simp only [nb] at c1
  refine Se rfl (Om rfl (Om rfl (Oh rfl ?_))); refine Bv rfl .free rfl ?_; refine Ca rfl (Adf hfr hto hft e.tree.atom _) ?_; rintro _ _ _ _ ⟨rfl, rfl, rfl⟩; refine Ca rfl (H6 (Wf f t e.tree.atom) _ _) ?_; rintro _ _ _ _ ⟨rfl, rfl, rfl⟩; refine By rfl rfl rfl rfl .free ?_; refine Ab ?_; refine Am (.c rfl .nil) ?_
  cases e with
  | name s =>
   refine ⟨I, _, .refl _, fun w h => Mem.sub (L' := rn bp ov av cv k :: L) A7 h, _, rfl, .ofAtom ?_, rfl⟩
   show (match B7 f s with | some i => t.getD i [] | none => s).length ≤ Bg
   cases hi : B7 f s with
   | none => exact ha
   | some i =>
    have hil := (Ki (show Fz f s f.length = some i from hi)).1
    have hit : i < t.length := by omega
    show (t.getD i []).length ≤ Bg
    rw [show t.getD i [] = t[i] by simp [hit]]; exact hto.each _ (List.getElem_mem _)
  | num s =>
   have h1 := Hy (show B0 s = true from c1)
   rw [show Ci s = true from hok] at h1; cases h1
  | _ => cases hb
 intro c1
 try simp only [nb] at c1
 refine Ak (Se rfl ?_); refine Az rfl .free rfl ?_; refine By rfl rfl rfl rfl .free ?_; refine Ab ?_; refine Am (.c rfl .nil) ?_
 cases e with
 | num s => exact ⟨I, _, .refl _, fun w h => Mem.sub (L' := rn bp ov av cv k :: L) A7 h, _, rfl, hf.rep, rfl⟩
 | name s => rw [show B0 (Ex.name s).tree.atom = true from hok] at c1; cases c1
 | _ => cases hb
theorem Ud : ∀ n : Nat, Qa n := by
 intro n
 induction n with
 | zero => intro I e cs h; omega
 | succ n ihn =>
  intro I e cs hlt h hok f t of ot cf ct hfr hto hft hfl ov av cv hav bp k hk ha5 L
  cases hb : e.bare with
  | true => exact Zx hb h hok hfr hto hft hav bp k L
  | false =>
   cases e with
   | num s => cases hb
   | name s => cases hb
   | bin o a b => exact Ab3 ihn hlt h hok hfr hto hft hfl hav bp k hk ha5 L
   | ite a b d => exact Ab5 ihn hlt h hok hfr hto hft hfl hav bp k hk ha5 L
   | lt z a b => exact Ael ihn hlt h hok hfr hto hft hfl hav bp k hk ha5 L
   | fn h1 z s u b => exact Aek ihn hlt h hok hfr hto hft hfl hav bp k hk ha5 L
   | un o a => exact Aem ihn hlt h hok hfr hto hft hfl hav bp k hk ha5 L
theorem Abh (n : Nat) {I : Heap} {e : Ex} {cs : List Value} (h1 : SizeOf.sizeOf e < n) (h2 : Rep I e.tree cs) (h3 : e.ok = true) {f t : List As} {of ot : Option Addr} {cf ct : Nat} (h4 : Strs I of f cf) (h5 : Strs I ot t ct) (h6 : f.length = t.length) (h7 : f.length + 2 * e.size ≤ 100000)
  {oa : Option Addr} {av : List As} {c : Nat} (h8 : Strs I oa av c) (b k : Nat) (h9 : k + e.nb + av.length ≤ 90 + E3 120 av k) (h10 : av.length ≤ 500) (L : Bj) :
  Fun Tryz.prog 169 [.agg cs.toArray, .slice of f.length cf, .slice ot t.length ct, .pointer (some ⟨b, 0, none⟩)] I (rn b oa av c k :: L) (PR b oa av c (e.pl av f t k) L) :=
 Ud n h1 h2 h3 h4 h5 h6 h7 h8 b k h9 h10 L
def Aiq (s nm by' : As) : Option As := match Fo s, Cr by' with
 | some e, some v => if B0 nm = true ∧ (e.put nm v).fine = true then some (e.put nm v).tree.text else none
 | _, _ => none
theorem Mp {P : Program} {f : FuncId} {n : Nat} {I₀ : Heap} {Q : Cv} {k : List Item} {E : Hg} {I : Heap} {L : Bj} {ops : Array Oper} {ol : List Oper} {e : TypeId} {l : List As} {B : Kg} {m c : Nat}
  (hB : Dd 1 m c (l.map sv) B) (hm : m = l.length) (hlen : l.length ≤ Bg) (hs : ∀ s ∈ l, s.length ≤ Bg)
  (h : ∀ I' oa c', HLe I I' → Bm m c B = .slice oa l.length c' → Strs I' oa l c' → A8 P f n I₀ Q ops ol k E I' L) : A8 P f n I₀ Q ops ol k E I (A2 e (l.map sv) B ++ L) := by
 cases B with
 | none =>
  obtain ⟨h1, h2, h3⟩ := hB; obtain rfl : l = [] := by simpa using h1
  exact h I .none 0 (.refl _) rfl ⟨by simp, by simp, by simp, hlen, hs⟩
 | some p =>
  obtain ⟨b, sp⟩ := p; refine Gu fun hle => h _ (some ⟨b, 0, .none⟩) c hle (by rw [← hm]; rfl) ⟨fun y hy => ?_, by simp, by have := hB.2.1; omega, hlen, hs⟩
  cases hy; exact A9
theorem X5 {I : Heap} {e : Ex} {cs : List Value} (h : Rep I e.tree cs) (hfine : e.fine = true) (L : Bj) : Fun Tryz.prog 123 [.agg cs.toArray] I L (fun v I' L' => ∃ ds, v = .tuple #[.agg (List.toArray ds), .bool true] ∧ Rep I' e.plain.tree ds ∧ L = L') := by
 obtain ⟨oa, c, oaf, cf, rfl, hf⟩ := h.at'
 have hf2 := hfine
 simp only [Ex.fine, Bool.and_eq_true, decide_eq_true_eq, Tree.fits] at hf2
 have hroom := O6 hf2.1.2
 have hph := e.pl_hits e.free [] [] 0
 have hh0 : E3 120 e.free 0 = 0 := rfl
 have hh1 := Bp 120 e.free (e.pl e.free [] [] 0).2
 refine Ao Ae ?_; refine Se rfl ?_; refine Cm rfl rfl .free rfl ?_; intro b1; refine A1 .free rfl ?_; intro b2; refine Oa rfl (Ab (Se rfl ?_)); refine Az rfl .free rfl ?_; refine Dl .free rfl ?_; intro b7; refine Dl .free rfl ?_; intro b8; refine C4 (L' := A2 9 (([] : List As).map sv) (some (b8, [])) ++ _) (fun w h => h) ?_; refine Ca rfl (Ade _ (Nat.lt_succ_self _) hf.rep hf2.1.1 (Ik _ _) Jc [] (some (b8, [])) 0 Dr ⟨rfl, Nat.le_refl _, rfl⟩ _) ?_; rintro _ J1 _ e1 ⟨B, cB, rfl, hB, rfl⟩
 have hll := Ie [] (e.occ [])
 have hol := e.occ_len []
 simp only [List.length_nil, Nat.zero_add] at hll
 have hnm : ∀ z ∈ C8 [] (e.occ []), B0 z = true := fun z hz => Ex.occ_name hf2.1.1 z (by simpa [Hh] using hz)
 refine Mp hB rfl C3 (S9 hnm) ?_; intro J2 ov cv ez hbv hav; refine Gl (t := 9) rfl hbv ?_
 have hav : Strs J2 ov e.free cv := hav
 have hf := (hf.mono e1).mono ez
 have hle := e1.trans ez
 refine Cd rfl rfl rfl .free rfl ?_; refine Cm rfl rfl .free rfl ?_; intro b11; refine Oa rfl (Ab (Se rfl ?_)); refine Az rfl .free rfl ?_; refine Dl .free rfl ?_; intro b13; refine Dl .free rfl ?_; intro b14; refine Om rfl ?_; refine C4 (L' := rn b11 ov e.free cv 0 :: _) (fun w h => h.f2) ?_; refine Ca rfl (Abh _ (Nat.lt_succ_self _) hf.rep hf2.1.1 (Ik _ _) (Ik _ _) rfl Dr hav b11 0 Aa Aa _) ?_; rintro _ J3 _ e3 ⟨ds, rfl, hr, rfl⟩
 have hr : Rep J3 e.plain.tree ds := hr
 obtain ⟨od, cd, _, rfl, -⟩ := hr.open
 have hle := hle.trans e3
 unfold rn
 refine A1 .free rfl ?_; intro b5; refine By rfl rfl rfl rfl .free ?_; refine Ab (Ah ?_); refine Fh 8 rfl rfl ?_; refine Dt 0 [6] rfl (Ea rfl) ?_; refine Da 1 rfl (Ai rfl) ?_; refine Da 2 rfl (Cb rfl) ?_
 first | refine Da 3 rfl (Aj rfl) ?_ | refine Da 3 rfl (A4 rfl) ?_
 refine Gd 4 6 Af ?_ ?_
 ·skip
  refine Ri 4 rfl rfl (P8 rfl) .free rfl (.inr Au) ?_; refine Da 5 rfl (Le rfl rfl rfl) ?_; refine Dx 6 rfl rfl rfl rfl ?_; refine Db 7 rfl (Bk rfl) ?_; refine A5 Af ?_; refine Am (.c rfl (.tmp rfl .nil)) ?_; refine ⟨J3, L, hle, Cl, _, ?_, hr, rfl⟩
  simp [C2]; omega
 ·skip
  refine S4 6 rfl rfl rfl rfl rfl rfl .free (.inl Af) ?_; refine Sm 4 rfl Af rfl (P8 rfl) .free rfl (.inl Af) ?_; refine Db 5 rfl (Le rfl rfl rfl) ?_; refine Db 7 rfl (Bk rfl) ?_; refine A5 Af ?_; refine Am (.c rfl (.tmp rfl .nil)) ?_; refine ⟨J3, L, hle, Cl, _, ?_, hr, rfl⟩
  simp [C2]; omega
theorem S2 {I : Heap} {oa : Option Addr} {l : List UInt8} {c : Nat} (h : Bytes I oa l c) (L : Bj) : Fun Tryz.prog 31 [.slice oa l.length c] I L (DX L) := by
 refine Ao Ae ?_; refine Se rfl (Oa rfl (Ab (Se rfl (Om rfl ?_)))); refine Ca rfl (Adi h _) ?_; rintro _ J1 _ e1 ⟨b, oa1, l1, c1, rfl, h1, hl1, rfl⟩; refine Oa rfl (Ab (Ah (Se rfl (Om rfl ?_)))); refine Ca rfl (D3 h1 hl1 b _ 5 Aa Ad _) ?_; rintro _ _ _ _ ⟨r, rfl, rfl, rfl, hr⟩; refine Oc rfl rfl rfl (Ab ?_); refine A6 rfl ?_ ?_
 ·intro c0
  try simp only [nb] at c0
  refine Se rfl (Om rfl ?_); refine Ca rfl (Abm h1 hl1 b _ Aa _) ?_; rintro _ J2 _ e2 ⟨s, p', rfl, hs, hp1, hp2, rfl⟩; refine Oa rfl (Ab (Am (.tmp rfl .nil) ?_))
  exact ⟨J2, L, e1.trans e2, fun _ h => h.drop, s, rfl, by omega, rfl⟩
 intro c0
 try simp only [nb] at c0
 refine Ak (Se rfl (Om rfl ?_)); refine Ca rfl (Adj h1 hl1 b _ Aa _) ?_; rintro _ J2 _ e2 ⟨s, p', rfl, hs, hp1, hp2, rfl⟩; refine Oa rfl (Ab (Am (.tmp rfl .nil) ?_))
 exact ⟨J2, L, e1.trans e2, fun _ h => h.drop, s, rfl, hs, rfl⟩
def DX2 (L : Bj) : Cv := fun v I' L' => ∃ s t, v = .tuple #[.string (str s), .string (str t)] ∧ List.length s ≤ 400001 ∧ List.length t ≤ 400001 ∧ L = L'
def DX3 (L : Bj) : Cv := fun v I' L' => ∃ s t u, v = .tuple #[.string (str s), .string (str t), .string (str u)] ∧ List.length s ≤ 400001 ∧ List.length t ≤ 400001 ∧ List.length u ≤ 400001 ∧ L = L'
section
variable {P : Program} {f : FuncId} {n : Nat} {I₀ : Heap} {Q : Cv} {k : List Item} {E : Hg} {I : Heap} {L : Bj} {ops : Array Oper} {d : Nat} {ty : TypeId} {pos : String} {af : Array Edge} {g : Option (Nat × Bool)} {l : List Oper}
end
def DXI (L : Bj) : Cv := fun v I' L' => ∃ (s : As) (n : Int), v = .tuple #[.string (str s), .int .i64 n] ∧ List.length s ≤ 400100 ∧ -10000 ≤ n ∧ n ≤ 10000 ∧ L = L'
def Ais (L : Bj) : Cv := fun v I' L' => ∃ (s : As) (n : Int), v = .tuple #[.string (str s), .int .i64 n] ∧ List.length s ≤ 400001 ∧ -10000 ≤ n ∧ n ≤ 10000 ∧ L = L'
open Go.Shelf
def Wd : Go.Shelf.Ren := ⟨fun | 171 => 158 | 243 => 193 | 246 => 205 | 283 => 212 | 284 => 213 | 285 => 214 | 286 => 215 | 129 => 217 | 317 => 216 | 318 => 218 | 319 => 219 | 320 => 220 | 337 => 221 | 338 => 222 | n => n, fun | 3 => 3 | 9 => 9 | 2 => 2 | 4 => 4 | 171 => 215 | 0 => 0 | 53 => 201 | 37 => 22 | 5 => 5 | 173 => 218 | 212 => 221 | 51 => 222 | 20 => 20 | 213 => 223 | 46 => 204 | 232 => 227 | 233 => 228 | n => n, fun | 17 => 2 | 18 => 3 | 19 => 4 | n => n⟩
theorem Ads : Go.Proofs.LaysM.n171 Tryz.prog Wd := {
 mixed := by kernel_rfl
 f129 := Tryz.func217.trans (congrArg some (by kernel_rfl))
 f171 := Tryz.func158.trans (congrArg some (by kernel_rfl))
 f243 := Tryz.func193.trans (congrArg some (by kernel_rfl))
 f246 := Tryz.func205.trans (congrArg some (by kernel_rfl))
 f283 := Tryz.func212.trans (congrArg some (by kernel_rfl))
 f284 := Tryz.func213.trans (congrArg some (by kernel_rfl))
 f285 := Tryz.func214.trans (congrArg some (by kernel_rfl))
 f286 := Tryz.func215.trans (congrArg some (by kernel_rfl))
 f317 := Tryz.func216.trans (congrArg some (by kernel_rfl))
 f318 := Tryz.func218.trans (congrArg some (by kernel_rfl))
 f319 := Tryz.func219.trans (congrArg some (by kernel_rfl))
 f320 := Tryz.func220.trans (congrArg some (by kernel_rfl))
 f337 := Tryz.func221.trans (congrArg some (by kernel_rfl))
 f338 := Tryz.func222.trans (congrArg some (by kernel_rfl))
 t0 := Tryz.underlying0
 a0 := Tryz.isAgg0
 z0 := Tryz.sizeOf0
 v0 := Tryz.zeroValue0
 t2 := Tryz.underlying2
 a2 := Tryz.isAgg2
 z2 := Tryz.sizeOf2
 v2 := Tryz.zeroValue2
 t3 := Tryz.underlying3
 a3 := Tryz.isAgg3
 z3 := Tryz.sizeOf3
 v3 := Tryz.zeroValue3
 t4 := Tryz.underlying4
 a4 := Tryz.isAgg4
 z4 := Tryz.sizeOf4
 v4 := Tryz.zeroValue4
 t5 := Tryz.underlying5
 a5 := Tryz.isAgg5
 z5 := Tryz.sizeOf5
 v5 := Tryz.zeroValue5
 t9 := Tryz.underlying9
 a9 := Tryz.isAgg9
 z9 := Tryz.sizeOf9
 v9 := Tryz.zeroValue9
 t20 := Tryz.underlying20
 a20 := Tryz.isAgg20
 z20 := Tryz.sizeOf20
 v20 := Tryz.zeroValue20
 t37 := Tryz.underlying22
 a37 := Tryz.isAgg22
 z37 := Tryz.sizeOf22
 v37 := Tryz.zeroValue22
 t46 := Tryz.underlying204
 a46 := Tryz.isAgg204
 z46 := Tryz.sizeOf204
 v46 := Tryz.zeroValue204
 t51 := Tryz.underlying222
 a51 := Tryz.isAgg222
 z51 := Tryz.sizeOf222
 v51 := Tryz.zeroValue222
 t53 := Tryz.underlying201
 a53 := Tryz.isAgg201
 z53 := Tryz.sizeOf201
 v53 := Tryz.zeroValue201
 t171 := Tryz.underlying215
 a171 := Tryz.isAgg215
 z171 := Tryz.sizeOf215
 v171 := Tryz.zeroValue215
 t173 := Tryz.underlying218
 a173 := Tryz.isAgg218
 z173 := Tryz.sizeOf218
 v173 := Tryz.zeroValue218
 t212 := Tryz.underlying221
 a212 := Tryz.isAgg221
 z212 := Tryz.sizeOf221
 v212 := Tryz.zeroValue221
 t213 := Tryz.underlying223
 a213 := Tryz.isAgg223
 z213 := Tryz.sizeOf223
 t232 := Tryz.underlying227
 a232 := Tryz.isAgg227
 z232 := Tryz.sizeOf227
 v232 := Tryz.zeroValue227
 t233 := Tryz.underlying228
 a233 := Tryz.isAgg228
 z233 := Tryz.sizeOf228
 v233 := Tryz.zeroValue228
 g17 := by kernel_rfl
 g18 := by kernel_rfl
 g19 := by kernel_rfl
 i0 := by kernel_rfl
 i2 := by kernel_rfl
 i3 := by kernel_rfl
 i4 := by kernel_rfl
 i5 := by kernel_rfl
 i9 := by kernel_rfl
 i20 := by kernel_rfl
 i37 := by kernel_rfl
 i46 := by kernel_rfl
 i51 := by kernel_rfl
 i53 := by kernel_rfl
 i171 := by kernel_rfl
 i173 := by kernel_rfl
 i212 := by kernel_rfl
 i232 := by kernel_rfl
 i233 := by kernel_rfl
 m17 := by kernel_rfl
 m18 := by kernel_rfl
 m19 := by kernel_rfl }
open Go.Shelf
def Yb : Go.Shelf.Ren := ⟨fun | 171 => 158 | 243 => 193 | 246 => 205 | 283 => 212 | 284 => 213 | 285 => 214 | 286 => 215 | 129 => 217 | 317 => 216 | 318 => 218 | 319 => 219 | 320 => 220 | 337 => 221 | 338 => 222 | n => n, fun | 3 => 3 | 9 => 9 | 2 => 2 | 4 => 4 | 171 => 215 | 0 => 0 | 53 => 201 | 37 => 22 | 5 => 5 | 173 => 218 | 212 => 221 | 51 => 222 | 20 => 20 | 213 => 223 | 46 => 204 | 232 => 227 | 233 => 228 | n => n, fun | 17 => 2 | 18 => 3 | 19 => 4 | n => n⟩
theorem Afi : Go.Proofs.Lays.n171 Tryz.prog Yb := {
 mixed := by kernel_rfl
 f129 := Tryz.func217.trans (congrArg some (by kernel_rfl))
 f171 := Tryz.func158.trans (congrArg some (by kernel_rfl))
 f243 := Tryz.func193.trans (congrArg some (by kernel_rfl))
 f246 := Tryz.func205.trans (congrArg some (by kernel_rfl))
 f283 := Tryz.func212.trans (congrArg some (by kernel_rfl))
 f284 := Tryz.func213.trans (congrArg some (by kernel_rfl))
 f285 := Tryz.func214.trans (congrArg some (by kernel_rfl))
 f286 := Tryz.func215.trans (congrArg some (by kernel_rfl))
 f317 := Tryz.func216.trans (congrArg some (by kernel_rfl))
 f318 := Tryz.func218.trans (congrArg some (by kernel_rfl))
 f319 := Tryz.func219.trans (congrArg some (by kernel_rfl))
 f320 := Tryz.func220.trans (congrArg some (by kernel_rfl))
 f337 := Tryz.func221.trans (congrArg some (by kernel_rfl))
 f338 := Tryz.func222.trans (congrArg some (by kernel_rfl))
 t0 := Tryz.underlying0
 a0 := Tryz.isAgg0
 z0 := Tryz.sizeOf0
 v0 := Tryz.zeroValue0
 t2 := Tryz.underlying2
 a2 := Tryz.isAgg2
 z2 := Tryz.sizeOf2
 v2 := Tryz.zeroValue2
 t3 := Tryz.underlying3
 a3 := Tryz.isAgg3
 z3 := Tryz.sizeOf3
 v3 := Tryz.zeroValue3
 t4 := Tryz.underlying4
 a4 := Tryz.isAgg4
 z4 := Tryz.sizeOf4
 v4 := Tryz.zeroValue4
 t5 := Tryz.underlying5
 a5 := Tryz.isAgg5
 z5 := Tryz.sizeOf5
 v5 := Tryz.zeroValue5
 t9 := Tryz.underlying9
 a9 := Tryz.isAgg9
 z9 := Tryz.sizeOf9
 v9 := Tryz.zeroValue9
 t20 := Tryz.underlying20
 a20 := Tryz.isAgg20
 z20 := Tryz.sizeOf20
 v20 := Tryz.zeroValue20
 t37 := Tryz.underlying22
 a37 := Tryz.isAgg22
 z37 := Tryz.sizeOf22
 v37 := Tryz.zeroValue22
 t46 := Tryz.underlying204
 a46 := Tryz.isAgg204
 z46 := Tryz.sizeOf204
 v46 := Tryz.zeroValue204
 t51 := Tryz.underlying222
 a51 := Tryz.isAgg222
 z51 := Tryz.sizeOf222
 v51 := Tryz.zeroValue222
 t53 := Tryz.underlying201
 a53 := Tryz.isAgg201
 z53 := Tryz.sizeOf201
 v53 := Tryz.zeroValue201
 t171 := Tryz.underlying215
 a171 := Tryz.isAgg215
 z171 := Tryz.sizeOf215
 v171 := Tryz.zeroValue215
 t173 := Tryz.underlying218
 a173 := Tryz.isAgg218
 z173 := Tryz.sizeOf218
 v173 := Tryz.zeroValue218
 t212 := Tryz.underlying221
 a212 := Tryz.isAgg221
 z212 := Tryz.sizeOf221
 v212 := Tryz.zeroValue221
 t213 := Tryz.underlying223
 a213 := Tryz.isAgg223
 z213 := Tryz.sizeOf223
 t232 := Tryz.underlying227
 a232 := Tryz.isAgg227
 z232 := Tryz.sizeOf227
 v232 := Tryz.zeroValue227
 t233 := Tryz.underlying228
 a233 := Tryz.isAgg228
 z233 := Tryz.sizeOf228
 v233 := Tryz.zeroValue228
 g17 := by kernel_rfl
 g18 := by kernel_rfl
 g19 := by kernel_rfl }
theorem Aa4 : ∀ i : Nat, i < 100 → Lib.decDigits i = Lg i := by decide +kernel
theorem Sv (i : Nat) (hi : i < 100) (I : Heap) (L : Bj) : Fun Tryz.prog 158 [.int .i64 (i : Nat)] I L (E2 (.string (str (Lg i))) I L) := by
 refine ⟨fun w hm => (Any.strconv_Itoa_small Afi i hi w).mono ?_⟩; rintro e w' ⟨rfl, rfl⟩; refine ⟨_, I, L, rfl, .refl _, hm, ?_⟩; rw [Aa4 i hi]
 exact ⟨rfl, rfl, rfl⟩
def Tab (I : Heap) : Prop := ∀ L w, Mem I L w → Lib.TabIs Tryz.prog w "internal/strconv.uint64pow10" .u64 Lib.pow10Tab
theorem Tab.mono {I I' : Heap} (h : Tab I) (hle : HLe I I') : Tab I' := fun L w hm => h L w (hm.le hle)
theorem Aag (n : Nat) : Lib.decDigits n = Lg n := by
 induction n using Nat.strongRecOn with
 | _ n ih =>
  rw [Lib.decDigits]
  by_cases h : n < 10
  ·rw [dif_pos h, G2 h]
  ·rw [dif_neg h, I0 h, ih (n / 10) Aa]
def Ue (n : Int) : As := if n < 0 then 45 :: Lg n.natAbs else Lg n.toNat
theorem Adm (n : Nat) : Ue (n : Nat) = Lg n := by unfold Ue; rw [if_neg (by omega)]; rfl
theorem Abo (n : Int) : Lib.itoa n = Ue n := by unfold Lib.itoa Ue; rw [Aag, Aag]
theorem Mem.grow {I : Heap} {L : Bj} {w : World} (h : Mem I L w) (k : Nat) (os : Array Obj) : Mem I L (Sort.grow (w.drewN k) os) := by
 have hk : ∀ b o, w.heap[b]? = some o → (w.heap ++ os)[b]? = some o := fun b o hb => by
  have hlt : b < w.heap.size := by
   rcases Nat.lt_or_ge b w.heap.size with g | g
   ·exact g
   ·rw [Array.getElem?_eq_none g] at hb; cases hb
  rw [Array.getElem?_append_left hlt]; exact hb
 exact ⟨⟨fun b o hb => hk b o (h.1.1 b o hb), h.1.2⟩, fun p hp => ⟨hk _ _ (h.2.1 p hp).1, (h.2.1 p hp).2⟩, h.2.2⟩
theorem Ic {I : Heap} (ht : Tab I) (n : Int) (h0 : -9223372036854775808 ≤ n) (h1 : n ≤ 9223372036854775807) (L : Bj) : Fun Tryz.prog 158 [.int .i64 n] I L (E2 (.string (str (Ue n))) I L) := by
 refine ⟨fun w hm => (Any.strconv_Itoa Ads n h0 h1 w (ht L w hm)).mono ?_⟩; rintro e w' ⟨rfl, k, os, rfl⟩; refine ⟨_, I, L, rfl, .refl _, hm.grow k os, ?_⟩; rw [Abo]
 exact ⟨rfl, rfl, rfl⟩
def Lv : List As → Nat → List MapEntry
 | [], _ => []
 | s :: l, i => ⟨.string (str s), .bool true, i⟩ :: Lv l (i + 1)
def G3 (l : List As) : Obj := .map (Lv l 0).toArray l.length
theorem Uq (s : As) : ∀ (l : List As) (i : Nat), Lv (l ++ [s]) i = Lv l i ++ [⟨.string (str s), .bool true, i + l.length⟩]
 | [], i => rfl
 | x :: l, i => by simp only [List.cons_append, Lv, Uq s l (i + 1), List.length_cons]; rw [show i + 1 + l.length = i + (l.length + 1) by omega]
theorem Tp (s x : As) : Instr.sameNow .string (.string (str s)) (.string (str x)) = some (decide (s = x)) := by
 simp only [Instr.sameNow, Option.some.injEq]
 show (s.toArray == x.toArray) = _
 rw [Bool.eq_iff_iff, beq_iff_eq, decide_eq_true_eq]
 constructor
 ·intro h; simpa using congrArg Array.toList h
 ·intro h; rw [h]
theorem Aaj (s : As) : ∀ (l : List As) (i j : Nat), s ∈ l → ∃ k, Instr.findNow .string (.string (str s)) (Lv l i) j = some (some (k, .bool true))
 | [], i, j, h => by cases h
 | x :: l, i, j, h => by
  simp only [Lv, Instr.findNow, Tp]
  by_cases e : s = x
  ·simp [e]
  ·simp only [e, decide_false]
   rcases List.mem_cons.1 h with h | h
   ·exact absurd h e
   ·exact Aaj s l (i + 1) (j + 1) h
theorem Sx (s : As) : ∀ (l : List As) (i j : Nat), s ∉ l → Instr.findNow .string (.string (str s)) (Lv l i) j = some none
 | [], i, j, h => rfl
 | x :: l, i, j, h => by
  simp only [Lv, Instr.findNow, Tp]
  have e : s ≠ x := fun e => h (e ▸ .head _)
  simp only [e, decide_false]
  exact Sx s l (i + 1) (j + 1) fun hh => h (.tail _ hh)
section
variable {P : Program} {f : FuncId} {n : Nat} {I₀ : Heap} {Q : Cv} {k : List Item} {E : Hg} {I : Heap} {L : Bj} {ops : Array Oper} {d : Nat} {ty : TypeId} {pos : String} {af : Array Edge} {g : Option (Nat × Bool)} {l : List Oper}
theorem O9 {w : World} {r c : Nat} {es : Array MapEntry} (h : w.heap[r]? = some (.map es c)) : (getObj r).run P w = .ok (.map es c) w := by simp [getObj, Sem.run, h]
theorem To {w : World} {r c : Nat} {es : Array MapEntry} {o' : Obj} (h : w.heap[r]? = some (.map es c)) : (setObj r o').run P w = .ok () { w with heap := w.heap.setIfInBounds r o' } := by simp [setObj, Sem.run, h]
theorem Mv {T : TypeId} {sz bb : Nat} {z : List Value} (ht : At P T .string sz bb z) (e : Bool) (s : As) (w : World) : (Instr.checkKey e 10000 T (.string (str s))).run P w = .ok () w := by
 rw [show (10000 : Nat) = 9999 + 1 from rfl]
 unfold Instr.checkKey
 rw [Ag (A3 ht.und w)]
 rfl
theorem Lb {T : TypeId} {sz bb : Nat} {z : List Value} (ht : At P T .string sz bb z) {v : Value} {es : List MapEntry} {r : Option (Nat × Value)} (h : Instr.findNow .string v es 0 = some r) (w : World) : (Instr.findKey T v es).run P w = .ok r w := by
 unfold Instr.findKey
 rw [Ag (A3 ht.und w), h]
 rfl
theorem Abz {T K V : TypeId} {sz bb : Nat} {z : List Value} [ht : At P T (.map K V) sz bb z] (hg : Wants ops E g) (hdn : Nat.blt d n = true)
  (h : ∀ b, A8 P f n I₀ Q ops l k ((d, .map (some b)) :: E) I ((b, G3 []) :: L)) : A8 P f n I₀ Q ops (⟨some d, .makeMap T none, ty, pos, af, g⟩ :: l) k E I L := by
 refine Jo rfl hdn (fun a he => hg.wanted a he) fun a w he hm => ?_
 refine ⟨_, _, I, (w.heap.size, G3 []) :: L, ?_, hm.alloc _, h _⟩
 rfl
theorem Ad7 {T K V : TypeId} {sz bb ks kb vs vb : Nat} {z kz vz : List Value} [ht : At P T (.map K V) sz bb z] [hk : At P K .string ks kb kz] [hv : At P V .bool vs vb vz] {x y : Operand} {b : Nat} {m : List As} {s : As}
  (hx : Ch E x = some (.map (some b))) (hy : Ch E y = some (.string (str s))) (hz : ∃ i, P.info? V = some i ∧ i.zero = some (.bool false)) (hm : ∀ w, Mem I L w → w.heap[b]? = some (G3 m)) (hg : Wants ops E g) (hdn : Nat.blt d n = true)
  (h : A8 P f n I₀ Q ops l k ((d, .bool (decide (s ∈ m))) :: E) I L) : A8 P f n I₀ Q ops (⟨some d, .lookup T x y false, ty, pos, af, g⟩ :: l) k E I L := by
 refine Aec rfl hdn (fun a he => hg.wanted a he) (fun a w he hM => ⟨w, ?_, hM⟩) h
 simp only [execOp, he.eval hx, he.eval hy, Instr.lookup]
 refine Ag (a := .bool (decide (s ∈ m))) (w' := w) ?_ |>.trans rfl
 rw [Ag (A3 ht.und w)]
 simp only
 rw [Ag (O9 (hm w hM))]
 simp only [pure_bind]
 rw [Ag (Mv hk _ s w)]
 by_cases hs : s ∈ m
 ·obtain ⟨j, hj⟩ := Aaj s m 0 0 hs; rw [Ag (Lb hk (show Instr.findNow .string (.string (str s)) (Lv m 0).toArray.toList 0 = _ from hj) w)]
  simp [hs]
 ·rw [Ag (Lb hk (show Instr.findNow .string (.string (str s)) (Lv m 0).toArray.toList 0 = _ from Sx s m 0 0 hs) w)]; obtain ⟨i, hi1, hi2⟩ := hz
  have hv1 : (zeroValue V).run P w = .ok (.bool false) w := by
   unfold zeroValue
   rw [Ag (H0 hi1 w), hi2]; rfl
  simp only
  rw [Ag hv1]
  simp [hs]
theorem Ym {T K V : TypeId} {sz bb ks kb : Nat} {z kz : List Value} [ht : At P T (.map K V) sz bb z] [hk : At P K .string ks kb kz] {x y u : Operand} {b : Nat} {m : List As} {s : As} {L' : Bj}
  (hx : Ch E x = some (.map (some b))) (hy : Ch E y = some (.string (str s))) (hv : Ch E u = some (.bool true)) (hs : s ∉ m) (hu : Upd b (G3 (m ++ [s])) (G3 m) L L') (hg : Wants ops E g)
  (h : A8 P f n I₀ Q ops l k E I L') : A8 P f n I₀ Q ops (⟨none, .mapUpdate T x y u, ty, pos, af, g⟩ :: l) k E I L := by
 refine Nk rfl (fun a he => hg.wanted a he) (fun a w he hM => ⟨_, .inl ?_, hM.upd hu⟩) h
 simp only [execOp, he.eval hx, he.eval hy, he.eval hv, Instr.mapUpdate]
 refine Ag (a := ()) (w' := { w with heap := w.heap.setIfInBounds b (G3 (m ++ [s])) }) ?_ |>.trans rfl
 rw [Ag (A3 ht.und w)]
 simp only
 rw [Ag (O9 (hM.2.1 _ hu.mem.1).1)]
 simp only [G3]
 rw [Ag (Mv hk _ s w)]; rw [Ag (Lb hk (show Instr.findNow .string (.string (str s)) (Lv m 0).toArray.toList 0 = _ from Sx s m 0 0 hs) w)]
 simp only
 rw [To (hM.2.1 _ hu.mem.1).1]
 simp [Uq]
end
theorem Aai (s : As) : ∀ (l : List As) (i j : Nat), s ∈ l → ∃ k, Instr.findNow .string (.string (str s)) (Lv l i) j = some (some (j + k, .bool true)) ∧ (Lv l i)[k]? = some ⟨.string (str s), .bool true, i + k⟩
 | [], i, j, h => by cases h
 | x :: l, i, j, h => by
  simp only [Lv, Instr.findNow, Tp]
  by_cases e : s = x
  ·subst e; exact ⟨0, by simp, by simp⟩
  ·simp only [e, decide_false]
   rcases List.mem_cons.1 h with h | h
   ·exact absurd h e
   ·obtain ⟨k, h1, h2⟩ := Aai s l (i + 1) (j + 1) h
    exact ⟨k + 1, by rw [h1]; simp; omega, by rw [List.getElem?_cons_succ, h2]; congr 2; omega⟩
theorem Ab8 (s : As) {P : Program} (w : World) : (Instr.keyThatStays (.string (str s)) (.string (str s))).run P w = .ok (.string (str s)) w := by
 have h : Instr.sameBits 10000 (.string (str s)) (.string (str s)) = true := by
  show (str s == str s) = true
  show (s.toArray == s.toArray) = true
  simp
 unfold Instr.keyThatStays
 rw [if_pos h]; rfl
section
variable {P : Program} {f : FuncId} {n : Nat} {I₀ : Heap} {Q : Cv} {k : List Item} {E : Hg} {I : Heap} {L : Bj} {ops : Array Oper} {d : Nat} {ty : TypeId} {pos : String} {af : Array Edge} {g : Option (Nat × Bool)} {l : List Oper}
theorem Ad8 {T K V : TypeId} {sz bb ks kb : Nat} {z kz : List Value} [ht : At P T (.map K V) sz bb z] [hk : At P K .string ks kb kz] {x y u : Operand} {b : Nat} {m : List As} {s : As} {L' : Bj}
  (hx : Ch E x = some (.map (some b))) (hy : Ch E y = some (.string (str s))) (hv : Ch E u = some (.bool true)) (hu : Upd b (G3 (Fj m s)) (G3 m) L L') (hg : Wants ops E g)
  (h : A8 P f n I₀ Q ops l k E I L') : A8 P f n I₀ Q ops (⟨none, .mapUpdate T x y u, ty, pos, af, g⟩ :: l) k E I L := by
 by_cases hs : s ∈ m
 ·refine Nk rfl (fun a he => hg.wanted a he) (fun a w he hM => ⟨_, .inl ?_, hM.upd hu⟩) h
  simp only [execOp, he.eval hx, he.eval hy, he.eval hv, Instr.mapUpdate]
  refine Ag (a := ()) (w' := { w with heap := w.heap.setIfInBounds b (G3 (Fj m s)) }) ?_ |>.trans rfl
  rw [Ag (A3 ht.und w)]
  simp only
  rw [Ag (O9 (hM.2.1 _ hu.mem.1).1)]
  simp only [G3]
  rw [Ag (Mv hk _ s w)]; obtain ⟨i, hi1, hi2⟩ := Aai s m 0 0 hs; rw [Nat.zero_add] at hi1 hi2; rw [Ag (Lb hk (show Instr.findNow .string (.string (str s)) (Lv m 0).toArray.toList 0 = _ from hi1) w)]
  simp only [List.getElem?_toArray, hi2, Option.map_some, Option.getD_some]
  rw [Ag (Ab8 s w), To (hM.2.1 _ hu.mem.1).1]
  have e1 : Fj m s = m := by simp [Fj, hs]
  have e2 : (Lv m 0).toArray.modify i (fun e => { e with key := .string (str s), val := .bool true }) = (Lv m 0).toArray := by
   apply Array.ext
   ·simp
   ·intro j h1 h2; rw [Array.getElem_modify]
    split
    ·rename_i hij
     subst hij
     have h3 : (Lv m 0)[i]? = some ((Lv m 0)[i]'(by simpa using h2)) := List.getElem?_eq_getElem _
     rw [hi2] at h3
     simp only [Option.some.injEq] at h3
     simp only [List.getElem_toArray, ← h3]
    ·rfl
  rw [e1, e2]
 ·have e1 : Fj m s = m ++ [s] := by simp [Fj, hs]
  rw [e1] at hu
  exact Ym hx hy hv hs hu hg h
end
section
variable {P : Program} {f : FuncId} {n : Nat} {I₀ : Heap} {Q : Cv} {k : List Item} {E : Hg} {I : Heap} {id : Nat} {ops : Array Oper} {a b c p q r s t u v : Nat × Obj} {X A B L R : Bj} {w : World}
theorem Af1 {z m c : Nat} {xs : List Value} {B : Kg} (h : Dd z m c xs B) : ∃ a j, Bm m c B = .slice a m j := by
 cases B with
 | none => obtain ⟨_, rfl, rfl⟩ := h; exact ⟨_, _, rfl⟩
 | some p => exact ⟨_, _, rfl⟩
theorem Ahm {b : Nat} {o o' : Obj} {p p1 p2 p3 p4 p5 p6 : Nat × Obj} : Upd b o' o (p :: p1 :: p2 :: p3 :: p4 :: p5 :: p6 :: (b, o) :: L) (p :: p1 :: p2 :: p3 :: p4 :: p5 :: p6 :: (b, o') :: L) := .there u6
theorem Mem.nq3 (h : Mem I (p :: q :: r :: a :: b :: R) w) : Mem I (a :: b :: p :: q :: r :: R) w := h.perm (List.perm_append_comm_assoc [p, q, r] [a, b] R)
theorem Mem.nq4 (h : Mem I (p :: q :: r :: s :: a :: b :: R) w) : Mem I (a :: b :: p :: q :: r :: s :: R) w := h.perm (List.perm_append_comm_assoc [p, q, r, s] [a, b] R)
theorem Mem.qn4 (h : Mem I (a :: b :: p :: q :: r :: s :: R) w) : Mem I (p :: q :: r :: s :: a :: b :: R) w := h.perm (List.perm_append_comm_assoc [a, b] [p, q, r, s] R)
theorem Mem.kv (h : Mem I (X ++ (a :: b :: c :: (A ++ L))) w) : Mem I (a :: b :: c :: (A ++ (X ++ L))) w := h.perm (List.perm_append_comm_assoc X (a :: b :: c :: A) L)
theorem Mem.vk (h : Mem I (a :: b :: c :: (A ++ (X ++ L))) w) : Mem I (X ++ (a :: b :: c :: (A ++ L))) w := h.perm (List.perm_append_comm_assoc (a :: b :: c :: A) X L)
theorem Mem.kv2 (h : Mem I (p :: q :: a :: b :: c :: (A ++ L)) w) : Mem I (a :: b :: c :: (A ++ (p :: q :: L))) w := Mem.kv (X := [p, q]) h
theorem Mem.vk2 (h : Mem I (a :: b :: c :: (A ++ (p :: q :: L))) w) : Mem I (p :: q :: a :: b :: c :: (A ++ L)) w := Mem.vk (X := [p, q]) h
theorem Mem.kv4 (h : Mem I (p :: q :: r :: s :: a :: b :: c :: (A ++ L)) w) : Mem I (a :: b :: c :: (A ++ (p :: q :: r :: s :: L))) w := Mem.kv (X := [p, q, r, s]) h
theorem Mem.vk4 (h : Mem I (a :: b :: c :: (A ++ (p :: q :: r :: s :: L))) w) : Mem I (p :: q :: r :: s :: a :: b :: c :: (A ++ L)) w := Mem.vk (X := [p, q, r, s]) h
theorem Mem.w3 (h : Mem I (p :: a :: b :: c :: L) w) : Mem I (a :: b :: c :: p :: L) w := h.perm (List.perm_append_comm_assoc [p] [a, b, c] L)
theorem Mem.uu7 (h : Mem I (a :: b :: c :: p :: q :: r :: s :: (X ++ L)) w) : Mem I (X ++ a :: b :: c :: p :: q :: r :: s :: L) w := h.perm (List.perm_append_comm_assoc [a, b, c, p, q, r, s] X L)
theorem Ag8 (N : Nat) (hN : ops.size = N) (hm : P.follows .mixedOrders = true) (h : C0 P f n I₀ Q ops (Mem I (a :: p :: q :: r :: s :: t :: L)) N (Array.replicate N false) k E I (a :: p :: q :: r :: s :: t :: (A ++ L))) :
  RunS P f n I₀ Q (.code (.region id ops true) :: k) E I (a :: p :: q :: r :: s :: t :: (A ++ L)) := Kk I (a :: p :: q :: r :: s :: t :: L) N hN hm h
theorem Agf (N : Nat) (hN : ops.size = N) (hm : P.follows .mixedOrders = true) (h : C0 P f n I₀ Q ops (Mem I (p :: q :: r :: s :: R)) N (Array.replicate N false) k E I (p :: q :: r :: s :: a :: b :: R)) :
  RunS P f n I₀ Q (.code (.region id ops true) :: k) E I (p :: q :: r :: s :: a :: b :: R) := Kk I (p :: q :: r :: s :: R) N hN hm h
theorem Ae5 (N : Nat) (hN : ops.size = N) (hm : P.follows .mixedOrders = true) (h : C0 P f n I₀ Q ops (Mem I (p :: q :: r :: s :: L)) N (Array.replicate N false) k E I (p :: q :: r :: s :: a :: b :: c :: (A ++ L))) :
  RunS P f n I₀ Q (.code (.region id ops true) :: k) E I (p :: q :: r :: s :: a :: b :: c :: (A ++ L)) := Kk I (p :: q :: r :: s :: L) N hN hm h
end
structure MK where
 e : Ex
 ns : List (As × Ex)
 n : Nat
 g : Nat
def MK.pt (tk : List As) (p : MK) : MK := if p.e.bare = true then p else ⟨.name (nm 121 (fr 121 tk p.n)), p.ns ++ [(nm 121 (fr 121 tk p.n), p.e)], fr 121 tk p.n + 1, p.g + 1⟩
def MK.all (p : MK) : Ex := Fu p.ns p.e
def Ex.mk (tk : List As) : Ex → Nat → MK
 | .num s, n => ⟨.num s, [], n, 0⟩
 | .name s, n => ⟨.name s, [], n, 0⟩
 | .lt x a b, n => let p := a.mk tk n; let q := b.mk tk p.n; ⟨q.e, p.ns ++ (x, p.e) :: q.ns, q.n, p.g + q.g⟩
 | .fn f x s t b, n => let p := b.mk tk n; ⟨.fn f x s t p.all, [], p.n, p.g⟩
 | .ite a b c, n => let p := (a.mk tk n).pt tk; let q := b.mk tk p.n; let r := c.mk tk q.n; ⟨.ite p.e q.all r.all, p.ns, r.n, p.g + q.g + r.g⟩
 | .bin o a b, n => let p := (a.mk tk n).pt tk; let q := (b.mk tk p.n).pt tk; ⟨.bin o p.e q.e, p.ns ++ q.ns, q.n, p.g + q.g⟩
 | .un o a, n => let p := (a.mk tk n).pt tk; ⟨.un o p.e, p.ns, p.n, p.g⟩
def W5 : List (As × Ex) → Nat
 | [] => 0
 | p :: ps => 2 + p.2.size + W5 ps
theorem R6 : ∀ (a b : List (As × Ex)), W5 (a ++ b) = W5 a + W5 b
 | [], b => by simp [W5]
 | p :: a, b => by simp only [List.cons_append, W5, R6 a b]; omega
theorem S7 : ∀ (l : List (As × Ex)) (e : Ex), (Fu l e).size = W5 l + e.size
 | [], e => by simp [Fu, W5]
 | p :: l, e => by simp only [Fu, Ex.size, S7 l e, W5]; omega
theorem MK.all_size (p : MK) : p.all.size = W5 p.ns + p.e.size := S7 _ _
theorem MK.pt_size (tk : List As) (p : MK) {s : Nat} (h : W5 p.ns + p.e.size = s + 3 * p.g) : W5 (p.pt tk).ns + (p.pt tk).e.size = s + 3 * (p.pt tk).g := by
 unfold MK.pt
 split
 ·exact h
 ·simp only [R6, W5, Ex.size]; omega
theorem Ex.mk_size (tk : List As) : ∀ (e : Ex) (n : Nat), W5 (e.mk tk n).ns + (e.mk tk n).e.size = e.size + 3 * (e.mk tk n).g
 | .num s, n => by simp [Ex.mk, W5, Ex.size]
 | .name s, n => by simp [Ex.mk, W5, Ex.size]
 | .lt x a b, n => by
  have h1 := a.mk_size tk n; have h2 := b.mk_size tk (a.mk tk n).n
  simp only [Ex.mk, R6, W5, Ex.size]; omega
 | .fn f x s t b, n => by
  have h1 := b.mk_size tk n
  simp only [Ex.mk, W5, Ex.size, MK.all_size]; omega
 | .ite a b c, n => by
  have h1 := MK.pt_size tk _ (a.mk_size tk n)
  have h2 := b.mk_size tk ((a.mk tk n).pt tk).n
  have h3 := c.mk_size tk (b.mk tk ((a.mk tk n).pt tk).n).n
  simp only [Ex.mk, Ex.size, MK.all_size]; omega
 | .bin o a b, n => by
  have h1 := MK.pt_size tk _ (a.mk_size tk n)
  have h2 := MK.pt_size tk _ (b.mk_size tk ((a.mk tk n).pt tk).n)
  simp only [Ex.mk, R6, Ex.size]; omega
 | .un o a, n => by
  have h1 := MK.pt_size tk _ (a.mk_size tk n)
  simp only [Ex.mk, Ex.size]; omega
theorem MK.pt_hits (tk : List As) (p : MK) {n : Nat} (h : n ≤ p.n ∧ p.n + E3 121 tk n = n + p.g + E3 121 tk p.n) : n ≤ (p.pt tk).n ∧ (p.pt tk).n + E3 121 tk n = n + (p.pt tk).g + E3 121 tk (p.pt tk).n := by
 unfold MK.pt
 split
 ·exact h
 ·have h1 := Eo 121 tk p.n
  have h2 := (Dv 121 tk p.n).2.1
  simp only; omega
theorem Ex.mk_hits (tk : List As) : ∀ (e : Ex) (n : Nat), n ≤ (e.mk tk n).n ∧ (e.mk tk n).n + E3 121 tk n = n + (e.mk tk n).g + E3 121 tk (e.mk tk n).n
 | .num s, n => ⟨Nat.le_refl _, by simp [Ex.mk]⟩
 | .name s, n => ⟨Nat.le_refl _, by simp [Ex.mk]⟩
 | .lt x a b, n => by
  have h1 := a.mk_hits tk n; have h2 := b.mk_hits tk (a.mk tk n).n
  simp only [Ex.mk]; omega
 | .fn f x s t b, n => by
  have h1 := b.mk_hits tk n
  simp only [Ex.mk]; omega
 | .ite a b c, n => by
  have h1 := MK.pt_hits tk _ (a.mk_hits tk n)
  have h2 := b.mk_hits tk ((a.mk tk n).pt tk).n
  have h3 := c.mk_hits tk (b.mk tk ((a.mk tk n).pt tk).n).n
  simp only [Ex.mk]; omega
 | .bin o a b, n => by
  have h1 := MK.pt_hits tk _ (a.mk_hits tk n)
  have h2 := MK.pt_hits tk _ (b.mk_hits tk ((a.mk tk n).pt tk).n)
  simp only [Ex.mk]; omega
 | .un o a, n => by
  have h1 := MK.pt_hits tk _ (a.mk_hits tk n)
  simp only [Ex.mk]; omega
theorem MK.pt_g (tk : List As) (p : MK) {s : Nat} (h : p.g + 1 ≤ s) (hb : p.e.bare = false → p.g + 2 ≤ s) : (p.pt tk).g + 1 ≤ s := by
 unfold MK.pt
 split
 ·exact h
 ·rename_i hx; simp only; have := hb (by simpa using hx); omega
theorem Ex.mk_g (tk : List As) : ∀ (e : Ex) (n : Nat), (e.mk tk n).g + 1 ≤ e.size ∧ ((e.mk tk n).e.bare = false → (e.mk tk n).g + 2 ≤ e.size)
 | .num s, n => ⟨Nat.le_refl _, fun h => by cases h⟩
 | .name s, n => ⟨Nat.le_refl _, fun h => by cases h⟩
 | .lt x a b, n => by
  have h1 := a.mk_g tk n; have h2 := b.mk_g tk (a.mk tk n).n
  simp only [Ex.mk, Ex.size]; omega
 | .fn f x s t b, n => by
  have h1 := b.mk_g tk n; have := s.size_pos
  simp only [Ex.mk, Ex.size]; omega
 | .ite a b c, n => by
  have h0 := a.mk_g tk n
  have h1 := MK.pt_g tk _ h0.1 h0.2
  have h2 := b.mk_g tk ((a.mk tk n).pt tk).n
  have h3 := c.mk_g tk (b.mk tk ((a.mk tk n).pt tk).n).n
  simp only [Ex.mk, Ex.size]; omega
 | .bin o a b, n => by
  have h0 := a.mk_g tk n
  have h1 := MK.pt_g tk _ h0.1 h0.2
  have h00 := b.mk_g tk ((a.mk tk n).pt tk).n
  have h2 := MK.pt_g tk _ h00.1 h00.2
  simp only [Ex.mk, Ex.size]; omega
 | .un o a, n => by
  have h0 := a.mk_g tk n
  have h1 := MK.pt_g tk _ h0.1 h0.2
  simp only [Ex.mk, Ex.size]; omega
theorem MK.pt_len (tk : List As) (p : MK) {s : Nat} (h : p.ns.length + 1 ≤ s) : (p.pt tk).ns.length ≤ s := by
 unfold MK.pt
 split
 ·omega
 ·simp only [List.length_append, List.length_cons, List.length_nil]; omega
theorem Ex.mk_len (tk : List As) : ∀ (e : Ex) (n : Nat), (e.mk tk n).ns.length + 1 ≤ e.size
 | .num s, n => Nat.le_refl _
 | .name s, n => Nat.le_refl _
 | .lt x a b, n => by
  have h1 := a.mk_len tk n; have h2 := b.mk_len tk (a.mk tk n).n
  simp only [Ex.mk, Ex.size, List.length_append, List.length_cons]; omega
 | .fn f x s t b, n => by simp only [Ex.mk, Ex.size, List.length_nil]; omega
 | .ite a b c, n => by
  have h1 := MK.pt_len tk _ (a.mk_len tk n)
  simp only [Ex.mk, Ex.size]; omega
 | .bin o a b, n => by
  have h1 := MK.pt_len tk _ (a.mk_len tk n)
  have h2 := MK.pt_len tk _ (b.mk_len tk ((a.mk tk n).pt tk).n)
  simp only [Ex.mk, Ex.size, List.length_append]; omega
 | .un o a, n => by
  have h1 := MK.pt_len tk _ (a.mk_len tk n)
  simp only [Ex.mk, Ex.size]; omega
def okNs (l : List (As × Ex)) : Prop := ∀ p ∈ l, B0 p.1 = true ∧ p.2.ok = true
theorem okNs.add {l m : List (As × Ex)} (h : okNs l) (h' : okNs m) : okNs (l ++ m) := by
 intro p hp
 rcases List.mem_append.1 hp with hp | hp
 ·exact h p hp
 ·exact h' p hp
theorem Ni : ∀ {l : List (As × Ex)} {e : Ex}, okNs l → e.ok = true → (Fu l e).ok = true
 | [], e, _, h => h
 | p :: l, e, hl, h => by
  have h1 := hl p (.head _)
  simp only [Fu, Ex.ok, Bool.and_eq_true]
  exact ⟨⟨h1.1, h1.2⟩, Ni (fun q hq => hl q (.tail _ hq)) h⟩
theorem MK.pt_ok {tk : List As} {p : MK} (h : okNs p.ns ∧ p.e.ok = true) (hn : p.n + tk.length < 1000 + E3 121 tk p.n) : okNs (p.pt tk).ns ∧ (p.pt tk).e.ok = true := by
 unfold MK.pt
 split
 ·exact h
 ·have h1 := (Dv 121 tk p.n).2.2
  have h2 := Bp 121 tk (fr 121 tk p.n)
  have hz : B0 (nm 121 (fr 121 tk p.n)) = true := Mm Ad Aa
  exact ⟨h.1.add fun q hq => by rw [List.mem_singleton.1 hq]; exact ⟨hz, h.2⟩, hz⟩
theorem MK.n_le {tk : List As} {p : MK} {n : Nat} (h : n ≤ p.n ∧ p.n + E3 121 tk n = n + p.g + E3 121 tk p.n) : p.n ≤ n + p.g + tk.length := by
 have := Bp 121 tk p.n; omega
theorem Ex.mk_ok {tk : List As} : ∀ {e : Ex} {n : Nat}, e.ok = true → n + e.size + tk.length ≤ 900 + E3 121 tk n → okNs (e.mk tk n).ns ∧ (e.mk tk n).e.ok = true
 | .num s, n, h, _ => ⟨fun p hp => (by cases hp), h⟩
 | .name s, n, h, _ => ⟨fun p hp => (by cases hp), h⟩
 | .lt x a b, n, h, hn => by
  simp only [Ex.ok, Bool.and_eq_true] at h
  simp only [Ex.size] at hn
  have g1 := a.mk_g tk n; have m1 := a.mk_hits tk n
  have h1 := Ex.mk_ok (tk := tk) (n := n) h.1.2 (by omega)
  have h2 := Ex.mk_ok (tk := tk) (n := (a.mk tk n).n) h.2 (by omega)
  simp only [Ex.mk]
  refine ⟨h1.1.add fun p hp => ?_, h2.2⟩
  rcases List.mem_cons.1 hp with rfl | hp
  ·exact ⟨h.1.1, h1.2⟩
  ·exact h2.1 p hp
 | .fn f x s t b, n, h, hn => by
  simp only [Ex.ok, Bool.and_eq_true, decide_eq_true_eq] at h
  simp only [Ex.size] at hn
  have h1 := Ex.mk_ok (tk := tk) (n := n) h.2 (by omega)
  simp only [Ex.mk, Ex.ok, Bool.and_eq_true, decide_eq_true_eq]
  exact ⟨fun p hp => (by cases hp), h.1, Ni h1.1 h1.2⟩
 | .ite a b c, n, h, hn => by
  simp only [Ex.ok, Bool.and_eq_true] at h
  simp only [Ex.size] at hn
  have g1 := a.mk_g tk n; have m1 := a.mk_hits tk n; have k0 := Bp 121 tk (a.mk tk n).n; have k00 := Bp 121 tk n
  have gp := MK.pt_g tk _ g1.1 g1.2; have mp := MK.pt_hits tk _ m1
  have h1 := MK.pt_ok (tk := tk) (Ex.mk_ok (tk := tk) (n := n) h.1.1 (by omega)) (by omega)
  have g2 := b.mk_g tk ((a.mk tk n).pt tk).n; have m2 := b.mk_hits tk ((a.mk tk n).pt tk).n
  have h2 := Ex.mk_ok (tk := tk) (n := ((a.mk tk n).pt tk).n) h.1.2 (by omega)
  have h3 := Ex.mk_ok (tk := tk) (n := (b.mk tk ((a.mk tk n).pt tk).n).n) h.2 (by omega)
  simp only [Ex.mk, Ex.ok, Bool.and_eq_true]
  exact ⟨h1.1, ⟨h1.2, Ni h2.1 h2.2⟩, Ni h3.1 h3.2⟩
 | .bin o a b, n, h, hn => by
  simp only [Ex.ok, Bool.and_eq_true] at h
  simp only [Ex.size] at hn
  have g1 := a.mk_g tk n; have m1 := a.mk_hits tk n; have k0 := Bp 121 tk (a.mk tk n).n; have k00 := Bp 121 tk n
  have gp := MK.pt_g tk _ g1.1 g1.2; have mp := MK.pt_hits tk _ m1
  have h1 := MK.pt_ok (tk := tk) (Ex.mk_ok (tk := tk) (n := n) h.1 (by omega)) (by omega)
  have g2 := b.mk_g tk ((a.mk tk n).pt tk).n; have m2 := b.mk_hits tk ((a.mk tk n).pt tk).n; have k2 := Bp 121 tk (b.mk tk ((a.mk tk n).pt tk).n).n
  have h2 := MK.pt_ok (tk := tk) (Ex.mk_ok (tk := tk) (n := ((a.mk tk n).pt tk).n) h.2 (by omega)) (by omega)
  simp only [Ex.mk, Ex.ok, Bool.and_eq_true]
  exact ⟨h1.1.add h2.1, h1.2, h2.2⟩
 | .un o a, n, h, hn => by
  have h : a.ok = true := h
  simp only [Ex.size] at hn
  have g1 := a.mk_g tk n; have m1 := a.mk_hits tk n; have k0 := Bp 121 tk (a.mk tk n).n; have k00 := Bp 121 tk n
  have h1 := MK.pt_ok (tk := tk) (Ex.mk_ok (tk := tk) (n := n) h (by omega)) (by omega)
  exact ⟨h1.1, h1.2⟩
end Go.Proofs.YtmfagaajiakgoaaGreatDoor
