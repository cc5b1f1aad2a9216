/- An expression of each type. No conditions. -/
import Derived.Test.YtfddjcmeejjhiaaGreatDoorG14
import Derived.Laws.Small

namespace Go.Proofs.YtfddjcmeejjhiaaGreatDoor
set_option maxRecDepth 100000
set_option linter.unusedVariables false
set_option linter.unusedSimpArgs false

def Ty.sample : Ty → Ex
 | .i => .num [48]
 | .pr a b => .bin .pair a.sample b.sample
 | .fn a b => .fn [102] [120] a b b.sample
theorem Ty.sample_ok : ∀ {t : Ty}, t.size ≤ 16 → t.sample.ok = true
 | .i, _ => by decide
 | .pr a b, h => by
  simp only [Ty.size] at h
  simp only [Ty.sample, Ex.ok, Bool.and_eq_true]
  exact ⟨Ty.sample_ok (by omega), Ty.sample_ok (by omega)⟩
 | .fn a b, h => by
  simp only [Ty.size] at h
  simp only [Ty.sample, Ex.ok, Bool.and_eq_true, decide_eq_true_eq]
  exact ⟨⟨⟨⟨⟨by decide, by decide⟩, by decide⟩, by omega⟩, by omega⟩, Ty.sample_ok (by omega)⟩
theorem Ty.sample_len : ∀ {t : Ty}, t.size ≤ 16 → t.sample.tree.len ≤ 200 * t.size
 | .i, _ => by decide
 | .pr a b, h => by
  simp only [Ty.size] at h ⊢
  have h1 := Ty.sample_len (t := a) (by omega)
  have h2 := Ty.sample_len (t := b) (by omega)
  simp only [Ty.sample, Ex.tree, Tree.len, Fn, List.isEmpty_cons, cond_false, List.isEmpty_nil, cond_true, B5.txt, C8, List.length_cons, List.length_nil]
  omega
 | .fn a b, h => by
  simp only [Ty.size] at h ⊢
  have h2 := Ty.sample_len (t := b) (by omega)
  have h3 := a.tree_small
  have h4 := b.tree_small
  simp only [Ty.sample, Ex.tree, Tree.len, Fn, List.isEmpty_cons, cond_false, List.isEmpty_nil, cond_true, Dj, List.length_cons, List.length_nil]
  omega
theorem Ty.sample_chk : ∀ {t : Ty} {l : List Ap} {m : List Ty}, t.size ≤ 16 → t.sample.chk l m = .ok t
 | .i, l, m, _ => rfl
 | .pr a b, l, m, h => by
  have h0 := h
  simp only [Ty.size] at h
  simp only [Ty.sample, Ex.chk, Ty.sample_chk (t := a) (l := l) (m := m) (by omega), Ty.sample_chk (t := b) (l := l) (m := m) (by omega), B5.ty, if_pos h0]
 | .fn a b, l, m, h => by
  have h0 := h
  simp only [Ty.size] at h
  simp only [Ty.sample, Ex.chk, if_pos h0, Ty.sample_chk (t := b) (by omega), if_true]
theorem Ty.sample_value : ∀ t : Ty, t.sample.value = true
 | .i => rfl
 | .pr a b => by simp [Ty.sample, Ex.value, a.sample_value, b.sample_value]
 | .fn a b => rfl
def Ex.txt (e : Ex) : Ap := e.tree.text
theorem Ty.sample_textlen {t : Ty} (h : t.size ≤ 16) : t.sample.tree.text.length ≤ 3200 := by
 have := Ty.sample_len h; rw [Tree.text_len]; omega
theorem Zt (f x : Ap) (s t : Ty) (b : Ex) : (Ex.fn f x s t b).tree.text = [40, 102, 117, 110, 32] ++ f ++ [32] ++ x ++ [32] ++ s.tree.text ++ [32] ++ t.tree.text ++ [32] ++ b.tree.text ++ [41] := by
 simp [Ex.tree, Tree.text, Ff, Dj]
def Mv (s : Ap) : Option Ap := match Ko s with
 | some t => if t.sample.fine = true then some t.sample.tree.text else none
 | none => none
theorem Ns {s : Ap} (h : Ko s = none) : Mv s = none := by unfold Mv; rw [h]
theorem Nt {s : Ap} {t : Ty} (h : Ko s = some t) : Mv s = if t.sample.fine = true then some t.sample.tree.text else none := by unfold Mv; rw [h]
theorem U4 {s o : Ap} (h : Mv s = some o) : ∃ t, Ko s = some t ∧ s = t.tree.text ∧ E5 o = some t.sample ∧ Bw o = some t.sample ∧ tyC o = some t ∧ (Eg o).isSome = true ∧ o.length ≤ 3200 := by
 cases ht : Ko s with
 | none => rw [Ns ht] at h; cases h
 | some t =>
  rw [Nt ht] at h; obtain ⟨h1, h2, h3⟩ := Rz ht
  split at h
  ·rename_i hf
   cases h
   have hx := Nf (Ty.sample_ok h2)
   rw [if_pos hf] at hx
   have hty : t.sample.ty [] [] = some t := by unfold Ex.ty; rw [Ty.sample_chk h2]
   have hc : Bw t.sample.tree.text = some t.sample := by
    unfold Bw; rw [hx]; simp [Ex.ty_closed hty]
   refine ⟨t, rfl, h3, hx, hc, ?_, ?_, Ty.sample_textlen h2⟩
   ·unfold tyC; rw [hx]; exact hty
   ·unfold Eg; rw [hc]; simp [t.sample_value]
  ·cases h
theorem Z2 : ∀ (n : Nat) {I : Heap} {t : Ty} {cs : List Value} (_ : SizeOf.sizeOf t < n) (_ : Rep I t.tree cs) (_ : t.size ≤ 16) (L : Bh), Fun Tryz.prog 136 [.agg cs.toArray] I L (D0 (.string (str t.sample.tree.text)) I L) := by
 intro n
 induction n with
 | zero => intro I t cs h; omega
 | succ n ihn =>
  intro I t cs hlt h hsz L; obtain ⟨oc, cc, oaf, cf, rfl, hf⟩ := h.at'
  have hg := t.tree_good.1
  have hfn := hf.nil
  refine Ag (by simp) ?_; refine Se rfl ?_; refine B7 rfl rfl .free rfl ?_; intro b1; refine Oa rfl (Aa (Ab (Se rfl (Oh rfl ?_)))); refine A1 rfl .free rfl ?_; refine Od rfl rfl rfl (Aa ?_); refine As rfl ?_ ?_
  ·intro c0
   try simp only [nb] at c0
   refine Se rfl (Oa rfl (Aa (Ad (.tmp rfl .nil) ?_))); refine only rfl ?_
   cases t with
   | i => rfl
   | fn a b => exact absurd rfl c0
   | pr a b => exact absurd rfl c0
  intro c0
  try simp only [nb] at c0
  have hpl : t.tree.parts.length = 3 := by
   cases t with
   | i => exact absurd c0 (by decide)
   | fn a b => rfl
   | pr a b => rfl
  have hhd := Kc (t := t.tree) (by omega)
  refine Ae (Ab (Se rfl (Oh rfl ?_))); refine A1 rfl .free rfl ?_
  first | refine A5 rfl rfl 0 rfl .free rfl ?_ | refine A6 rfl rfl 0 rfl .free rfl ?_
  refine Bd rfl .free rfl ?_; refine Fo rfl .free rfl ?_; refine Od rfl rfl rfl (Aa ?_); refine As rfl ?_ ?_
  ·intro c1
   try simp only [nb] at c1
   obtain ⟨a, b, rfl⟩ : ∃ a b, t = .pr a b := by
    cases t with
    | i => exact absurd c0 (by decide)
    | pr a b => exact ⟨a, b, rfl⟩
    | fn a b => exact absurd (show ([62] : Ap) = [42] from c1) (by decide)
   simp only [Ty.pr.sizeOf_spec] at hlt
   simp only [Ty.size] at hsz
   have ha16 : a.size ≤ 16 := by omega
   have hb16 : b.size ≤ 16 := by omega
   have hl1 := Ty.sample_textlen ha16
   have hl2 := Ty.sample_textlen hb16
   refine Ab ?_; refine Dp 15 rfl rfl ?_; refine Da 0 rfl (Ai rfl) ?_; refine Dt 1 [15] rfl (Br rfl) ?_
   first | refine Da 2 rfl (Bl rfl rfl 1 rfl) ?_ | refine Da 2 rfl (Bm rfl rfl 1 rfl) ?_
   refine Dt 3 [15] rfl (Bq rfl) ?_; refine Da 7 rfl (Ai rfl) ?_; refine Dt 8 [15] rfl (Br rfl) ?_
   first | refine Da 9 rfl (Bl rfl rfl 2 rfl) ?_ | refine Da 9 rfl (Bm rfl rfl 2 rfl) ?_
   refine Dt 10 [15] rfl (Bq rfl) ?_; refine Dc 4 rfl rfl (ihn (t := a) (by omega) (hf.as 1 a.tree (by omega) rfl) ha16 _) ?_; rintro _ _ _ _ ⟨rfl, rfl, rfl⟩; refine Hx ?_; refine Da 5 rfl (Yk rfl rfl) ?_; refine Da 6 rfl (Yk rfl rfl) ?_; refine Dc 11 rfl rfl (ihn (t := b) (by omega) (hf.as 2 b.tree (by omega) rfl) hb16 _) ?_; rintro _ _ _ _ ⟨rfl, rfl, rfl⟩; refine Hx ?_; refine Da 12 rfl (Yk rfl rfl) ?_; refine Da 13 rfl (Yk rfl rfl) ?_; refine Da 14 rfl (A2 rfl) ?_; refine At (by kernel_rfl) ?_; refine Ad (.tmp rfl .nil) ?_; refine only rfl ?_
   have := Yu a.sample.tree b.sample.tree
   rw [show (Ty.pr a b).sample.tree.text = _ from this]; rfl
  intro c1
  try simp only [nb] at c1
  obtain ⟨a, b, rfl⟩ : ∃ a b, t = .fn a b := by
   cases t with
   | i => exact absurd c0 (by decide)
   | fn a b => exact ⟨a, b, rfl⟩
   | pr a b => exact absurd rfl c1
  simp only [Ty.fn.sizeOf_spec] at hlt
  simp only [Ty.size] at hsz
  have ha16 : a.size ≤ 16 := by omega
  have hb16 : b.size ≤ 16 := by omega
  have hl1 := Ty.text_len ha16
  have hl2 := Ty.text_len hb16
  have hl3 := Ty.sample_textlen hb16
  have hs1 := a.tree_small
  have hs2 := b.tree_small
  refine Ae (Ab ?_); refine Dp 22 rfl rfl ?_; refine Da 0 rfl (Ai rfl) ?_; refine Dt 1 [22] rfl (Br rfl) ?_
  first | refine Da 2 rfl (Bl rfl rfl 1 rfl) ?_ | refine Da 2 rfl (Bm rfl rfl 1 rfl) ?_
  refine Dt 3 [22] rfl (Bq rfl) ?_; refine Da 7 rfl (Ai rfl) ?_; refine Dt 8 [22] rfl (Br rfl) ?_
  first | refine Da 9 rfl (Bl rfl rfl 2 rfl) ?_ | refine Da 9 rfl (Bm rfl rfl 2 rfl) ?_
  refine Dt 10 [22] rfl (Bq rfl) ?_; refine Da 14 rfl (Ai rfl) ?_; refine Dt 15 [22] rfl (Br rfl) ?_
  first | refine Da 16 rfl (Bl rfl rfl 2 rfl) ?_ | refine Da 16 rfl (Bm rfl rfl 2 rfl) ?_
  refine Dt 17 [22] rfl (Bq rfl) ?_; refine Dc 4 rfl rfl (Ky (t := a.tree) _ (Nat.lt_succ_self _) (hf.as 1 a.tree (by omega) rfl) a.tree_good.1 (by omega) _) ?_; rintro _ _ _ _ ⟨rfl, rfl, rfl⟩; refine Hx ?_; refine Da 5 rfl (Yk rfl rfl) ?_; refine Da 6 rfl (Yk rfl rfl) ?_; refine Dc 11 rfl rfl (Ky (t := b.tree) _ (Nat.lt_succ_self _) (hf.as 2 b.tree (by omega) rfl) b.tree_good.1 (by omega) _) ?_; rintro _ _ _ _ ⟨rfl, rfl, rfl⟩; refine Hx ?_; refine Da 12 rfl (Yk rfl rfl) ?_; refine Da 13 rfl (Yk rfl rfl) ?_
  refine Dc 18 rfl rfl (ihn (t := b) (by omega) (hf.as 2 b.tree (by omega) rfl) hb16 _) ?_; rintro _ _ _ _ ⟨rfl, rfl, rfl⟩; refine Hx ?_; refine Da 19 rfl (Yk rfl rfl) ?_; refine Da 20 rfl (Yk rfl rfl) ?_; refine Da 21 rfl (A2 rfl) ?_; refine At (by kernel_rfl) ?_; refine Ad (.tmp rfl .nil) ?_; refine only rfl ?_
  have := Zt [102] [120] a b b.sample
  rw [show (Ty.fn a b).sample.tree.text = _ from this]; rfl
def smp (t : Tree) : Ex := (t.ty.getD .i).sample
theorem M3 (a : Ty) : smp a.tree = a.sample := by unfold smp; rw [a.tree_ty]; rfl
theorem Abj {I : Heap} {t : Tree} {cs : List Value} (h : Rep I t cs) (ht : ∃ a : Ty, t = a.tree ∧ a.size ≤ 16) (L : Bh) : Fun Tryz.prog 136 [.agg cs.toArray] I L (D0 (.string (str (smp t).tree.text)) I L) := by
 obtain ⟨a, rfl, h1⟩ := ht; rw [M3]
 exact Z2 _ (Nat.lt_succ_self _) h h1 L
theorem P3 (s : Ap) (hs : s.length ≤ Az) (I : Heap) (L : Bh) : Fun Tryz.prog 94 [.string (str s)] I L (EL (Mv s) L) := by
 refine Ag (by simp) ?_; refine Se rfl (Oa rfl (Oa rfl (Aa (Se rfl (Om rfl ?_))))); refine Ca rfl (Re s hs _ _) ?_; rintro _ J _ e1 ⟨t, cs, ok, rfl, hrep, rfl, hpf⟩; obtain ⟨o1, k1, _, rfl, -⟩ := hrep.open
 have hty := Ry hpf
 refine Om rfl (Oe rfl rfl (Oe rfl rfl ?_)); refine Aw .free rfl ?_; intro b4; refine Bn rfl rfl rfl rfl .free ?_; refine Oa rfl (Aa (Ab (Se rfl (Om rfl ?_)))); refine Cp rfl .free rfl ?_; refine Om rfl ?_
 apply Fx 13 17 rfl
 ·intro g2_3 hk
  try simp only [nb] at g2_3
  have hp := E7 (G3 hpf g2_3)
  refine A3 rfl (.met rfl rfl) rfl ?_; refine B9 rfl (.met rfl rfl) rfl (Lf hrep hp.1 (Tree.size_maxN hp.2.1) _) ?_; rintro _ _ _ _ ⟨rfl, rfl, rfl⟩; refine Cp rfl (.met rfl rfl) rfl ?_; refine Of rfl rfl ?_
  exact Ar 3 rfl rfl hk
 ·intro _ hk; refine A0 3 rfl ?_; refine Ot rfl rfl ?_
  exact Ar 3 rfl rfl hk
 refine Om rfl ?_
 apply Fx 18 23 rfl
 ·intro g2_8 hk
  try simp only [nb] at g2_8
  obtain ⟨a, ha, hta, hsz⟩ := hty.1 g2_8.1 g2_8.2
  have hl : (smp t).tree.text.length ≤ 3200 := by rw [hta, M3]; exact Ty.sample_textlen hsz
  refine A3 rfl (.met rfl rfl) rfl ?_; refine B9 rfl (.met rfl rfl) rfl (Abj hrep ⟨a, hta, hsz⟩ _) ?_; rintro _ _ _ _ ⟨rfl, rfl, rfl⟩; refine B9 rfl (.met rfl rfl) rfl (Kx _ (by unfold Az; omega) _ _) ?_; rintro _ _ _ _ ⟨rfl, rfl, rfl⟩; refine Cp rfl (.met rfl rfl) rfl ?_; refine Of rfl rfl ?_
  exact Ar 4 rfl rfl hk
 ·intro _ hk; refine A0 4 rfl ?_; refine Ot rfl rfl ?_
  exact Ar 4 rfl rfl hk
 refine Aa ?_; refine As rfl ?_ ?_
 ·intro c0
  try simp only [nb] at c0
  refine Se rfl (Oa rfl (Oa rfl (Aa ?_))); refine Ad (.tmp rfl (.tmp rfl .nil)) ?_; refine ⟨J, L, e1, Bf, ?_, rfl⟩
  have hz : Mv s = none := by
   by_cases h1 : ok = true
   ·by_cases h2 : t.typed = true
    ·obtain ⟨a, ha, hta, hsz⟩ := hty.1 h1 h2
     rcases c0 with (h | h) | h
     ·rw [h1] at h; cases h
     ·rw [h2] at h; cases h
     ·rw [hta, M3, Nf (Ty.sample_ok hsz)] at h; rw [Nt ha]
      cases hf : a.sample.fine with
      | true => rw [hf] at h; cases h
      | false => rfl
    ·exact Ns (hty.2 (.inr (by simpa using h2)))
   ·exact Ns (hty.2 (.inl (by simpa using h1)))
  rw [hz]; rfl
 intro c0
 try simp only [nb] at c0
 obtain ⟨⟨h1, h2⟩, h3⟩ := c0; obtain ⟨a, ha, rfl, hsz⟩ := hty.1 h1 h2; refine Ae (Se rfl ?_); refine A3 rfl .free rfl ?_; refine Ca rfl (Z2 _ (Nat.lt_succ_self _) hrep hsz _) ?_; rintro _ _ _ _ ⟨rfl, rfl, rfl⟩; refine Oa rfl (Oa rfl (Aa ?_)); refine Ad (.tmp rfl (.tmp rfl .nil)) ?_; refine ⟨J, L, e1, Bf, ?_, rfl⟩; rw [M3, Nf (Ty.sample_ok hsz)] at h3
 cases hf : a.sample.fine with
 | false => rw [hf] at h3; cases h3
 | true => rw [Nt ha, if_pos hf]; rfl
theorem Xz (s : Ap) (hs : s.length ≤ Az) (I : Heap) (L : Bh) : Fun Tryz.prog 14 [.string (str s)] I L (fun v I' L' => v = .bool (Eg s).isSome ∧ L = L') := by
 refine Ag (by simp) ?_; refine Se rfl (Oa rfl (Aa (Se rfl (Om rfl ?_)))); refine Ca rfl (Gb s hs _ _) ?_; rintro _ J1 _ e1 ⟨t, cs, ok, rfl, hrep, rfl, hpf⟩; obtain ⟨o1, k1, _, rfl, -⟩ := hrep.open
 have g1 := Y5 hpf
 refine Om rfl (Oe rfl rfl (Oe rfl rfl ?_)); refine Aw .free rfl ?_; intro b3; refine Bn rfl rfl rfl rfl .free ?_; refine Oa rfl (Aa (Se rfl (Om rfl (Om rfl ?_))))
 apply Ci 11 14 rfl
 ·intro g2_2 hk
  try simp only [nb] at g2_2
  refine A3 rfl (.met rfl rfl) rfl ?_; refine B9 rfl (.met rfl rfl) rfl (Py hrep hpf g2_2 _) ?_; rintro _ _ _ _ ⟨rfl, rfl, rfl⟩; refine Ot rfl rfl ?_
  exact Ar 2 rfl rfl hk
 ·intro _ hk; refine A0 2 rfl ?_; refine Of rfl rfl ?_
  exact Ar 2 rfl rfl hk
 refine Oa rfl (Aa (Ad (.tmp rfl .nil) ?_)); refine ⟨J1, L, e1, Bf, ?_, rfl⟩
 cases ok with
 | false => rw [Ic (g1.1 rfl)]; rfl
 | true => simp [C2]
structure ScAt (I : Heap) (ns ts : List Ap) (oa : Option Addr) (c : Nat) (ob : Option Addr) (c' : Nat) : Prop where
 names : Strs I oa ns c
 types : Strs I ob ts c'
 len : ns.length = ts.length
 nb : ∀ s ∈ ns, s.length ≤ 4
 tb : ∀ s ∈ ts, s.length ≤ 1000
theorem ScAt.mono {I I' : Heap} (hle : HLe I I') {ns ts : List Ap} {oa : Option Addr} {c : Nat} {ob : Option Addr} {c' : Nat} (h : ScAt I ns ts oa c ob c') : ScAt I' ns ts oa c ob c' :=
 ⟨h.names.mono hle, h.types.mono hle, h.len, h.nb, h.tb⟩
def RSc (ns ts : List Ap) (L : Bh) : Cs := fun v I' L' => ∃ oa c ob c', v = .agg [.slice oa (List.length ns) c, .slice ob (List.length ts) c'].toArray ∧ ScAt I' ns ts oa c ob c' ∧ L = L'
theorem Jo {I : Heap} {ns ts : List Ap} {oa ob : Option Addr} {c c' : Nat} (h : ScAt I ns ts oa c ob c') (x k : Ap) (hx : x.length ≤ 4) (hk : k.length ≤ 1000) (hn : ns.length ≤ 200) (L : Bh) :
  Fun Tryz.prog 140 [.agg [.slice oa ns.length c, .slice ob ts.length c'].toArray, .string (str x), .string (str k)] I L (RSc (ns ++ [x]) (ts ++ [k]) L) := by
 have hlen := h.len
 have hlr : HLe I I := .refl _
 have hxm : x.length ≤ Az := by unfold Az; omega
 have hkm : k.length ≤ Az := by unfold Az; omega
 refine Ag (by simp) ?_; refine Se rfl ?_; refine B7 rfl rfl .free rfl ?_; intro b3; refine Aw .free rfl ?_; intro b6; refine Aa (Ab ?_); refine Dp 12 rfl rfl ?_; refine Da 0 rfl (Ai rfl) ?_; refine Dt 1 [11] rfl (Br rfl) ?_; refine Da 2 rfl (Ah rfl) ?_; refine Da 5 rfl (Ai rfl) ?_; refine Dt 6 [11] rfl (Br rfl) ?_; refine Da 7 rfl (Ah rfl) ?_; refine C6 3 8 (by kernel_rfl) ?_ ?_
 ·skip
  refine L9 3 rfl rfl rfl rfl (by rfl) (by rfl) (by rfl) (by decide) (by decide) (by rfl) .free rfl (.inr Ao) ?_; intro b10; refine D1 ?_; intro hz
  have hlr := hlr.trans hz
  have h := h.mono hz
  have hk1 := G2 hz hxm
  try have hk2 := hk2.mono hz
  refine C6 4 8 (by kernel_rfl) ?_ ?_
  ·skip
   refine Kd 4 rfl rfl rfl .free rfl (Hp h.names hk1 (by simp; unfold Az; omega) _) ?_; rintro _ J2 _ e2 ⟨o3, c3', rfl, hn3, rfl⟩
   have hlr := hlr.trans e2
   have h := h.mono e2
   try have hk2 := hk2.mono e2
   refine Hx ?_; refine Fg 8 rfl (by kernel_rfl) rfl rfl rfl (by rfl) (by rfl) (by rfl) (by decide) (by decide) (by rfl) .free rfl (.inr Ao) ?_; intro b15; refine D1 ?_; intro hz
   have hlr := hlr.trans hz
   have h := h.mono hz
   have hk2 := G2 hz hkm
   try have hk1 := hk1.mono hz
   try have hn3 := hn3.mono hz
   refine Dc 9 rfl rfl (Hp h.types hk2 (by simp; unfold Az; omega) _) ?_; rintro _ J3 _ e3 ⟨o4, c4', rfl, hn4, rfl⟩
   have hlr := hlr.trans e3
   have hn3 := hn3.mono e3
   refine Hx ?_; refine Da 10 rfl (Hw rfl rfl rfl) ?_; refine Dx 11 rfl rfl rfl rfl ?_; refine At (by kernel_rfl) ?_; refine Ad (.c rfl .nil) ?_
   exact ⟨J3, L, hlr, Bf, o3, c3', o4, c4', rfl, ⟨hn3, hn4, by simp [hlen], (fun s hs => by rcases List.mem_append.1 hs with hs | hs; exact h.nb s hs; rw [List.mem_singleton.1 hs]; exact hx), (fun s hs => by rcases List.mem_append.1 hs with hs | hs; exact h.tb s hs; rw [List.mem_singleton.1 hs]; exact hk)⟩, rfl⟩
  ·skip
   refine L9 8 rfl rfl rfl rfl (by rfl) (by rfl) (by rfl) (by decide) (by decide) (by rfl) .free rfl (.inr Ao) ?_; intro b15; refine D1 ?_; intro hz
   have hlr := hlr.trans hz
   have h := h.mono hz
   have hk2 := G2 hz hkm
   try have hk1 := hk1.mono hz
   try have hn3 := hn3.mono hz
   refine Dc 4 rfl rfl (Hp h.names hk1 (by simp; unfold Az; omega) _) ?_; rintro _ J2 _ e2 ⟨o3, c3', rfl, hn3, rfl⟩
   have hlr := hlr.trans e2
   have h := h.mono e2
   try have hk2 := hk2.mono e2
   refine Hx ?_; refine Dc 9 rfl rfl (Hp h.types hk2 (by simp; unfold Az; omega) _) ?_; rintro _ J3 _ e3 ⟨o4, c4', rfl, hn4, rfl⟩
   have hlr := hlr.trans e3
   have hn3 := hn3.mono e3
   refine Hx ?_; refine Da 10 rfl (Hw rfl rfl rfl) ?_; refine Dx 11 rfl rfl rfl rfl ?_; refine At (by kernel_rfl) ?_; refine Ad (.c rfl .nil) ?_
   exact ⟨J3, L, hlr, Bf, o3, c3', o4, c4', rfl, ⟨hn3, hn4, by simp [hlen], (fun s hs => by rcases List.mem_append.1 hs with hs | hs; exact h.nb s hs; rw [List.mem_singleton.1 hs]; exact hx), (fun s hs => by rcases List.mem_append.1 hs with hs | hs; exact h.tb s hs; rw [List.mem_singleton.1 hs]; exact hk)⟩, rfl⟩
 ·skip
  refine L9 8 rfl rfl rfl rfl (by rfl) (by rfl) (by rfl) (by decide) (by decide) (by rfl) .free rfl (.inr Ao) ?_; intro b15; refine D1 ?_; intro hz
  have hlr := hlr.trans hz
  have h := h.mono hz
  have hk2 := G2 hz hkm
  try have hk1 := hk1.mono hz
  try have hn3 := hn3.mono hz
  refine Fg 3 rfl (by kernel_rfl) rfl rfl rfl (by rfl) (by rfl) (by rfl) (by decide) (by decide) (by rfl) .free rfl (.inr Ao) ?_; intro b10; refine D1 ?_; intro hz
  have hlr := hlr.trans hz
  have h := h.mono hz
  have hk1 := G2 hz hxm
  try have hk2 := hk2.mono hz
  refine Dc 4 rfl rfl (Hp h.names hk1 (by simp; unfold Az; omega) _) ?_; rintro _ J2 _ e2 ⟨o3, c3', rfl, hn3, rfl⟩
  have hlr := hlr.trans e2
  have h := h.mono e2
  try have hk2 := hk2.mono e2
  refine Hx ?_; refine Dc 9 rfl rfl (Hp h.types hk2 (by simp; unfold Az; omega) _) ?_; rintro _ J3 _ e3 ⟨o4, c4', rfl, hn4, rfl⟩
  have hlr := hlr.trans e3
  have hn3 := hn3.mono e3
  refine Hx ?_; refine Da 10 rfl (Hw rfl rfl rfl) ?_; refine Dx 11 rfl rfl rfl rfl ?_; refine At (by kernel_rfl) ?_; refine Ad (.c rfl .nil) ?_
  exact ⟨J3, L, hlr, Bf, o3, c3', o4, c4', rfl, ⟨hn3, hn4, by simp [hlen], (fun s hs => by rcases List.mem_append.1 hs with hs | hs; exact h.nb s hs; rw [List.mem_singleton.1 hs]; exact hx), (fun s hs => by rcases List.mem_append.1 hs with hs | hs; exact h.tb s hs; rw [List.mem_singleton.1 hs]; exact hk)⟩, rfl⟩
theorem Aa3 (o : Option (Ty × Ty)) (sg s : Ap) (h : o = Ga sg s) : (t1 o).length ≤ 80 ∧ (t2 o).length ≤ 80 := by
 subst h
 cases h : Ga sg s with
 | none => exact ⟨by decide, by decide⟩
 | some p =>
  obtain ⟨a, b⟩ := p
  unfold Ga at h
  cases ht : Ko s with
  | none => rw [ht] at h; cases h
  | some t =>
   rw [ht] at h
   have h1 := (Rz ht).2.1
   cases t with
   | i => cases h
   | fn x y =>
    simp only at h
    split at h
    ·cases h; simp only [Ty.size] at h1
     exact ⟨Ty.text_len (t := a) (by omega), Ty.text_len (t := b) (by omega)⟩
    ·cases h
   | pr x y =>
    simp only at h
    split at h
    ·cases h; simp only [Ty.size] at h1
     exact ⟨Ty.text_len (t := a) (by omega), Ty.text_len (t := b) (by omega)⟩
    ·cases h
theorem Aav {s o : Ap} (h : Mv s = some o) : o.length ≤ 3200 := by obtain ⟨_, _, _, _, _, _, _, h⟩ := U4 h; exact h
structure LFs where
 i : Nat
 fs : List Ap
 b : Nat
 sp : List Value
 c : Nat
theorem Nk {I : Heap} {oa : Option Addr} {l : List UInt8} {c : Nat} (h : Bytes I oa l c) (hl : l.length ≤ 2000) (b p : Nat) (hp : p + 4 ≤ 1099511627776) {ns ts : List Ap} {o1 o2 : Option Addr} {c1 c2 : Nat} (hs : ScAt I ns ts o1 c1 o2 c2) (hn : ns.length ≤ 100) (want : Ap) (hw : want.length ≤ 1000) (L : Bh) :
  Fun Tryz.prog 139 [.pointer (some ⟨b, 0, none⟩), .agg [.slice o1 ns.length c1, .slice o2 ts.length c2].toArray, .string (str want)] I (rd b oa l c p :: L) (DT b oa l c p 4 3300 L) := by
 have hlen := hs.len
 have hnl := hs.names
 refine Ag (by simp) ?_; refine Se rfl ?_; refine B7 rfl rfl .free rfl ?_; intro b4; refine Oa rfl (Aa (Se rfl ?_)); refine D7 .free rfl ?_; intro b11; refine Oa rfl (Aa (Ab (Se rfl (Oa rfl (Aa (Aj ?_))))))
 refine Dv (X := LFs) (fun x => ns.length - x.i) (fun x => [(0, .pointer (some ⟨b, 0, none⟩)), (2, .string (str want)), (4, .pointer (some ⟨b4, 0, none⟩)), (6, .string (str [])), (7, .slice (some ⟨x.b, 0, none⟩) x.fs.length x.c), (8, .int .i64 (x.i : Nat))]) (fun _ => I) (fun x => (x.b, .cells (x.fs.map sv ++ x.sp).toArray 9 (0, 0)) :: (b4, .cells [.slice o1 ns.length c1, .slice o2 ts.length c2].toArray 124 (0, 0)) :: rd b oa l c p :: L) (fun x => x.i ≤ ns.length ∧ x.fs.length ≤ x.i ∧ (∀ s ∈ x.fs, s.length ≤ 4) ∧ Er 1 x.fs.length x.c (x.fs.map sv) (some (x.b, x.sp))) ⟨0, [], b11, [], 0⟩ ⟨Nat.zero_le _, Nat.zero_le _, (fun _ h => by cases h), ⟨rfl, Nat.le_refl _, rfl⟩⟩ ⟨rfl, rfl, rfl, rfl, rfl, rfl, trivial⟩ (by intro _ h; exact h) ?_
 rintro ⟨i, fs, bb, sp, cb⟩ ⟨hi, hfi, hfs, hB⟩ ih
 simp only at hi hfi hfs hB ih ⊢
 refine Ab (Se rfl (Om rfl (Oh rfl ?_))); refine A1 rfl .free rfl ?_; refine On rfl (Oc rfl rfl rfl (Aa ?_)); refine As rfl ?_ ?_
 ·intro c0
  try simp only [nb] at c0
  have hi1 : i < ns.length := by omega
  have hel : (ns.getD i []).length ≤ 4 := hs.nb _ (by rw [show ns.getD i [] = ns[i] by simp [hi1]]; exact List.getElem_mem _)
  have hle0 : HLe I I := .refl _
  refine Ae (Ab (Aj (Ab ?_))); refine Dp 12 rfl rfl ?_; refine Da 0 rfl (Ai rfl) ?_; refine Dt 1 [12] rfl (Br rfl) ?_; refine Da 2 rfl (Ai rfl) ?_; refine Dt 3 [12] rfl (Br rfl) ?_; refine Da 4 rfl (Ai rfl) ?_; refine Dt 5 [12] rfl (Br rfl) ?_; refine Da 6 rfl (Ah rfl) ?_
  first | refine Da 7 rfl (Bl rfl rfl _ rfl) ?_ | refine Da 7 rfl (Bm rfl rfl _ rfl) ?_
  refine Dt 8 [12] rfl (O7 rfl) ?_; refine Da 10 rfl (Ah rfl) ?_; refine Dc 9 rfl rfl (Z1 hs.names hs.types hlen _ _) ?_; rintro _ _ _ _ ⟨rfl, rfl, rfl⟩; refine Hx ?_; refine Da 11 rfl (Tp rfl rfl rfl) ?_; refine At (by kernel_rfl) ?_; refine As rfl ?_ ?_
  ·intro c1
   try simp only [nb] at c1
   refine Af rfl (Om rfl (Oh rfl ?_)); refine A1 rfl .free rfl ?_; refine Om rfl ?_
   first | refine A5 rfl rfl _ rfl .free rfl ?_ | refine A6 rfl rfl _ rfl .free rfl ?_
   refine Ef rfl .free rfl ?_; refine Ol rfl rfl ?_; intro b37; refine Dw (B := some (bb, sp)) (xs := fs.map sv) (ys := [sv (ns.getD i [])]) (m := fs.length) (c := cb) (by intro kk; simp) (by rfl) rfl rfl hB (fun _ h => h.f1) (by rfl) (fun a ha => by cases ha; exact Ce (by repeat first | exact .head _ | apply List.Mem.tail | apply List.mem_append_right) (by rfl)) (by simp) (by rfl) (by decide) (by decide) (by omega) (by decide) .free rfl ?_; intro bq sp2 c2q hB2; rw [show fs.map sv ++ [sv (ns.getD i [])] = (fs ++ [ns.getD i []]).map sv by simp] at hB2 ⊢
   refine Oa rfl (Aa (Ak (Af rfl (Om rfl ?_)))); refine Or rfl rfl rfl ?_; refine Oa rfl (Aa ?_)
   first
    | exact Bp (E' := [(0, .pointer (some ⟨b, 0, none⟩)), (2, .string (str want)), (4, .pointer (some ⟨b4, 0, none⟩)), (6, .string (str [])), (7, .slice (some ⟨bq, 0, none⟩) (fs ++ [ns.getD i []]).length c2q), (8, .int .i64 ((i + 1 : Nat)))]) ⟨rfl, rfl, rfl, rfl, by simp; rfl, rfl, trivial⟩ (Bg (fun w h => Mem.sub (L' := (bq, _) :: (b4, _) :: rd b oa l c p :: L) (by repeat (first | exact List.Sublist.refl _ | apply List.Sublist.cons_cons | apply List.Sublist.cons)) h) (ih ⟨i + 1, fs ++ [ns.getD i []], bq, sp2, c2q⟩ ⟨by simp only; omega, by simp; omega, (fun s hs => by rcases List.mem_append.1 hs with hs | hs; exact hfs s hs; rw [List.mem_singleton.1 hs]; exact hel), by simpa using hB2⟩ (by simp only; omega)))
    | exact Bp (E' := [(0, .pointer (some ⟨b, 0, none⟩)), (2, .string (str want)), (4, .pointer (some ⟨b4, 0, none⟩)), (6, .string (str [])), (7, .slice (some ⟨bb, 0, none⟩) fs.length cb), (8, .int .i64 ((i + 1 : Nat)))]) ⟨rfl, rfl, rfl, rfl, rfl, rfl, trivial⟩ (ih ⟨i + 1, fs, bb, sp, cb⟩ ⟨by simp only; omega, by simp only; omega, hfs, hB⟩ (by simp only; omega))
  intro c1
  try simp only [nb] at c1
  refine Ae (Ak (Af rfl (Om rfl ?_))); refine Or rfl rfl rfl ?_; refine Oa rfl (Aa ?_)
  first
   | exact Bp (E' := [(0, .pointer (some ⟨b, 0, none⟩)), (2, .string (str want)), (4, .pointer (some ⟨b4, 0, none⟩)), (6, .string (str [])), (7, .slice (some ⟨bq, 0, none⟩) (fs ++ [ns.getD i []]).length c2q), (8, .int .i64 ((i + 1 : Nat)))]) ⟨rfl, rfl, rfl, rfl, by simp; rfl, rfl, trivial⟩ (Bg (fun w h => Mem.sub (L' := (bq, _) :: (b4, _) :: rd b oa l c p :: L) (by repeat (first | exact List.Sublist.refl _ | apply List.Sublist.cons_cons | apply List.Sublist.cons)) h) (ih ⟨i + 1, fs ++ [ns.getD i []], bq, sp2, c2q⟩ ⟨by simp only; omega, by simp; omega, (fun s hs => by rcases List.mem_append.1 hs with hs | hs; exact hfs s hs; rw [List.mem_singleton.1 hs]; exact hel), by simpa using hB2⟩ (by simp only; omega)))
   | exact Bp (E' := [(0, .pointer (some ⟨b, 0, none⟩)), (2, .string (str want)), (4, .pointer (some ⟨b4, 0, none⟩)), (6, .string (str [])), (7, .slice (some ⟨bb, 0, none⟩) fs.length cb), (8, .int .i64 ((i + 1 : Nat)))]) ⟨rfl, rfl, rfl, rfl, rfl, rfl, trivial⟩ (ih ⟨i + 1, fs, bb, sp, cb⟩ ⟨by simp only; omega, by simp only; omega, hfs, hB⟩ (by simp only; omega))
 intro c0
 try simp only [nb] at c0
 refine Bz rfl ?_; refine Ab (Ab ?_); refine Ge (B := some (bb, sp)) hB rfl (by unfold Az; omega) (fun s hs => by have := hfs s hs; unfold Az; omega) ?_; intro J oz cz ez hbv hst
 simp only [B8, Value.slice.injEq] at hbv
 obtain ⟨rfl, -, rfl⟩ := hbv; refine Bg (fun w h => h.f1) ?_
 have h := h.mono ez
 have hz0 := hst.nil'
 have hzl := hst.len
 refine Af rfl (Om rfl (On rfl (Oc rfl rfl rfl (Om rfl ?_))))
 first | refine F3 rfl rfl ?_ ?_ | refine Em rfl rfl ?_ ?_ | refine Kq rfl rfl ?_ ?_
 ·intro g7_4; refine Ow rfl ?_; refine B9 rfl (.met rfl rfl) rfl (Dg h hl b p 4 (by omega) (by decide) _) ?_; rintro _ _ _ _ ⟨r, rfl, rfl, rfl, hr⟩; refine Dh rfl rfl rfl (.met rfl rfl) rfl ?_; refine Ot rfl rfl (Aa ?_); refine As rfl ?_ ?_
  ·intro c2
   try simp only [nb] at c2
   have hpos : 0 < fs.length := by omega
   refine Se rfl ?_
   iterate 3 refine Om rfl ?_
   refine On rfl ?_; refine Ca rfl (Dg h hl b _ fs.length (by omega) (by omega) _) ?_; rintro _ _ _ _ ⟨r2, rfl, rfl, rfl, hr2⟩
   have hr3 : r2 < fs.length := by omega
   have hfl : (fs.getD r2 []).length ≤ 4 := hfs _ (by rw [show fs.getD r2 [] = fs[r2] by simp [hr3]]; exact List.getElem_mem _)
   first | refine A5 rfl rfl _ rfl .free rfl ?_ | refine A6 rfl rfl _ rfl .free rfl ?_
   refine Ef rfl .free rfl ?_; refine Oa rfl (Aa (Ad (.tmp rfl .nil) ?_))
   exact ⟨J, _, ez, fun w h => Mem.sub (L' := rd b oa l c _ :: L) (by repeat (first | exact List.Sublist.refl _ | apply List.Sublist.cons_cons | apply List.Sublist.cons)) h, fs.getD r2 [], _, rfl, by omega, by omega, by omega, rfl⟩
  intro c2
  try simp only [nb] at c2
  refine Ae (Ab (Se rfl (Om rfl (Od rfl rfl rfl (Aa ?_))))); refine As rfl ?_ ?_
  ·intro c3
   try simp only [nb] at c3
   refine Se rfl (Om rfl ?_); refine Ol rfl rfl ?_; intro b57; refine D3 [[48], [49], [50], [51], [55], [45, 49], [52, 48, 48], [45, 57, 57, 57]] (by decide) (by decide) ?_; intro J2 e2 k2; refine Ca rfl (Ei (h.mono e2) hl b _ (by omega) k2 (by simp) _) ?_; rintro _ _ _ _ ⟨s, rfl, hs9, rfl, rfl⟩
   have hs4 : s.length ≤ 4 := by revert s; decide
   refine Oa rfl (Aa (Ad (.tmp rfl .nil) ?_))
   exact ⟨J2, _, ez.trans e2, fun w h => Mem.sub (L' := rd b oa l c _ :: L) (by repeat (first | exact List.Sublist.refl _ | apply List.Sublist.cons_cons | apply List.Sublist.cons)) h, s, _, rfl, by omega, by omega, by omega, rfl⟩
  intro c3
  try simp only [nb] at c3
  refine Ae (Se rfl (Om rfl ?_)); refine Ca rfl (P3 want (by unfold Az; omega) _ _) ?_; rintro _ J3 _ e3 ⟨rfl, rfl⟩; refine Om rfl (Oe rfl rfl (Oe rfl rfl (Oa rfl (Oa rfl (Aa (Ab (Se rfl (Om rfl ?_)))))))); refine Cp rfl .free rfl ?_; refine Aa ?_; refine As rfl ?_ ?_
  ·intro c4
   try simp only [nb] at c4
   refine Se rfl (Oa rfl (Aa (Ad (.tmp rfl .nil) ?_)))
   exact ⟨J3, _, ez.trans e3, fun w h => Mem.sub (L' := rd b oa l c _ :: L) (by repeat (first | exact List.Sublist.refl _ | apply List.Sublist.cons_cons | apply List.Sublist.cons)) h, [48], _, rfl, by decide, by omega, by omega, rfl⟩
  intro c4
  try simp only [nb] at c4
  refine Ae (Se rfl (Om rfl (Oa rfl (Aa (Ad (.tmp rfl .nil) ?_))))); refine ⟨J3, _, ez.trans e3, fun w h => Mem.sub (L' := rd b oa l c _ :: L) (by repeat (first | exact List.Sublist.refl _ | apply List.Sublist.cons_cons | apply List.Sublist.cons)) h, (Mv want).getD [], _, rfl, ?_, by omega, by omega, rfl⟩
  cases ho : Mv want with
  | none => decide
  | some o => have := Aav ho; simp only [Option.getD_some]; omega
 intro g7_4
 iterate 3 refine Cd rfl rfl rfl ?_
 refine Of rfl rfl (Aa ?_); refine Al rfl ?_; refine Ae (Ab (Se rfl (Om rfl (Od rfl rfl rfl (Aa ?_))))); refine As rfl ?_ ?_
 ·intro c3
  try simp only [nb] at c3
  refine Se rfl (Om rfl ?_); refine Ol rfl rfl ?_; intro b57; refine D3 [[48], [49], [50], [51], [55], [45, 49], [52, 48, 48], [45, 57, 57, 57]] (by decide) (by decide) ?_; intro J2 e2 k2; refine Ca rfl (Ei (h.mono e2) hl b _ (by omega) k2 (by simp) _) ?_; rintro _ _ _ _ ⟨s, rfl, hs9, rfl, rfl⟩
  have hs4 : s.length ≤ 4 := by revert s; decide
  refine Oa rfl (Aa (Ad (.tmp rfl .nil) ?_))
  exact ⟨J2, _, ez.trans e2, fun w h => Mem.sub (L' := rd b oa l c _ :: L) (by repeat (first | exact List.Sublist.refl _ | apply List.Sublist.cons_cons | apply List.Sublist.cons)) h, s, _, rfl, by omega, by omega, by omega, rfl⟩
 intro c3
 try simp only [nb] at c3
 refine Ae (Se rfl (Om rfl ?_)); refine Ca rfl (P3 want (by unfold Az; omega) _ _) ?_; rintro _ J3 _ e3 ⟨rfl, rfl⟩; refine Om rfl (Oe rfl rfl (Oe rfl rfl (Oa rfl (Oa rfl (Aa (Ab (Se rfl (Om rfl ?_)))))))); refine Cp rfl .free rfl ?_; refine Aa ?_; refine As rfl ?_ ?_
 ·intro c4
  try simp only [nb] at c4
  refine Se rfl (Oa rfl (Aa (Ad (.tmp rfl .nil) ?_)))
  exact ⟨J3, _, ez.trans e3, fun w h => Mem.sub (L' := rd b oa l c _ :: L) (by repeat (first | exact List.Sublist.refl _ | apply List.Sublist.cons_cons | apply List.Sublist.cons)) h, [48], _, rfl, by decide, by omega, by omega, rfl⟩
 intro c4
 try simp only [nb] at c4
 refine Ae (Se rfl (Om rfl (Oa rfl (Aa (Ad (.tmp rfl .nil) ?_))))); refine ⟨J3, _, ez.trans e3, fun w h => Mem.sub (L' := rd b oa l c _ :: L) (by repeat (first | exact List.Sublist.refl _ | apply List.Sublist.cons_cons | apply List.Sublist.cons)) h, (Mv want).getD [], _, rfl, ?_, by omega, by omega, rfl⟩
 cases ho : Mv want with
 | none => decide
 | some o => have := Aav ho; simp only [Option.getD_some]; omega
theorem Ye {I : Heap} {oa : Option Addr} {l : List UInt8} {c : Nat} (h : Bytes I oa l c) (hl : l.length ≤ 2000) (b p : Nat) (hp : p + 4 ≤ 1099511627776) (L : Bh) :
  Fun Tryz.prog 141 [.pointer (some ⟨b, 0, none⟩)] I (rd b oa l c p :: L) (DT b oa l c p 4 200 L) := by
 refine Ag (by simp) ?_; refine Se rfl (Oa rfl (Aa (Se rfl (Om rfl ?_)))); refine Ol rfl rfl ?_; intro b5; refine D3 [[40, 43, 32, 120, 56, 32, 40, 99, 97, 108, 108, 32, 102, 56, 32, 40, 45, 32, 120, 56, 32, 49, 41, 41, 41], [40, 99, 97, 108, 108, 32, 102, 56, 32, 40, 45, 32, 120, 56, 32, 49, 41, 41], [40, 42, 32, 120, 56, 32, 40, 99, 97, 108, 108, 32, 102, 56, 32, 40, 45, 32, 120, 56, 32, 49, 41, 41, 41], [40, 45, 32, 48, 32, 40, 99, 97, 108, 108, 32, 102, 56, 32, 40, 45, 32, 120, 56, 32, 49, 41, 41, 41]] (by decide) (by decide) ?_; intro J1 e1 k1
 refine Ca rfl (Ei (h.mono e1) hl b _ (by omega) k1 (by simp) L) ?_; rintro _ _ _ _ ⟨s, rfl, hs, rfl, rfl⟩
 have hsl : s.length ≤ 30 := by revert s; decide
 refine Oa rfl (Aa (Se rfl (Om rfl ?_))); refine Ol rfl rfl ?_; intro b8; refine D3 [[48], [49], [53]] (by decide) (by decide) ?_; intro J2 e2 k2; refine Ca rfl (Ei ((h.mono e1).mono e2) hl b _ (by omega) k2 (by simp) L) ?_; rintro _ _ _ _ ⟨s2, rfl, hs2, rfl, rfl⟩
 have hsl2 : s2.length ≤ 1 := by revert s2; decide
 refine Ok rfl rfl ?_; refine Ok rfl rfl ?_; refine Om rfl ?_; refine Ok rfl rfl ?_; refine Ok rfl rfl ?_; refine Om rfl ?_; refine Ca rfl (Dg ((h.mono e1).mono e2) hl b _ 7 (by omega) (by decide) L) ?_; rintro _ _ _ _ ⟨r, rfl, rfl, rfl, hr⟩
 have hdl := Sk (n := r) (by omega)
 refine Ca rfl (Sx _ r (Nat.lt_succ_self _) (by omega) _ _) ?_; rintro _ _ _ _ ⟨rfl, rfl, rfl⟩; refine Ok rfl rfl ?_; refine Ok rfl rfl ?_; refine Oa rfl (Aa (Ad (.tmp rfl .nil) ?_))
 exact ⟨J2, _, e1.trans e2, fun _ h => h, _, _, rfl, (by first | omega | (simp only [List.length_append, List.length_cons, List.length_nil]; omega) | (simp; omega)), by omega, by omega, rfl⟩
def kE : Nat → Nat
 | 0 => 4
 | d + 1 => 3 * kE d + 60
def eT : Nat → Nat
 | 0 => 3300
 | d + 1 => 3 * eT d + 3000
theorem Zn : ∀ d, 3300 ≤ eT d
 | 0 => Nat.le_refl _
 | d + 1 => by have := Zn d; simp only [eT]; omega
def Tt (d : Nat) : Prop := ∀ {I : Heap} {oa : Option Addr} {l : List UInt8} {c : Nat} (_ : Bytes I oa l c) (_ : l.length ≤ 2000) (b p : Nat) (_ : p + kE d ≤ 1099511627776) {ns ts : List Ap} {o1 o2 : Option Addr} {c1 c2 : Nat} (_ : ScAt I ns ts o1 c1 o2 c2) (_ : ns.length + 4 * d ≤ 100) (want : Ap) (_ : want.length + 20 * d ≤ 1000) (L : Bh),
  Fun Tryz.prog 101 [.pointer (some ⟨b, 0, none⟩), .agg [.slice o1 ns.length c1, .slice o2 ts.length c2].toArray, .string (str want), .int .i64 (d : Nat)] I (rd b oa l c p :: L) (DT b oa l c p (kE d) (eT d) L)
theorem Pl {d : Nat} (ih : Tt d) (hd : d ≤ 20) (ht : eT (d + 1) ≤ 1000000000) {I : Heap} {oa : Option Addr} {l : List UInt8} {c : Nat} (h : Bytes I oa l c) (hl : l.length ≤ 2000) (b p : Nat) (hp : p + (3 * kE d + 40) ≤ 1099511627776) {ns ts : List Ap} {o1 o2 : Option Addr} {c1 c2 : Nat} (hs : ScAt I ns ts o1 c1 o2 c2) (hn : ns.length + 4 * (d + 1) ≤ 100) (want : Ap) (hw : want.length + 20 * (d + 1) ≤ 1000) (L : Bh) :
  Fun Tryz.prog 142 [.pointer (some ⟨b, 0, none⟩), .agg [.slice o1 ns.length c1, .slice o2 ts.length c2].toArray, .string (str want), .int .i64 ((d + 1 : Nat))] I (rd b oa l c p :: L) (DT b oa l c p (3 * kE d + 40) (3 * eT d + 3000) L) := by
 simp only [eT] at ht
 have hge := Zn d
 obtain ⟨q1, q2⟩ := Aa3 (Ga [42] want) [42] want rfl; obtain ⟨q3, q4⟩ := Aa3 (Ga [62] want) [62] want rfl
 have hle : HLe I I := .refl _
 have hlr : HLe I I := .refl _
 refine Ag (by simp) ?_; refine Se rfl ?_; refine B7 rfl rfl .free rfl ?_; intro b5; refine Oa rfl (Aa (Ab ?_)); refine Bg (fun w h => h.f1) ?_; refine Af rfl (Om rfl ?_); refine Ca rfl (Wa want (by unfold Az; omega) _ _) ?_; rintro _ J _ e ⟨rfl, rfl⟩
 have h := h.mono e
 have hs := hs.mono e
 have hle := hle.trans e
 have hlr := hlr.trans e
 refine Om rfl ?_
 iterate 3 refine Oe rfl rfl ?_
 iterate 3 refine Oa rfl ?_
 refine Aa (Se rfl (Om rfl ?_)); refine Ca rfl (X8 want (by unfold Az; omega) _ _) ?_; rintro _ J _ e ⟨rfl, rfl⟩
 have h := h.mono e
 have hs := hs.mono e
 have hle := hle.trans e
 have hlr := hlr.trans e
 refine Om rfl ?_
 iterate 3 refine Oe rfl rfl ?_
 iterate 3 refine Oa rfl ?_
 refine Aa (Se rfl (Om rfl ?_)); refine Or rfl rfl rfl ?_; refine Oa rfl (Aa (Ab (Aj (Ab ?_)))); refine Kp (t := 15) (v' := .int .i64 (d : Nat)) rfl (by congr 1; omega) ?_; refine Af rfl (Om rfl (Oa rfl (Aa ?_))); refine As rfl ?_ ?_
 ·intro c0
  try simp only [nb] at c0
  refine Ab ?_; refine K6 fun hlr => ?_
  refine Lp 15 rfl rfl ?_; refine Da 0 rfl (Ah rfl) ?_; refine Dt 1 [15] rfl (Cx rfl) ?_; refine Da 2 rfl (Ah rfl) ?_; refine Da 3 rfl (Ah rfl) ?_; refine Da 7 rfl (Ah rfl) ?_; refine Dt 8 [15] rfl (Cx rfl) ?_; refine Da 9 rfl (Ah rfl) ?_; refine Da 10 rfl (Ah rfl) ?_; refine Dc 4 rfl rfl (ih h hl b _ (by omega) hs (by omega) _ (by first | omega | (simp only [List.length_append, List.length_cons, List.length_nil]; omega)) _) ?_; rintro _ J _ e ⟨s1, p1, rfl, hs1, hp1, hp2, rfl⟩
  have h := h.mono e
  have hs := hs.mono e
  have hle := hle.trans e
  have hlr := hlr.trans e
  refine Hx ?_; refine Da 5 rfl (Yk rfl rfl) ?_; refine Da 6 rfl (Yk rfl rfl) ?_; refine Dc 11 rfl rfl (ih h hl b _ (by omega) hs (by omega) _ (by first | omega | (simp only [List.length_append, List.length_cons, List.length_nil]; omega)) _) ?_; rintro _ J _ e ⟨s1, p1, rfl, hs1, hp1, hp2, rfl⟩
  have h := h.mono e
  have hs := hs.mono e
  have hle := hle.trans e
  have hlr := hlr.trans e
  refine Hx ?_; refine Da 12 rfl (Yk rfl rfl) ?_; refine Da 13 rfl (Yk rfl rfl) ?_; refine Da 14 rfl (A2 rfl) ?_; refine At (by kernel_rfl) ?_; refine Ad (.tmp rfl .nil) ?_
  exact ⟨_, _, hle, fun w h => Mem.sub (L' := rd b oa l c _ :: L) (by repeat (first | exact List.Sublist.refl _ | apply List.Sublist.cons_cons | apply List.Sublist.cons)) h, _, _, rfl, (by first | omega | (simp only [List.length_append, List.length_cons, List.length_nil]; omega) | (simp; omega)), by omega, by omega, rfl⟩
 intro c0
 try simp only [nb] at c0
 refine Se rfl (Om rfl (Oa rfl (Aa ?_))); refine As rfl ?_ ?_
 ·intro c1
  try simp only [nb] at c1
  refine Se rfl (Om rfl ?_); refine Ol rfl rfl ?_; intro b52; refine D3 [[102], [103], [102, 49]] (by decide) (by decide) ?_; intro J1 e1 k1
  have h := h.mono e1
  have hs := hs.mono e1
  have hle := hle.trans e1
  refine Ca rfl (Ei h hl b _ (by omega) k1 (by simp) _) ?_; rintro _ _ _ _ ⟨nf, rfl, hnf, rfl, rfl⟩
  have hnfl : nf.length ≤ 2 := by revert nf; decide
  refine Oa rfl (Aa (Se rfl (Om rfl ?_))); refine Ol rfl rfl ?_; intro b55; refine D3 [[120], [122], [120, 50]] (by decide) (by decide) ?_; intro J1 e1 k1
  have h := h.mono e1
  have hs := hs.mono e1
  have hle := hle.trans e1
  refine Ca rfl (Ei h hl b _ (by omega) k1 (by simp) _) ?_; rintro _ _ _ _ ⟨nx, rfl, hnx, rfl, rfl⟩
  have hnxl : nx.length ≤ 2 := by revert nx; decide
  refine Oa rfl (Aa (Se rfl ?_)); refine A3 rfl .free rfl ?_; refine Om rfl (Om rfl ?_); refine Ca rfl (Jo hs nx (t1 (Ga [62] want)) (by omega) (by omega) (by omega) _) ?_; rintro _ J2 _ e2 ⟨o3, c3, o4, c4, rfl, hs2, rfl⟩
  have h := h.mono e2
  have hs := hs.mono e2
  have hle := hle.trans e2
  refine Aw .free rfl ?_; intro b18; refine Bn rfl rfl rfl rfl .free ?_; refine D4 (fun w h => h.f1) ?_; refine Aa (Ab (Se rfl (Om rfl ?_))); refine Ca rfl (Dg h hl b _ 6 (by omega) (by decide) _) ?_; rintro _ _ _ _ ⟨r, rfl, rfl, rfl, hr⟩; refine Oc rfl rfl rfl (Aa ?_); refine As rfl ?_ ?_
  ·intro c2
   try simp only [nb] at c2
   refine Af rfl ?_; refine A3 rfl .free rfl ?_; refine Om rfl (Om rfl ?_); refine Ca rfl (Jo hs nf want (by omega) (by omega) (by omega) _) ?_; rintro _ J3 _ e3 ⟨o5, c5, o6, c6, rfl, hs3, rfl⟩
   have h := h.mono e3
   have hle := hle.trans e3
   refine Om rfl (Om rfl ?_); refine Ca rfl (Jo hs3 nx (t1 (Ga [62] want)) (by omega) (by omega) (by simp; omega) _) ?_; rintro _ J4 _ e4 ⟨o7, c7, o8, c8, rfl, hs4, rfl⟩
   have h := h.mono e4
   have hle := hle.trans e4
   refine Bn rfl rfl rfl rfl .free ?_; refine Aa (Se rfl (Om rfl ?_)); refine Ok rfl rfl ?_; refine Ok rfl rfl ?_; refine Om rfl ?_; refine Ok rfl rfl ?_; refine Ok rfl rfl ?_; refine Om rfl ?_; refine Ok rfl rfl ?_; refine Ok rfl rfl ?_; refine Om rfl ?_; refine Ok rfl rfl ?_; refine Ok rfl rfl ?_; refine Om rfl ?_; refine A3 rfl .free rfl ?_; refine Om rfl (Om rfl ?_); refine Ca rfl (by first | exact ih h hl b _ (by omega) hs4 (by simp; omega) _ (by omega) _ | exact ih h hl b _ (by omega) hs2 (by simp; omega) _ (by omega) _) ?_; rintro _ J _ e ⟨s1, p1, rfl, hs1, hp1, hp2, rfl⟩
   have h := h.mono e
   have hle := hle.trans e
   refine Ok rfl rfl ?_; refine Ok rfl rfl ?_; refine Oa rfl (Aa (Ad (.tmp rfl .nil) ?_))
   exact ⟨_, _, hle, fun w h => Mem.sub (L' := rd b oa l c _ :: L) (by repeat (first | exact List.Sublist.refl _ | apply List.Sublist.cons_cons | apply List.Sublist.cons)) h, _, _, rfl, (by first | omega | (simp only [List.length_append, List.length_cons, List.length_nil]; omega) | (simp; omega)), by omega, by omega, rfl⟩
  intro c2
  try simp only [nb] at c2
  refine Ae (Se rfl (Om rfl ?_)); refine Ok rfl rfl ?_; refine Ok rfl rfl ?_; refine Om rfl ?_; refine Ok rfl rfl ?_; refine Ok rfl rfl ?_; refine Om rfl ?_; refine Ok rfl rfl ?_; refine Ok rfl rfl ?_; refine Om rfl ?_; refine Ok rfl rfl ?_; refine Ok rfl rfl ?_; refine Om rfl ?_; refine A3 rfl .free rfl ?_; refine Om rfl (Om rfl ?_); refine Ca rfl (by first | exact ih h hl b _ (by omega) hs4 (by simp; omega) _ (by omega) _ | exact ih h hl b _ (by omega) hs2 (by simp; omega) _ (by omega) _) ?_; rintro _ J _ e ⟨s1, p1, rfl, hs1, hp1, hp2, rfl⟩
  have h := h.mono e
  have hle := hle.trans e
  refine Ok rfl rfl ?_; refine Ok rfl rfl ?_; refine Oa rfl (Aa (Ad (.tmp rfl .nil) ?_))
  exact ⟨_, _, hle, fun w h => Mem.sub (L' := rd b oa l c _ :: L) (by repeat (first | exact List.Sublist.refl _ | apply List.Sublist.cons_cons | apply List.Sublist.cons)) h, _, _, rfl, (by first | omega | (simp only [List.length_append, List.length_cons, List.length_nil]; omega) | (simp; omega)), by omega, by omega, rfl⟩
 intro c1
 try simp only [nb] at c1
 refine Se rfl (Om rfl (Od rfl rfl rfl (Om rfl ?_)))
 first | refine F3 rfl rfl ?_ ?_ | refine Em rfl rfl ?_ ?_ | refine Kq rfl rfl ?_ ?_
 ·intro g13_3; refine Ow rfl ?_; refine B9 rfl (.met rfl rfl) rfl (Dg h hl b _ 3 (by omega) (by decide) _) ?_; rintro _ _ _ _ ⟨r, rfl, rfl, rfl, hr⟩; refine Dh rfl rfl rfl (.met rfl rfl) rfl ?_; refine Ot rfl rfl (Oa rfl (Aa ?_)); refine As rfl ?_ ?_
  ·intro c3
   try simp only [nb] at c3
   refine Ab ?_; refine K6 fun hlr => ?_
   refine Lp 18 rfl rfl ?_; refine Da 0 rfl (Ah rfl) ?_; refine Da 5 rfl (Ah rfl) ?_; refine Dt 6 [18] rfl (Cx rfl) ?_; refine Da 7 rfl (Ah rfl) ?_; refine Da 11 rfl (Ah rfl) ?_; refine Dt 12 [18] rfl (Cx rfl) ?_; refine Da 13 rfl (Ah rfl) ?_; refine Fg 1 rfl (by kernel_rfl) rfl rfl rfl (by rfl) (by rfl) (by rfl) (by decide) (by decide) (by rfl) .free rfl (.inr Ao) ?_; intro b99; refine D1 ?_; intro hz
   have hk := M4 (l := [[43], [45], [42]]) (b := b99) (I := J) (e := 9) (by decide) (by decide)
   have h := h.mono hz
   have hs := hs.mono hz
   have hle := hle.trans hz
   have hlr := hlr.trans hz
   refine Dc 2 rfl rfl (Ei h hl b _ (by omega) hk (by simp) _) ?_; rintro _ _ _ _ ⟨op, rfl, hop, rfl, rfl⟩
   have hopl : op.length ≤ 1 := by revert op; decide
   refine Hx ?_; refine Da 3 rfl (Yk rfl rfl) ?_; refine Da 4 rfl (Yk rfl rfl) ?_; refine Dc 8 rfl rfl (ih h hl b _ (by omega) hs (by omega) _ (by first | omega | (simp only [List.length_append, List.length_cons, List.length_nil]; omega)) _) ?_; rintro _ J _ e ⟨s1, p1, rfl, hs1, hp1, hp2, rfl⟩
   have h := h.mono e
   have hs := hs.mono e
   have hle := hle.trans e
   have hlr := hlr.trans e
   refine Hx ?_; refine Da 9 rfl (Yk rfl rfl) ?_; refine Da 10 rfl (Yk rfl rfl) ?_; refine Dc 14 rfl rfl (ih h hl b _ (by omega) hs (by omega) _ (by first | omega | (simp only [List.length_append, List.length_cons, List.length_nil]; omega)) _) ?_; rintro _ J _ e ⟨s1, p1, rfl, hs1, hp1, hp2, rfl⟩
   have h := h.mono e
   have hs := hs.mono e
   have hle := hle.trans e
   have hlr := hlr.trans e
   refine Hx ?_; refine Da 15 rfl (Yk rfl rfl) ?_; refine Da 16 rfl (Yk rfl rfl) ?_; refine Da 17 rfl (A2 rfl) ?_; refine At (by kernel_rfl) ?_; refine Ad (.tmp rfl .nil) ?_
   exact ⟨_, _, hle, fun w h => Mem.sub (L' := rd b oa l c _ :: L) (by repeat (first | exact List.Sublist.refl _ | apply List.Sublist.cons_cons | apply List.Sublist.cons)) h, _, _, rfl, (by first | omega | (simp only [List.length_append, List.length_cons, List.length_nil]; omega) | (simp; omega)), by omega, by omega, rfl⟩
  intro c3
  try simp only [nb] at c3
  refine Ae (Ak (Se rfl (Om rfl ?_))); refine A3 rfl .free rfl ?_; refine Om rfl ?_; refine Ca rfl (Nk h hl b _ (by omega) hs (by omega) want (by omega) _) ?_; rintro _ J _ e ⟨s1, p1, rfl, hs1, hp1, hp2, rfl⟩
  have hle := hle.trans e
  refine Oa rfl (Aa (Ad (.tmp rfl .nil) ?_))
  exact ⟨_, _, hle, fun w h => Mem.sub (L' := rd b oa l c _ :: L) (by repeat (first | exact List.Sublist.refl _ | apply List.Sublist.cons_cons | apply List.Sublist.cons)) h, _, _, rfl, by omega, by omega, by omega, rfl⟩
 intro g13_3
 iterate 3 refine Cd rfl rfl rfl ?_
 refine Of rfl rfl (Oa rfl (Aa ?_)); refine Al rfl ?_; refine Ae (Ak (Se rfl (Om rfl ?_))); refine A3 rfl .free rfl ?_; refine Om rfl ?_; refine Ca rfl (Nk h hl b _ (by omega) hs (by omega) want (by omega) _) ?_; rintro _ J _ e ⟨s1, p1, rfl, hs1, hp1, hp2, rfl⟩
 have hle := hle.trans e
 refine Oa rfl (Aa (Ad (.tmp rfl .nil) ?_))
 exact ⟨_, _, hle, fun w h => Mem.sub (L' := rd b oa l c _ :: L) (by repeat (first | exact List.Sublist.refl _ | apply List.Sublist.cons_cons | apply List.Sublist.cons)) h, _, _, rfl, by omega, by omega, by omega, rfl⟩
theorem Xy : Tt 0 := by
 intro I oa l c h hl b p hp ns ts o1 o2 c1 c2 hs hn want hw L; refine Ag (by simp) ?_; refine Se rfl ?_; refine B7 rfl rfl .free rfl ?_; intro b5; refine Oa rfl (Aa (Ab (Ab ?_))); refine Bg (fun w h => h.f1) ?_; refine Af rfl (Om rfl (Oc rfl rfl rfl (Aa ?_)))
 first | refine K8 rfl (by rfl) ?_ | refine K7 rfl (by rfl) ?_ | refine Bj (by simp [look, A7, *]) ?_
 refine Se rfl (Om rfl ?_); refine A3 rfl .free rfl ?_; refine Om rfl ?_; refine Ca rfl (Nk h hl b _ hp hs (by omega) want (by omega) _) ?_; rintro _ J _ e ⟨s1, p1, rfl, hs1, hp1, hp2, rfl⟩; refine Oa rfl (Aa (Ad (.tmp rfl .nil) ?_))
 exact ⟨J, _, e, fun w h => Mem.sub (L' := rd b oa l c _ :: L) (by repeat (first | exact List.Sublist.refl _ | apply List.Sublist.cons_cons | apply List.Sublist.cons)) h, _, _, rfl, hs1, hp1, hp2, rfl⟩
set_option maxHeartbeats 1000000 in
theorem Xx {d : Nat} (ih : Tt d) (hd : d ≤ 20) (ht : eT (d + 1) ≤ 1000000000) : Tt (d + 1) := by
 intro I oa l c h hl b p hp ns ts o1 o2 c1 c2 hs hn want hw L
 have ht0 := ht
 simp only [eT, kE] at ht hp ⊢
 have hge := Zn d
 have hle : HLe I I := .refl _
 have hlr : HLe I I := .refl _
 have hb1 : bT 1 = 7 := rfl
 have hk1 : kT 1 = 2 := rfl
 refine Ag (by simp) ?_; refine Se rfl ?_; refine B7 rfl rfl .free rfl ?_; intro b5; refine Oa rfl (Aa (Ab (Ab ?_))); refine Bg (fun w h => h.f1) ?_; refine Af rfl (Om rfl (Oc rfl rfl rfl (Aa ?_)))
 first | refine Sf rfl (by omega) ?_ | refine Al (by simp [look, A7, *]) ?_
 refine Ae (Se rfl (Om rfl ?_)); refine Or rfl rfl rfl ?_; refine Oa rfl (Aa (Ab (Ab ?_))); refine Kp (t := 9) (v' := .int .i64 (d : Nat)) rfl (by congr 1; omega) ?_; refine Af rfl (Om rfl ?_); refine Ca rfl (Dg h hl b _ 12 (by omega) (by decide) _) ?_; rintro _ _ _ _ ⟨r, rfl, rfl, rfl, hr⟩; refine Aa (Aj (Se rfl (Oc rfl rfl rfl (Oa rfl (Aa ?_))))); refine As rfl ?_ ?_
 ·intro c1
  try simp only [nb] at c1
  refine Ab ?_; refine K6 fun hlr => ?_
  refine Lp 21 rfl rfl ?_; refine Da 0 rfl (Ah rfl) ?_; refine Dt 1 [21] rfl (Cx rfl) ?_; refine Da 2 rfl (Ah rfl) ?_; refine Da 6 rfl (Ah rfl) ?_; refine Dt 7 [21] rfl (Cx rfl) ?_; refine Da 8 rfl (Ah rfl) ?_; refine Da 9 rfl (Ah rfl) ?_; refine Da 13 rfl (Ah rfl) ?_; refine Dt 14 [21] rfl (Cx rfl) ?_; refine Da 15 rfl (Ah rfl) ?_; refine Da 16 rfl (Ah rfl) ?_; refine Dc 3 rfl rfl (ih h hl b _ (by omega) hs (by omega) _ (by first | omega | (simp only [List.length_append, List.length_cons, List.length_nil]; omega)) _) ?_; rintro _ J _ e ⟨s1, p1, rfl, hs1, hp1, hp2, rfl⟩
  have h := h.mono e
  have hs := hs.mono e
  have hle := hle.trans e
  have hlr := hlr.trans e
  refine Hx ?_; refine Da 4 rfl (Yk rfl rfl) ?_; refine Da 5 rfl (Yk rfl rfl) ?_; refine Dc 10 rfl rfl (ih h hl b _ (by omega) hs (by omega) _ (by first | omega | (simp only [List.length_append, List.length_cons, List.length_nil]; omega)) _) ?_; rintro _ J _ e ⟨s1, p1, rfl, hs1, hp1, hp2, rfl⟩
  have h := h.mono e
  have hs := hs.mono e
  have hle := hle.trans e
  have hlr := hlr.trans e
  refine Hx ?_; refine Da 11 rfl (Yk rfl rfl) ?_; refine Da 12 rfl (Yk rfl rfl) ?_; refine Dc 17 rfl rfl (ih h hl b _ (by omega) hs (by omega) _ (by first | omega | (simp only [List.length_append, List.length_cons, List.length_nil]; omega)) _) ?_; rintro _ J _ e ⟨s1, p1, rfl, hs1, hp1, hp2, rfl⟩
  have h := h.mono e
  have hs := hs.mono e
  have hle := hle.trans e
  have hlr := hlr.trans e
  refine Hx ?_; refine Da 18 rfl (Yk rfl rfl) ?_; refine Da 19 rfl (Yk rfl rfl) ?_; refine Da 20 rfl (A2 rfl) ?_; refine At (by kernel_rfl) ?_; refine Ad (.tmp rfl .nil) ?_
  exact ⟨_, _, hle, fun w h => Mem.sub (L' := rd b oa l c _ :: L) (by repeat (first | exact List.Sublist.refl _ | apply List.Sublist.cons_cons | apply List.Sublist.cons)) h, _, _, rfl, (by first | omega | (simp only [List.length_append, List.length_cons, List.length_nil]; omega) | (simp; omega)), by omega, by omega, rfl⟩
 intro c1
 try simp only [nb] at c1
 refine Ab (Se rfl (Oc rfl rfl rfl (Oa rfl (Aa ?_)))); refine As rfl ?_ ?_
 ·intro c2
  try simp only [nb] at c2
  refine Ae ?_
  first | refine St rfl (by first | assumption | omega) ?_ | refine Bj (by simp [look, A7, *]) ?_
  refine Se rfl (Om rfl ?_); refine Ca rfl (Id 1 h hl b _ (by omega) (by decide) (by decide) _) ?_; rintro _ J _ e ⟨kd, pk, rfl, hkd, hpk1, hpk2, rfl⟩
  have h := h.mono e
  have hs := hs.mono e
  have hle := hle.trans e
  have hlr := hlr.trans e
  refine Oa rfl (Aa (Se rfl (Om rfl ?_))); refine Ol rfl rfl ?_; intro b51; refine D3 [[97], [98], [99], [120, 49], [121, 48]] (by decide) (by decide) ?_; intro J1 e1 k1
  have h := h.mono e1
  have hs := hs.mono e1
  have hle := hle.trans e1
  refine Ca rfl (Ei h hl b _ (by omega) k1 (by simp) _) ?_; rintro _ _ _ _ ⟨nx, rfl, hnx, rfl, rfl⟩
  have hnxl : nx.length ≤ 2 := by revert nx; decide
  refine Oa rfl (Aa (Ab ?_)); refine K6 fun hlr => ?_
  refine Lp 21 rfl rfl ?_; refine Da 0 rfl (Ah rfl) ?_; refine Da 1 rfl (Yk rfl rfl) ?_; refine Da 2 rfl (Yk rfl rfl) ?_; refine Da 3 rfl (Ah rfl) ?_; refine Dt 4 [21] rfl (Cx rfl) ?_; refine Da 5 rfl (Ah rfl) ?_; refine Da 6 rfl (Ah rfl) ?_; refine Da 10 rfl (Ah rfl) ?_; refine Dt 11 [21] rfl (Cx rfl) ?_; refine Da 12 rfl (Ah rfl) ?_; refine Da 13 rfl (Ah rfl) ?_; refine Da 15 rfl (Ah rfl) ?_; refine Da 16 rfl (Ah rfl) ?_; refine Dc 7 rfl rfl (ih h hl b _ (by omega) hs (by omega) _ (by first | omega | (simp only [List.length_append, List.length_cons, List.length_nil]; omega)) _) ?_
  rintro _ J _ e ⟨s1, p1, rfl, hs1, hp1, hp2, rfl⟩
  have h := h.mono e
  have hs := hs.mono e
  have hle := hle.trans e
  have hlr := hlr.trans e
  refine Hx ?_; refine Da 8 rfl (Yk rfl rfl) ?_; refine Da 9 rfl (Yk rfl rfl) ?_; refine Dc 14 rfl rfl (Jo hs nx kd (by omega) (by omega) (by omega) _) ?_; rintro _ J2 _ e2 ⟨o3, c3, o4, c4, rfl, hs2, rfl⟩
  have h := h.mono e2
  have hle := hle.trans e2
  have hlr := hlr.trans e2
  refine Hx ?_; refine Dc 17 rfl rfl (ih h hl b _ (by omega) hs2 (by simp; omega) _ (by omega) _) ?_; rintro _ J _ e ⟨s1, p1, rfl, hs1, hp1, hp2, rfl⟩
  have hle := hle.trans e
  have hlr := hlr.trans e
  refine Hx ?_; refine Da 18 rfl (Yk rfl rfl) ?_; refine Da 19 rfl (Yk rfl rfl) ?_; refine Da 20 rfl (A2 rfl) ?_; refine At (by kernel_rfl) ?_; refine Ad (.tmp rfl .nil) ?_
  exact ⟨_, _, hle, fun w h => Mem.sub (L' := rd b oa l c _ :: L) (by repeat (first | exact List.Sublist.refl _ | apply List.Sublist.cons_cons | apply List.Sublist.cons)) h, _, _, rfl, (by first | omega | (simp only [List.length_append, List.length_cons, List.length_nil]; omega) | (simp; omega)), by omega, by omega, rfl⟩
 intro c2
 try simp only [nb] at c2
 refine Af rfl (Oc rfl rfl rfl (Oa rfl (Aa ?_))); refine As rfl ?_ ?_
 ·intro c3
  try simp only [nb] at c3
  refine Se rfl (Om rfl ?_); refine Ca rfl (Id 1 h hl b _ (by omega) (by decide) (by decide) _) ?_; rintro _ J _ e ⟨kd, pk, rfl, hkd, hpk1, hpk2, rfl⟩
  have h := h.mono e
  have hs := hs.mono e
  have hle := hle.trans e
  have hlr := hlr.trans e
  refine Oa rfl (Aa (Se rfl (Om rfl ?_))); refine Ol rfl rfl ?_; intro b51; refine D3 [[97], [98], [99], [120, 49], [121, 48]] (by decide) (by decide) ?_; intro J1 e1 k1
  have h := h.mono e1
  have hs := hs.mono e1
  have hle := hle.trans e1
  refine Ca rfl (Ei h hl b _ (by omega) k1 (by simp) _) ?_; rintro _ _ _ _ ⟨nx, rfl, hnx, rfl, rfl⟩
  have hnxl : nx.length ≤ 2 := by revert nx; decide
  refine Oa rfl (Aa (Ab ?_)); refine K6 fun hlr => ?_
  refine Lp 21 rfl rfl ?_; refine Da 0 rfl (Ah rfl) ?_; refine Da 1 rfl (Yk rfl rfl) ?_; refine Da 2 rfl (Yk rfl rfl) ?_; refine Da 3 rfl (Ah rfl) ?_; refine Dt 4 [21] rfl (Cx rfl) ?_; refine Da 5 rfl (Ah rfl) ?_; refine Da 6 rfl (Ah rfl) ?_; refine Da 10 rfl (Ah rfl) ?_; refine Dt 11 [21] rfl (Cx rfl) ?_; refine Da 12 rfl (Ah rfl) ?_; refine Da 13 rfl (Ah rfl) ?_; refine Da 15 rfl (Ah rfl) ?_; refine Da 16 rfl (Ah rfl) ?_; refine Dc 7 rfl rfl (ih h hl b _ (by omega) hs (by omega) _ (by first | omega | (simp only [List.length_append, List.length_cons, List.length_nil]; omega)) _) ?_
  rintro _ J _ e ⟨s1, p1, rfl, hs1, hp1, hp2, rfl⟩
  have h := h.mono e
  have hs := hs.mono e
  have hle := hle.trans e
  have hlr := hlr.trans e
  refine Hx ?_; refine Da 8 rfl (Yk rfl rfl) ?_; refine Da 9 rfl (Yk rfl rfl) ?_; refine Dc 14 rfl rfl (Jo hs nx kd (by omega) (by omega) (by omega) _) ?_; rintro _ J2 _ e2 ⟨o3, c3, o4, c4, rfl, hs2, rfl⟩
  have h := h.mono e2
  have hle := hle.trans e2
  have hlr := hlr.trans e2
  refine Hx ?_; refine Dc 17 rfl rfl (ih h hl b _ (by omega) hs2 (by simp; omega) _ (by omega) _) ?_; rintro _ J _ e ⟨s1, p1, rfl, hs1, hp1, hp2, rfl⟩
  have hle := hle.trans e
  have hlr := hlr.trans e
  refine Hx ?_; refine Da 18 rfl (Yk rfl rfl) ?_; refine Da 19 rfl (Yk rfl rfl) ?_; refine Da 20 rfl (A2 rfl) ?_; refine At (by kernel_rfl) ?_; refine Ad (.tmp rfl .nil) ?_
  exact ⟨_, _, hle, fun w h => Mem.sub (L' := rd b oa l c _ :: L) (by repeat (first | exact List.Sublist.refl _ | apply List.Sublist.cons_cons | apply List.Sublist.cons)) h, _, _, rfl, (by first | omega | (simp only [List.length_append, List.length_cons, List.length_nil]; omega) | (simp; omega)), by omega, by omega, rfl⟩
 intro c3
 try simp only [nb] at c3
 refine Ab (Se rfl (Oc rfl rfl rfl (Oa rfl (Aa ?_)))); refine As rfl ?_ ?_
 ·intro c4
  try simp only [nb] at c4
  refine Ae ?_
  first | refine St rfl (by first | assumption | omega) ?_ | refine Bj (by simp [look, A7, *]) ?_
  refine Se rfl (Om rfl ?_); refine Ca rfl (Id 1 h hl b _ (by omega) (by decide) (by decide) _) ?_; rintro _ J _ e ⟨kd, pk, rfl, hkd, hpk1, hpk2, rfl⟩
  have h := h.mono e
  have hs := hs.mono e
  have hle := hle.trans e
  have hlr := hlr.trans e
  refine Oa rfl (Aa (Ab ?_)); refine K6 fun hlr => ?_
  refine Lp 20 rfl rfl ?_; refine Da 0 rfl (Ah rfl) ?_; refine Dt 1 [20] rfl (Cx rfl) ?_; refine Da 2 rfl (Ah rfl) ?_; refine Da 3 rfl (Yk rfl rfl) ?_; refine Da 4 rfl (Yk rfl rfl) ?_; refine Da 5 rfl (Ah rfl) ?_; refine Da 6 rfl (Yk rfl rfl) ?_; refine Da 7 rfl (Yk rfl rfl) ?_; refine Da 8 rfl (Ah rfl) ?_; refine Da 12 rfl (Ah rfl) ?_; refine Dt 13 [20] rfl (Cx rfl) ?_; refine Da 14 rfl (Ah rfl) ?_; refine Da 15 rfl (Ah rfl) ?_; refine Dc 9 rfl rfl (ih h hl b _ (by omega) hs (by omega) _ (by first | omega | (simp only [List.length_append, List.length_cons, List.length_nil]; omega)) _) ?_
  rintro _ J _ e ⟨s1, p1, rfl, hs1, hp1, hp2, rfl⟩
  have h := h.mono e
  have hs := hs.mono e
  have hle := hle.trans e
  have hlr := hlr.trans e
  refine Hx ?_; refine Da 10 rfl (Yk rfl rfl) ?_; refine Da 11 rfl (Yk rfl rfl) ?_; refine Dc 16 rfl rfl (ih h hl b _ (by omega) hs (by omega) _ (by first | omega | (simp only [List.length_append, List.length_cons, List.length_nil]; omega)) _) ?_; rintro _ J _ e ⟨s1, p1, rfl, hs1, hp1, hp2, rfl⟩
  have h := h.mono e
  have hs := hs.mono e
  have hle := hle.trans e
  have hlr := hlr.trans e
  refine Hx ?_; refine Da 17 rfl (Yk rfl rfl) ?_; refine Da 18 rfl (Yk rfl rfl) ?_; refine Da 19 rfl (A2 rfl) ?_; refine At (by kernel_rfl) ?_; refine Ad (.tmp rfl .nil) ?_
  exact ⟨_, _, hle, fun w h => Mem.sub (L' := rd b oa l c _ :: L) (by repeat (first | exact List.Sublist.refl _ | apply List.Sublist.cons_cons | apply List.Sublist.cons)) h, _, _, rfl, (by first | omega | (simp only [List.length_append, List.length_cons, List.length_nil]; omega) | (simp; omega)), by omega, by omega, rfl⟩
 intro c4
 try simp only [nb] at c4
 refine Af rfl (Oc rfl rfl rfl (Oa rfl (Aa ?_))); refine As rfl ?_ ?_
 ·intro c5
  try simp only [nb] at c5
  refine Se rfl (Om rfl ?_); refine Ca rfl (Id 1 h hl b _ (by omega) (by decide) (by decide) _) ?_; rintro _ J _ e ⟨kd, pk, rfl, hkd, hpk1, hpk2, rfl⟩
  have h := h.mono e
  have hs := hs.mono e
  have hle := hle.trans e
  have hlr := hlr.trans e
  refine Oa rfl (Aa (Ab ?_)); refine K6 fun hlr => ?_
  refine Lp 20 rfl rfl ?_; refine Da 0 rfl (Ah rfl) ?_; refine Dt 1 [20] rfl (Cx rfl) ?_; refine Da 2 rfl (Ah rfl) ?_; refine Da 3 rfl (Yk rfl rfl) ?_; refine Da 4 rfl (Yk rfl rfl) ?_; refine Da 5 rfl (Ah rfl) ?_; refine Da 6 rfl (Yk rfl rfl) ?_; refine Da 7 rfl (Yk rfl rfl) ?_; refine Da 8 rfl (Ah rfl) ?_; refine Da 12 rfl (Ah rfl) ?_; refine Dt 13 [20] rfl (Cx rfl) ?_; refine Da 14 rfl (Ah rfl) ?_; refine Da 15 rfl (Ah rfl) ?_; refine Dc 9 rfl rfl (ih h hl b _ (by omega) hs (by omega) _ (by first | omega | (simp only [List.length_append, List.length_cons, List.length_nil]; omega)) _) ?_
  rintro _ J _ e ⟨s1, p1, rfl, hs1, hp1, hp2, rfl⟩
  have h := h.mono e
  have hs := hs.mono e
  have hle := hle.trans e
  have hlr := hlr.trans e
  refine Hx ?_; refine Da 10 rfl (Yk rfl rfl) ?_; refine Da 11 rfl (Yk rfl rfl) ?_; refine Dc 16 rfl rfl (ih h hl b _ (by omega) hs (by omega) _ (by first | omega | (simp only [List.length_append, List.length_cons, List.length_nil]; omega)) _) ?_; rintro _ J _ e ⟨s1, p1, rfl, hs1, hp1, hp2, rfl⟩
  have h := h.mono e
  have hs := hs.mono e
  have hle := hle.trans e
  have hlr := hlr.trans e
  refine Hx ?_; refine Da 17 rfl (Yk rfl rfl) ?_; refine Da 18 rfl (Yk rfl rfl) ?_; refine Da 19 rfl (A2 rfl) ?_; refine At (by kernel_rfl) ?_; refine Ad (.tmp rfl .nil) ?_
  exact ⟨_, _, hle, fun w h => Mem.sub (L' := rd b oa l c _ :: L) (by repeat (first | exact List.Sublist.refl _ | apply List.Sublist.cons_cons | apply List.Sublist.cons)) h, _, _, rfl, (by first | omega | (simp only [List.length_append, List.length_cons, List.length_nil]; omega) | (simp; omega)), by omega, by omega, rfl⟩
 intro c5
 try simp only [nb] at c5
 refine Se rfl (Oc rfl rfl rfl (Oa rfl (Aa ?_))); refine As rfl ?_ ?_
 ·intro c6
  try simp only [nb] at c6
  refine Se rfl (Om rfl ?_); refine A3 rfl .free rfl ?_; refine Om rfl ?_; refine Ok rfl rfl ?_; refine Ok rfl rfl ?_; refine Om rfl ?_; refine Ca rfl (ih h hl b _ (by omega) hs (by omega) _ (by first | omega | (simp only [List.length_append, List.length_cons, List.length_nil]; omega)) _) ?_; rintro _ J _ e ⟨s1, p1, rfl, hs1, hp1, hp2, rfl⟩
  have h := h.mono e
  have hs := hs.mono e
  have hle := hle.trans e
  have hlr := hlr.trans e
  refine Ok rfl rfl ?_; refine Ok rfl rfl ?_; refine Oa rfl (Aa (Ad (.tmp rfl .nil) ?_))
  exact ⟨_, _, hle, fun w h => Mem.sub (L' := rd b oa l c _ :: L) (by repeat (first | exact List.Sublist.refl _ | apply List.Sublist.cons_cons | apply List.Sublist.cons)) h, _, _, rfl, (by first | omega | (simp only [List.length_append, List.length_cons, List.length_nil]; omega) | (simp; omega)), by omega, by omega, rfl⟩
 intro c6
 try simp only [nb] at c6
 refine Se rfl (Oc rfl rfl rfl (Oa rfl (Aa ?_))); refine As rfl ?_ ?_
 ·intro c7
  try simp only [nb] at c7
  refine Se rfl (Om rfl ?_); refine A3 rfl .free rfl ?_; refine Om rfl ?_; refine Ok rfl rfl ?_; refine Ok rfl rfl ?_; refine Om rfl ?_; refine Ca rfl (ih h hl b _ (by omega) hs (by omega) _ (by first | omega | (simp only [List.length_append, List.length_cons, List.length_nil]; omega)) _) ?_; rintro _ J _ e ⟨s1, p1, rfl, hs1, hp1, hp2, rfl⟩
  have h := h.mono e
  have hs := hs.mono e
  have hle := hle.trans e
  have hlr := hlr.trans e
  refine Ok rfl rfl ?_; refine Ok rfl rfl ?_; refine Oa rfl (Aa (Ad (.tmp rfl .nil) ?_))
  exact ⟨_, _, hle, fun w h => Mem.sub (L' := rd b oa l c _ :: L) (by repeat (first | exact List.Sublist.refl _ | apply List.Sublist.cons_cons | apply List.Sublist.cons)) h, _, _, rfl, (by first | omega | (simp only [List.length_append, List.length_cons, List.length_nil]; omega) | (simp; omega)), by omega, by omega, rfl⟩
 intro c7
 try simp only [nb] at c7
 refine Se rfl (Oc rfl rfl rfl (Oa rfl (Aa ?_))); refine As rfl ?_ ?_
 ·intro c8
  try simp only [nb] at c8
  refine Se rfl (Om rfl (Od rfl rfl rfl (Aa ?_))); refine As rfl ?_ ?_
  ·intro c9
   try simp only [nb] at c9
   refine Se rfl (Om rfl ?_); refine Ca rfl (Ye h hl b _ (by omega) _) ?_; rintro _ J _ e ⟨s1, p1, rfl, hs1, hp1, hp2, rfl⟩
   have hle := hle.trans e
   refine Oa rfl (Aa (Ad (.tmp rfl .nil) ?_))
   exact ⟨_, _, hle, fun w h => Mem.sub (L' := rd b oa l c _ :: L) (by repeat (first | exact List.Sublist.refl _ | apply List.Sublist.cons_cons | apply List.Sublist.cons)) h, _, _, rfl, (by first | omega | (simp only [List.length_append, List.length_cons, List.length_nil]; omega) | (simp; omega)), by omega, by omega, rfl⟩
  intro c9
  try simp only [nb] at c9
  refine Ae (Ak (Se rfl (Om rfl ?_))); refine A3 rfl .free rfl ?_; refine Om rfl (Om rfl ?_); refine Ca rfl (Pl ih hd ht0 h hl b _ (by omega) hs (by omega) want (by omega) _) ?_; rintro _ J _ e ⟨s1, p1, rfl, hs1, hp1, hp2, rfl⟩
  have hle := hle.trans e
  refine Oa rfl (Aa (Ad (.tmp rfl .nil) ?_))
  exact ⟨_, _, hle, fun w h => Mem.sub (L' := rd b oa l c _ :: L) (by repeat (first | exact List.Sublist.refl _ | apply List.Sublist.cons_cons | apply List.Sublist.cons)) h, _, _, rfl, (by first | omega | (simp only [List.length_append, List.length_cons, List.length_nil]; omega) | (simp; omega)), by omega, by omega, rfl⟩
 intro c8
 try simp only [nb] at c8
 refine Ae (Ak (Se rfl (Om rfl ?_))); refine A3 rfl .free rfl ?_; refine Om rfl (Om rfl ?_); refine Ca rfl (Pl ih hd ht0 h hl b _ (by omega) hs (by omega) want (by omega) _) ?_; rintro _ J _ e ⟨s1, p1, rfl, hs1, hp1, hp2, rfl⟩
 have hle := hle.trans e
 refine Oa rfl (Aa (Ad (.tmp rfl .nil) ?_))
 exact ⟨_, _, hle, fun w h => Mem.sub (L' := rd b oa l c _ :: L) (by repeat (first | exact List.Sublist.refl _ | apply List.Sublist.cons_cons | apply List.Sublist.cons)) h, _, _, rfl, (by first | omega | (simp only [List.length_append, List.length_cons, List.length_nil]; omega) | (simp; omega)), by omega, by omega, rfl⟩
theorem T9 : ∀ d, d ≤ 4 → Tt d
 | 0, _ => Xy
 | d + 1, h => Xx (T9 d (by omega)) (by omega) (by
   have : ∀ d, d ≤ 4 → eT d ≤ 1000000000 := by decide
   exact this _ h)
theorem Lh {d : Nat} (hd : d ≤ 4) {I : Heap} {oa : Option Addr} {l : List UInt8} {c : Nat} (h : Bytes I oa l c) (hl : l.length ≤ 2000) (b p : Nat) (hp : p + 3000 ≤ 1099511627776) {ns ts : List Ap} {o1 o2 : Option Addr} {c1 c2 : Nat} (hs : ScAt I ns ts o1 c1 o2 c2) (hn : ns.length ≤ 80) (want : Ap) (hw : want.length ≤ 900) (L : Bh) :
  Fun Tryz.prog 101 [.pointer (some ⟨b, 0, none⟩), .agg [.slice o1 ns.length c1, .slice o2 ts.length c2].toArray, .string (str want), .int .i64 (d : Nat)] I (rd b oa l c p :: L) (DT b oa l c p 3000 400000 L) := by
 have hk : ∀ d, d ≤ 4 → kE d ≤ 3000 ∧ eT d ≤ 400000 := by decide
 obtain ⟨h1, h2⟩ := hk d hd; refine (T9 d hd h hl b p (by omega) hs (by omega) want (by omega) L).mono ?_; rintro v I' L' _ ⟨s, p', rfl, h3, h4, h5, rfl⟩
 exact ⟨s, p', rfl, by omega, h4, by omega, rfl⟩
mutual
def Tree.atomL : Tree → List Ap
 | .node a [] => [a]
 | .node _ (p :: ps) => p.atomL ++ Gh ps
def Gh : List Tree → List Ap
 | [] => []
 | t :: ts => t.atomL ++ Gh ts
end
mutual
def Tree.repl : Tree → Ap → Tree → Tree
 | .node x [], a, b => if x = a then b else .node x []
 | .node x (p :: ps), a, b => .node x (p.repl a b :: Hr ps a b)
def Hr : List Tree → Ap → Tree → List Tree
 | [], _, _ => []
 | t :: ts, a, b => t.repl a b :: Hr ts a b
end
theorem Xr (t : Tree) (h : t.parts ≠ []) : t.atomL = Gh t.parts := by
 cases t with
 | node a ps => cases ps with
  | nil => exact absurd rfl h
  | cons p ps => rfl
theorem Vw (t : Tree) (h : t.parts = []) : t.atomL = [t.atom] := by
 cases t with
 | node a ps => simp [Tree.parts] at h; subst h; rfl
theorem Ls : ∀ (a b : List Tree), Gh (a ++ b) = Gh a ++ Gh b
 | [], b => rfl
 | t :: a, b => by simp only [List.cons_append, Gh, Ls a b, List.append_assoc]
theorem Tw (ps : List Tree) (i : Nat) (hi : i < ps.length) : Gh (ps.take (i + 1)) = Gh (ps.take i) ++ ps[i].atomL := by
 rw [List.take_succ_eq_append_getElem hi, Ls]; simp [Gh]
mutual
theorem Tree.atomL_len : ∀ t : Tree, t.atomL.length = t.size
 | .node a [] => rfl
 | .node a (p :: ps) => by
  have h1 := p.atomL_len; have h2 := L4 ps
  simp only [Tree.atomL, List.length_append, h1, h2, Tree.size, D5, List.isEmpty_cons, cond_false]
theorem L4 : ∀ ts : List Tree, (Gh ts).length = D5 ts
 | [] => rfl
 | t :: ts => by have h1 := t.atomL_len; have h2 := L4 ts; simp only [Gh, List.length_append, h1, h2, D5]
end
theorem Aaz (t : Tree) (a : Ap) (b : Tree) (h : t.parts ≠ []) : t.repl a b = .node t.atom (Hr t.parts a b) := by
 cases t with
 | node x ps => cases ps with
  | nil => exact absurd rfl h
  | cons p ps => rfl
theorem Rs (t : Tree) (a : Ap) (b : Tree) (h : t.parts = []) : t.repl a b = if t.atom = a then b else t := by
 cases t with
 | node x ps => simp [Tree.parts] at h; subst h; rfl
theorem M0 : ∀ (p q : List Tree) (a : Ap) (b : Tree), Hr (p ++ q) a b = Hr p a b ++ Hr q a b
 | [], q, a, b => rfl
 | t :: p, q, a, b => by simp only [List.cons_append, Hr, M0 p q]
theorem Ki : ∀ (ps : List Tree) (a : Ap) (b : Tree), (Hr ps a b).length = ps.length
 | [], _, _ => rfl
 | t :: ps, a, b => by simp only [Hr, List.length_cons, Ki ps]
theorem Wt (ps : List Tree) (a : Ap) (b : Tree) (i : Nat) (hi : i < ps.length) : Hr (ps.take (i + 1)) a b = Hr (ps.take i) a b ++ [ps[i].repl a b] := by
 rw [List.take_succ_eq_append_getElem hi, M0]; rfl
mutual
theorem Tree.repl_good : ∀ {t : Tree} {a : Ap} {b : Tree}, t.good = true → b.good = true → (t.repl a b).good = true
 | .node x [], a, b, h, hb => by simp only [Tree.repl]; split; exact hb; exact h
 | .node x (p :: ps), a, b, h, hb => by
  obtain ⟨h1, h2, h3⟩ := He h; subst h1
  simp [Tree.repl, Tree.good, E0, Tree.repl_good h2 hb, Qh h3 hb]
theorem Qh : ∀ {ps : List Tree} {a : Ap} {b : Tree}, E0 ps = true → b.good = true → E0 (Hr ps a b) = true
 | [], a, b, h, hb => rfl
 | t :: ps, a, b, h, hb => by
  simp [E0] at h
  simp [Hr, E0, Tree.repl_good h.1 hb, Qh h.2 hb]
end
mutual
theorem Tree.repl_len : ∀ (t : Tree) (a : Ap) (b : Tree), (t.repl a b).len ≤ t.len + t.size * b.len
 | .node x [], a, b => by simp only [Tree.repl, Tree.size, List.isEmpty_nil, cond_true, Nat.one_mul]; split <;> omega
 | .node x (p :: ps), a, b => by
  have h1 := p.repl_len a b; have h2 := Rr ps a b
  simp only [Tree.repl, Tree.len, Tree.size, Fn, D5, List.isEmpty_cons, cond_false, Nat.add_mul]; omega
theorem Rr : ∀ (ps : List Tree) (a : Ap) (b : Tree), Fn (Hr ps a b) ≤ Fn ps + D5 ps * b.len
 | [], a, b => by simp [Hr, Fn, D5]
 | t :: ps, a, b => by
  have h1 := t.repl_len a b; have h2 := Rr ps a b
  simp only [Hr, Fn, D5, Nat.add_mul]; omega
end
theorem Xq {l : List Ap} (h : l ≠ []) : Df [] l ≠ [] := fun e => h (Pi.1 e)
theorem Tree.size_one : ∀ t : Tree, 1 ≤ t.size
 | .node a [] => Nat.le_refl _
 | .node a (p :: ps) => by
  have := Tree.size_one p
  simp only [Tree.size, D5, List.isEmpty_cons, cond_false]; omega
theorem Zd (t : Tree) : t.atomL ≠ [] := by
 have h1 := t.atomL_len
 have h2 := t.size_one
 intro e; rw [e] at h1; simp at h1; omega
mutual
theorem Tree.atom_len : ∀ (t : Tree) (x : Ap), x ∈ t.atomL → x.length ≤ t.len
 | .node a [], x, h => by
  simp only [Tree.atomL, List.mem_singleton] at h
  subst h; simp [Tree.len]
 | .node a (p :: ps), x, h => by
  simp only [Tree.atomL, List.mem_append] at h
  simp only [Tree.len, Fn, List.isEmpty_cons, cond_false]
  rcases h with h | h
  ·have := p.atom_len x h; omega
  ·have := Ku ps x h; omega
theorem Ku : ∀ (ts : List Tree) (x : Ap), x ∈ Gh ts → x.length ≤ Fn ts
 | [], x, h => by cases h
 | t :: ts, x, h => by
  simp only [Gh, List.mem_append] at h
  simp only [Fn]
  rcases h with h | h
  ·have := t.atom_len x h; omega
  ·have := Ku ts x h; omega
end
theorem Xs {t : Tree} (h : t.len ≤ 12000000) : ∀ s ∈ Df [] t.atomL, s.length ≤ Az := by
 intro s hs
 rcases Jv.1 hs with h1 | h1
 ·cases h1
 ·have := t.atom_len s h1; unfold Az; omega
def Hm (s : Ap) : Option (List Ap) := (C7 s).map fun t => Df [] t.atomL
def Hz (s a b : Ap) : Option Ap := match C7 s, C7 a, C7 b with
 | some t, some x, some y => if x.atom ≠ [] ∧ (C7 (t.repl a y).text).isSome = true then some (t.repl a y).text else none
 | _, _, _ => none
theorem Uj (s : Ap) (hs : s.length ≤ Iz) (I : Heap) (L : Bh) : Fun Tryz.prog 104 [.string (str s)] I L (fun v I' L' => v = .bool (C7 s).isSome ∧ L = L') := by
 refine Ag (by simp) ?_; refine Se rfl (Oa rfl (Aa (Se rfl (Om rfl ?_)))); refine Ca rfl (Gs s hs _ _) ?_; rintro _ J _ e1 ⟨t, cs, ok, rfl, hrep, rfl, hpf⟩; obtain ⟨o1, k1, _, rfl, -⟩ := hrep.open; refine Om rfl (Oe rfl rfl (Oe rfl rfl ?_)); refine Aw .free rfl ?_; intro b3; refine Bn rfl rfl rfl rfl .free ?_; refine Oa rfl (Aa (Se rfl (Om rfl (Oa rfl (Aa (Ad (.tmp rfl .nil) ?_)))))); refine ⟨J, L, e1, Bf, ?_, rfl⟩
 cases hp : C7 s with
 | none => rw [hp] at hpf; rw [hpf]; rfl
 | some t0 => rw [hp] at hpf; rw [hpf.1]; rfl
structure GA where
 i : Nat
 l : List Ap
 B : Ju
 c : Nat
theorem Ya : ∀ (n : Nat) {I : Heap} {t : Tree} {cs : List Value} (_ : SizeOf.sizeOf t < n) (_ : Rep I t cs) (_ : t.good = true) (l : List Ap) (B : Ju) (c : Nat) (_ : l.length + t.size ≤ 4294967295) (_ : Er 1 l.length c (l.map sv) B) (L : Bh),
  Fun Tryz.prog 102 [.agg cs.toArray, B8 l.length c B] I (Cf 9 (l.map sv) B ++ L) (fun v I' L' => I = I' ∧ LP (Df l t.atomL) L v I' L') := by
 intro n
 induction n with
 | zero => intro I t cs h; omega
 | succ n ihn =>
  intro I t cs hlt h hg l B c hl hB L; obtain ⟨oa, cc, oaf, cf, rfl, hf⟩ := h.at'
  have ha := hf.alen
  have hnil := hf.nil
  have hp := hf.len
  unfold Az at hp
  have hs1 := t.size_one
  have hlN : l.length ≤ Az := by unfold Az; omega
  refine Ag (by simp) ?_; refine Se rfl ?_; refine B7 rfl rfl .free rfl ?_; intro b2; refine Oa rfl (Aa (Ab (Se rfl (Oh rfl ?_)))); refine A1 rfl .free rfl ?_; refine Od rfl rfl rfl (Aa ?_); refine As rfl ?_ ?_
  ·intro c0
   try simp only [nb] at c0
   have hat := Vw t (Jp hg c0)
   refine Ab (Se rfl (Om rfl (Oh rfl ?_))); refine A1 rfl .free rfl ?_; refine Ca rfl (Xe hB hlN _ _ _ _) ?_; rintro _ _ _ _ ⟨rfl, rfl, rfl⟩; refine Aa ?_; refine As rfl ?_ ?_
   ·intro c1
    try simp only [nb] at c1
    refine Se rfl (Om rfl (Oa rfl (Aa (Ad (.tmp rfl .nil) ?_))))
    have hoc : Df l t.atomL = l := by rw [hat]; exact Q2 c1
    exact ⟨I, _, .refl _, fun w h => h.drop, rfl, B, c, by rw [hoc]; rfl, by rw [hoc]; exact hB, by rw [hoc]⟩
   intro c1
   try simp only [nb] at c1
   refine Ae (Se rfl (Om rfl (Oh rfl ?_))); refine A1 rfl .free rfl ?_; refine Ol rfl rfl ?_; intro b17; refine Dw (B := B) (xs := l.map sv) (ys := [sv t.atom]) (m := l.length) (c := c) (by intro kk; simp) (by rfl) rfl rfl hB (fun _ h => h.u2) (by rfl) (fun a ha => by cases ha; exact Ce (.head _) (by rfl)) (by simp) (by rfl) (by decide) (by decide) (by omega) (by decide) .free rfl ?_; intro bb sp c2 hB'; refine Oa rfl (Aa (Ad (.tmp rfl .nil) ?_))
   have hoc : Df l t.atomL = l ++ [t.atom] := by rw [hat]; exact Pj c1
   exact ⟨I, _, .refl _, Ms (L' := (bb, _) :: L), rfl, some (bb, sp), c2, by rw [hoc]; simp [C2, B8], by rw [hoc]; simpa using hB', by rw [hoc]; simp [Cf]⟩
  intro c0
  try simp only [nb] at c0
  have hne := I0 hg (by simpa using c0)
  have hat := Xr t hne.1
  have hsz : t.size = D5 t.parts := by
   cases t with
   | node a ps => cases ps with
    | nil => exact absurd rfl hne.1
    | cons p ps => rfl
  refine Ae (Ab (Se rfl (Oa rfl (Aa (Aj ?_))))); refine Dv (X := GA) (fun x => t.parts.length - x.i) (fun x => [(1, B8 x.l.length x.c x.B), (2, .pointer (some ⟨b2, 0, none⟩)), (4, .slice none 0 0), (5, .int .i64 (x.i : Nat))]) (fun _ => I) (fun x => (b2, .cells [.string (str t.atom), .slice oa t.parts.length cc].toArray 46 (0, 0)) :: (Cf 9 (x.l.map sv) x.B ++ L)) (fun x => x.i ≤ t.parts.length ∧ x.l = Df l (Gh (t.parts.take x.i)) ∧ Er 1 x.l.length x.c (x.l.map sv) x.B) ⟨0, l, B, c⟩ ⟨Nat.zero_le _, rfl, hB⟩ ⟨rfl, rfl, rfl, rfl, trivial⟩ (by intro _ h; exact h) ?_
  rintro ⟨i, l1, B1, c1⟩ ⟨hi, hl1, hB1⟩ ih
  simp only at hi hl1 hB1 ih ⊢
  have hll := Gq l (Gh (t.parts.take i))
  rw [← hl1, L4] at hll; refine Ab (Se rfl (Om rfl (Oh rfl ?_))); refine A1 rfl .free rfl ?_; refine On rfl (Oc rfl rfl rfl (Aa ?_)); refine As rfl ?_ ?_
  ·intro c2
   try simp only [nb] at c2
   have hi1 : i < t.parts.length := by omega
   have hsl : D5 (t.parts.take i) + (t.pt i).size ≤ D5 t.parts := by
    rw [Tree.pt_at hi1]
    have h1 := Ib (t.parts.take i) (t.parts.drop i)
    rw [List.take_append_drop, List.drop_eq_getElem_cons hi1] at h1
    simp only [D5] at h1; omega
   have hpg := Tree.pt_good hg i hi1
   refine Ae (Ab (Aj (Af rfl (Oh rfl ?_)))); refine A1 rfl .free rfl ?_; refine Om rfl ?_
   first | refine A5 rfl rfl _ rfl .free rfl ?_ | refine A6 rfl rfl _ rfl .free rfl ?_
   refine D9 rfl .free rfl ?_; refine Om rfl ?_; refine D4 (fun w h => h.u1) ?_; refine Ca rfl (ihn (t := t.pt i) (by have := t.pt_lt i hi1; omega) (hf.rp i hi1) hpg l1 B1 c1 (by omega) hB1 _) ?_; rintro _ _ _ _ ⟨rfl, B2, c2, rfl, hB2, rfl⟩; refine D4 (fun w h => h.w1) ?_; refine Oa rfl (Aa (Ak (Af rfl (Om rfl ?_)))); refine Or rfl rfl rfl ?_; refine Oa rfl (Aa ?_)
   exact Bp (E' := [(1, B8 (Df l1 (t.pt i).atomL).length c2 B2), (2, .pointer (some ⟨b2, 0, none⟩)), (4, .slice none 0 0), (5, .int .i64 ((i + 1 : Nat)))]) ⟨rfl, rfl, rfl, rfl, trivial⟩ (ih ⟨i + 1, Df l1 (t.pt i).atomL, B2, c2⟩ ⟨by simp only; omega, by simp only; rw [hl1, ← Co, Tw _ _ hi1, Tree.pt_at hi1], hB2⟩ (by simp only; omega))
  intro c2
  try simp only [nb] at c2
  refine Bz rfl ?_; refine Se rfl (Om rfl (Oa rfl (Aa (Ad (.tmp rfl .nil) ?_))))
  have hl2 : l1 = Df l t.atomL := by
   rw [hl1, hat, show i = t.parts.length by omega, List.take_length]
  subst hl2
  exact ⟨I, _, .refl _, fun w h => h.drop, rfl, B1, c1, rfl, hB1, rfl⟩
theorem Ui (s : Ap) (hs : s.length ≤ Iz) (I : Heap) (L : Bh) : Fun Tryz.prog 59 [.string (str s)] I L (EF (Hm s) L) := by
 refine Ag (by simp) ?_; refine Se rfl (Oa rfl (Oa rfl (Aa (Se rfl (Om rfl ?_))))); refine Ca rfl (Gs s hs _ _) ?_; rintro _ J _ e1 ⟨t, cs, ok, rfl, hrep, rfl, hpf⟩; obtain ⟨o1, k1, _, rfl, -⟩ := hrep.open; refine Om rfl (Oe rfl rfl (Oe rfl rfl ?_)); refine Aw .free rfl ?_; intro b4; refine Bn rfl rfl rfl rfl .free ?_; refine Oa rfl (Aa (Ab (Se rfl (Om rfl ?_)))); refine Cp rfl .free rfl ?_; refine Aa ?_; refine As rfl ?_ ?_
 ·intro c0
  try simp only [nb] at c0
  refine Se rfl ?_; refine D7 .free rfl ?_; intro b13; refine Oa rfl (Oa rfl (Aa ?_)); refine Ad (.tmp rfl (.tmp rfl .nil)) ?_; refine ⟨J, L, e1, Bf, some ⟨b13, 0, none⟩, 0, ?_, ?_, rfl⟩
  ·have : Hm s = none := by
    unfold Hm
    cases hp : C7 s with
    | none => rfl
    | some t0 => rw [hp] at hpf; rw [hpf.1] at c0; cases c0
   rw [this]; rfl
  ·have : Hm s = none := by
    unfold Hm
    cases hp : C7 s with
    | none => rfl
    | some t0 => rw [hp] at hpf; rw [hpf.1] at c0; cases c0
   rw [this]; exact Gx _ _
 intro c0
 try simp only [nb] at c0
 have hps := G3 hpf c0
 have hpg := E7 hps
 have hpz := Ma hps
 have hat : Hm s = some (Df [] t.atomL) := by unfold Hm; rw [hps]; rfl
 refine Ae (Se rfl ?_); refine A3 rfl .free rfl ?_; refine D7 .free rfl ?_; intro b15; refine D4 (L' := Cf 9 (([] : List Ap).map sv) (some (b15, [])) ++ _) (fun w h => h) ?_; refine Ca rfl (Ya _ (Nat.lt_succ_self _) hrep hpg.1 [] (some (b15, [])) 0 (by simp; omega) ⟨rfl, Nat.le_refl _, rfl⟩ _) ?_; rintro _ _ _ _ ⟨rfl, B2, c2, rfl, hB2, rfl⟩; refine Oa rfl (Oa rfl (Aa ?_))
 have hll := Gq [] t.atomL
 rw [Tree.atomL_len] at hll
 simp only [List.length_nil, Nat.zero_add] at hll
 refine Ge hB2 rfl (by unfold Az; omega) (Xs hpg.2.1) ?_; intro J2 oz cz ez hbv hst; refine Kp (t := 2) rfl hbv ?_; refine Ad (.tmp rfl (.tmp rfl .nil)) ?_
 exact ⟨J2, L, e1.trans ez, Bf, oz, cz, by rw [hat]; rfl, by rw [hat]; exact hst, rfl⟩
structure GP where
 J : Heap
 i : Nat
 xs : List Value
 B : Ju
 c : Nat
theorem Uk : ∀ (n : Nat) {I : Heap} {t : Tree} {cs : List Value} (_ : SizeOf.sizeOf t < n) (_ : Rep I t cs) (_ : t.good = true) (a : Ap) (_ : a ≠ []) {y : Tree} {ds : List Value} (_ : Rep I y ds) (L : Bh),
  Fun Tryz.prog 103 [.agg cs.toArray, .string (str a), .agg ds.toArray] I L (RP (t.repl a y) L) := by
 intro n
 induction n with
 | zero => intro I t cs h; omega
 | succ n ihn =>
  intro I t cs hlt h hg a ha0 y ds hy L; obtain ⟨oa, cc, oaf, cf, rfl, hf⟩ := h.at'; obtain ⟨oy, ky, _, rfl, -⟩ := hy.open
  have hp := hf.len
  unfold Az at hp
  have hnil := hf.nil
  refine Ag (by simp) ?_; refine Se rfl ?_; refine B7 rfl rfl .free rfl ?_; intro b3; refine B7 rfl rfl .free rfl ?_; intro b5; refine Aw .free rfl ?_; intro b6; refine Aa (Ab (Se rfl (Oh rfl ?_))); refine A1 rfl .free rfl ?_; refine Om rfl (Od rfl rfl rfl (Om rfl ?_))
  apply Ci 13 16 rfl
  ·intro g1_5 hk
   try simp only [nb] at g1_5
   refine Ow rfl ?_; refine Cg rfl rfl rfl (.met rfl rfl) rfl ?_; refine Ot rfl rfl ?_
   exact Ar 2 rfl rfl hk
  ·intro _ hk; refine A0 2 rfl ?_; refine Of rfl rfl ?_
   exact Ar 2 rfl rfl hk
  refine Aa ?_; refine As rfl ?_ ?_
  ·intro c0
   try simp only [nb] at c0
   refine Se rfl ?_; refine A3 rfl .free rfl ?_; refine Bn rfl rfl rfl rfl .free ?_; refine Aa ?_; refine Ad (.c rfl .nil) ?_
   have e : t.repl a y = y := by rw [Rs t a y (Jp hg (by rw [c0.1]; exact ha0)), if_pos c0.1]
   exact ⟨I, L, .refl _, Bf, _, rfl, by rw [e]; exact hy, rfl⟩
  intro c0
  try simp only [nb] at c0
  refine Ae (Ab (Se rfl (Oh rfl ?_))); refine A1 rfl .free rfl ?_; refine Od rfl rfl rfl (Aa ?_); refine As rfl ?_ ?_
  ·intro c1
   try simp only [nb] at c1
   refine Se rfl ?_; refine A3 rfl .free rfl ?_; refine Bn rfl rfl rfl rfl .free ?_; refine Aa ?_; refine Ad (.c rfl .nil) ?_
   have e : t.repl a y = t := by rw [Rs t a y (Jp hg c1), if_neg (fun e => by rcases c0 with h | h; exact h e; exact ha0 h)]
   exact ⟨I, L, .refl _, Bf, _, rfl, by rw [e]; exact hf.rep, rfl⟩
  intro c1
  try simp only [nb] at c1
  have hat : t.atom = [] := by simpa using c1
  have hne := I0 hg hat
  have hre := Aaz t a y hne.1
  refine Ae (Se rfl ?_); refine Bt rfl rfl rfl .free rfl ?_; refine Aw .free rfl ?_; intro b7; refine Bn rfl rfl rfl rfl .free ?_; refine Aa (Ab (Se rfl (Oa rfl (Aa (Aj ?_)))))
  refine Dv (X := GP) (fun x => t.parts.length - x.i) (fun x => [(1, .string (str a)), (3, .pointer (some ⟨b3, 0, none⟩)), (5, .pointer (some ⟨b5, 0, none⟩)), (6, .pointer (some ⟨b6, 0, none⟩)), (7, .pointer (some ⟨b7, 0, none⟩)), (8, .int .i64 (x.i : Nat))]) (fun x => x.J) (fun x => (b7, .cells [.string (str []), B8 x.i x.c x.B].toArray 46 (0, 0)) :: (Cf 46 x.xs x.B ++ ((b6, .cells [.string (str []), .slice none 0 0].toArray 46 (0, 0)) :: (b5, .cells [.string (str y.atom), .slice oy y.parts.length ky].toArray 46 (0, 0)) :: (b3, .cells [.string (str t.atom), .slice oa t.parts.length cc].toArray 46 (0, 0)) :: L))) (fun x => HLe I x.J ∧ x.i ≤ t.parts.length ∧ RepL x.J (Hr (t.parts.take x.i) a y) x.xs ∧ Er 2 x.i x.c x.xs x.B) ⟨I, 0, [], none, 0⟩ ⟨.refl _, Nat.zero_le _, .nil, ⟨rfl, rfl, rfl⟩⟩ ⟨rfl, rfl, rfl, rfl, rfl, rfl, trivial⟩ (by intro _ h; exact h) ?_
  rintro ⟨J, i, xs, B, cb⟩ ⟨ez, hi, hl, hB⟩ ih
  simp only at ez hi hl hB ih ⊢
  have hf := hf.mono ez
  have hy := hy.mono ez
  refine Ab (Se rfl (Om rfl (Oh rfl ?_))); refine A1 rfl .free rfl ?_; refine On rfl (Oc rfl rfl rfl (Aa ?_)); refine As rfl ?_ ?_
  ·intro c2
   try simp only [nb] at c2
   have hi1 : i < t.parts.length := by omega
   have hpg := Tree.pt_good hg i hi1
   have hlt1 := t.pt_lt i hi1
   refine Ae (Ab (Aj ?_)); refine Sj 14 rfl rfl ?_; refine Da 0 rfl (Ai rfl) ?_; refine Dt 1 [13] rfl (Br rfl) ?_; refine Da 2 rfl (Ai rfl) ?_; refine Dt 3 [13] rfl (Br rfl) ?_; refine Da 4 rfl (Ah rfl) ?_
   first | refine Da 5 rfl (Bl rfl rfl _ rfl) ?_ | refine Da 5 rfl (Bm rfl rfl _ rfl) ?_
   refine Dt 6 [13] rfl (Bq rfl) ?_; refine Da 7 rfl (Ah rfl) ?_; refine Dt 8 [13] rfl (Cx rfl) ?_; refine Dc 9 rfl rfl (ihn (t := t.pt i) (by omega) (hf.rp i hi1) hpg a ha0 hy _) ?_; rintro _ J1 _ e1 ⟨cs1, rfl, h1, rfl⟩; obtain ⟨o1, k1, _, rfl, -⟩ := h1.open; refine Hx ?_; refine Fg 10 rfl (by kernel_rfl) rfl rfl rfl (by rfl) (by rfl) (by rfl) (by decide) (by decide) (by rfl) .free rfl (.inr Ao) ?_; intro b40
   refine C4 11 (B := B) (xs := xs) (ys := [.string (str ((t.pt i).repl a y).atom), .slice o1 ((t.pt i).repl a y).parts.length k1]) (m := i) (c := cb) rfl (by kernel_rfl) rfl (by intro kk; simp) (by rfl) rfl rfl hB (fun _ h => h.u2) (by rfl) (fun a ha => by cases ha; exact Ce (by repeat first | exact .head _ | apply List.Mem.tail | apply List.mem_append_right) (by rfl)) (by simp) (by rfl) (by decide) (by omega) (by decide) .free rfl (fun _ => .inr Ao) ?_; intro B2 c2 hB2; refine C3 (fun w h => Mem.w1 (Mem.sub (List.Sublist.append_left (.cons _ (.refl _)) _) h)) ?_; refine Da 12 rfl (Ai rfl) ?_
   refine Adx 13 rfl (by kernel_rfl) rfl rfl rfl M6 rfl .free (.inl (by kernel_rfl)) ?_; refine At (by kernel_rfl) ?_; refine Ak (Af rfl (Om rfl ?_)); refine Or rfl rfl rfl ?_; refine Oa rfl (Aa ?_)
   refine Bp (E' := [(1, .string (str a)), (3, .pointer (some ⟨b3, 0, none⟩)), (5, .pointer (some ⟨b5, 0, none⟩)), (6, .pointer (some ⟨b6, 0, none⟩)), (7, .pointer (some ⟨b7, 0, none⟩)), (8, .int .i64 ((i + 1 : Nat)))]) ⟨rfl, rfl, rfl, rfl, rfl, rfl, trivial⟩ (ih ⟨J1, i + 1, xs ++ [.string (str ((t.pt i).repl a y).atom), .slice o1 ((t.pt i).repl a y).parts.length k1], B2, c2⟩ ⟨ez.trans e1, by simp only; omega, ?_, hB2⟩ (by simp only; omega)); rw [Wt _ _ _ _ hi1, ← Tree.pt_at hi1]
   exact (hl.mono e1).append (.one h1)
  intro c2
  try simp only [nb] at c2
  refine Bz rfl ?_; refine Ab ?_
  have hie : i = t.parts.length := by omega
  rw [hie, List.take_length] at hl; refine Bg (fun w h => h.u1) (Qy hl hB (by rw [Ki, hie]) (by rw [Ki]; unfold Az; omega) ?_); intro J2 oz cz ez2 hbv hst; rw [hbv]; refine Af rfl ?_; refine A3 rfl .free rfl ?_; refine Bn rfl rfl rfl rfl .free ?_; refine Aa ?_; refine Ad (.c rfl .nil) ?_
  exact ⟨J2, L, ez.trans ez2, Bf, _, rfl, by rw [hre, hat]; exact hst.form [] (by decide), rfl⟩
theorem O1 {s a b : Ap} {t x y : Tree} (h1 : C7 s = some t) (h2 : C7 a = some x) (h3 : C7 b = some y) : Hz s a b = if x.atom ≠ [] ∧ (C7 (t.repl a y).text).isSome = true then some (t.repl a y).text else none := by
 unfold Hz; rw [h1, h2, h3]
theorem G1 {s a b : Ap} (h : C7 s = none ∨ C7 a = none ∨ C7 b = none) : Hz s a b = none := by
 unfold Hz
 rcases h with h | h | h
 ·rw [h]
 ·rw [h]; cases C7 s <;> rfl
 ·rw [h]; cases C7 s <;> cases C7 a <;> rfl
theorem Vv {p : Option Tree} {t : Tree} {ok : Bool} (hpf : match p with | some t0 => ok = true ∧ t = t0 | none => ok = false) : (ok = false → p = none) ∧ (ok = true → p = some t) := by
 cases p with
 | none => exact ⟨fun _ => rfl, fun h => (by rw [hpf] at h; cases h)⟩
 | some t0 => exact ⟨fun h => (by rw [hpf.1] at h; cases h), fun _ => (by rw [hpf.2])⟩
theorem Nu {s : Ap} {t : Tree} (h : C7 s = some t) : s.length ≤ 12000 ∧ t.len ≤ 12000 := by
 have h1 := (Gv h).1
 simp only [Tree.fits, Bool.and_eq_true, decide_eq_true_eq] at h1
 exact ⟨by rw [← Ir h, Tree.text_len]; exact h1.2, h1.2⟩
theorem Va {s a b o : Ap} (h : Hz s a b = some o) : o.length ≤ 12000 := by
 unfold Hz at h
 cases h1 : C7 s with
 | none => rw [h1] at h; cases h
 | some t =>
  cases h2 : C7 a with
  | none => rw [h1, h2] at h; cases h
  | some x =>
   cases h3 : C7 b with
   | none => rw [h1, h2, h3] at h; cases h
   | some y =>
    rw [h1, h2, h3] at h
    simp only at h
    split at h
    ·rename_i hh
     cases h
     obtain ⟨z, hz⟩ := Option.isSome_iff_exists.1 hh.2
     exact (Nu hz).1
    ·cases h
theorem L0 (s a b : Ap) (hs : s.length ≤ Iz) (ha : a.length ≤ Iz) (hb : b.length ≤ 900) (I : Heap) (L : Bh) : Fun Tryz.prog 60 [.string (str s), .string (str a), .string (str b)] I L (EL (Hz s a b) L) := by
 refine Ag (by simp) ?_; refine Se rfl (Oa rfl (Oa rfl (Aa (Se rfl (Om rfl ?_))))); refine Ca rfl (Gs s hs _ _) ?_; rintro _ J1 _ e1 ⟨t, cs1, ok1, rfl, hr1, rfl, hp1⟩; obtain ⟨o1, k1, _, rfl, -⟩ := hr1.open; refine Om rfl (Oe rfl rfl (Oe rfl rfl ?_)); refine Aw .free rfl ?_; intro b8; refine Bn rfl rfl rfl rfl .free ?_; refine Oa rfl (Aa (Se rfl (Om rfl ?_))); refine Ca rfl (Gs a ha _ _) ?_; rintro _ J2 _ e2 ⟨x, cs2, ok2, rfl, hr2, rfl, hp2⟩; obtain ⟨o2, k2, _, rfl, -⟩ := hr2.open; refine Om rfl (Oe rfl rfl (Oe rfl rfl ?_)); refine Aw .free rfl ?_; intro b10; refine Bn rfl rfl rfl rfl .free ?_
 refine Oa rfl (Aa (Se rfl (Om rfl ?_))); refine Ca rfl (Gs b (by unfold Iz; omega) _ _) ?_; rintro _ J3 _ e3 ⟨y, cs3, ok3, rfl, hr3, rfl, hp3⟩; obtain ⟨o3, k3, _, rfl, -⟩ := hr3.open
 have q1 := Vv hp1
 have q2 := Vv hp2
 have q3 := Vv hp3
 have hle := (e1.trans e2).trans e3
 refine Om rfl (Oe rfl rfl (Oe rfl rfl ?_)); refine Aw .free rfl ?_; intro b12; refine Bn rfl rfl rfl rfl .free ?_; refine Oa rfl (Aa (Ab (Se rfl (Om rfl ?_)))); refine Cp rfl .free rfl ?_; refine Om rfl ?_
 apply Fx 32 35 rfl
 ·intro g4_3 hk
  try simp only [nb] at g4_3
  refine Ow rfl ?_; refine Cp rfl (.met rfl rfl) rfl ?_; refine Of rfl rfl ?_
  exact Ar 2 rfl rfl hk
 ·intro _ hk; refine A0 2 rfl ?_; refine Ot rfl rfl ?_
  exact Ar 2 rfl rfl hk
 refine Om rfl ?_
 apply Fx 36 39 rfl
 ·intro g4_7 hk
  try simp only [nb] at g4_7
  refine Ow rfl ?_; refine Cp rfl (.met rfl rfl) rfl ?_; refine Of rfl rfl ?_
  exact Ar 2 rfl rfl hk
 ·intro _ hk; refine A0 2 rfl ?_; refine Ot rfl rfl ?_
  exact Ar 2 rfl rfl hk
 refine Om rfl ?_
 apply Fx 40 44 rfl
 ·intro g4_11 hk
  try simp only [nb] at g4_11
  refine Ax rfl (.met rfl rfl) rfl ?_; refine A1 rfl (.met rfl rfl) rfl ?_; refine Cg rfl rfl rfl (.met rfl rfl) rfl ?_; refine Of rfl rfl ?_
  exact Ar 3 rfl rfl hk
 ·intro _ hk; refine A0 3 rfl ?_; refine Ot rfl rfl ?_
  exact Ar 3 rfl rfl hk
 refine Aa ?_; refine As rfl ?_ ?_
 ·intro c0
  try simp only [nb] at c0
  refine Se rfl (Oa rfl (Oa rfl (Aa ?_))); refine Ad (.tmp rfl (.tmp rfl .nil)) ?_; refine ⟨J3, L, hle, Bf, ?_, rfl⟩
  have hz : Hz s a b = none := by
   rcases c0 with ((h | h) | h) | h
   ·exact G1 (.inl (q1.1 h))
   ·exact G1 (.inr (.inl (q2.1 h)))
   ·exact G1 (.inr (.inr (q3.1 h)))
   ·cases hh1 : C7 s with
    | none => exact G1 (.inl hh1)
    | some t1 =>
     cases hh2 : C7 a with
     | none => exact G1 (.inr (.inl hh2))
     | some x1 =>
      cases hh3 : C7 b with
      | none => exact G1 (.inr (.inr hh3))
      | some y1 =>
       rw [hh2] at hp2; rw [O1 hh1 hh2 hh3, if_neg (by rw [← hp2.2]; exact fun e => e.1 h)]
  rw [hz]; rfl
 intro c0
 try simp only [nb] at c0
 obtain ⟨⟨⟨h1, h2⟩, h3⟩, h4⟩ := c0
 have p1 := q1.2 h1
 have p2 := q2.2 h2
 have p3 := q3.2 h3
 have f1 := Gv p1
 have f2 := Gv p2
 have f3 := Gv p3
 have l1 := (Nu p1).2
 have l3 : y.len ≤ 900 := by rw [← Tree.text_len, Ir p3]; exact hb
 have z1 := Ma p1
 have hrl := t.repl_len a y
 have hmul : t.size * y.len ≤ 12000 * 900 := Nat.mul_le_mul z1 l3
 have hrg := Tree.repl_good (a := a) f1.2.1 f3.2.1
 have ha0 : a ≠ [] := by
  intro e
  have h5 := Ir p2
  have h6 := Jp f2.2.1 h4
  cases x with
  | node n ps =>
   simp only [Tree.parts] at h6
   subst h6
   simp only [Tree.text, List.isEmpty_nil, cond_true] at h5
   exact h4 (h5.trans e)
 have hro := O1 p1 p2 p3
 refine Ae (Se rfl ?_); refine A3 rfl .free rfl ?_; refine Om rfl ?_; refine A3 rfl .free rfl ?_; refine Ca rfl (Uk _ (Nat.lt_succ_self _) ((hr1.mono e2).mono e3) f1.2.1 a ha0 hr3 _) ?_; rintro _ J4 _ e4 ⟨cs4, rfl, hr4, rfl⟩; refine Ca rfl (Ky _ (Nat.lt_succ_self _) hr4 hrg (by omega) _) ?_; rintro _ _ _ _ ⟨rfl, rfl, rfl⟩; refine Oa rfl (Aa (Ab (Se rfl (Om rfl ?_)))); refine Ca rfl (Uj _ (by rw [Tree.text_len]; unfold Iz; omega) _ _) ?_; rintro _ J5 _ e5 ⟨rfl, rfl⟩
 have hle := (hle.trans e4).trans e5
 refine Cp rfl .free rfl ?_; refine Aa ?_; refine As rfl ?_ ?_
 ·intro c1
  try simp only [nb] at c1
  refine Se rfl (Oa rfl (Oa rfl (Aa ?_))); refine Ad (.tmp rfl (.tmp rfl .nil)) ?_; refine ⟨J5, L, hle, Bf, ?_, rfl⟩; rw [hro, if_neg (by rintro ⟨-, h⟩; rw [c1] at h; cases h)]; rfl
 intro c1
 try simp only [nb] at c1
 refine Ae (Se rfl (Om rfl (Oa rfl (Oa rfl (Aa ?_))))); refine Ad (.tmp rfl (.tmp rfl .nil)) ?_; refine ⟨J5, L, hle, Bf, ?_, rfl⟩; rw [hro, if_pos ⟨h4, c1⟩]; rfl
theorem Tg (I : Heap) (oa ob : Option Addr) : ScAt I [] [] oa 0 ob 0 := ⟨Gx _ _, Gx _ _, rfl, (fun _ h => by cases h), (fun _ h => by cases h)⟩
theorem Yd {I : Heap} {oa : Option Addr} {l : List UInt8} {c : Nat} (h : Bytes I oa l c) (hl : l.length ≤ 2000) (b p : Nat) (hp : p + 7000 ≤ 1099511627776) (L : Bh) :
  Fun Tryz.prog 57 [.pointer (some ⟨b, 0, none⟩)] I (rd b oa l c p :: L) (DT b oa l c p 7000 400000 L) := by
 have hle : HLe I I := .refl _
 have hk2 : kT 2 = 6 := rfl
 have hb2 : bT 2 = 19 := rfl
 refine Ag (by simp) ?_; refine Se rfl (Oa rfl (Aa (Se rfl (Oa rfl (Aa (Ab (Se rfl (Om rfl ?_)))))))); refine Ca rfl (Dg h hl b _ 3 (by omega) (by decide) _) ?_; rintro _ _ _ _ ⟨r, rfl, rfl, rfl, hr⟩; refine Oc rfl rfl rfl (Aa ?_); refine As rfl ?_ ?_
 ·intro c0
  try simp only [nb] at c0
  refine Af rfl (Om rfl ?_); refine Ca rfl (Id 2 h hl b _ (by omega) (by decide) (by decide) _) ?_; rintro _ J _ e ⟨w, pw, rfl, hw, hp1, hp2, rfl⟩
  have h := h.mono e
  have hle := hle.trans e
  refine Oa rfl (Aa (Ab ?_))
  try have hw := hw
  refine Af rfl (Om rfl ?_); refine D7 .free rfl ?_; intro b11; refine D7 .free rfl ?_; intro b12; refine Bt rfl rfl rfl .free rfl ?_; refine Om rfl (Om rfl ?_); refine D4 (fun w h => Mem.sub (L' := rd b oa l c _ :: L) (by repeat (first | exact List.Sublist.refl _ | apply List.Sublist.cons_cons | apply List.Sublist.cons)) h) ?_; refine Ca rfl (Dg h hl b _ 3 (by omega) (by decide) _) ?_; rintro _ _ _ _ ⟨r2, rfl, rfl, rfl, hr2⟩
  have hr3 : r2 < 3 := by omega
  have hdd : ∃ d : Nat, (2 : Int) + (r2 : Nat) = (d : Nat) ∧ d ≤ 4 := ⟨2 + r2, by omega, by omega⟩
  obtain ⟨d, hd1, hd2⟩ := hdd; refine Or rfl rfl rfl ?_; refine Cz (t := 17) (v' := .int .i64 (d : Nat)) rfl (by rw [← hd1]) ?_; refine Ca rfl (Lh hd2 h hl b _ (by omega) (Tg _ _ _) (by simp) _ (by first | omega | (simp; done) | decide) _) ?_; rintro _ J1 _ e1 ⟨s1, p1, rfl, hs1, hp3, hp4, rfl⟩
  have h := h.mono e1
  have hle := hle.trans e1
  refine Oa rfl (Aa (Ab (Se rfl (Om rfl ?_)))); refine Ca rfl (Kx s1 (by unfold Az; omega) _ _) ?_; rintro _ _ _ _ ⟨rfl, rfl, rfl⟩; refine Aa ?_; refine As rfl ?_ ?_
  ·intro c1
   try simp only [nb] at c1
   refine Se rfl (Om rfl (Oa rfl (Aa (Ad (.tmp rfl .nil) ?_))))
   exact ⟨_, _, hle, fun w h => Mem.sub (L' := rd b oa l c _ :: L) (by repeat (first | exact List.Sublist.refl _ | apply List.Sublist.cons_cons | apply List.Sublist.cons)) h, _, _, rfl, by omega, by omega, by omega, rfl⟩
  intro c1
  try simp only [nb] at c1
  refine Ae (Se rfl (Om rfl ?_)); refine D7 .free rfl ?_; intro b23; refine D7 .free rfl ?_; intro b24; refine Bt rfl rfl rfl .free rfl ?_; refine Om rfl ?_; refine D4 (fun w h => Mem.sub (L' := rd b oa l c _ :: L) (by repeat (first | exact List.Sublist.refl _ | apply List.Sublist.cons_cons | apply List.Sublist.cons)) h) ?_; refine Ca rfl (Lh (d := 2) (by decide) h hl b _ (by omega) (Tg _ _ _) (by simp) _ (by first | omega | (simp; done) | decide) _) ?_; rintro _ J2 _ e2 ⟨s2, p2, rfl, hs2, hp5, hp6, rfl⟩
  have hle := hle.trans e2
  refine Oa rfl (Aa (Ad (.tmp rfl .nil) ?_))
  exact ⟨_, _, hle, fun w h => Mem.sub (L' := rd b oa l c _ :: L) (by repeat (first | exact List.Sublist.refl _ | apply List.Sublist.cons_cons | apply List.Sublist.cons)) h, _, _, rfl, by omega, by omega, by omega, rfl⟩
 intro c0
 try simp only [nb] at c0
 refine Ae (Ab ?_)
 try have hw := hw
 refine Af rfl (Om rfl ?_); refine D7 .free rfl ?_; intro b11; refine D7 .free rfl ?_; intro b12; refine Bt rfl rfl rfl .free rfl ?_; refine Om rfl (Om rfl ?_); refine D4 (fun w h => Mem.sub (L' := rd b oa l c _ :: L) (by repeat (first | exact List.Sublist.refl _ | apply List.Sublist.cons_cons | apply List.Sublist.cons)) h) ?_; refine Ca rfl (Dg h hl b _ 3 (by omega) (by decide) _) ?_; rintro _ _ _ _ ⟨r2, rfl, rfl, rfl, hr2⟩
 have hr3 : r2 < 3 := by omega
 have hdd : ∃ d : Nat, (2 : Int) + (r2 : Nat) = (d : Nat) ∧ d ≤ 4 := ⟨2 + r2, by omega, by omega⟩
 obtain ⟨d, hd1, hd2⟩ := hdd; refine Or rfl rfl rfl ?_; refine Cz (t := 17) (v' := .int .i64 (d : Nat)) rfl (by rw [← hd1]) ?_; refine Ca rfl (Lh hd2 h hl b _ (by omega) (Tg _ _ _) (by simp) _ (by first | omega | (simp; done) | decide) _) ?_; rintro _ J1 _ e1 ⟨s1, p1, rfl, hs1, hp3, hp4, rfl⟩
 have h := h.mono e1
 have hle := hle.trans e1
 refine Oa rfl (Aa (Ab (Se rfl (Om rfl ?_)))); refine Ca rfl (Kx s1 (by unfold Az; omega) _ _) ?_; rintro _ _ _ _ ⟨rfl, rfl, rfl⟩; refine Aa ?_; refine As rfl ?_ ?_
 ·intro c1
  try simp only [nb] at c1
  refine Se rfl (Om rfl (Oa rfl (Aa (Ad (.tmp rfl .nil) ?_))))
  exact ⟨_, _, hle, fun w h => Mem.sub (L' := rd b oa l c _ :: L) (by repeat (first | exact List.Sublist.refl _ | apply List.Sublist.cons_cons | apply List.Sublist.cons)) h, _, _, rfl, by omega, by omega, by omega, rfl⟩
 intro c1
 try simp only [nb] at c1
 refine Ae (Se rfl (Om rfl ?_)); refine D7 .free rfl ?_; intro b23; refine D7 .free rfl ?_; intro b24; refine Bt rfl rfl rfl .free rfl ?_; refine Om rfl ?_; refine D4 (fun w h => Mem.sub (L' := rd b oa l c _ :: L) (by repeat (first | exact List.Sublist.refl _ | apply List.Sublist.cons_cons | apply List.Sublist.cons)) h) ?_; refine Ca rfl (Lh (d := 2) (by decide) h hl b _ (by omega) (Tg _ _ _) (by simp) _ (by first | omega | (simp; done) | decide) _) ?_; rintro _ J2 _ e2 ⟨s2, p2, rfl, hs2, hp5, hp6, rfl⟩
 have hle := hle.trans e2
 refine Oa rfl (Aa (Ad (.tmp rfl .nil) ?_))
 exact ⟨_, _, hle, fun w h => Mem.sub (L' := rd b oa l c _ :: L) (by repeat (first | exact List.Sublist.refl _ | apply List.Sublist.cons_cons | apply List.Sublist.cons)) h, _, _, rfl, by omega, by omega, by omega, rfl⟩
theorem Vx {s : Ap} {l : List Ap} (h : Hm s = some l) : l ≠ [] ∧ (∀ x ∈ l, x.length ≤ 12000) ∧ l.length ≤ 12000 := by
 unfold Hm at h
 cases hp : C7 s with
 | none => rw [hp] at h; cases h
 | some t =>
  rw [hp] at h
  simp only [Option.map_some, Option.some.injEq] at h
  subst h
  have h1 := (Nu hp).2
  have h2 := Ma hp
  refine ⟨Xq (Zd t), fun x hx => ?_, ?_⟩
  ·rcases Jv.1 hx with h3 | h3
   ·cases h3
   ·have := t.atom_len x h3; omega
  ·have := Gq [] t.atomL
   rw [t.atomL_len] at this
   simp only [List.length_nil, Nat.zero_add] at this
   exact Nat.le_trans this h2
theorem Uo {I : Heap} {oa : Option Addr} {l : List UInt8} {c : Nat} (h : Bytes I oa l c) (hl : l.length ≤ 2000) (b p : Nat) (hp : p + 8000 ≤ 1099511627776) (L : Bh) :
  Fun Tryz.prog 29 [.pointer (some ⟨b, 0, none⟩)] I (rd b oa l c p :: L) (DT b oa l c p 8000 400001 L) := by
 refine Ag (by simp) ?_; refine Se rfl (Oa rfl (Aa (Se rfl (Om rfl ?_)))); refine Ca rfl (Yd h hl b _ (by omega) _) ?_; rintro _ J1 _ e1 ⟨s, p1, rfl, hs, hp1, hp2, rfl⟩
 have h := h.mono e1
 refine Oa rfl (Aa (Ab (Se rfl (Om rfl ?_)))); refine Ca rfl (Dg h hl b _ 4 (by omega) (by decide) _) ?_; rintro _ _ _ _ ⟨r, rfl, rfl, rfl, hr⟩; refine Oc rfl rfl rfl (Aa ?_); refine As rfl ?_ ?_
 ·intro c0
  try simp only [nb] at c0
  refine Se rfl (Om rfl (Oa rfl (Aa (Ad (.tmp rfl .nil) ?_))))
  exact ⟨J1, _, e1, fun _ h => h, s, _, rfl, by omega, by omega, by omega, rfl⟩
 intro c0
 try simp only [nb] at c0
 refine Ae (Se rfl (Om rfl ?_)); refine Ca rfl (Ui s (by unfold Iz; omega) _ _) ?_; rintro _ J2 _ e2 ⟨o1, k1, rfl, hat, rfl⟩
 have h := h.mono e2
 have hle := e1.trans e2
 refine Om rfl (Oe rfl rfl (Oe rfl rfl (Oa rfl (Oa rfl (Aa (Ab (Se rfl (Om rfl ?_)))))))); refine Cp rfl .free rfl ?_; refine Aa ?_; refine As rfl ?_ ?_
 ·intro c1
  try simp only [nb] at c1
  refine Se rfl (Om rfl (Oa rfl (Aa (Ad (.tmp rfl .nil) ?_))))
  exact ⟨J2, _, hle, fun _ h => h, s, _, rfl, by omega, by omega, by omega, rfl⟩
 intro c1
 try simp only [nb] at c1
 obtain ⟨al, hal⟩ : ∃ al, Hm s = some al := Option.isSome_iff_exists.1 c1; rw [hal] at hat ⊢
 simp only [Option.getD_some] at hat ⊢
 obtain ⟨ha1, ha2, ha3⟩ := Vx hal
 have hapos := List.length_pos_iff.2 ha1
 have hanil := hat.nil'
 refine Ae (Ab ?_); refine K6 fun hlr => ?_
 refine Lp 17 rfl rfl ?_; refine Da 0 rfl (Ah rfl) ?_; refine Da 1 rfl (Ah rfl) ?_; refine Da 2 rfl (Ah rfl) ?_; refine Da 3 rfl (Ah rfl) ?_; refine Da 4 rfl (Fq rfl) ?_; refine Da 8 rfl (Ah rfl) ?_; refine C6 5 9 (by kernel_rfl) ?_ ?_
 ·skip
  refine Kd 5 rfl rfl rfl .free rfl (Dg h hl b _ al.length (by omega) (by omega) _) ?_; rintro _ _ _ _ ⟨r2, rfl, rfl, rfl, hr2⟩
  have hr3 : r2 < al.length := by omega
  have hst := hat.st r2 hr3
  have hel : (al.getD r2 []).length ≤ 12000 := ha2 _ (by rw [show al.getD r2 [] = al[r2] by simp [hr3]]; exact List.getElem_mem _)
  refine Hx ?_
  first | refine Da 6 rfl (Bl rfl rfl _ rfl) ?_ | refine Da 6 rfl (Bm rfl rfl _ rfl) ?_
  refine Dt 7 [17] rfl (O7 rfl) ?_; refine Fg 9 rfl (by kernel_rfl) rfl rfl rfl (by rfl) (by rfl) (by rfl) (by decide) (by decide) (by rfl) .free rfl (.inr Ao) ?_; intro b32; refine D1 ?_; intro hz
  have hk := M4 (I := J2) (b := b32) (e := 9) (l := [[97], [120], [49], [112, 97, 105, 114], [99, 97, 108, 108], [102, 115, 116], [105], [43], [40, 102, 115, 116, 32, 49, 41], [98, 55]]) (by decide) (by decide)
  have hlr := hlr.trans hz
  have h := h.mono hz
  have hat := hat.mono hz
  try have hst := hst.mono hz
  refine Dc 10 rfl rfl (Ei h hl b _ (by omega) hk (by simp) _) ?_; rintro _ _ _ _ ⟨y, rfl, hy, rfl, rfl⟩
  have hyl : y.length ≤ 10 := by revert y; decide
  refine Hx ?_; refine Dc 11 rfl rfl (L0 s (al.getD r2 []) y (by unfold Iz; omega) (by unfold Iz; omega) (by omega) _ _) ?_; rintro _ J3 _ e3 ⟨rfl, rfl⟩
  have h := h.mono e3
  have hlr := hlr.trans e3
  have hol : ((Hz s (al.getD r2 []) y).getD []).length ≤ 12000 := by
   cases ho : Hz s (al.getD r2 []) y with
   | none => decide
   | some o => exact Va ho
  refine Hx ?_; refine Da 12 rfl (Ah rfl) ?_; refine Da 13 rfl (Ch rfl rfl) ?_; refine Da 14 rfl (Ch rfl rfl) ?_; refine Da 15 rfl (A2 rfl) ?_; refine Da 16 rfl (A2 rfl) ?_; refine At (by kernel_rfl) ?_; refine Ab (Se rfl (Om rfl (Om rfl ?_)))
  first | refine F3 rfl rfl ?_ ?_ | refine Em rfl rfl ?_ ?_ | refine Kq rfl rfl ?_ ?_
  ·intro g8_2; refine Ow rfl ?_; refine B9 rfl (.met rfl rfl) rfl (Dg h hl b _ 8 (by omega) (by decide) _) ?_; rintro _ _ _ _ ⟨r4, rfl, rfl, rfl, hr4⟩; refine Dh rfl rfl rfl (.met rfl rfl) rfl ?_; refine Ot rfl rfl (Aa ?_); refine As rfl ?_ ?_
   ·intro c2
    try simp only [nb] at c2
    refine Se rfl (Om rfl (Oa rfl (Aa (Ad (.tmp rfl .nil) ?_))))
    exact ⟨J3, _, hle.trans hlr, fun _ h => h, _, _, rfl, by omega, by omega, by omega, rfl⟩
   intro c2
   try simp only [nb] at c2
   refine Ae (Se rfl (Om rfl (Om rfl ?_))); refine Ol rfl rfl ?_; intro b46; refine D3 [[], [32], [41]] (by decide) (by decide) ?_; intro J5 e5 k5; refine Ca rfl (Ei (h.mono e5) hl b _ (by omega) k5 (by simp) _) ?_; rintro _ _ _ _ ⟨z, rfl, hz, rfl, rfl⟩
   have hzl : z.length ≤ 1 := by revert z; decide
   refine Ok rfl rfl ?_; refine Oa rfl (Aa (Ad (.tmp rfl .nil) ?_))
   exact ⟨J5, _, (hle.trans hlr).trans e5, fun _ h => h, _, _, rfl, (by first | omega | (simp only [List.length_append, List.length_cons, List.length_nil]; omega) | (simp; omega)), by omega, by omega, rfl⟩
  intro g8_2
  iterate 3 refine Cd rfl rfl rfl ?_
  refine Of rfl rfl (Aa ?_); refine Al rfl ?_; refine Ae (Se rfl (Om rfl (Om rfl ?_))); refine Ol rfl rfl ?_; intro b46; refine D3 [[], [32], [41]] (by decide) (by decide) ?_; intro J5 e5 k5; refine Ca rfl (Ei (h.mono e5) hl b _ (by omega) k5 (by simp) _) ?_; rintro _ _ _ _ ⟨z, rfl, hz, rfl, rfl⟩
  have hzl : z.length ≤ 1 := by revert z; decide
  refine Ok rfl rfl ?_; refine Oa rfl (Aa (Ad (.tmp rfl .nil) ?_))
  exact ⟨J5, _, (hle.trans hlr).trans e5, fun _ h => h, _, _, rfl, (by first | omega | (simp only [List.length_append, List.length_cons, List.length_nil]; omega) | (simp; omega)), by omega, by omega, rfl⟩
 ·skip
  refine L9 9 rfl rfl rfl rfl (by rfl) (by rfl) (by rfl) (by decide) (by decide) (by rfl) .free rfl (.inr Ao) ?_; intro b32; refine D1 ?_; intro hz
  have hk := M4 (I := J2) (b := b32) (e := 9) (l := [[97], [120], [49], [112, 97, 105, 114], [99, 97, 108, 108], [102, 115, 116], [105], [43], [40, 102, 115, 116, 32, 49, 41], [98, 55]]) (by decide) (by decide)
  have hlr := hlr.trans hz
  have h := h.mono hz
  have hat := hat.mono hz
  try have hst := hst.mono hz
  refine Dc 5 rfl rfl (Dg h hl b _ al.length (by omega) (by omega) _) ?_; rintro _ _ _ _ ⟨r2, rfl, rfl, rfl, hr2⟩
  have hr3 : r2 < al.length := by omega
  have hst := hat.st r2 hr3
  have hel : (al.getD r2 []).length ≤ 12000 := ha2 _ (by rw [show al.getD r2 [] = al[r2] by simp [hr3]]; exact List.getElem_mem _)
  refine Hx ?_
  first | refine Da 6 rfl (Bl rfl rfl _ rfl) ?_ | refine Da 6 rfl (Bm rfl rfl _ rfl) ?_
  refine Dt 7 [17] rfl (O7 rfl) ?_; refine Dc 10 rfl rfl (Ei h hl b _ (by omega) hk (by simp) _) ?_; rintro _ _ _ _ ⟨y, rfl, hy, rfl, rfl⟩
  have hyl : y.length ≤ 10 := by revert y; decide
  refine Hx ?_; refine Dc 11 rfl rfl (L0 s (al.getD r2 []) y (by unfold Iz; omega) (by unfold Iz; omega) (by omega) _ _) ?_; rintro _ J3 _ e3 ⟨rfl, rfl⟩
  have h := h.mono e3
  have hlr := hlr.trans e3
  have hol : ((Hz s (al.getD r2 []) y).getD []).length ≤ 12000 := by
   cases ho : Hz s (al.getD r2 []) y with
   | none => decide
   | some o => exact Va ho
  refine Hx ?_; refine Da 12 rfl (Ah rfl) ?_; refine Da 13 rfl (Ch rfl rfl) ?_; refine Da 14 rfl (Ch rfl rfl) ?_; refine Da 15 rfl (A2 rfl) ?_; refine Da 16 rfl (A2 rfl) ?_; refine At (by kernel_rfl) ?_; refine Ab (Se rfl (Om rfl (Om rfl ?_)))
  first | refine F3 rfl rfl ?_ ?_ | refine Em rfl rfl ?_ ?_ | refine Kq rfl rfl ?_ ?_
  ·intro g8_2; refine Ow rfl ?_; refine B9 rfl (.met rfl rfl) rfl (Dg h hl b _ 8 (by omega) (by decide) _) ?_; rintro _ _ _ _ ⟨r4, rfl, rfl, rfl, hr4⟩; refine Dh rfl rfl rfl (.met rfl rfl) rfl ?_; refine Ot rfl rfl (Aa ?_); refine As rfl ?_ ?_
   ·intro c2
    try simp only [nb] at c2
    refine Se rfl (Om rfl (Oa rfl (Aa (Ad (.tmp rfl .nil) ?_))))
    exact ⟨J3, _, hle.trans hlr, fun _ h => h, _, _, rfl, by omega, by omega, by omega, rfl⟩
   intro c2
   try simp only [nb] at c2
   refine Ae (Se rfl (Om rfl (Om rfl ?_))); refine Ol rfl rfl ?_; intro b46; refine D3 [[], [32], [41]] (by decide) (by decide) ?_; intro J5 e5 k5; refine Ca rfl (Ei (h.mono e5) hl b _ (by omega) k5 (by simp) _) ?_; rintro _ _ _ _ ⟨z, rfl, hz, rfl, rfl⟩
   have hzl : z.length ≤ 1 := by revert z; decide
   refine Ok rfl rfl ?_; refine Oa rfl (Aa (Ad (.tmp rfl .nil) ?_))
   exact ⟨J5, _, (hle.trans hlr).trans e5, fun _ h => h, _, _, rfl, (by first | omega | (simp only [List.length_append, List.length_cons, List.length_nil]; omega) | (simp; omega)), by omega, by omega, rfl⟩
  intro g8_2
  iterate 3 refine Cd rfl rfl rfl ?_
  refine Of rfl rfl (Aa ?_); refine Al rfl ?_; refine Ae (Se rfl (Om rfl (Om rfl ?_))); refine Ol rfl rfl ?_; intro b46; refine D3 [[], [32], [41]] (by decide) (by decide) ?_; intro J5 e5 k5; refine Ca rfl (Ei (h.mono e5) hl b _ (by omega) k5 (by simp) _) ?_; rintro _ _ _ _ ⟨z, rfl, hz, rfl, rfl⟩
  have hzl : z.length ≤ 1 := by revert z; decide
  refine Ok rfl rfl ?_; refine Oa rfl (Aa (Ad (.tmp rfl .nil) ?_))
  exact ⟨J5, _, (hle.trans hlr).trans e5, fun _ h => h, _, _, rfl, (by first | omega | (simp only [List.length_append, List.length_cons, List.length_nil]; omega) | (simp; omega)), by omega, by omega, rfl⟩
def DX (L : Bh) : Cs := fun v I' L' => ∃ s, v = .string (str s) ∧ List.length s ≤ 400001 ∧ L = L'
theorem Wb {I : Heap} {oa : Option Addr} {l : List UInt8} {c : Nat} (h : Bytes I oa l c) (hl : l.length ≤ 2000) (b p : Nat) (hp : p + 9000 ≤ 1099511627776) (L : Bh) :
  Fun Tryz.prog 49 [.pointer (some ⟨b, 0, none⟩)] I (rd b oa l c p :: L) (DT b oa l c p 9000 400001 L) := by
 have hk3 : kT 3 = 14 := rfl
 have hb3 : bT 3 = 43 := rfl
 refine Ag (by simp) ?_; refine Se rfl (Oa rfl (Aa (Se rfl (Om rfl ?_)))); refine Ca rfl (Id 3 h hl b _ (by omega) (by decide) (by decide) _) ?_; rintro _ J _ e ⟨w, pw, rfl, hw, hp1, hp2, rfl⟩
 have h := h.mono e
 refine Ca rfl (P3 w (by unfold Az; omega) _ _) ?_; rintro _ J1 _ e1 ⟨rfl, rfl⟩
 have h := h.mono e1
 have hle := e.trans e1
 have hol : ((Mv w).getD []).length ≤ 400001 := by
  cases ho : Mv w with
  | none => decide
  | some o =>
   obtain ⟨t, ht, hst, hx, hcl, htc, hv, hol⟩ := U4 ho
   simp only [Option.getD_some]; omega
 refine Om rfl (Oe rfl rfl (Oe rfl rfl (Oa rfl (Oa rfl (Aa (Ab (Se rfl (Om rfl (Om rfl ?_)))))))))
 first | refine F3 rfl rfl ?_ ?_ | refine Em rfl rfl ?_ ?_ | refine Kq rfl rfl ?_ ?_
 ·intro g2_2; refine Ow rfl ?_; refine B9 rfl (.met rfl rfl) rfl (Dg h hl b _ 4 (by omega) (by decide) _) ?_; rintro _ _ _ _ ⟨r, rfl, rfl, rfl, hr⟩; refine Dh rfl rfl rfl (.met rfl rfl) rfl ?_; refine Ot rfl rfl (Aa ?_); refine As rfl ?_ ?_
  ·intro c0
   try simp only [nb] at c0
   refine Se rfl (Om rfl (Oa rfl (Aa (Ad (.tmp rfl .nil) ?_))))
   exact ⟨_, _, hle, fun _ h => h, _, _, rfl, hol, by omega, by omega, rfl⟩
  intro c0
  try simp only [nb] at c0
  refine Ae (Se rfl (Om rfl ?_)); refine Ca rfl (Uo h hl b _ (by omega) _) ?_; rintro _ J2 _ e2 ⟨s, p1, rfl, hs, hp3, hp4, rfl⟩; refine Oa rfl (Aa (Ad (.tmp rfl .nil) ?_))
  exact ⟨_, _, hle.trans e2, fun _ h => h, _, _, rfl, hs, by omega, by omega, rfl⟩
 intro g2_2
 iterate 3 refine Cd rfl rfl rfl ?_
 refine Of rfl rfl (Aa ?_); refine Al rfl ?_; refine Ae (Se rfl (Om rfl ?_)); refine Ca rfl (Uo h hl b _ (by omega) _) ?_; rintro _ J2 _ e2 ⟨s, p1, rfl, hs, hp3, hp4, rfl⟩; refine Oa rfl (Aa (Ad (.tmp rfl .nil) ?_))
 exact ⟨_, _, hle.trans e2, fun _ h => h, _, _, rfl, hs, by omega, by omega, rfl⟩
def DQ (L : Bh) : Cs := fun v I' L' => ∃ o1 n1 c1 o2 n2 c2 s, v = .tuple #[.slice o1 (List.length n1) c1, .slice o2 (List.length n2) c2, .string (str s)] ∧ Strs I' o1 n1 c1 ∧ Strs I' o2 n2 c2 ∧ n1.length ≤ 16 ∧ n2.length ≤ 16 ∧ (∀ s ∈ n1, s.length ≤ 16) ∧ (∀ s ∈ n2, s.length ≤ 16) ∧ List.length s ≤ 400001 ∧ L = L'
section
variable {I : Heap} {A B C D L : Bh} {w : World}
end
structure G11 where
 b6 : Nat
 b14 : Nat
 b16 : Nat
 b20 : Nat
 B : Ju
 c : Nat
 D : Ju
 e : Nat
def DX2 (L : Bh) : Cs := fun v I' L' => ∃ s t, v = .tuple #[.string (str s), .string (str t)] ∧ List.length s ≤ 400001 ∧ List.length t ≤ 400001 ∧ L = L'
def DX3 (L : Bh) : Cs := fun v I' L' => ∃ s t u, v = .tuple #[.string (str s), .string (str t), .string (str u)] ∧ List.length s ≤ 400001 ∧ List.length t ≤ 400001 ∧ List.length u ≤ 400001 ∧ L = L'
section
variable {P : Program} {f : FuncId} {n : Nat} {I₀ : Heap} {Q : Cs} {k : List Item} {E : Gm} {I : Heap} {L : Bh} {ops : Array Oper} {d : Nat} {ty : TypeId} {pos : String} {af : Array Edge} {g : Option (Nat × Bool)} {l : List Oper}
end
theorem Qx {I : Heap} {oa : Option Addr} {l : List UInt8} {c : Nat} (h : Bytes I oa l c) (L : Bh) : Fun Tryz.prog 22 [.slice oa l.length c] I L (DX L) := by
 refine Ag (by simp) ?_; refine Se rfl (Oa rfl (Aa (Se rfl (Om rfl ?_)))); refine Ca rfl (Z6 h _) ?_; rintro _ J1 _ e1 ⟨b, oa1, l1, c1, rfl, h1, hl1, rfl⟩; refine Ca rfl (Wb h1 hl1 b 0 (by decide) L) ?_; rintro _ J2 _ e2 ⟨s, p', rfl, hs, hp1, hp2, rfl⟩; refine Oa rfl (Aa (Ad (.tmp rfl .nil) ?_))
 exact ⟨J2, L, e1.trans e2, fun _ h => h.drop, s, rfl, hs, rfl⟩
def DXI (L : Bh) : Cs := fun v I' L' => ∃ (s : Ap) (n : Int), v = .tuple #[.string (str s), .int .i64 n] ∧ List.length s ≤ 400100 ∧ -10000 ≤ n ∧ n ≤ 10000 ∧ L = L'
theorem Ut {I : Heap} (ht : Tab I) {oa : Option Addr} {code : List UInt8} {c : Nat} (h : Bytes I oa code c) (L : Bh) : Fun Tryz.prog 6 [.slice oa code.length c] I L (YES L) := by
 have hlen := h.len
 refine Ag (by simp) ?_; refine Se rfl (Oa rfl (Aa (Ab (Se rfl (Om rfl (On rfl (Oc rfl rfl rfl (Aa ?_)))))))); refine As rfl ?_ ?_
 ·intro c0
  try simp only [nb] at c0
  refine Se rfl (Oa rfl (Aa (Ad (.tmp rfl .nil) ?_)))
  exact ⟨I, L, .refl _, fun _ h => h, rfl, rfl⟩
 intro c0
 try simp only [nb] at c0
 refine Ae (Se rfl (Om rfl ?_)); refine Ca rfl (Qx h _) ?_; rintro _ J1 _ e1 ⟨s, rfl, hsl, rfl⟩
 have hs : s.length ≤ Az := by unfold Az; omega
 refine Oa rfl (Aa (Se rfl (Om rfl ?_))); refine Ca rfl (Xz s hs _ _) ?_; rintro _ J2 _ e2 ⟨rfl, rfl⟩; refine Oa rfl (Aa (Se rfl (Om rfl ?_))); refine Ca rfl (X9 s (Jq hs) _ _) ?_; rintro _ _ _ _ ⟨rfl, rfl, rfl⟩; refine Oa rfl (Aa (Ab (Se rfl (Om rfl (Om rfl ?_))))); refine Wm rfl rfl rfl .free rfl ?_; refine Om rfl ?_
 apply Fx 25 28 rfl
 ·intro g6_4 hk
  try simp only [nb] at g6_4
  refine Ow rfl ?_; refine Cp rfl (.met rfl rfl) rfl ?_; refine Of rfl rfl ?_
  exact Ar 2 rfl rfl hk
 ·intro _ hk; refine A0 2 rfl ?_; refine Ot rfl rfl ?_
  exact Ar 2 rfl rfl hk
 refine Aa ?_; refine As rfl ?_ ?_
 ·intro c1
  try simp only [nb] at c1
  refine Se rfl (Om rfl (Om rfl ?_)); refine Wm rfl rfl rfl .free rfl ?_; refine Oa rfl (Aa (Ad (.tmp rfl .nil) ?_)); refine ⟨J2, L, e1.trans e2, Bf, ?_, rfl⟩
  simp [C2]
 intro c1
 try simp only [nb] at c1
 have hv : (Eg s).isSome = true := by simpa using c1
 obtain ⟨e, hve, hst, hpr, hev, hsk, hcl⟩ := Vn hv
 have hle := e1.trans e2
 refine Ae (Se rfl (Om rfl ?_)); refine Ca rfl (Acm s hs (ht.mono hle) _) ?_; rintro _ J4 _ e4 ⟨rfl, rfl⟩; rw [hst]
 have hle := hle.trans e4
 refine Om rfl (Oe rfl rfl (Oe rfl rfl (Oa rfl (Oa rfl (Aa (Se rfl (Om rfl ?_))))))); refine Ca rfl (Sp s hs _ _) ?_; rintro _ J5 _ e5 ⟨rfl, rfl⟩; rw [hpr]
 have hle := hle.trans e5
 refine Om rfl (Oe rfl rfl (Oe rfl rfl (Oa rfl (Oa rfl (Aa (Se rfl (Om rfl ?_))))))); refine Ca rfl (V2 s hs 2000 (ht.mono hle) _) ?_; rintro _ J6 _ e6 ⟨rfl, rfl⟩; rw [hev]
 have hle := hle.trans e6
 refine Om rfl ?_
 iterate 3 refine Oe rfl rfl ?_
 iterate 3 refine Oa rfl ?_
 refine Aa (Se rfl (Om rfl ?_)); refine Cp rfl .free rfl ?_; refine Om rfl ?_
 apply Ci 50 52 rfl
 ·intro g11_3 hk
  try simp only [nb] at g11_3
  refine Ow rfl (Ot rfl rfl ?_)
  exact Ar 1 rfl rfl hk
 ·intro _ hk; refine A0 1 rfl ?_; refine Of rfl rfl ?_
  exact Ar 1 rfl rfl hk
 refine Om rfl ?_
 apply Ci 53 55 rfl
 ·intro g11_6 hk
  try simp only [nb] at g11_6
  refine Ow rfl (Ot rfl rfl ?_)
  exact Ar 1 rfl rfl hk
 ·intro _ hk; refine A0 1 rfl ?_; refine Of rfl rfl ?_
  exact Ar 1 rfl rfl hk
 refine Om rfl ?_
 apply Ci 56 60 rfl
 ·intro g11_9 hk
  try simp only [nb] at g11_9
  refine Ow rfl (Ow rfl ?_); refine Cg rfl rfl rfl (.met rfl rfl) rfl ?_; refine Ot rfl rfl ?_
  exact Ar 3 rfl rfl hk
 ·intro _ hk; refine A0 3 rfl ?_; refine Of rfl rfl ?_
  exact Ar 3 rfl rfl hk
 refine Om rfl ?_
 apply Ci 61 65 rfl
 ·intro g11_14 hk
  try simp only [nb] at g11_14
  refine Ow rfl ?_; refine B9 rfl (.met rfl rfl) rfl (Ub s hs (ht.mono hle) _) ?_; rintro _ J7 _ e7 ⟨rfl, rfl⟩; refine D4 (fun w h => Mem.le e7 h) ?_; refine Cp rfl (.met rfl rfl) rfl ?_; refine Ot rfl rfl ?_
  exact Ar 3 rfl rfl hk
 ·intro _ hk; refine A0 3 rfl ?_; refine Of rfl rfl ?_
  exact Ar 3 rfl rfl hk
 refine Om rfl ?_
 apply Ci 66 69 rfl
 ·intro g11_19 hk
  try simp only [nb] at g11_19
  refine Ow rfl ?_; refine B9 rfl (.met rfl rfl) rfl (So s hs _ _) ?_; rintro _ _ _ _ ⟨rfl, rfl, rfl⟩; refine Ot rfl rfl ?_
  exact Ar 2 rfl rfl hk
 ·intro _ hk; refine A0 2 rfl ?_; refine Of rfl rfl ?_
  exact Ar 2 rfl rfl hk
 refine Oa rfl (Aa (Ad (.tmp rfl .nil) ?_)); refine ⟨J6, L, hle, Bf, ?_, rfl⟩
 simp [C2, hsk, hcl]
end Go.Proofs.YtfddjcmeejjhiaaGreatDoor
