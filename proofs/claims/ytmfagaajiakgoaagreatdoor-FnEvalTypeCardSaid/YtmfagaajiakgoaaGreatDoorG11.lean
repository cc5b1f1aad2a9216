/- Types as they are drawn. No conditions. -/
import Derived.Test.YtmfagaajiakgoaaGreatDoorG10
import Derived.Laws.Small
import Derived.Shelf.Strconv.Itoa3
import Derived.Test.YtmfagaajiakgoaaGreatDoorProg

namespace Go.Proofs.YtmfagaajiakgoaaGreatDoor
set_option maxRecDepth 100000
set_option linter.unusedVariables false
set_option linter.unusedSimpArgs false

def DT (b : Nat) (oa : Option Addr) (l : List UInt8) (c p K B : Nat) (L : Bh) : C3 := fun v I' L' => ∃ s p', v = .string (str s) ∧ List.length s ≤ B ∧ p ≤ p' ∧ p' ≤ p + K ∧ L' = rd b oa l c p' :: L
def kT : Nat → Nat
 | 0 => 0
 | d + 1 => 2 + 2 * kT d
def bT : Nat → Nat
 | 0 => 1
 | d + 1 => 5 + 2 * bT d
theorem Afm : ∀ d, 1 ≤ bT d
 | 0 => Nat.le_refl _
 | d + 1 => by simp only [bT]; omega
theorem Lb : ∀ (d : Nat) {I : Heap} {oa : Option Addr} {l : List UInt8} {c : Nat} (_ : Bytes I oa l c) (_ : l.length ≤ 2000) (b p : Nat) (_ : p + kT d ≤ 1099511627776) (_ : bT d ≤ 1000000) (_ : d ≤ 1000) (L : Bh),
  Fun Tryz.prog 134 [.pointer (some ⟨b, 0, none⟩), .int .i64 (d : Nat)] I (rd b oa l c p :: L) (DT b oa l c p (kT d) (bT d) L) := by
 intro d
 induction d with
 | zero =>
  intro I oa l c h hl b p hp hb hd L; refine Al Af ?_; refine Se rfl (Oa rfl (Ab (Ah (Se rfl (Om rfl (Oc rfl rfl rfl (Om rfl ?_)))))))
  first | refine Afw rfl rfl Af ?_ | refine Afv rfl rfl Af ?_
  iterate 3 refine Ch rfl rfl rfl ?_
  refine Ot rfl rfl (Ab ?_); refine Bs rfl ?_; refine Se rfl (Oa rfl (Ab (Ai (.tmp rfl .nil) ?_)))
  exact ⟨I, _, .refl _, fun _ h => h, [105], p, rfl, by decide, Nat.le_refl _, by omega, rfl⟩
 | succ d ihd =>
  intro I oa l c h hl b p hp hb hd L
  simp only [kT, bT] at hp hb ⊢
  have hbp := Afm d
  refine Al Af ?_; refine Se rfl (Oa rfl (Ab (Ah (Se rfl (Om rfl (Oc rfl rfl rfl (Om rfl ?_)))))))
  first | refine Afu rfl rfl Aa ?_ | refine Aft rfl rfl Aa ?_
  refine Ow rfl ?_; refine Cv rfl (.met rfl rfl) rfl (C0 h hl b p 2 Aa Ad L) ?_; rintro _ _ _ _ ⟨r, rfl, rfl, rfl, hr⟩; refine Dp rfl rfl rfl (.met rfl rfl) rfl ?_; refine Of rfl rfl (Ab ?_); refine Si rfl ?_ ?_
  ·intro c0; refine Se rfl (Oa rfl (Ab (Ai (.tmp rfl .nil) ?_)))
   exact ⟨I, _, .refl _, fun _ h => h, [105], p + 1, rfl, by simp; omega, by omega, by omega, rfl⟩
  intro c0; refine Aj (Se rfl (Om rfl ?_)); refine Ol rfl rfl ?_; intro b13; refine Ej [[62], [42]] Ad Ad ?_; intro J e1 k1; refine Ca rfl (Ez (h.mono e1) hl b (p + 1) Aa k1 Af L) ?_; rintro _ _ _ _ ⟨s, rfl, hs, rfl, rfl⟩
  have hsl : s.length = 1 := by revert s; decide
  refine Ok rfl rfl ?_; refine Ok rfl rfl ?_; refine Om rfl (Om rfl ?_); refine Or rfl rfl rfl ?_; refine Df (t := 19) (v' := .int .i64 (d : Nat)) rfl Ed ?_; refine Ca rfl (ihd (h.mono e1) hl b (p + 1 + 1) Aa Aa Aa L) ?_; rintro _ J2 _ e2 ⟨s1, p1, rfl, hs1, hp1, hp2, rfl⟩; refine Ok rfl rfl ?_; refine Ok rfl rfl ?_; refine Om rfl (Om rfl ?_); refine Or rfl rfl rfl ?_; refine Df (t := 25) (v' := .int .i64 (d : Nat)) rfl Ed ?_; refine Ca rfl (ihd ((h.mono e1).mono e2) hl b p1 Aa Aa Aa L) ?_; rintro _ J3 _ e3 ⟨s2, p2, rfl, hs2, hp3, hp4, rfl⟩; refine Ok rfl rfl ?_; refine Ok rfl rfl ?_
  refine Oa rfl (Ab (Ai (.tmp rfl .nil) ?_))
  exact ⟨J3, _, (e1.trans e2).trans e3, fun _ h => h, _, p2, rfl, by simp; omega, by omega, by omega, rfl⟩
def Jm (n : Nat) : As := if n < 10 then [UInt8.ofNat (48 + n)] else Jm (n / 10) ++ [UInt8.ofNat (48 + n % 10)]
theorem Fs {n : Nat} (h : n < 10) : Jm n = [UInt8.ofNat (48 + n)] := by rw [Jm, if_pos h]
theorem Hr {n : Nat} (h : ¬ n < 10) : Jm n = Jm (n / 10) ++ [UInt8.ofNat (48 + n % 10)] := by rw [Jm, if_neg h]
section rules
variable {P : Program} {f : FuncId} {n : Nat} {I₀ : Heap} {Q : C3} {k : List Item} {E : Hw} {I : Heap} {L : Bh}
variable {ops : Array Oper} {d : Nat} {ty : TypeId} {pos : String} {af : Array Edge} {g : Option (Nat × Bool)} {l : List Oper}
theorem Aez {m : Int} (h : 0 ≤ m ∧ m < 256) : IntKind.u8.wrap m = m := by
 simp [IntKind.wrap, IntKind.bits, IntKind.signed]; omega
theorem T0 {S : World → Prop} {src dst sz bb sz2 bb2 : Nat} {z z2 : List Value} [hs : Aw P src (.int .i64) sz bb z] [hd : Aw P dst (.int .u8) sz2 bb2 z2] {x : Operand} {a : Nat} (hx : Cf E x = some (.int .i64 (a : Nat))) (ha : a < 256) :
  Hy P E S ⟨some d, .convert src dst x, ty, pos, af, g⟩ (.int .u8 (a : Nat)) := fun ac w he _ => by
 simp only [execOp, he.eval hx]
 refine Ag (a := .int .u8 (a : Nat)) (w' := w) ?_ |>.trans rfl
 unfold convert
 rw [Ag (A8 hs.und w), Ag (A8 hd.und w)]
 simp only [Conv.intToInt]
 rw [Aez (by omega)]
 rfl
theorem Aa7 {src dst sz bb sz2 bb2 : Nat} {z z2 : List Value} [hs : Aw P src (.int .i64) sz bb z] [hd : Aw P dst (.int .u8) sz2 bb2 z2] {x : Operand} {a : Nat} (hx : Cf E x = some (.int .i64 (a : Nat))) (ha : a < 256) (hg : Wants ops E g) (hdn : Nat.blt d n = true)
  (h : A6 P f n I₀ Q ops l k ((d, .int .u8 (a : Nat)) :: E) I L) : A6 P f n I₀ Q ops (⟨some d, .convert src dst x, ty, pos, af, g⟩ :: l) k E I L := D7 (T0 hx ha) hg hdn h
theorem M2 {src dst e sz bb sz2 bb2 sz3 bb3 : Nat} {z z2 z3 : List Value} [hs : Aw P src (.slice e) sz bb z] [he : Aw P e (.int .u8) sz3 bb3 z3] [hd : Aw P dst .string sz2 bb2 z2] {x : Operand} {ad : Addr} {c a : Nat} (hx : Cf E x = some (.slice (some ad) 1 c)) (hr : Gs I L ad [.int .u8 (a : Nat)]) :
  Hy P E (Mem I L) ⟨some d, .convert src dst x, ty, pos, af, g⟩ (.string (str [UInt8.ofNat a])) := fun ac w he' hm => by
 simp only [execOp, he'.eval hx]
 refine Ag (a := .string (str [UInt8.ofNat a])) (w' := w) ?_ |>.trans rfl
 unfold convert
 rw [Ag (A8 hs.und w), Ag (A8 hd.und w)]
 simp only []
 rw [Ag (A8 he.und w)]
 simp only [Conv.bytesToString]
 have hl : (loadCells ad 1).run P w = .ok [Value.int .u8 (a : Nat)].toArray w := K2 [.int .u8 (a : Nat)] (hr w hm)
 rw [Ag hl]
 rfl
end rules
theorem Uh {n : Nat} (h : n ≤ 1000000000) : (Jm n).length ≤ 12 := by
 have key : ∀ (k m : Nat), m < 10 ^ (k + 1) → (Jm m).length ≤ k + 1 := by
  intro k
  induction k with
  | zero => intro m hm; rw [Fs Aa]; simp
  | succ k ih =>
   intro m hm
   by_cases h1 : m < 10
   ·rw [Fs h1]; simp
   ·rw [Hr h1, List.length_append]
    have := ih (m / 10) (by rw [Nat.pow_succ] at hm; omega)
    simp only [List.length_cons, List.length_nil]; omega
 exact Nat.le_trans (key 10 n Aa) Ad
theorem Uw : ∀ (k n : Nat) (_ : n < k) (_ : n ≤ 1000000000) (I : Heap) (L : Bh), Fun Tryz.prog 101 [.int .i64 (n : Nat)] I L (Ee (.string (str (Jm n))) I L) := by
 intro k
 induction k with
 | zero => intro n h; omega
 | succ k ihk =>
  intro n hlt hn I L; refine Al Af ?_; refine Se rfl (Oa rfl (Ab (Ah (Se rfl (Om rfl (Oc rfl rfl rfl (Ab ?_)))))))
  first | refine Sf rfl Aa ?_ | refine Ay Am ?_
  refine Aj (Ah (Se rfl (Om rfl (Oc rfl rfl rfl (Ab ?_)))))
  first | refine Sf rfl Aa ?_ | refine Ay Am ?_
  refine Aj (Ah (Se rfl (Om rfl (Oc rfl rfl rfl (Ab ?_))))); refine Av rfl ?_ ?_
  ·intro c2
   try simp only [nb] at c2
   refine Ah ?_
   have h10 : n < 10 := by omega
   refine Ao rfl (Om rfl ?_); refine Or rfl rfl rfl ?_; refine Df (t := 14) (v' := .int .i64 ((48 + n : Nat))) rfl (by congr 1) ?_; refine Aa7 rfl Aa .free rfl ?_; refine Ol rfl rfl ?_; intro b16; refine D7 (M2 rfl (Bg Dk Ac)) .free rfl ?_; refine Oa rfl (Ab (Ai (.tmp rfl .nil) ?_)); refine only rfl ?_; rw [Fs h10]; rfl
  intro c2
  try simp only [nb] at c2
  refine Aj (Ah ?_)
  have h10 : ¬ n < 10 := by omega
  obtain ⟨q, hq, hq2⟩ : ∃ q, q = n / 10 ∧ q < n := ⟨_, rfl, by omega⟩; obtain ⟨r, hr, hr2⟩ : ∃ r, r = n % 10 ∧ r < 10 := ⟨_, rfl, Nat.mod_lt _ Aa⟩
  have hdl := Uh (n := q) Aa
  refine Eb 11 rfl rfl ?_; refine Da 0 rfl (Ak rfl) ?_; refine Da 1 rfl (Ad0 (b := 10) rfl rfl Aa Aa) ?_; refine E0 (t := 19) (v' := .int .i64 (q : Nat)) rfl (by rw [hq]) ?_; refine Da 3 rfl (Ak rfl) ?_; refine Da 4 rfl (Zz (b := 10) rfl rfl Aa) ?_; refine E0 (t := 22) (v' := .int .i64 (r : Nat)) rfl (by rw [hr]) ?_; refine Da 5 rfl (Hm rfl rfl rfl Aa) ?_; refine E0 (t := 23) (v' := .int .i64 ((48 + r : Nat))) rfl (by congr 1) ?_; refine Da 6 rfl (T0 rfl Aa) ?_; refine Fr 2 7 Ae ?_ ?_
  ·skip
   refine Ft 2 rfl rfl rfl .free rfl (ihk q Aa Aa _ _) ?_; rintro _ _ _ _ ⟨rfl, rfl, rfl⟩; refine Hx ?_; refine E8 7 rfl Ae rfl rfl rfl Ac Ac Ac Ad Ad Ac .free rfl (.inr Ax) ?_; intro b25; refine Sx 8 rfl Ae rfl (M2 rfl (Bg Dk Ac)) .free rfl (.inr Ax) ?_; refine Da 9 rfl (Yk rfl rfl) ?_; refine Da 10 rfl (At rfl) ?_; refine A5 Ae ?_; refine Ai (.tmp rfl .nil) ?_; refine only rfl ?_; rw [Hr h10, ← hq, ← hr]; rfl
  ·skip
   refine G5 7 rfl rfl rfl rfl Ac Ac Ac Ad Ad Ac .free rfl (.inr Ax) ?_; intro b25; refine Fr 2 8 Ae ?_ ?_
   ·skip
    refine Ft 2 rfl rfl rfl .free rfl (ihk q Aa Aa _ _) ?_; rintro _ _ _ _ ⟨rfl, rfl, rfl⟩; refine Hx ?_; refine Sx 8 rfl Ae rfl (M2 rfl (Bg Dk Ac)) .free rfl (.inr Ax) ?_; refine Da 9 rfl (Yk rfl rfl) ?_; refine Da 10 rfl (At rfl) ?_; refine A5 Ae ?_; refine Ai (.tmp rfl .nil) ?_; refine only rfl ?_; rw [Hr h10, ← hq, ← hr]; rfl
   ·skip
    refine Ta 8 rfl rfl (M2 rfl (Bg Dk Ac)) .free rfl (.inr Ax) ?_; refine Dc 2 rfl rfl (ihk q Aa Aa _ _) ?_; rintro _ _ _ _ ⟨rfl, rfl, rfl⟩; refine Hx ?_; refine Da 9 rfl (Yk rfl rfl) ?_; refine Da 10 rfl (At rfl) ?_; refine A5 Ae ?_; refine Ai (.tmp rfl .nil) ?_; refine only rfl ?_; rw [Hr h10, ← hq, ← hr]; rfl
def Ex.value : Ex → Bool
 | .num _ => true
 | .fn _ _ _ _ _ => true
 | .bin .pair a b => a.value && b.value
 | _ => false
def Ex.print : Ex → Tree
 | .bin .pair a b => .node [] [.node D8 [], a.print, b.print]
 | .fn _ _ _ _ _ => .node Ea []
 | e => e.tree
theorem Aba (a b : Tree) : (Tree.node [] [.node D8 [], a, b]).text = [40, 112, 97, 105, 114, 32] ++ a.text ++ [32] ++ b.text ++ [41] := by
 simp [Tree.text, Fz, D8]
def Lw (s : As) : Option Ex := match Cm s with
 | some e => if e.value = true then some e else none
 | none => none
def Zw (s : As) : Option As := (Lw s).map fun e => e.print.text
theorem Vq {s : As} (h : (Lw s).isSome = true) : ∃ e, Lw s = some e ∧ Ei s = some e ∧ Cm s = some e ∧ e.value = true ∧ e.ok = true ∧ e.tree.len ≤ 12000 := by
 cases hv : Lw s with
 | none => rw [hv] at h; cases h
 | some e =>
  unfold Lw at hv
  cases hc : Cm s with
  | none => rw [hc] at hv; cases hv
  | some e' =>
   rw [hc] at hv
   simp only at hv
   split at hv
   ·rename_i hval
    cases hv
    have h1 := (Hq hc).1
    have h2 := (It h1).2.1
    simp only [Ex.fine, Bool.and_eq_true, Tree.fits, decide_eq_true_eq] at h2
    exact ⟨e, rfl, h1, rfl, hval, h2.1.1, h2.2.2⟩
   ·cases hv
def Ty.sample : Ty → Ex
 | .i => .num [48]
 | .pr a b => .bin .pair a.sample b.sample
 | .fn a b => .fn [102] [120] a b b.sample
theorem Ty.sample_ok : ∀ {t : Ty}, t.size ≤ 16 → t.sample.ok = true
 | .i, _ => by decide
 | .pr a b, h => by
  simp only [Ty.size] at h
  simp only [Ty.sample, Ex.ok, Bool.and_eq_true]
  exact ⟨Ty.sample_ok (by omega), Ty.sample_ok (by omega)⟩
 | .fn a b, h => by
  simp only [Ty.size] at h
  simp only [Ty.sample, Ex.ok, Bool.and_eq_true, decide_eq_true_eq]
  exact ⟨⟨⟨⟨⟨by decide, by decide⟩, by decide⟩, by omega⟩, by omega⟩, Ty.sample_ok (by omega)⟩
theorem Ty.sample_len : ∀ {t : Ty}, t.size ≤ 16 → t.sample.tree.len ≤ 200 * t.size
 | .i, _ => by decide
 | .pr a b, h => by
  simp only [Ty.size] at h ⊢
  have h1 := Ty.sample_len (t := a) (by omega)
  have h2 := Ty.sample_len (t := b) (by omega)
  simp only [Ty.sample, Ex.tree, Tree.len, Ge, List.isEmpty_cons, cond_false, List.isEmpty_nil, cond_true, B5.txt, D8, List.length_cons, List.length_nil]
  omega
 | .fn a b, h => by
  simp only [Ty.size] at h ⊢
  have h2 := Ty.sample_len (t := b) (by omega)
  have h3 := a.tree_small
  have h4 := b.tree_small
  simp only [Ty.sample, Ex.tree, Tree.len, Ge, List.isEmpty_cons, cond_false, List.isEmpty_nil, cond_true, Ea, List.length_cons, List.length_nil]
  omega
theorem Ty.sample_chk : ∀ {t : Ty} {l : List As} {m : List Ty}, t.size ≤ 16 → t.sample.chk l m = .ok t
 | .i, l, m, _ => rfl
 | .pr a b, l, m, h => by
  have h0 := h
  simp only [Ty.size] at h
  simp only [Ty.sample, Ex.chk, Ty.sample_chk (t := a) (l := l) (m := m) (by omega), Ty.sample_chk (t := b) (l := l) (m := m) (by omega), B5.ty, if_pos h0]
 | .fn a b, l, m, h => by
  have h0 := h
  simp only [Ty.size] at h
  simp only [Ty.sample, Ex.chk, if_pos h0, Ty.sample_chk (t := b) (by omega), if_true]
theorem Ty.sample_value : ∀ t : Ty, t.sample.value = true
 | .i => rfl
 | .pr a b => by simp [Ty.sample, Ex.value, a.sample_value, b.sample_value]
 | .fn a b => rfl
def Ex.txt (e : Ex) : As := e.tree.text
theorem Ty.sample_textlen {t : Ty} (h : t.size ≤ 16) : t.sample.tree.text.length ≤ 3200 := by
 have := Ty.sample_len h; rw [Tree.text_len]; omega
theorem Aci (f x : As) (s t : Ty) (b : Ex) : (Ex.fn f x s t b).tree.text = [40, 102, 117, 110, 32] ++ f ++ [32] ++ x ++ [32] ++ s.tree.text ++ [32] ++ t.tree.text ++ [32] ++ b.tree.text ++ [41] := by
 simp [Ex.tree, Tree.text, Fz, Ea]
def Qp (s : As) : Option As := match I0 s with
 | some t => if t.sample.fine = true then some t.sample.tree.text else none
 | none => none
theorem Ps {s : As} (h : I0 s = none) : Qp s = none := by unfold Qp; rw [h]
theorem Pt {s : As} {t : Ty} (h : I0 s = some t) : Qp s = if t.sample.fine = true then some t.sample.tree.text else none := by unfold Qp; rw [h]
theorem Adk {s o : As} (h : Qp s = some o) : ∃ t, I0 s = some t ∧ s = t.tree.text ∧ Ei o = some t.sample ∧ Cm o = some t.sample ∧ tyC o = some t ∧ (Lw o).isSome = true ∧ o.length ≤ 3200 := by
 cases ht : I0 s with
 | none => rw [Ps ht] at h; cases h
 | some t =>
  rw [Pt ht] at h; obtain ⟨h1, h2, h3⟩ := Tv ht
  split at h
  ·rename_i hf
   cases h
   have hx := Mp (Ty.sample_ok h2)
   rw [if_pos hf] at hx
   have hty : t.sample.ty [] [] = some t := by unfold Ex.ty; rw [Ty.sample_chk h2]
   have hc : Cm t.sample.tree.text = some t.sample := by
    unfold Cm; rw [hx]; simp [Ex.ty_closed hty]
   refine ⟨t, rfl, h3, hx, hc, ?_, ?_, Ty.sample_textlen h2⟩
   ·unfold tyC; rw [hx]; exact hty
   ·unfold Lw; rw [hc]; simp [t.sample_value]
  ·cases h
theorem Aco : ∀ (n : Nat) {I : Heap} {t : Ty} {cs : List Value} (_ : SizeOf.sizeOf t < n) (_ : Rep I t.tree cs) (_ : t.size ≤ 16) (L : Bh), Fun Tryz.prog 206 [.agg cs.toArray] I L (Ee (.string (str t.sample.tree.text)) I L) := by
 intro n
 induction n with
 | zero => intro I t cs h; omega
 | succ n ihn =>
  intro I t cs hlt h hsz L; obtain ⟨oc, cc, oaf, cf, rfl, hf⟩ := h.at'
  have hg := t.tree_good.1
  have hfn := hf.nil
  refine Al Af ?_; refine Se rfl ?_; refine Cc rfl rfl .free rfl ?_; intro b1; refine Oa rfl (Ab (Ah (Se rfl (Oh rfl ?_)))); refine Bd rfl .free rfl ?_; refine Od rfl rfl rfl (Ab ?_); refine Av rfl ?_ ?_
  ·intro c0
   try simp only [nb] at c0
   refine Se rfl (Oa rfl (Ab (Ai (.tmp rfl .nil) ?_))); refine only rfl ?_
   cases t with
   | i => rfl
   | fn a b => exact absurd rfl c0
   | pr a b => exact absurd rfl c0
  intro c0
  try simp only [nb] at c0
  have hpl : t.tree.parts.length = 3 := by
   cases t with
   | i => exact absurd c0 Ad
   | fn a b => rfl
   | pr a b => rfl
  have hhd := Mv (t := t.tree) Aa
  refine Aj (Ah (Se rfl (Oh rfl ?_))); refine Bd rfl .free rfl ?_
  first | refine Bk rfl rfl 0 rfl .free rfl ?_ | refine Bl rfl rfl 0 rfl .free rfl ?_
  refine Be rfl .free rfl ?_; refine F5 rfl .free rfl ?_; refine Od rfl rfl rfl (Ab ?_); refine Av rfl ?_ ?_
  ·intro c1
   try simp only [nb] at c1
   obtain ⟨a, b, rfl⟩ : ∃ a b, t = .pr a b := by
    cases t with
    | i => exact absurd c0 Ad
    | pr a b => exact ⟨a, b, rfl⟩
    | fn a b => exact absurd (show ([62] : As) = [42] from c1) Ad
   simp only [Ty.pr.sizeOf_spec] at hlt
   simp only [Ty.size] at hsz
   have ha16 : a.size ≤ 16 := by omega
   have hb16 : b.size ≤ 16 := by omega
   have hl1 := Ty.sample_textlen ha16
   have hl2 := Ty.sample_textlen hb16
   refine Ah ?_; refine Eb 15 rfl rfl ?_; refine Da 0 rfl (Ap rfl) ?_; refine Dt 1 [15] rfl (Cn rfl) ?_
   first | refine Da 2 rfl (Bw rfl rfl 1 rfl) ?_ | refine Da 2 rfl (Bx rfl rfl 1 rfl) ?_
   refine Dt 3 [15] rfl (C7 rfl) ?_; refine Da 7 rfl (Ap rfl) ?_; refine Dt 8 [15] rfl (Cn rfl) ?_
   first | refine Da 9 rfl (Bw rfl rfl 2 rfl) ?_ | refine Da 9 rfl (Bx rfl rfl 2 rfl) ?_
   refine Dt 10 [15] rfl (C7 rfl) ?_; refine Dc 4 rfl rfl (ihn (t := a) Aa (hf.as 1 a.tree Aa rfl) ha16 _) ?_; rintro _ _ _ _ ⟨rfl, rfl, rfl⟩; refine Hx ?_; refine Da 5 rfl (Yk rfl rfl) ?_; refine Da 6 rfl (Yk rfl rfl) ?_; refine Dc 11 rfl rfl (ihn (t := b) Aa (hf.as 2 b.tree Aa rfl) hb16 _) ?_; rintro _ _ _ _ ⟨rfl, rfl, rfl⟩; refine Hx ?_; refine Da 12 rfl (Yk rfl rfl) ?_; refine Da 13 rfl (Yk rfl rfl) ?_; refine Da 14 rfl (At rfl) ?_; refine A5 Ae ?_; refine Ai (.tmp rfl .nil) ?_; refine only rfl ?_
   have := Aba a.sample.tree b.sample.tree
   rw [show (Ty.pr a b).sample.tree.text = _ from this]; rfl
  intro c1
  try simp only [nb] at c1
  obtain ⟨a, b, rfl⟩ : ∃ a b, t = .fn a b := by
   cases t with
   | i => exact absurd c0 Ad
   | fn a b => exact ⟨a, b, rfl⟩
   | pr a b => exact absurd rfl c1
  simp only [Ty.fn.sizeOf_spec] at hlt
  simp only [Ty.size] at hsz
  have ha16 : a.size ≤ 16 := by omega
  have hb16 : b.size ≤ 16 := by omega
  have hl1 := Ty.text_len ha16
  have hl2 := Ty.text_len hb16
  have hl3 := Ty.sample_textlen hb16
  have hs1 := a.tree_small
  have hs2 := b.tree_small
  refine Aj (Ah ?_); refine Eb 22 rfl rfl ?_; refine Da 0 rfl (Ap rfl) ?_; refine Dt 1 [22] rfl (Cn rfl) ?_
  first | refine Da 2 rfl (Bw rfl rfl 1 rfl) ?_ | refine Da 2 rfl (Bx rfl rfl 1 rfl) ?_
  refine Dt 3 [22] rfl (C7 rfl) ?_; refine Da 7 rfl (Ap rfl) ?_; refine Dt 8 [22] rfl (Cn rfl) ?_
  first | refine Da 9 rfl (Bw rfl rfl 2 rfl) ?_ | refine Da 9 rfl (Bx rfl rfl 2 rfl) ?_
  refine Dt 10 [22] rfl (C7 rfl) ?_; refine Da 14 rfl (Ap rfl) ?_; refine Dt 15 [22] rfl (Cn rfl) ?_
  first | refine Da 16 rfl (Bw rfl rfl 2 rfl) ?_ | refine Da 16 rfl (Bx rfl rfl 2 rfl) ?_
  refine Dt 17 [22] rfl (C7 rfl) ?_; refine Dc 4 rfl rfl (Ma (t := a.tree) _ (Nat.lt_succ_self _) (hf.as 1 a.tree Aa rfl) a.tree_good.1 Aa _) ?_; rintro _ _ _ _ ⟨rfl, rfl, rfl⟩; refine Hx ?_; refine Da 5 rfl (Yk rfl rfl) ?_; refine Da 6 rfl (Yk rfl rfl) ?_; refine Dc 11 rfl rfl (Ma (t := b.tree) _ (Nat.lt_succ_self _) (hf.as 2 b.tree Aa rfl) b.tree_good.1 Aa _) ?_; rintro _ _ _ _ ⟨rfl, rfl, rfl⟩; refine Hx ?_; refine Da 12 rfl (Yk rfl rfl) ?_; refine Da 13 rfl (Yk rfl rfl) ?_; refine Dc 18 rfl rfl (ihn (t := b) Aa (hf.as 2 b.tree Aa rfl) hb16 _) ?_; rintro _ _ _ _ ⟨rfl, rfl, rfl⟩; refine Hx ?_
  refine Da 19 rfl (Yk rfl rfl) ?_; refine Da 20 rfl (Yk rfl rfl) ?_; refine Da 21 rfl (At rfl) ?_; refine A5 Ae ?_; refine Ai (.tmp rfl .nil) ?_; refine only rfl ?_
  have := Aci [102] [120] a b b.sample
  rw [show (Ty.fn a b).sample.tree.text = _ from this]; rfl
def smp (t : Tree) : Ex := (t.ty.getD .i).sample
theorem O4 (a : Ty) : smp a.tree = a.sample := by unfold smp; rw [a.tree_ty]; rfl
theorem Aec {I : Heap} {t : Tree} {cs : List Value} (h : Rep I t cs) (ht : ∃ a : Ty, t = a.tree ∧ a.size ≤ 16) (L : Bh) : Fun Tryz.prog 206 [.agg cs.toArray] I L (Ee (.string (str (smp t).tree.text)) I L) := by
 obtain ⟨a, rfl, h1⟩ := ht; rw [O4]
 exact Aco _ (Nat.lt_succ_self _) h h1 L
theorem Wn (s : As) (hs : s.length ≤ Bb) (I : Heap) (L : Bh) : Fun Tryz.prog 195 [.string (str s)] I L (EL (Qp s) L) := by
 refine Al Af ?_; refine Se rfl (Oa rfl (Oa rfl (Ab (Se rfl (Om rfl ?_))))); refine Ca rfl (S8 s hs _ _) ?_; rintro _ J _ e1 ⟨t, cs, ok, rfl, hrep, rfl, hpf⟩; obtain ⟨o1, k1, _, rfl, -⟩ := hrep.open
 have hty := Tu hpf
 refine Om rfl (Oe rfl rfl (Oe rfl rfl ?_)); refine A3 .free rfl ?_; intro b4; refine Bu rfl rfl rfl rfl .free ?_; refine Oa rfl (Ab (Ah (Se rfl (Om rfl ?_)))); refine Dl rfl .free rfl ?_; refine Om rfl ?_
 apply F6 13 17 rfl
 ·intro g2_3 hk
  try simp only [nb] at g2_3
  have hp := Fu (If hpf g2_3)
  refine Bq rfl (.met rfl rfl) rfl ?_; refine Cv rfl (.met rfl rfl) rfl (Mr hrep hp.1 (Tree.size_maxN hp.2.1) _) ?_; rintro _ _ _ _ ⟨rfl, rfl, rfl⟩; refine Dl rfl (.met rfl rfl) rfl ?_; refine Of rfl rfl ?_
  exact Au 3 rfl rfl hk
 ·intro _ hk; refine A2 3 rfl ?_; refine Ot rfl rfl ?_
  exact Au 3 rfl rfl hk
 refine Om rfl ?_
 apply F6 18 23 rfl
 ·intro g2_8 hk
  try simp only [nb] at g2_8
  obtain ⟨a, ha, hta, hsz⟩ := hty.1 g2_8.1 g2_8.2
  have hl : (smp t).tree.text.length ≤ 3200 := by rw [hta, O4]; exact Ty.sample_textlen hsz
  refine Bq rfl (.met rfl rfl) rfl ?_; refine Cv rfl (.met rfl rfl) rfl (Aec hrep ⟨a, hta, hsz⟩ _) ?_; rintro _ _ _ _ ⟨rfl, rfl, rfl⟩; refine Cv rfl (.met rfl rfl) rfl (L9 _ Bz _ _) ?_; rintro _ _ _ _ ⟨rfl, rfl, rfl⟩; refine Dl rfl (.met rfl rfl) rfl ?_; refine Of rfl rfl ?_
  exact Au 4 rfl rfl hk
 ·intro _ hk; refine A2 4 rfl ?_; refine Ot rfl rfl ?_
  exact Au 4 rfl rfl hk
 refine Ab ?_; refine Av rfl ?_ ?_
 ·intro c0
  try simp only [nb] at c0
  refine Se rfl (Oa rfl (Oa rfl (Ab ?_))); refine Ai (.tmp rfl (.tmp rfl .nil)) ?_; refine ⟨J, L, e1, Bj, ?_, rfl⟩
  have hz : Qp s = none := by
   by_cases h1 : ok = true
   ·by_cases h2 : t.typed = true
    ·obtain ⟨a, ha, hta, hsz⟩ := hty.1 h1 h2
     rcases c0 with (h | h) | h
     ·rw [h1] at h; cases h
     ·rw [h2] at h; cases h
     ·rw [hta, O4, Mp (Ty.sample_ok hsz)] at h; rw [Pt ha]
      cases hf : a.sample.fine with
      | true => rw [hf] at h; cases h
      | false => rfl
    ·exact Ps (hty.2 (.inr (by simpa using h2)))
   ·exact Ps (hty.2 (.inl (by simpa using h1)))
  rw [hz]; rfl
 intro c0
 try simp only [nb] at c0
 obtain ⟨⟨h1, h2⟩, h3⟩ := c0; obtain ⟨a, ha, rfl, hsz⟩ := hty.1 h1 h2; refine Aj (Se rfl ?_); refine Bq rfl .free rfl ?_; refine Ca rfl (Aco _ (Nat.lt_succ_self _) hrep hsz _) ?_; rintro _ _ _ _ ⟨rfl, rfl, rfl⟩; refine Oa rfl (Oa rfl (Ab ?_)); refine Ai (.tmp rfl (.tmp rfl .nil)) ?_; refine ⟨J, L, e1, Bj, ?_, rfl⟩; rw [O4, Mp (Ty.sample_ok hsz)] at h3
 cases hf : a.sample.fine with
 | false => rw [hf] at h3; cases h3
 | true => rw [Pt ha, if_pos hf]; rfl
structure ScAt (I : Heap) (ns ts : List As) (oa : Option Addr) (c : Nat) (ob : Option Addr) (c' : Nat) : Prop where
 names : Strs I oa ns c
 types : Strs I ob ts c'
 len : ns.length = ts.length
 nb : ∀ s ∈ ns, s.length ≤ 4
 tb : ∀ s ∈ ts, s.length ≤ 1000
theorem ScAt.mono {I I' : Heap} (hle : HLe I I') {ns ts : List As} {oa : Option Addr} {c : Nat} {ob : Option Addr} {c' : Nat} (h : ScAt I ns ts oa c ob c') : ScAt I' ns ts oa c ob c' :=
 ⟨h.names.mono hle, h.types.mono hle, h.len, h.nb, h.tb⟩
def RSc (ns ts : List As) (L : Bh) : C3 := fun v I' L' => ∃ oa c ob c', v = .agg [.slice oa (List.length ns) c, .slice ob (List.length ts) c'].toArray ∧ ScAt I' ns ts oa c ob c' ∧ L = L'
theorem La {I : Heap} {ns ts : List As} {oa ob : Option Addr} {c c' : Nat} (h : ScAt I ns ts oa c ob c') (x k : As) (hx : x.length ≤ 4) (hk : k.length ≤ 1000) (hn : ns.length ≤ 200) (L : Bh) :
  Fun Tryz.prog 164 [.agg [.slice oa ns.length c, .slice ob ts.length c'].toArray, .string (str x), .string (str k)] I L (RSc (ns ++ [x]) (ts ++ [k]) L) := by
 have hlen := h.len
 have hlr : HLe I I := .refl _
 have hxm : x.length ≤ Bb := by unfold Bb; omega
 have hkm : k.length ≤ Bb := by unfold Bb; omega
 refine Al Af ?_; refine Se rfl ?_; refine Cc rfl rfl .free rfl ?_; intro b3; refine A3 .free rfl ?_; intro b6; refine Ab (Ah ?_); refine Eb 12 rfl rfl ?_; refine Da 0 rfl (Ap rfl) ?_; refine Dt 1 [11] rfl (Cn rfl) ?_; refine Da 2 rfl (Ak rfl) ?_; refine Da 5 rfl (Ap rfl) ?_; refine Dt 6 [11] rfl (Cn rfl) ?_; refine Da 7 rfl (Ak rfl) ?_; refine Fr 3 8 Ae ?_ ?_
 ·skip
  refine G5 3 rfl rfl rfl rfl Ac Ac Ac Ad Ad Ac .free rfl (.inr Ax) ?_; intro b10; refine D2 ?_; intro hz
  have hlr := hlr.trans hz
  have h := h.mono hz
  have hk1 := Ie hz hxm
  try have hk2 := hk2.mono hz
  refine Fr 4 8 Ae ?_ ?_
  ·skip
   refine Ft 4 rfl rfl rfl .free rfl (Ja h.names hk1 Hb _) ?_; rintro _ J2 _ e2 ⟨o3, c3', rfl, hn3, rfl⟩
   have hlr := hlr.trans e2
   have h := h.mono e2
   try have hk2 := hk2.mono e2
   refine Hx ?_; refine E8 8 rfl Ae rfl rfl rfl Ac Ac Ac Ad Ad Ac .free rfl (.inr Ax) ?_; intro b15; refine D2 ?_; intro hz
   have hlr := hlr.trans hz
   have h := h.mono hz
   have hk2 := Ie hz hkm
   try have hk1 := hk1.mono hz
   try have hn3 := hn3.mono hz
   refine Dc 9 rfl rfl (Ja h.types hk2 Hb _) ?_; rintro _ J3 _ e3 ⟨o4, c4', rfl, hn4, rfl⟩
   have hlr := hlr.trans e3
   have hn3 := hn3.mono e3
   refine Hx ?_; refine Da 10 rfl (Em rfl rfl rfl) ?_; refine Dx 11 rfl rfl rfl rfl ?_; refine A5 Ae ?_; refine Ai (.c rfl .nil) ?_
   exact ⟨J3, L, hlr, Bj, o3, c3', o4, c4', rfl, ⟨hn3, hn4, by simp [hlen], (fun s hs => by rcases List.mem_append.1 hs with hs | hs; exact h.nb s hs; rw [List.mem_singleton.1 hs]; exact hx), (fun s hs => by rcases List.mem_append.1 hs with hs | hs; exact h.tb s hs; rw [List.mem_singleton.1 hs]; exact hk)⟩, rfl⟩
  ·skip
   refine G5 8 rfl rfl rfl rfl Ac Ac Ac Ad Ad Ac .free rfl (.inr Ax) ?_; intro b15; refine D2 ?_; intro hz
   have hlr := hlr.trans hz
   have h := h.mono hz
   have hk2 := Ie hz hkm
   try have hk1 := hk1.mono hz
   try have hn3 := hn3.mono hz
   refine Dc 4 rfl rfl (Ja h.names hk1 Hb _) ?_; rintro _ J2 _ e2 ⟨o3, c3', rfl, hn3, rfl⟩
   have hlr := hlr.trans e2
   have h := h.mono e2
   try have hk2 := hk2.mono e2
   refine Hx ?_; refine Dc 9 rfl rfl (Ja h.types hk2 Hb _) ?_; rintro _ J3 _ e3 ⟨o4, c4', rfl, hn4, rfl⟩
   have hlr := hlr.trans e3
   have hn3 := hn3.mono e3
   refine Hx ?_; refine Da 10 rfl (Em rfl rfl rfl) ?_; refine Dx 11 rfl rfl rfl rfl ?_; refine A5 Ae ?_; refine Ai (.c rfl .nil) ?_
   exact ⟨J3, L, hlr, Bj, o3, c3', o4, c4', rfl, ⟨hn3, hn4, by simp [hlen], (fun s hs => by rcases List.mem_append.1 hs with hs | hs; exact h.nb s hs; rw [List.mem_singleton.1 hs]; exact hx), (fun s hs => by rcases List.mem_append.1 hs with hs | hs; exact h.tb s hs; rw [List.mem_singleton.1 hs]; exact hk)⟩, rfl⟩
 ·skip
  refine G5 8 rfl rfl rfl rfl Ac Ac Ac Ad Ad Ac .free rfl (.inr Ax) ?_; intro b15; refine D2 ?_; intro hz
  have hlr := hlr.trans hz
  have h := h.mono hz
  have hk2 := Ie hz hkm
  try have hk1 := hk1.mono hz
  try have hn3 := hn3.mono hz
  refine E8 3 rfl Ae rfl rfl rfl Ac Ac Ac Ad Ad Ac .free rfl (.inr Ax) ?_; intro b10; refine D2 ?_; intro hz
  have hlr := hlr.trans hz
  have h := h.mono hz
  have hk1 := Ie hz hxm
  try have hk2 := hk2.mono hz
  refine Dc 4 rfl rfl (Ja h.names hk1 Hb _) ?_; rintro _ J2 _ e2 ⟨o3, c3', rfl, hn3, rfl⟩
  have hlr := hlr.trans e2
  have h := h.mono e2
  try have hk2 := hk2.mono e2
  refine Hx ?_; refine Dc 9 rfl rfl (Ja h.types hk2 Hb _) ?_; rintro _ J3 _ e3 ⟨o4, c4', rfl, hn4, rfl⟩
  have hlr := hlr.trans e3
  have hn3 := hn3.mono e3
  refine Hx ?_; refine Da 10 rfl (Em rfl rfl rfl) ?_; refine Dx 11 rfl rfl rfl rfl ?_; refine A5 Ae ?_; refine Ai (.c rfl .nil) ?_
  exact ⟨J3, L, hlr, Bj, o3, c3', o4, c4', rfl, ⟨hn3, hn4, by simp [hlen], (fun s hs => by rcases List.mem_append.1 hs with hs | hs; exact h.nb s hs; rw [List.mem_singleton.1 hs]; exact hx), (fun s hs => by rcases List.mem_append.1 hs with hs | hs; exact h.tb s hs; rw [List.mem_singleton.1 hs]; exact hk)⟩, rfl⟩
theorem Adu (o : Option (Ty × Ty)) (sg s : As) (h : o = E4 sg s) : (t1 o).length ≤ 80 ∧ (t2 o).length ≤ 80 := by
 subst h
 cases h : E4 sg s with
 | none => exact ⟨by decide, by decide⟩
 | some p =>
  obtain ⟨a, b⟩ := p
  unfold E4 at h
  cases ht : I0 s with
  | none => rw [ht] at h; cases h
  | some t =>
   rw [ht] at h
   have h1 := (Tv ht).2.1
   cases t with
   | i => cases h
   | fn x y =>
    simp only at h
    split at h
    ·cases h; simp only [Ty.size] at h1
     exact ⟨Ty.text_len (t := a) Aa, Ty.text_len (t := b) Aa⟩
    ·cases h
   | pr x y =>
    simp only at h
    split at h
    ·cases h; simp only [Ty.size] at h1
     exact ⟨Ty.text_len (t := a) Aa, Ty.text_len (t := b) Aa⟩
    ·cases h
theorem Adl {s o : As} (h : Qp s = some o) : o.length ≤ 3200 := by obtain ⟨_, _, _, _, _, _, _, h⟩ := Adk h; exact h
structure LFs where
 i : Nat
 fs : List As
 b : Nat
 sp : List Value
 c : Nat
theorem Pi {I : Heap} {oa : Option Addr} {l : List UInt8} {c : Nat} (h : Bytes I oa l c) (hl : l.length ≤ 2000) (b p : Nat) (hp : p + 4 ≤ 1099511627776) {ns ts : List As} {o1 o2 : Option Addr} {c1 c2 : Nat} (hs : ScAt I ns ts o1 c1 o2 c2) (hn : ns.length ≤ 100) (want : As) (hw : want.length ≤ 1000) (L : Bh) :
  Fun Tryz.prog 163 [.pointer (some ⟨b, 0, none⟩), .agg [.slice o1 ns.length c1, .slice o2 ts.length c2].toArray, .string (str want)] I (rd b oa l c p :: L) (DT b oa l c p 4 3300 L) := by
 have hlen := hs.len
 have hnl := hs.names
 refine Al Af ?_; refine Se rfl ?_; refine Cc rfl rfl .free rfl ?_; intro b4; refine Oa rfl (Ab (Se rfl ?_)); refine D9 .free rfl ?_; intro b11; refine Oa rfl (Ab (Ah (Se rfl (Oa rfl (Ab (Ar ?_))))))
 refine Dv (X := LFs) (fun x => ns.length - x.i) (fun x => [(0, .pointer (some ⟨b, 0, none⟩)), (2, .string (str want)), (4, .pointer (some ⟨b4, 0, none⟩)), (6, .string (str [])), (7, .slice (some ⟨x.b, 0, none⟩) x.fs.length x.c), (8, .int .i64 (x.i : Nat))]) (fun _ => I) (fun x => (x.b, .cells (x.fs.map sv ++ x.sp).toArray 9 (0, 0)) :: (b4, .cells [.slice o1 ns.length c1, .slice o2 ts.length c2].toArray 134 (0, 0)) :: rd b oa l c p :: L) (fun x => x.i ≤ ns.length ∧ x.fs.length ≤ x.i ∧ (∀ s ∈ x.fs, s.length ≤ 4) ∧ Ep 1 x.fs.length x.c (x.fs.map sv) (some (x.b, x.sp))) ⟨0, [], b11, [], 0⟩ ⟨Nat.zero_le _, Nat.zero_le _, (fun _ h => by cases h), ⟨rfl, Nat.le_refl _, rfl⟩⟩ ⟨rfl, rfl, rfl, rfl, rfl, rfl, trivial⟩ (by intro _ h; exact h) ?_
 rintro ⟨i, fs, bb, sp, cb⟩ ⟨hi, hfi, hfs, hB⟩ ih
 simp only at hi hfi hfs hB ih ⊢
 refine Ah (Se rfl (Om rfl (Oh rfl ?_))); refine Bd rfl .free rfl ?_; refine On rfl (Oc rfl rfl rfl (Ab ?_)); refine Av rfl ?_ ?_
 ·intro c0
  try simp only [nb] at c0
  have hi1 : i < ns.length := by omega
  have hel : (ns.getD i []).length ≤ 4 := hs.nb _ (by rw [show ns.getD i [] = ns[i] by simp [hi1]]; exact List.getElem_mem _)
  have hle0 : HLe I I := .refl _
  refine Aj (Ah (Ar (Ah ?_))); refine Eb 12 rfl rfl ?_; refine Da 0 rfl (Ap rfl) ?_; refine Dt 1 [12] rfl (Cn rfl) ?_; refine Da 2 rfl (Ap rfl) ?_; refine Dt 3 [12] rfl (Cn rfl) ?_; refine Da 4 rfl (Ap rfl) ?_; refine Dt 5 [12] rfl (Cn rfl) ?_; refine Da 6 rfl (Ak rfl) ?_
  first | refine Da 7 rfl (Bw rfl rfl _ rfl) ?_ | refine Da 7 rfl (Bx rfl rfl _ rfl) ?_
  refine Dt 8 [12] rfl (Qo rfl) ?_; refine Da 10 rfl (Ak rfl) ?_; refine Dc 9 rfl rfl (Acn hs.names hs.types hlen _ _) ?_; rintro _ _ _ _ ⟨rfl, rfl, rfl⟩; refine Hx ?_; refine Da 11 rfl (Vv rfl rfl rfl) ?_; refine A5 Ae ?_; refine Av rfl ?_ ?_
  ·intro c1
   try simp only [nb] at c1
   refine Ao rfl (Om rfl (Oh rfl ?_)); refine Bd rfl .free rfl ?_; refine Om rfl ?_
   first | refine Bk rfl rfl _ rfl .free rfl ?_ | refine Bl rfl rfl _ rfl .free rfl ?_
   refine Gh rfl .free rfl ?_; refine Ol rfl rfl ?_; intro b37; refine D3 (B := some (bb, sp)) (xs := fs.map sv) (ys := [sv (ns.getD i [])]) (m := fs.length) (c := cb) A4 Ac rfl rfl hB (fun _ h => h.f1) Ac (fun a ha => by cases ha; exact Bg Dk Ac) Af Ac Ad Ad Aa Ad .free rfl ?_; intro bq sp2 c2q hB2; rw [show fs.map sv ++ [sv (ns.getD i [])] = (fs ++ [ns.getD i []]).map sv by simp] at hB2 ⊢; refine Oa rfl (Ab (Aq (Ao rfl (Om rfl ?_)))); refine Or rfl rfl rfl ?_; refine Oa rfl (Ab ?_)
   first
    | exact Cw (E' := [(0, .pointer (some ⟨b, 0, none⟩)), (2, .string (str want)), (4, .pointer (some ⟨b4, 0, none⟩)), (6, .string (str [])), (7, .slice (some ⟨bq, 0, none⟩) (fs ++ [ns.getD i []]).length c2q), (8, .int .i64 ((i + 1 : Nat)))]) ⟨rfl, rfl, rfl, rfl, by simp; rfl, rfl, trivial⟩ (Ck (fun w h => Mem.sub (L' := (bq, _) :: (b4, _) :: rd b oa l c p :: L) Bo h) (ih ⟨i + 1, fs ++ [ns.getD i []], bq, sp2, c2q⟩ ⟨by simp only; omega, by simp; omega, (fun s hs => by rcases List.mem_append.1 hs with hs | hs; exact hfs s hs; rw [List.mem_singleton.1 hs]; exact hel), by simpa using hB2⟩ D1))
    | exact Cw (E' := [(0, .pointer (some ⟨b, 0, none⟩)), (2, .string (str want)), (4, .pointer (some ⟨b4, 0, none⟩)), (6, .string (str [])), (7, .slice (some ⟨bb, 0, none⟩) fs.length cb), (8, .int .i64 ((i + 1 : Nat)))]) ⟨rfl, rfl, rfl, rfl, rfl, rfl, trivial⟩ (ih ⟨i + 1, fs, bb, sp, cb⟩ ⟨by simp only; omega, by simp only; omega, hfs, hB⟩ D1)
  intro c1
  try simp only [nb] at c1
  refine Aj (Aq (Ao rfl (Om rfl ?_))); refine Or rfl rfl rfl ?_; refine Oa rfl (Ab ?_)
  first
   | exact Cw (E' := [(0, .pointer (some ⟨b, 0, none⟩)), (2, .string (str want)), (4, .pointer (some ⟨b4, 0, none⟩)), (6, .string (str [])), (7, .slice (some ⟨bq, 0, none⟩) (fs ++ [ns.getD i []]).length c2q), (8, .int .i64 ((i + 1 : Nat)))]) ⟨rfl, rfl, rfl, rfl, by simp; rfl, rfl, trivial⟩ (Ck (fun w h => Mem.sub (L' := (bq, _) :: (b4, _) :: rd b oa l c p :: L) Bo h) (ih ⟨i + 1, fs ++ [ns.getD i []], bq, sp2, c2q⟩ ⟨by simp only; omega, by simp; omega, (fun s hs => by rcases List.mem_append.1 hs with hs | hs; exact hfs s hs; rw [List.mem_singleton.1 hs]; exact hel), by simpa using hB2⟩ D1))
   | exact Cw (E' := [(0, .pointer (some ⟨b, 0, none⟩)), (2, .string (str want)), (4, .pointer (some ⟨b4, 0, none⟩)), (6, .string (str [])), (7, .slice (some ⟨bb, 0, none⟩) fs.length cb), (8, .int .i64 ((i + 1 : Nat)))]) ⟨rfl, rfl, rfl, rfl, rfl, rfl, trivial⟩ (ih ⟨i + 1, fs, bb, sp, cb⟩ ⟨by simp only; omega, by simp only; omega, hfs, hB⟩ D1)
 intro c0
 try simp only [nb] at c0
 refine Cs rfl ?_; refine Ah (Ah ?_); refine Hk (B := some (bb, sp)) hB rfl Bz (fun s hs => by have := hfs s hs; unfold Bb; omega) ?_; intro J oz cz ez hbv hst
 simp only [B8, Value.slice.injEq] at hbv
 obtain ⟨rfl, -, rfl⟩ := hbv; refine Ck (fun w h => h.f1) ?_
 have h := h.mono ez
 have hz0 := hst.nil'
 have hzl := hst.len
 refine Ao rfl (Om rfl (On rfl (Oc rfl rfl rfl (Om rfl ?_))))
 first | refine G0 rfl rfl ?_ ?_ | refine E3 rfl rfl ?_ ?_ | refine Ly rfl rfl ?_ ?_
 ·intro g7_4; refine Ow rfl ?_; refine Cv rfl (.met rfl rfl) rfl (C0 h hl b p 4 Aa Ad _) ?_; rintro _ _ _ _ ⟨r, rfl, rfl, rfl, hr⟩; refine Dp rfl rfl rfl (.met rfl rfl) rfl ?_; refine Ot rfl rfl (Ab ?_); refine Av rfl ?_ ?_
  ·intro c2
   try simp only [nb] at c2
   have hpos : 0 < fs.length := by omega
   refine Se rfl ?_
   iterate 3 refine Om rfl ?_
   refine On rfl ?_; refine Ca rfl (C0 h hl b _ fs.length Aa Aa _) ?_; rintro _ _ _ _ ⟨r2, rfl, rfl, rfl, hr2⟩
   have hr3 : r2 < fs.length := by omega
   have hfl : (fs.getD r2 []).length ≤ 4 := hfs _ (by rw [show fs.getD r2 [] = fs[r2] by simp [hr3]]; exact List.getElem_mem _)
   first | refine Bk rfl rfl _ rfl .free rfl ?_ | refine Bl rfl rfl _ rfl .free rfl ?_
   refine Gh rfl .free rfl ?_; refine Oa rfl (Ab (Ai (.tmp rfl .nil) ?_))
   exact ⟨J, _, ez, fun w h => Mem.sub (L' := rd b oa l c _ :: L) Bo h, fs.getD r2 [], _, rfl, by omega, by omega, by omega, rfl⟩
  intro c2
  try simp only [nb] at c2
  refine Aj (Ah (Se rfl (Om rfl (Od rfl rfl rfl (Ab ?_))))); refine Av rfl ?_ ?_
  ·intro c3
   try simp only [nb] at c3
   refine Se rfl (Om rfl ?_); refine Ol rfl rfl ?_; intro b57; refine Ej [[48], [49], [50], [51], [55], [45, 49], [52, 48, 48], [45, 57, 57, 57]] Ad Ad ?_; intro J2 e2 k2; refine Ca rfl (Ez (h.mono e2) hl b _ Aa k2 Af _) ?_; rintro _ _ _ _ ⟨s, rfl, hs9, rfl, rfl⟩
   have hs4 : s.length ≤ 4 := by revert s; decide
   refine Oa rfl (Ab (Ai (.tmp rfl .nil) ?_))
   exact ⟨J2, _, ez.trans e2, fun w h => Mem.sub (L' := rd b oa l c _ :: L) Bo h, s, _, rfl, by omega, by omega, by omega, rfl⟩
  intro c3
  try simp only [nb] at c3
  refine Aj (Se rfl (Om rfl ?_)); refine Ca rfl (Wn want Bz _ _) ?_; rintro _ J3 _ e3 ⟨rfl, rfl⟩; refine Om rfl (Oe rfl rfl (Oe rfl rfl (Oa rfl (Oa rfl (Ab (Ah (Se rfl (Om rfl ?_)))))))); refine Dl rfl .free rfl ?_; refine Ab ?_; refine Av rfl ?_ ?_
  ·intro c4
   try simp only [nb] at c4
   refine Se rfl (Oa rfl (Ab (Ai (.tmp rfl .nil) ?_)))
   exact ⟨J3, _, ez.trans e3, fun w h => Mem.sub (L' := rd b oa l c _ :: L) Bo h, [48], _, rfl, by decide, by omega, by omega, rfl⟩
  intro c4
  try simp only [nb] at c4
  refine Aj (Se rfl (Om rfl (Oa rfl (Ab (Ai (.tmp rfl .nil) ?_))))); refine ⟨J3, _, ez.trans e3, fun w h => Mem.sub (L' := rd b oa l c _ :: L) Bo h, (Qp want).getD [], _, rfl, ?_, by omega, by omega, rfl⟩
  cases ho : Qp want with
  | none => decide
  | some o => have := Adl ho; simp only [Option.getD_some]; omega
 intro g7_4
 iterate 3 refine Ch rfl rfl rfl ?_
 refine Of rfl rfl (Ab ?_); refine Ay rfl ?_; refine Aj (Ah (Se rfl (Om rfl (Od rfl rfl rfl (Ab ?_))))); refine Av rfl ?_ ?_
 ·intro c3
  try simp only [nb] at c3
  refine Se rfl (Om rfl ?_); refine Ol rfl rfl ?_; intro b57; refine Ej [[48], [49], [50], [51], [55], [45, 49], [52, 48, 48], [45, 57, 57, 57]] Ad Ad ?_; intro J2 e2 k2; refine Ca rfl (Ez (h.mono e2) hl b _ Aa k2 Af _) ?_; rintro _ _ _ _ ⟨s, rfl, hs9, rfl, rfl⟩
  have hs4 : s.length ≤ 4 := by revert s; decide
  refine Oa rfl (Ab (Ai (.tmp rfl .nil) ?_))
  exact ⟨J2, _, ez.trans e2, fun w h => Mem.sub (L' := rd b oa l c _ :: L) Bo h, s, _, rfl, by omega, by omega, by omega, rfl⟩
 intro c3
 try simp only [nb] at c3
 refine Aj (Se rfl (Om rfl ?_)); refine Ca rfl (Wn want Bz _ _) ?_; rintro _ J3 _ e3 ⟨rfl, rfl⟩; refine Om rfl (Oe rfl rfl (Oe rfl rfl (Oa rfl (Oa rfl (Ab (Ah (Se rfl (Om rfl ?_)))))))); refine Dl rfl .free rfl ?_; refine Ab ?_; refine Av rfl ?_ ?_
 ·intro c4
  try simp only [nb] at c4
  refine Se rfl (Oa rfl (Ab (Ai (.tmp rfl .nil) ?_)))
  exact ⟨J3, _, ez.trans e3, fun w h => Mem.sub (L' := rd b oa l c _ :: L) Bo h, [48], _, rfl, by decide, by omega, by omega, rfl⟩
 intro c4
 try simp only [nb] at c4
 refine Aj (Se rfl (Om rfl (Oa rfl (Ab (Ai (.tmp rfl .nil) ?_))))); refine ⟨J3, _, ez.trans e3, fun w h => Mem.sub (L' := rd b oa l c _ :: L) Bo h, (Qp want).getD [], _, rfl, ?_, by omega, by omega, rfl⟩
 cases ho : Qp want with
 | none => decide
 | some o => have := Adl ho; simp only [Option.getD_some]; omega
theorem Aaq {I : Heap} {oa : Option Addr} {l : List UInt8} {c : Nat} (h : Bytes I oa l c) (hl : l.length ≤ 2000) (b p : Nat) (hp : p + 4 ≤ 1099511627776) (L : Bh) :
  Fun Tryz.prog 165 [.pointer (some ⟨b, 0, none⟩)] I (rd b oa l c p :: L) (DT b oa l c p 4 200 L) := by
 refine Al Af ?_; refine Se rfl (Oa rfl (Ab (Se rfl (Om rfl ?_)))); refine Ol rfl rfl ?_; intro b5; refine Ej [[40, 43, 32, 120, 56, 32, 40, 99, 97, 108, 108, 32, 102, 56, 32, 40, 45, 32, 120, 56, 32, 49, 41, 41, 41], [40, 99, 97, 108, 108, 32, 102, 56, 32, 40, 45, 32, 120, 56, 32, 49, 41, 41], [40, 42, 32, 120, 56, 32, 40, 99, 97, 108, 108, 32, 102, 56, 32, 40, 45, 32, 120, 56, 32, 49, 41, 41, 41], [40, 45, 32, 48, 32, 40, 99, 97, 108, 108, 32, 102, 56, 32, 40, 45, 32, 120, 56, 32, 49, 41, 41, 41]] Ad Ad ?_; intro J1 e1 k1; refine Ca rfl (Ez (h.mono e1) hl b _ Aa k1 Af L) ?_
 rintro _ _ _ _ ⟨s, rfl, hs, rfl, rfl⟩
 have hsl : s.length ≤ 30 := by revert s; decide
 refine Oa rfl (Ab (Se rfl (Om rfl ?_))); refine Ol rfl rfl ?_; intro b8; refine Ej [[48], [49], [53]] Ad Ad ?_; intro J2 e2 k2; refine Ca rfl (Ez ((h.mono e1).mono e2) hl b _ Aa k2 Af L) ?_; rintro _ _ _ _ ⟨s2, rfl, hs2, rfl, rfl⟩
 have hsl2 : s2.length ≤ 1 := by revert s2; decide
 refine Ok rfl rfl ?_; refine Ok rfl rfl ?_; refine Om rfl ?_; refine Ok rfl rfl ?_; refine Ok rfl rfl ?_; refine Om rfl ?_; refine Ca rfl (C0 ((h.mono e1).mono e2) hl b _ 7 Aa Ad L) ?_; rintro _ _ _ _ ⟨r, rfl, rfl, rfl, hr⟩
 have hdl := Uh (n := r) Aa
 refine Ca rfl (Uw _ r (Nat.lt_succ_self _) Aa _ _) ?_; rintro _ _ _ _ ⟨rfl, rfl, rfl⟩; refine Ok rfl rfl ?_; refine Ok rfl rfl ?_; refine Oa rfl (Ab (Ai (.tmp rfl .nil) ?_))
 exact ⟨J2, _, e1.trans e2, fun _ h => h, _, _, rfl, Er, by omega, by omega, rfl⟩
def kE : Nat → Nat
 | 0 => 4
 | d + 1 => 3 * kE d + 60
def eT : Nat → Nat
 | 0 => 3300
 | d + 1 => 3 * eT d + 3000
theorem Acb : ∀ d, 3300 ≤ eT d
 | 0 => Nat.le_refl _
 | d + 1 => by have := Acb d; simp only [eT]; omega
def Vx (d : Nat) : Prop := ∀ {I : Heap} {oa : Option Addr} {l : List UInt8} {c : Nat} (_ : Bytes I oa l c) (_ : l.length ≤ 2000) (b p : Nat) (_ : p + kE d ≤ 1099511627776) {ns ts : List As} {o1 o2 : Option Addr} {c1 c2 : Nat} (_ : ScAt I ns ts o1 c1 o2 c2) (_ : ns.length + 4 * d ≤ 100) (want : As) (_ : want.length + 20 * d ≤ 1000) (L : Bh),
  Fun Tryz.prog 119 [.pointer (some ⟨b, 0, none⟩), .agg [.slice o1 ns.length c1, .slice o2 ts.length c2].toArray, .string (str want), .int .i64 (d : Nat)] I (rd b oa l c p :: L) (DT b oa l c p (kE d) (eT d) L)
theorem Q2 {d : Nat} (ih : Vx d) (hd : d ≤ 20) (ht : eT (d + 1) ≤ 1000000000) {I : Heap} {oa : Option Addr} {l : List UInt8} {c : Nat} (h : Bytes I oa l c) (hl : l.length ≤ 2000) (b p : Nat) (hp : p + (3 * kE d + 40) ≤ 1099511627776) {ns ts : List As} {o1 o2 : Option Addr} {c1 c2 : Nat} (hs : ScAt I ns ts o1 c1 o2 c2) (hn : ns.length + 4 * (d + 1) ≤ 100) (want : As) (hw : want.length + 20 * (d + 1) ≤ 1000) (L : Bh) :
  Fun Tryz.prog 166 [.pointer (some ⟨b, 0, none⟩), .agg [.slice o1 ns.length c1, .slice o2 ts.length c2].toArray, .string (str want), .int .i64 ((d + 1 : Nat))] I (rd b oa l c p :: L) (DT b oa l c p (3 * kE d + 40) (3 * eT d + 3000) L) := by
 simp only [eT] at ht
 have hge := Acb d
 obtain ⟨q1, q2⟩ := Adu (E4 [42] want) [42] want rfl; obtain ⟨q3, q4⟩ := Adu (E4 [62] want) [62] want rfl
 have hle : HLe I I := .refl _
 have hlr : HLe I I := .refl _
 refine Al Af ?_; refine Se rfl ?_; refine Cc rfl rfl .free rfl ?_; intro b5; refine Oa rfl (Ab (Ah ?_)); refine Ck (fun w h => h.f1) ?_; refine Ao rfl (Om rfl ?_); refine Ca rfl (Yh want Bz _ _) ?_; rintro _ J _ e ⟨rfl, rfl⟩
 have h := h.mono e
 have hs := hs.mono e
 have hle := hle.trans e
 have hlr := hlr.trans e
 refine Om rfl ?_
 iterate 3 refine Oe rfl rfl ?_
 iterate 3 refine Oa rfl ?_
 refine Ab (Se rfl (Om rfl ?_)); refine Ca rfl (Aal want Bz _ _) ?_; rintro _ J _ e ⟨rfl, rfl⟩
 have h := h.mono e
 have hs := hs.mono e
 have hle := hle.trans e
 have hlr := hlr.trans e
 refine Om rfl ?_
 iterate 3 refine Oe rfl rfl ?_
 iterate 3 refine Oa rfl ?_
 refine Ab (Se rfl (Om rfl ?_)); refine Or rfl rfl rfl ?_; refine Oa rfl (Ab (Ah (Ar (Ah ?_)))); refine Kv (t := 15) (v' := .int .i64 (d : Nat)) rfl Ed ?_; refine Ao rfl (Om rfl (Oa rfl (Ab ?_))); refine Av rfl ?_ ?_
 ·intro c0
  try simp only [nb] at c0
  refine Ah ?_; refine Mh fun hlr => ?_
  refine M3 15 rfl rfl ?_; refine Da 0 rfl (Ak rfl) ?_; refine Dt 1 [15] rfl (Co rfl) ?_; refine Da 2 rfl (Ak rfl) ?_; refine Da 3 rfl (Ak rfl) ?_; refine Da 7 rfl (Ak rfl) ?_; refine Dt 8 [15] rfl (Co rfl) ?_; refine Da 9 rfl (Ak rfl) ?_; refine Da 10 rfl (Ak rfl) ?_; refine Dc 4 rfl rfl (ih h hl b _ Aa hs Aa _ Fp _) ?_; rintro _ J _ e ⟨s1, p1, rfl, hs1, hp1, hp2, rfl⟩
  have h := h.mono e
  have hs := hs.mono e
  have hle := hle.trans e
  have hlr := hlr.trans e
  refine Hx ?_; refine Da 5 rfl (Yk rfl rfl) ?_; refine Da 6 rfl (Yk rfl rfl) ?_; refine Dc 11 rfl rfl (ih h hl b _ Aa hs Aa _ Fp _) ?_; rintro _ J _ e ⟨s1, p1, rfl, hs1, hp1, hp2, rfl⟩
  have h := h.mono e
  have hs := hs.mono e
  have hle := hle.trans e
  have hlr := hlr.trans e
  refine Hx ?_; refine Da 12 rfl (Yk rfl rfl) ?_; refine Da 13 rfl (Yk rfl rfl) ?_; refine Da 14 rfl (At rfl) ?_; refine A5 Ae ?_; refine Ai (.tmp rfl .nil) ?_
  exact ⟨_, _, hle, fun w h => Mem.sub (L' := rd b oa l c _ :: L) Bo h, _, _, rfl, Er, by omega, by omega, rfl⟩
 intro c0
 try simp only [nb] at c0
 refine Se rfl (Om rfl (Oa rfl (Ab ?_))); refine Av rfl ?_ ?_
 ·intro c1
  try simp only [nb] at c1
  refine Se rfl (Om rfl ?_); refine Ol rfl rfl ?_; intro b52; refine Ej [[102], [103], [102, 49]] Ad Ad ?_; intro J1 e1 k1
  have h := h.mono e1
  have hs := hs.mono e1
  have hle := hle.trans e1
  refine Ca rfl (Ez h hl b _ Aa k1 Af _) ?_; rintro _ _ _ _ ⟨nf, rfl, hnf, rfl, rfl⟩
  have hnfl : nf.length ≤ 2 := by revert nf; decide
  refine Oa rfl (Ab (Se rfl (Om rfl ?_))); refine Ol rfl rfl ?_; intro b55; refine Ej [[120], [122], [120, 50]] Ad Ad ?_; intro J1 e1 k1
  have h := h.mono e1
  have hs := hs.mono e1
  have hle := hle.trans e1
  refine Ca rfl (Ez h hl b _ Aa k1 Af _) ?_; rintro _ _ _ _ ⟨nx, rfl, hnx, rfl, rfl⟩
  have hnxl : nx.length ≤ 2 := by revert nx; decide
  refine Oa rfl (Ab (Se rfl ?_)); refine Bq rfl .free rfl ?_; refine Om rfl (Om rfl ?_); refine Ca rfl (La hs nx (t1 (E4 [62] want)) Aa Aa Aa _) ?_; rintro _ J2 _ e2 ⟨o3, c3, o4, c4, rfl, hs2, rfl⟩
  have h := h.mono e2
  have hs := hs.mono e2
  have hle := hle.trans e2
  refine A3 .free rfl ?_; intro b18; refine Bu rfl rfl rfl rfl .free ?_; refine Fl (fun w h => h.f1) ?_; refine Ab (Ah (Se rfl (Om rfl ?_))); refine Ca rfl (C0 h hl b _ 6 Aa Ad _) ?_; rintro _ _ _ _ ⟨r, rfl, rfl, rfl, hr⟩; refine Oc rfl rfl rfl (Ab ?_); refine Av rfl ?_ ?_
  ·intro c2
   try simp only [nb] at c2
   refine Ao rfl ?_; refine Bq rfl .free rfl ?_; refine Om rfl (Om rfl ?_); refine Ca rfl (La hs nf want Aa Aa Aa _) ?_; rintro _ J3 _ e3 ⟨o5, c5, o6, c6, rfl, hs3, rfl⟩
   have h := h.mono e3
   have hle := hle.trans e3
   refine Om rfl (Om rfl ?_); refine Ca rfl (La hs3 nx (t1 (E4 [62] want)) Aa Aa Ci _) ?_; rintro _ J4 _ e4 ⟨o7, c7, o8, c8, rfl, hs4, rfl⟩
   have h := h.mono e4
   have hle := hle.trans e4
   refine Bu rfl rfl rfl rfl .free ?_; refine Ab (Se rfl (Om rfl ?_)); refine Ok rfl rfl ?_; refine Ok rfl rfl ?_; refine Om rfl ?_; refine Ok rfl rfl ?_; refine Ok rfl rfl ?_; refine Om rfl ?_; refine Ok rfl rfl ?_; refine Ok rfl rfl ?_; refine Om rfl ?_; refine Ok rfl rfl ?_; refine Ok rfl rfl ?_; refine Om rfl ?_; refine Bq rfl .free rfl ?_; refine Om rfl (Om rfl ?_); refine Ca rfl (by first | exact ih h hl b _ Aa hs4 Ci _ Aa _ | exact ih h hl b _ Aa hs2 Ci _ Aa _) ?_; rintro _ J _ e ⟨s1, p1, rfl, hs1, hp1, hp2, rfl⟩
   have h := h.mono e
   have hle := hle.trans e
   refine Ok rfl rfl ?_; refine Ok rfl rfl ?_; refine Oa rfl (Ab (Ai (.tmp rfl .nil) ?_))
   exact ⟨_, _, hle, fun w h => Mem.sub (L' := rd b oa l c _ :: L) Bo h, _, _, rfl, Er, by omega, by omega, rfl⟩
  intro c2
  try simp only [nb] at c2
  refine Aj (Se rfl (Om rfl ?_)); refine Ok rfl rfl ?_; refine Ok rfl rfl ?_; refine Om rfl ?_; refine Ok rfl rfl ?_; refine Ok rfl rfl ?_; refine Om rfl ?_; refine Ok rfl rfl ?_; refine Ok rfl rfl ?_; refine Om rfl ?_; refine Ok rfl rfl ?_; refine Ok rfl rfl ?_; refine Om rfl ?_; refine Bq rfl .free rfl ?_; refine Om rfl (Om rfl ?_); refine Ca rfl (by first | exact ih h hl b _ Aa hs4 Ci _ Aa _ | exact ih h hl b _ Aa hs2 Ci _ Aa _) ?_; rintro _ J _ e ⟨s1, p1, rfl, hs1, hp1, hp2, rfl⟩
  have h := h.mono e
  have hle := hle.trans e
  refine Ok rfl rfl ?_; refine Ok rfl rfl ?_; refine Oa rfl (Ab (Ai (.tmp rfl .nil) ?_))
  exact ⟨_, _, hle, fun w h => Mem.sub (L' := rd b oa l c _ :: L) Bo h, _, _, rfl, Er, by omega, by omega, rfl⟩
 intro c1
 try simp only [nb] at c1
 refine Se rfl (Om rfl (Od rfl rfl rfl (Om rfl ?_)))
 first | refine G0 rfl rfl ?_ ?_ | refine E3 rfl rfl ?_ ?_ | refine Ly rfl rfl ?_ ?_
 ·intro g13_3; refine Ow rfl ?_; refine Cv rfl (.met rfl rfl) rfl (C0 h hl b _ 3 Aa Ad _) ?_; rintro _ _ _ _ ⟨r, rfl, rfl, rfl, hr⟩; refine Dp rfl rfl rfl (.met rfl rfl) rfl ?_; refine Ot rfl rfl (Oa rfl (Ab ?_)); refine Av rfl ?_ ?_
  ·intro c3
   try simp only [nb] at c3
   refine Ah ?_; refine Mh fun hlr => ?_
   refine M3 18 rfl rfl ?_; refine Da 0 rfl (Ak rfl) ?_; refine Da 5 rfl (Ak rfl) ?_; refine Dt 6 [18] rfl (Co rfl) ?_; refine Da 7 rfl (Ak rfl) ?_; refine Da 11 rfl (Ak rfl) ?_; refine Dt 12 [18] rfl (Co rfl) ?_; refine Da 13 rfl (Ak rfl) ?_; refine E8 1 rfl Ae rfl rfl rfl Ac Ac Ac Ad Ad Ac .free rfl (.inr Ax) ?_; intro b99; refine D2 ?_; intro hz
   have hk := O5 (l := [[43], [45], [42]]) (b := b99) (I := J) (e := 9) Ad Ad
   have h := h.mono hz
   have hs := hs.mono hz
   have hle := hle.trans hz
   have hlr := hlr.trans hz
   refine Dc 2 rfl rfl (Ez h hl b _ Aa hk Af _) ?_; rintro _ _ _ _ ⟨op, rfl, hop, rfl, rfl⟩
   have hopl : op.length ≤ 1 := by revert op; decide
   refine Hx ?_; refine Da 3 rfl (Yk rfl rfl) ?_; refine Da 4 rfl (Yk rfl rfl) ?_; refine Dc 8 rfl rfl (ih h hl b _ Aa hs Aa _ Fp _) ?_; rintro _ J _ e ⟨s1, p1, rfl, hs1, hp1, hp2, rfl⟩
   have h := h.mono e
   have hs := hs.mono e
   have hle := hle.trans e
   have hlr := hlr.trans e
   refine Hx ?_; refine Da 9 rfl (Yk rfl rfl) ?_; refine Da 10 rfl (Yk rfl rfl) ?_; refine Dc 14 rfl rfl (ih h hl b _ Aa hs Aa _ Fp _) ?_; rintro _ J _ e ⟨s1, p1, rfl, hs1, hp1, hp2, rfl⟩
   have h := h.mono e
   have hs := hs.mono e
   have hle := hle.trans e
   have hlr := hlr.trans e
   refine Hx ?_; refine Da 15 rfl (Yk rfl rfl) ?_; refine Da 16 rfl (Yk rfl rfl) ?_; refine Da 17 rfl (At rfl) ?_; refine A5 Ae ?_; refine Ai (.tmp rfl .nil) ?_
   exact ⟨_, _, hle, fun w h => Mem.sub (L' := rd b oa l c _ :: L) Bo h, _, _, rfl, Er, by omega, by omega, rfl⟩
  intro c3
  try simp only [nb] at c3
  refine Aj (Aq (Se rfl (Om rfl ?_))); refine Bq rfl .free rfl ?_; refine Om rfl ?_; refine Ca rfl (Pi h hl b _ Aa hs Aa want Aa _) ?_; rintro _ J _ e ⟨s1, p1, rfl, hs1, hp1, hp2, rfl⟩
  have hle := hle.trans e
  refine Oa rfl (Ab (Ai (.tmp rfl .nil) ?_))
  exact ⟨_, _, hle, fun w h => Mem.sub (L' := rd b oa l c _ :: L) Bo h, _, _, rfl, by omega, by omega, by omega, rfl⟩
 intro g13_3
 iterate 3 refine Ch rfl rfl rfl ?_
 refine Of rfl rfl (Oa rfl (Ab ?_)); refine Ay rfl ?_; refine Aj (Aq (Se rfl (Om rfl ?_))); refine Bq rfl .free rfl ?_; refine Om rfl ?_; refine Ca rfl (Pi h hl b _ Aa hs Aa want Aa _) ?_; rintro _ J _ e ⟨s1, p1, rfl, hs1, hp1, hp2, rfl⟩
 have hle := hle.trans e
 refine Oa rfl (Ab (Ai (.tmp rfl .nil) ?_))
 exact ⟨_, _, hle, fun w h => Mem.sub (L' := rd b oa l c _ :: L) Bo h, _, _, rfl, by omega, by omega, by omega, rfl⟩
theorem Aaf : Vx 0 := by
 intro I oa l c h hl b p hp ns ts o1 o2 c1 c2 hs hn want hw L; refine Al Af ?_; refine Se rfl ?_; refine Cc rfl rfl .free rfl ?_; intro b5; refine Oa rfl (Ab (Ah (Ah ?_))); refine Ck (fun w h => h.f1) ?_; refine Ao rfl (Om rfl (Oc rfl rfl rfl (Ab ?_)))
 first | refine Sr rfl Ac ?_ | refine Sq rfl Ac ?_ | refine Bs Am ?_
 refine Se rfl (Om rfl ?_); refine Bq rfl .free rfl ?_; refine Om rfl ?_; refine Ca rfl (Pi h hl b _ hp hs Aa want Aa _) ?_; rintro _ J _ e ⟨s1, p1, rfl, hs1, hp1, hp2, rfl⟩; refine Oa rfl (Ab (Ai (.tmp rfl .nil) ?_))
 exact ⟨J, _, e, fun w h => Mem.sub (L' := rd b oa l c _ :: L) Bo h, _, _, rfl, hs1, hp1, hp2, rfl⟩
set_option maxHeartbeats 1000000 in
theorem Aae {d : Nat} (ih : Vx d) (hd : d ≤ 20) (ht : eT (d + 1) ≤ 1000000000) : Vx (d + 1) := by
 intro I oa l c h hl b p hp ns ts o1 o2 c1 c2 hs hn want hw L
 have ht0 := ht
 simp only [eT, kE] at ht hp ⊢
 have hge := Acb d
 have hle : HLe I I := .refl _
 have hlr : HLe I I := .refl _
 have hb1 : bT 1 = 7 := rfl
 have hk1 : kT 1 = 2 := rfl
 refine Al Af ?_; refine Se rfl ?_; refine Cc rfl rfl .free rfl ?_; intro b5; refine Oa rfl (Ab (Ah (Ah ?_))); refine Ck (fun w h => h.f1) ?_; refine Ao rfl (Om rfl (Oc rfl rfl rfl (Ab ?_)))
 first | refine Sf rfl Aa ?_ | refine Ay Am ?_
 refine Aj (Se rfl (Om rfl ?_)); refine Or rfl rfl rfl ?_; refine Oa rfl (Ab (Ah (Ah ?_))); refine Kv (t := 9) (v' := .int .i64 (d : Nat)) rfl Ed ?_; refine Ao rfl (Om rfl ?_); refine Ca rfl (C0 h hl b _ 12 Aa Ad _) ?_; rintro _ _ _ _ ⟨r, rfl, rfl, rfl, hr⟩; refine Ab (Ar (Se rfl (Oc rfl rfl rfl (Oa rfl (Ab ?_))))); refine Av rfl ?_ ?_
 ·intro c1
  try simp only [nb] at c1
  refine Ah ?_; refine Mh fun hlr => ?_
  refine M3 21 rfl rfl ?_; refine Da 0 rfl (Ak rfl) ?_; refine Dt 1 [21] rfl (Co rfl) ?_; refine Da 2 rfl (Ak rfl) ?_; refine Da 6 rfl (Ak rfl) ?_; refine Dt 7 [21] rfl (Co rfl) ?_; refine Da 8 rfl (Ak rfl) ?_; refine Da 9 rfl (Ak rfl) ?_; refine Da 13 rfl (Ak rfl) ?_; refine Dt 14 [21] rfl (Co rfl) ?_; refine Da 15 rfl (Ak rfl) ?_; refine Da 16 rfl (Ak rfl) ?_; refine Dc 3 rfl rfl (ih h hl b _ Aa hs Aa _ Fp _) ?_; rintro _ J _ e ⟨s1, p1, rfl, hs1, hp1, hp2, rfl⟩
  have h := h.mono e
  have hs := hs.mono e
  have hle := hle.trans e
  have hlr := hlr.trans e
  refine Hx ?_; refine Da 4 rfl (Yk rfl rfl) ?_; refine Da 5 rfl (Yk rfl rfl) ?_; refine Dc 10 rfl rfl (ih h hl b _ Aa hs Aa _ Fp _) ?_; rintro _ J _ e ⟨s1, p1, rfl, hs1, hp1, hp2, rfl⟩
  have h := h.mono e
  have hs := hs.mono e
  have hle := hle.trans e
  have hlr := hlr.trans e
  refine Hx ?_; refine Da 11 rfl (Yk rfl rfl) ?_; refine Da 12 rfl (Yk rfl rfl) ?_; refine Dc 17 rfl rfl (ih h hl b _ Aa hs Aa _ Fp _) ?_; rintro _ J _ e ⟨s1, p1, rfl, hs1, hp1, hp2, rfl⟩
  have h := h.mono e
  have hs := hs.mono e
  have hle := hle.trans e
  have hlr := hlr.trans e
  refine Hx ?_; refine Da 18 rfl (Yk rfl rfl) ?_; refine Da 19 rfl (Yk rfl rfl) ?_; refine Da 20 rfl (At rfl) ?_; refine A5 Ae ?_; refine Ai (.tmp rfl .nil) ?_
  exact ⟨_, _, hle, fun w h => Mem.sub (L' := rd b oa l c _ :: L) Bo h, _, _, rfl, Er, by omega, by omega, rfl⟩
 intro c1
 try simp only [nb] at c1
 refine Ah (Se rfl (Oc rfl rfl rfl (Oa rfl (Ab ?_)))); refine Av rfl ?_ ?_
 ·intro c2
  try simp only [nb] at c2
  refine Aj ?_
  first | refine St rfl (by first | assumption | omega) ?_ | refine Bs Am ?_
  refine Se rfl (Om rfl ?_); refine Ca rfl (Lb 1 h hl b _ Aa Ad Ad _) ?_; rintro _ J _ e ⟨kd, pk, rfl, hkd, hpk1, hpk2, rfl⟩
  have h := h.mono e
  have hs := hs.mono e
  have hle := hle.trans e
  have hlr := hlr.trans e
  refine Oa rfl (Ab (Se rfl (Om rfl ?_))); refine Ol rfl rfl ?_; intro b51; refine Ej [[97], [98], [99], [120, 49], [121, 48]] Ad Ad ?_; intro J1 e1 k1
  have h := h.mono e1
  have hs := hs.mono e1
  have hle := hle.trans e1
  refine Ca rfl (Ez h hl b _ Aa k1 Af _) ?_; rintro _ _ _ _ ⟨nx, rfl, hnx, rfl, rfl⟩
  have hnxl : nx.length ≤ 2 := by revert nx; decide
  refine Oa rfl (Ab (Ah ?_)); refine Mh fun hlr => ?_
  refine M3 21 rfl rfl ?_; refine Da 0 rfl (Ak rfl) ?_; refine Da 1 rfl (Yk rfl rfl) ?_; refine Da 2 rfl (Yk rfl rfl) ?_; refine Da 3 rfl (Ak rfl) ?_; refine Dt 4 [21] rfl (Co rfl) ?_; refine Da 5 rfl (Ak rfl) ?_; refine Da 6 rfl (Ak rfl) ?_; refine Da 10 rfl (Ak rfl) ?_; refine Dt 11 [21] rfl (Co rfl) ?_; refine Da 12 rfl (Ak rfl) ?_; refine Da 13 rfl (Ak rfl) ?_; refine Da 15 rfl (Ak rfl) ?_; refine Da 16 rfl (Ak rfl) ?_; refine Dc 7 rfl rfl (ih h hl b _ Aa hs Aa _ Fp _) ?_; rintro _ J _ e ⟨s1, p1, rfl, hs1, hp1, hp2, rfl⟩
  have h := h.mono e
  have hs := hs.mono e
  have hle := hle.trans e
  have hlr := hlr.trans e
  refine Hx ?_; refine Da 8 rfl (Yk rfl rfl) ?_; refine Da 9 rfl (Yk rfl rfl) ?_; refine Dc 14 rfl rfl (La hs nx kd Aa Aa Aa _) ?_; rintro _ J2 _ e2 ⟨o3, c3, o4, c4, rfl, hs2, rfl⟩
  have h := h.mono e2
  have hle := hle.trans e2
  have hlr := hlr.trans e2
  refine Hx ?_; refine Dc 17 rfl rfl (ih h hl b _ Aa hs2 Ci _ Aa _) ?_; rintro _ J _ e ⟨s1, p1, rfl, hs1, hp1, hp2, rfl⟩
  have hle := hle.trans e
  have hlr := hlr.trans e
  refine Hx ?_; refine Da 18 rfl (Yk rfl rfl) ?_; refine Da 19 rfl (Yk rfl rfl) ?_; refine Da 20 rfl (At rfl) ?_; refine A5 Ae ?_; refine Ai (.tmp rfl .nil) ?_
  exact ⟨_, _, hle, fun w h => Mem.sub (L' := rd b oa l c _ :: L) Bo h, _, _, rfl, Er, by omega, by omega, rfl⟩
 intro c2
 try simp only [nb] at c2
 refine Ao rfl (Oc rfl rfl rfl (Oa rfl (Ab ?_))); refine Av rfl ?_ ?_
 ·intro c3
  try simp only [nb] at c3
  refine Se rfl (Om rfl ?_); refine Ca rfl (Lb 1 h hl b _ Aa Ad Ad _) ?_; rintro _ J _ e ⟨kd, pk, rfl, hkd, hpk1, hpk2, rfl⟩
  have h := h.mono e
  have hs := hs.mono e
  have hle := hle.trans e
  have hlr := hlr.trans e
  refine Oa rfl (Ab (Se rfl (Om rfl ?_))); refine Ol rfl rfl ?_; intro b51; refine Ej [[97], [98], [99], [120, 49], [121, 48]] Ad Ad ?_; intro J1 e1 k1
  have h := h.mono e1
  have hs := hs.mono e1
  have hle := hle.trans e1
  refine Ca rfl (Ez h hl b _ Aa k1 Af _) ?_; rintro _ _ _ _ ⟨nx, rfl, hnx, rfl, rfl⟩
  have hnxl : nx.length ≤ 2 := by revert nx; decide
  refine Oa rfl (Ab (Ah ?_)); refine Mh fun hlr => ?_
  refine M3 21 rfl rfl ?_; refine Da 0 rfl (Ak rfl) ?_; refine Da 1 rfl (Yk rfl rfl) ?_; refine Da 2 rfl (Yk rfl rfl) ?_; refine Da 3 rfl (Ak rfl) ?_; refine Dt 4 [21] rfl (Co rfl) ?_; refine Da 5 rfl (Ak rfl) ?_; refine Da 6 rfl (Ak rfl) ?_; refine Da 10 rfl (Ak rfl) ?_; refine Dt 11 [21] rfl (Co rfl) ?_; refine Da 12 rfl (Ak rfl) ?_; refine Da 13 rfl (Ak rfl) ?_; refine Da 15 rfl (Ak rfl) ?_; refine Da 16 rfl (Ak rfl) ?_; refine Dc 7 rfl rfl (ih h hl b _ Aa hs Aa _ Fp _) ?_; rintro _ J _ e ⟨s1, p1, rfl, hs1, hp1, hp2, rfl⟩
  have h := h.mono e
  have hs := hs.mono e
  have hle := hle.trans e
  have hlr := hlr.trans e
  refine Hx ?_; refine Da 8 rfl (Yk rfl rfl) ?_; refine Da 9 rfl (Yk rfl rfl) ?_; refine Dc 14 rfl rfl (La hs nx kd Aa Aa Aa _) ?_; rintro _ J2 _ e2 ⟨o3, c3, o4, c4, rfl, hs2, rfl⟩
  have h := h.mono e2
  have hle := hle.trans e2
  have hlr := hlr.trans e2
  refine Hx ?_; refine Dc 17 rfl rfl (ih h hl b _ Aa hs2 Ci _ Aa _) ?_; rintro _ J _ e ⟨s1, p1, rfl, hs1, hp1, hp2, rfl⟩
  have hle := hle.trans e
  have hlr := hlr.trans e
  refine Hx ?_; refine Da 18 rfl (Yk rfl rfl) ?_; refine Da 19 rfl (Yk rfl rfl) ?_; refine Da 20 rfl (At rfl) ?_; refine A5 Ae ?_; refine Ai (.tmp rfl .nil) ?_
  exact ⟨_, _, hle, fun w h => Mem.sub (L' := rd b oa l c _ :: L) Bo h, _, _, rfl, Er, by omega, by omega, rfl⟩
 intro c3
 try simp only [nb] at c3
 refine Ah (Se rfl (Oc rfl rfl rfl (Oa rfl (Ab ?_)))); refine Av rfl ?_ ?_
 ·intro c4
  try simp only [nb] at c4
  refine Aj ?_
  first | refine St rfl (by first | assumption | omega) ?_ | refine Bs Am ?_
  refine Se rfl (Om rfl ?_); refine Ca rfl (Lb 1 h hl b _ Aa Ad Ad _) ?_; rintro _ J _ e ⟨kd, pk, rfl, hkd, hpk1, hpk2, rfl⟩
  have h := h.mono e
  have hs := hs.mono e
  have hle := hle.trans e
  have hlr := hlr.trans e
  refine Oa rfl (Ab (Ah ?_)); refine Mh fun hlr => ?_
  refine M3 20 rfl rfl ?_; refine Da 0 rfl (Ak rfl) ?_; refine Dt 1 [20] rfl (Co rfl) ?_; refine Da 2 rfl (Ak rfl) ?_; refine Da 3 rfl (Yk rfl rfl) ?_; refine Da 4 rfl (Yk rfl rfl) ?_; refine Da 5 rfl (Ak rfl) ?_; refine Da 6 rfl (Yk rfl rfl) ?_; refine Da 7 rfl (Yk rfl rfl) ?_; refine Da 8 rfl (Ak rfl) ?_; refine Da 12 rfl (Ak rfl) ?_; refine Dt 13 [20] rfl (Co rfl) ?_; refine Da 14 rfl (Ak rfl) ?_; refine Da 15 rfl (Ak rfl) ?_; refine Dc 9 rfl rfl (ih h hl b _ Aa hs Aa _ Fp _) ?_; rintro _ J _ e ⟨s1, p1, rfl, hs1, hp1, hp2, rfl⟩
  have h := h.mono e
  have hs := hs.mono e
  have hle := hle.trans e
  have hlr := hlr.trans e
  refine Hx ?_; refine Da 10 rfl (Yk rfl rfl) ?_; refine Da 11 rfl (Yk rfl rfl) ?_; refine Dc 16 rfl rfl (ih h hl b _ Aa hs Aa _ Fp _) ?_; rintro _ J _ e ⟨s1, p1, rfl, hs1, hp1, hp2, rfl⟩
  have h := h.mono e
  have hs := hs.mono e
  have hle := hle.trans e
  have hlr := hlr.trans e
  refine Hx ?_; refine Da 17 rfl (Yk rfl rfl) ?_; refine Da 18 rfl (Yk rfl rfl) ?_; refine Da 19 rfl (At rfl) ?_; refine A5 Ae ?_; refine Ai (.tmp rfl .nil) ?_
  exact ⟨_, _, hle, fun w h => Mem.sub (L' := rd b oa l c _ :: L) Bo h, _, _, rfl, Er, by omega, by omega, rfl⟩
 intro c4
 try simp only [nb] at c4
 refine Ao rfl (Oc rfl rfl rfl (Oa rfl (Ab ?_))); refine Av rfl ?_ ?_
 ·intro c5
  try simp only [nb] at c5
  refine Se rfl (Om rfl ?_); refine Ca rfl (Lb 1 h hl b _ Aa Ad Ad _) ?_; rintro _ J _ e ⟨kd, pk, rfl, hkd, hpk1, hpk2, rfl⟩
  have h := h.mono e
  have hs := hs.mono e
  have hle := hle.trans e
  have hlr := hlr.trans e
  refine Oa rfl (Ab (Ah ?_)); refine Mh fun hlr => ?_
  refine M3 20 rfl rfl ?_; refine Da 0 rfl (Ak rfl) ?_; refine Dt 1 [20] rfl (Co rfl) ?_; refine Da 2 rfl (Ak rfl) ?_; refine Da 3 rfl (Yk rfl rfl) ?_; refine Da 4 rfl (Yk rfl rfl) ?_; refine Da 5 rfl (Ak rfl) ?_; refine Da 6 rfl (Yk rfl rfl) ?_; refine Da 7 rfl (Yk rfl rfl) ?_; refine Da 8 rfl (Ak rfl) ?_; refine Da 12 rfl (Ak rfl) ?_; refine Dt 13 [20] rfl (Co rfl) ?_; refine Da 14 rfl (Ak rfl) ?_; refine Da 15 rfl (Ak rfl) ?_; refine Dc 9 rfl rfl (ih h hl b _ Aa hs Aa _ Fp _) ?_; rintro _ J _ e ⟨s1, p1, rfl, hs1, hp1, hp2, rfl⟩
  have h := h.mono e
  have hs := hs.mono e
  have hle := hle.trans e
  have hlr := hlr.trans e
  refine Hx ?_; refine Da 10 rfl (Yk rfl rfl) ?_; refine Da 11 rfl (Yk rfl rfl) ?_; refine Dc 16 rfl rfl (ih h hl b _ Aa hs Aa _ Fp _) ?_; rintro _ J _ e ⟨s1, p1, rfl, hs1, hp1, hp2, rfl⟩
  have h := h.mono e
  have hs := hs.mono e
  have hle := hle.trans e
  have hlr := hlr.trans e
  refine Hx ?_; refine Da 17 rfl (Yk rfl rfl) ?_; refine Da 18 rfl (Yk rfl rfl) ?_; refine Da 19 rfl (At rfl) ?_; refine A5 Ae ?_; refine Ai (.tmp rfl .nil) ?_
  exact ⟨_, _, hle, fun w h => Mem.sub (L' := rd b oa l c _ :: L) Bo h, _, _, rfl, Er, by omega, by omega, rfl⟩
 intro c5
 try simp only [nb] at c5
 refine Se rfl (Oc rfl rfl rfl (Oa rfl (Ab ?_))); refine Av rfl ?_ ?_
 ·intro c6
  try simp only [nb] at c6
  refine Se rfl (Om rfl ?_); refine Bq rfl .free rfl ?_; refine Om rfl ?_; refine Ok rfl rfl ?_; refine Ok rfl rfl ?_; refine Om rfl ?_; refine Ca rfl (ih h hl b _ Aa hs Aa _ Fp _) ?_; rintro _ J _ e ⟨s1, p1, rfl, hs1, hp1, hp2, rfl⟩
  have h := h.mono e
  have hs := hs.mono e
  have hle := hle.trans e
  have hlr := hlr.trans e
  refine Ok rfl rfl ?_; refine Ok rfl rfl ?_; refine Oa rfl (Ab (Ai (.tmp rfl .nil) ?_))
  exact ⟨_, _, hle, fun w h => Mem.sub (L' := rd b oa l c _ :: L) Bo h, _, _, rfl, Er, by omega, by omega, rfl⟩
 intro c6
 try simp only [nb] at c6
 refine Se rfl (Oc rfl rfl rfl (Oa rfl (Ab ?_))); refine Av rfl ?_ ?_
 ·intro c7
  try simp only [nb] at c7
  refine Se rfl (Om rfl ?_); refine Bq rfl .free rfl ?_; refine Om rfl ?_; refine Ok rfl rfl ?_; refine Ok rfl rfl ?_; refine Om rfl ?_; refine Ca rfl (ih h hl b _ Aa hs Aa _ Fp _) ?_; rintro _ J _ e ⟨s1, p1, rfl, hs1, hp1, hp2, rfl⟩
  have h := h.mono e
  have hs := hs.mono e
  have hle := hle.trans e
  have hlr := hlr.trans e
  refine Ok rfl rfl ?_; refine Ok rfl rfl ?_; refine Oa rfl (Ab (Ai (.tmp rfl .nil) ?_))
  exact ⟨_, _, hle, fun w h => Mem.sub (L' := rd b oa l c _ :: L) Bo h, _, _, rfl, Er, by omega, by omega, rfl⟩
 intro c7
 try simp only [nb] at c7
 refine Se rfl (Oc rfl rfl rfl (Oa rfl (Ab ?_))); refine Av rfl ?_ ?_
 ·intro c8
  try simp only [nb] at c8
  refine Se rfl (Om rfl (Od rfl rfl rfl (Ab ?_))); refine Av rfl ?_ ?_
  ·intro c9
   try simp only [nb] at c9
   refine Se rfl (Om rfl ?_); refine Ca rfl (Aaq h hl b _ Aa _) ?_; rintro _ J _ e ⟨s1, p1, rfl, hs1, hp1, hp2, rfl⟩
   have hle := hle.trans e
   refine Oa rfl (Ab (Ai (.tmp rfl .nil) ?_))
   exact ⟨_, _, hle, fun w h => Mem.sub (L' := rd b oa l c _ :: L) Bo h, _, _, rfl, Er, by omega, by omega, rfl⟩
  intro c9
  try simp only [nb] at c9
  refine Aj (Aq (Se rfl (Om rfl ?_))); refine Bq rfl .free rfl ?_; refine Om rfl (Om rfl ?_); refine Ca rfl (Q2 ih hd ht0 h hl b _ Aa hs Aa want Aa _) ?_; rintro _ J _ e ⟨s1, p1, rfl, hs1, hp1, hp2, rfl⟩
  have hle := hle.trans e
  refine Oa rfl (Ab (Ai (.tmp rfl .nil) ?_))
  exact ⟨_, _, hle, fun w h => Mem.sub (L' := rd b oa l c _ :: L) Bo h, _, _, rfl, Er, by omega, by omega, rfl⟩
 intro c8
 try simp only [nb] at c8
 refine Aj (Aq (Se rfl (Om rfl ?_))); refine Bq rfl .free rfl ?_; refine Om rfl (Om rfl ?_); refine Ca rfl (Q2 ih hd ht0 h hl b _ Aa hs Aa want Aa _) ?_; rintro _ J _ e ⟨s1, p1, rfl, hs1, hp1, hp2, rfl⟩
 have hle := hle.trans e
 refine Oa rfl (Ab (Ai (.tmp rfl .nil) ?_))
 exact ⟨_, _, hle, fun w h => Mem.sub (L' := rd b oa l c _ :: L) Bo h, _, _, rfl, Er, by omega, by omega, rfl⟩
theorem Wd : ∀ d, d ≤ 4 → Vx d
 | 0, _ => Aaf
 | d + 1, h => Aae (Wd d (by omega)) (by omega) (by
   have : ∀ d, d ≤ 4 → eT d ≤ 1000000000 := by decide
   exact this _ h)
theorem Mu {d : Nat} (hd : d ≤ 4) {I : Heap} {oa : Option Addr} {l : List UInt8} {c : Nat} (h : Bytes I oa l c) (hl : l.length ≤ 2000) (b p : Nat) (hp : p + 3000 ≤ 1099511627776) {ns ts : List As} {o1 o2 : Option Addr} {c1 c2 : Nat} (hs : ScAt I ns ts o1 c1 o2 c2) (hn : ns.length ≤ 80) (want : As) (hw : want.length ≤ 900) (L : Bh) :
  Fun Tryz.prog 119 [.pointer (some ⟨b, 0, none⟩), .agg [.slice o1 ns.length c1, .slice o2 ts.length c2].toArray, .string (str want), .int .i64 (d : Nat)] I (rd b oa l c p :: L) (DT b oa l c p 3000 400000 L) := by
 have hk : ∀ d, d ≤ 4 → kE d ≤ 3000 ∧ eT d ≤ 400000 := by decide
 obtain ⟨h1, h2⟩ := hk d hd; refine (Wd d hd h hl b p Aa hs Aa want Aa L).mono ?_; rintro v I' L' _ ⟨s, p', rfl, h3, h4, h5, rfl⟩
 exact ⟨s, p', rfl, by omega, h4, by omega, rfl⟩
mutual
def Tree.atomL : Tree → List As
 | .node a [] => [a]
 | .node _ (p :: ps) => p.atomL ++ Ho ps
def Ho : List Tree → List As
 | [] => []
 | t :: ts => t.atomL ++ Ho ts
end
mutual
def Tree.repl : Tree → As → Tree → Tree
 | .node x [], a, b => if x = a then b else .node x []
 | .node x (p :: ps), a, b => .node x (p.repl a b :: Jc ps a b)
def Jc : List Tree → As → Tree → List Tree
 | [], _, _ => []
 | t :: ts, a, b => t.repl a b :: Jc ts a b
end
theorem Z5 (t : Tree) (h : t.parts ≠ []) : t.atomL = Ho t.parts := by
 cases t with
 | node a ps => cases ps with
  | nil => exact absurd rfl h
  | cons p ps => rfl
theorem X0 (t : Tree) (h : t.parts = []) : t.atomL = [t.atom] := by
 cases t with
 | node a ps => simp [Tree.parts] at h; subst h; rfl
theorem M7 : ∀ (a b : List Tree), Ho (a ++ b) = Ho a ++ Ho b
 | [], b => rfl
 | t :: a, b => by simp only [List.cons_append, Ho, M7 a b, List.append_assoc]
theorem V1 (ps : List Tree) (i : Nat) (hi : i < ps.length) : Ho (ps.take (i + 1)) = Ho (ps.take i) ++ ps[i].atomL := by
 rw [List.take_succ_eq_append_getElem hi, M7]; simp [Ho]
mutual
theorem Tree.atomL_len : ∀ t : Tree, t.atomL.length = t.size
 | .node a [] => rfl
 | .node a (p :: ps) => by
  have h1 := p.atomL_len; have h2 := Ni ps
  simp only [Tree.atomL, List.length_append, h1, h2, Tree.size, Ek, List.isEmpty_cons, cond_false]
theorem Ni : ∀ ts : List Tree, (Ho ts).length = Ek ts
 | [] => rfl
 | t :: ts => by have h1 := t.atomL_len; have h2 := Ni ts; simp only [Ho, List.length_append, h1, h2, Ek]
end
theorem Adp (t : Tree) (a : As) (b : Tree) (h : t.parts ≠ []) : t.repl a b = .node t.atom (Jc t.parts a b) := by
 cases t with
 | node x ps => cases ps with
  | nil => exact absurd rfl h
  | cons p ps => rfl
theorem Tp (t : Tree) (a : As) (b : Tree) (h : t.parts = []) : t.repl a b = if t.atom = a then b else t := by
 cases t with
 | node x ps => simp [Tree.parts] at h; subst h; rfl
theorem O1 : ∀ (p q : List Tree) (a : As) (b : Tree), Jc (p ++ q) a b = Jc p a b ++ Jc q a b
 | [], q, a, b => rfl
 | t :: p, q, a, b => by simp only [List.cons_append, Jc, O1 p q]
theorem Lp : ∀ (ps : List Tree) (a : As) (b : Tree), (Jc ps a b).length = ps.length
 | [], _, _ => rfl
 | t :: ps, a, b => by simp only [Jc, List.length_cons, Lp ps]
theorem Y2 (ps : List Tree) (a : As) (b : Tree) (i : Nat) (hi : i < ps.length) : Jc (ps.take (i + 1)) a b = Jc (ps.take i) a b ++ [ps[i].repl a b] := by
 rw [List.take_succ_eq_append_getElem hi, O1]; rfl
mutual
theorem Tree.repl_good : ∀ {t : Tree} {a : As} {b : Tree}, t.good = true → b.good = true → (t.repl a b).good = true
 | .node x [], a, b, h, hb => by simp only [Tree.repl]; split; exact hb; exact h
 | .node x (p :: ps), a, b, h, hb => by
  obtain ⟨h1, h2, h3⟩ := Iu h; subst h1
  simp [Tree.repl, Tree.good, Fh, Tree.repl_good h2 hb, R1 h3 hb]
theorem R1 : ∀ {ps : List Tree} {a : As} {b : Tree}, Fh ps = true → b.good = true → Fh (Jc ps a b) = true
 | [], a, b, h, hb => rfl
 | t :: ps, a, b, h, hb => by
  simp [Fh] at h
  simp [Jc, Fh, Tree.repl_good h.1 hb, R1 h.2 hb]
end
mutual
theorem Tree.repl_len : ∀ (t : Tree) (a : As) (b : Tree), (t.repl a b).len ≤ t.len + t.size * b.len
 | .node x [], a, b => by simp only [Tree.repl, Tree.size, List.isEmpty_nil, cond_true, Nat.one_mul]; split <;> omega
 | .node x (p :: ps), a, b => by
  have h1 := p.repl_len a b; have h2 := To ps a b
  simp only [Tree.repl, Tree.len, Tree.size, Ge, Ek, List.isEmpty_cons, cond_false, Nat.add_mul]; omega
theorem To : ∀ (ps : List Tree) (a : As) (b : Tree), Ge (Jc ps a b) ≤ Ge ps + Ek ps * b.len
 | [], a, b => by simp [Jc, Ge, Ek]
 | t :: ps, a, b => by
  have h1 := t.repl_len a b; have h2 := To ps a b
  simp only [Jc, Ge, Ek, Nat.add_mul]; omega
end
theorem Z4 {l : List As} (h : l ≠ []) : Dg [] l ≠ [] := fun e => h (Qz.1 e)
theorem Tree.size_one : ∀ t : Tree, 1 ≤ t.size
 | .node a [] => Nat.le_refl _
 | .node a (p :: ps) => by
  have := Tree.size_one p
  simp only [Tree.size, Ek, List.isEmpty_cons, cond_false]; omega
theorem Abz (t : Tree) : t.atomL ≠ [] := by
 have h1 := t.atomL_len
 have h2 := t.size_one
 intro e; rw [e] at h1; simp at h1; omega
mutual
theorem Tree.atom_len : ∀ (t : Tree) (x : As), x ∈ t.atomL → x.length ≤ t.len
 | .node a [], x, h => by
  simp only [Tree.atomL, List.mem_singleton] at h
  subst h; simp [Tree.len]
 | .node a (p :: ps), x, h => by
  simp only [Tree.atomL, List.mem_append] at h
  simp only [Tree.len, Ge, List.isEmpty_cons, cond_false]
  rcases h with h | h
  ·have := p.atom_len x h; omega
  ·have := L5 ps x h; omega
theorem L5 : ∀ (ts : List Tree) (x : As), x ∈ Ho ts → x.length ≤ Ge ts
 | [], x, h => by cases h
 | t :: ts, x, h => by
  simp only [Ho, List.mem_append] at h
  simp only [Ge]
  rcases h with h | h
  ·have := t.atom_len x h; omega
  ·have := L5 ts x h; omega
end
theorem Z6 {t : Tree} (h : t.len ≤ 12000000) : ∀ s ∈ Dg [] t.atomL, s.length ≤ Bb := by
 intro s hs
 rcases Jx.1 hs with h1 | h1
 ·cases h1
 ·have := t.atom_len s h1; unfold Bb; omega
def I1 (s : As) : Option (List As) := (C5 s).map fun t => Dg [] t.atomL
def Jj (s a b : As) : Option As := match C5 s, C5 a, C5 b with
 | some t, some x, some y => if x.atom ≠ [] ∧ (C5 (t.repl a y).text).isSome = true then some (t.repl a y).text else none
 | _, _, _ => none
theorem Wp (s : As) (hs : s.length ≤ Ld) (I : Heap) (L : Bh) : Fun Tryz.prog 136 [.string (str s)] I L (fun v I' L' => v = .bool (C5 s).isSome ∧ L = L') := by
 refine Al Af ?_; refine Se rfl (Oa rfl (Ab (Se rfl (Om rfl ?_)))); refine Ca rfl (H1 s hs _ _) ?_; rintro _ J _ e1 ⟨t, cs, ok, rfl, hrep, rfl, hpf⟩; obtain ⟨o1, k1, _, rfl, -⟩ := hrep.open; refine Om rfl (Oe rfl rfl (Oe rfl rfl ?_)); refine A3 .free rfl ?_; intro b3; refine Bu rfl rfl rfl rfl .free ?_; refine Oa rfl (Ab (Se rfl (Om rfl (Oa rfl (Ab (Ai (.tmp rfl .nil) ?_)))))); refine ⟨J, L, e1, Bj, ?_, rfl⟩
 cases hp : C5 s with
 | none => rw [hp] at hpf; rw [hpf]; rfl
 | some t0 => rw [hp] at hpf; rw [hpf.1]; rfl
structure GA where
 i : Nat
 l : List As
 B : Kx
 c : Nat
theorem Aam : ∀ (n : Nat) {I : Heap} {t : Tree} {cs : List Value} (_ : SizeOf.sizeOf t < n) (_ : Rep I t cs) (_ : t.good = true) (l : List As) (B : Kx) (c : Nat) (_ : l.length + t.size ≤ 4294967295) (_ : Ep 1 l.length c (l.map sv) B) (L : Bh),
  Fun Tryz.prog 124 [.agg cs.toArray, B8 l.length c B] I (Cb 9 (l.map sv) B ++ L) (fun v I' L' => I = I' ∧ LP (Dg l t.atomL) L v I' L') := by
 intro n
 induction n with
 | zero => intro I t cs h; omega
 | succ n ihn =>
  intro I t cs hlt h hg l B c hl hB L; obtain ⟨oa, cc, oaf, cf, rfl, hf⟩ := h.at'
  have ha := hf.alen
  have hnil := hf.nil
  have hp := hf.len
  unfold Bb at hp
  have hs1 := t.size_one
  have hlN : l.length ≤ Bb := by unfold Bb; omega
  refine Al Af ?_; refine Se rfl ?_; refine Cc rfl rfl .free rfl ?_; intro b2; refine Oa rfl (Ab (Ah (Se rfl (Oh rfl ?_)))); refine Bd rfl .free rfl ?_; refine Od rfl rfl rfl (Ab ?_); refine Av rfl ?_ ?_
  ·intro c0
   try simp only [nb] at c0
   have hat := X0 t (Lc hg c0)
   refine Ah (Se rfl (Om rfl (Oh rfl ?_))); refine Bd rfl .free rfl ?_; refine Ca rfl (Zq hB hlN _ _ _ _) ?_; rintro _ _ _ _ ⟨rfl, rfl, rfl⟩; refine Ab ?_; refine Av rfl ?_ ?_
   ·intro c1
    try simp only [nb] at c1
    refine Se rfl (Om rfl (Oa rfl (Ab (Ai (.tmp rfl .nil) ?_))))
    have hoc : Dg l t.atomL = l := by rw [hat]; exact Sv c1
    exact ⟨I, _, .refl _, fun w h => h.drop, rfl, B, c, by rw [hoc]; rfl, by rw [hoc]; exact hB, by rw [hoc]⟩
   intro c1
   try simp only [nb] at c1
   refine Aj (Se rfl (Om rfl (Oh rfl ?_))); refine Bd rfl .free rfl ?_; refine Ol rfl rfl ?_; intro b17; refine D3 (B := B) (xs := l.map sv) (ys := [sv t.atom]) (m := l.length) (c := c) A4 Ac rfl rfl hB (fun _ h => h.u2) Ac (fun a ha => by cases ha; exact Bg (.head _) Ac) Af Ac Ad Ad Aa Ad .free rfl ?_; intro bb sp c2 hB'; refine Oa rfl (Ab (Ai (.tmp rfl .nil) ?_))
   have hoc : Dg l t.atomL = l ++ [t.atom] := by rw [hat]; exact Q0 c1
   exact ⟨I, _, .refl _, Ms (L' := (bb, _) :: L), rfl, some (bb, sp), c2, by rw [hoc]; simp [C2, B8], by rw [hoc]; simpa using hB', by rw [hoc]; simp [Cb]⟩
  intro c0
  try simp only [nb] at c0
  have hne := Li hg Ey
  have hat := Z5 t hne.1
  have hsz : t.size = Ek t.parts := by
   cases t with
   | node a ps => cases ps with
    | nil => exact absurd rfl hne.1
    | cons p ps => rfl
  refine Aj (Ah (Se rfl (Oa rfl (Ab (Ar ?_))))); refine Dv (X := GA) (fun x => t.parts.length - x.i) (fun x => [(1, B8 x.l.length x.c x.B), (2, .pointer (some ⟨b2, 0, none⟩)), (4, .slice none 0 0), (5, .int .i64 (x.i : Nat))]) (fun _ => I) (fun x => (b2, .cells [.string (str t.atom), .slice oa t.parts.length cc].toArray 68 (0, 0)) :: (Cb 9 (x.l.map sv) x.B ++ L)) (fun x => x.i ≤ t.parts.length ∧ x.l = Dg l (Ho (t.parts.take x.i)) ∧ Ep 1 x.l.length x.c (x.l.map sv) x.B) ⟨0, l, B, c⟩ ⟨Nat.zero_le _, rfl, hB⟩ ⟨rfl, rfl, rfl, rfl, trivial⟩ (by intro _ h; exact h) ?_
  rintro ⟨i, l1, B1, c1⟩ ⟨hi, hl1, hB1⟩ ih
  simp only at hi hl1 hB1 ih ⊢
  have hll := H0 l (Ho (t.parts.take i))
  rw [← hl1, Ni] at hll; refine Ah (Se rfl (Om rfl (Oh rfl ?_))); refine Bd rfl .free rfl ?_; refine On rfl (Oc rfl rfl rfl (Ab ?_)); refine Av rfl ?_ ?_
  ·intro c2
   try simp only [nb] at c2
   have hi1 : i < t.parts.length := by omega
   have hsl : Ek (t.parts.take i) + (t.pt i).size ≤ Ek t.parts := by
    rw [Tree.pt_at hi1]
    have h1 := Jq (t.parts.take i) (t.parts.drop i)
    rw [List.take_append_drop, List.drop_eq_getElem_cons hi1] at h1
    simp only [Ek] at h1; omega
   have hpg := Tree.pt_good hg i hi1
   refine Aj (Ah (Ar (Ao rfl (Oh rfl ?_)))); refine Bd rfl .free rfl ?_; refine Om rfl ?_
   first | refine Bk rfl rfl _ rfl .free rfl ?_ | refine Bl rfl rfl _ rfl .free rfl ?_
   refine Gu rfl .free rfl ?_; refine Om rfl ?_; refine Fl (fun w h => h.u1) ?_; refine Ca rfl (ihn (t := t.pt i) (by have := t.pt_lt i hi1; omega) (hf.rp i hi1) hpg l1 B1 c1 Aa hB1 _) ?_; rintro _ _ _ _ ⟨rfl, B2, c2, rfl, hB2, rfl⟩; refine Fl (fun w h => h.w1) ?_; refine Oa rfl (Ab (Aq (Ao rfl (Om rfl ?_)))); refine Or rfl rfl rfl ?_; refine Oa rfl (Ab ?_)
   exact Cw (E' := [(1, B8 (Dg l1 (t.pt i).atomL).length c2 B2), (2, .pointer (some ⟨b2, 0, none⟩)), (4, .slice none 0 0), (5, .int .i64 ((i + 1 : Nat)))]) ⟨rfl, rfl, rfl, rfl, trivial⟩ (ih ⟨i + 1, Dg l1 (t.pt i).atomL, B2, c2⟩ ⟨by simp only; omega, by simp only; rw [hl1, ← Cu, V1 _ _ hi1, Tree.pt_at hi1], hB2⟩ D1)
  intro c2
  try simp only [nb] at c2
  refine Cs rfl ?_; refine Se rfl (Om rfl (Oa rfl (Ab (Ai (.tmp rfl .nil) ?_))))
  have hl2 : l1 = Dg l t.atomL := by
   rw [hl1, hat, show i = t.parts.length by omega, List.take_length]
  subst hl2
  exact ⟨I, _, .refl _, fun w h => h.drop, rfl, B1, c1, rfl, hB1, rfl⟩
theorem Wo (s : As) (hs : s.length ≤ Ld) (I : Heap) (L : Bh) : Fun Tryz.prog 78 [.string (str s)] I L (EF (I1 s) L) := by
 refine Al Af ?_; refine Se rfl (Oa rfl (Oa rfl (Ab (Se rfl (Om rfl ?_))))); refine Ca rfl (H1 s hs _ _) ?_; rintro _ J _ e1 ⟨t, cs, ok, rfl, hrep, rfl, hpf⟩; obtain ⟨o1, k1, _, rfl, -⟩ := hrep.open; refine Om rfl (Oe rfl rfl (Oe rfl rfl ?_)); refine A3 .free rfl ?_; intro b4; refine Bu rfl rfl rfl rfl .free ?_; refine Oa rfl (Ab (Ah (Se rfl (Om rfl ?_)))); refine Dl rfl .free rfl ?_; refine Ab ?_; refine Av rfl ?_ ?_
 ·intro c0
  try simp only [nb] at c0
  refine Se rfl ?_; refine D9 .free rfl ?_; intro b13; refine Oa rfl (Oa rfl (Ab ?_)); refine Ai (.tmp rfl (.tmp rfl .nil)) ?_; refine ⟨J, L, e1, Bj, some ⟨b13, 0, none⟩, 0, ?_, ?_, rfl⟩
  ·have : I1 s = none := by
    unfold I1
    cases hp : C5 s with
    | none => rfl
    | some t0 => rw [hp] at hpf; rw [hpf.1] at c0; cases c0
   rw [this]; rfl
  ·have : I1 s = none := by
    unfold I1
    cases hp : C5 s with
    | none => rfl
    | some t0 => rw [hp] at hpf; rw [hpf.1] at c0; cases c0
   rw [this]; exact Gq _ _
 intro c0
 try simp only [nb] at c0
 have hps := If hpf c0
 have hpg := Fu hps
 have hpz := Lo hps
 have hat : I1 s = some (Dg [] t.atomL) := by unfold I1; rw [hps]; rfl
 refine Aj (Se rfl ?_); refine Bq rfl .free rfl ?_; refine D9 .free rfl ?_; intro b15; refine Fl (L' := Cb 9 (([] : List As).map sv) (some (b15, [])) ++ _) (fun w h => h) ?_; refine Ca rfl (Aam _ (Nat.lt_succ_self _) hrep hpg.1 [] (some (b15, [])) 0 Ci ⟨rfl, Nat.le_refl _, rfl⟩ _) ?_; rintro _ _ _ _ ⟨rfl, B2, c2, rfl, hB2, rfl⟩; refine Oa rfl (Oa rfl (Ab ?_))
 have hll := H0 [] t.atomL
 rw [Tree.atomL_len] at hll
 simp only [List.length_nil, Nat.zero_add] at hll
 refine Hk hB2 rfl Bz (Z6 hpg.2.1) ?_; intro J2 oz cz ez hbv hst; refine Kv (t := 2) rfl hbv ?_; refine Ai (.tmp rfl (.tmp rfl .nil)) ?_
 exact ⟨J2, L, e1.trans ez, Bj, oz, cz, by rw [hat]; rfl, by rw [hat]; exact hst, rfl⟩
structure GP where
 J : Heap
 i : Nat
 xs : List Value
 B : Kx
 c : Nat
theorem Wq : ∀ (n : Nat) {I : Heap} {t : Tree} {cs : List Value} (_ : SizeOf.sizeOf t < n) (_ : Rep I t cs) (_ : t.good = true) (a : As) (_ : a ≠ []) {y : Tree} {ds : List Value} (_ : Rep I y ds) (L : Bh),
  Fun Tryz.prog 135 [.agg cs.toArray, .string (str a), .agg ds.toArray] I L (RP (t.repl a y) L) := by
 intro n
 induction n with
 | zero => intro I t cs h; omega
 | succ n ihn =>
  intro I t cs hlt h hg a ha0 y ds hy L; obtain ⟨oa, cc, oaf, cf, rfl, hf⟩ := h.at'; obtain ⟨oy, ky, _, rfl, -⟩ := hy.open
  have hp := hf.len
  unfold Bb at hp
  have hnil := hf.nil
  refine Al Af ?_; refine Se rfl ?_; refine Cc rfl rfl .free rfl ?_; intro b3; refine Cc rfl rfl .free rfl ?_; intro b5; refine A3 .free rfl ?_; intro b6; refine Ab (Ah (Se rfl (Oh rfl ?_))); refine Bd rfl .free rfl ?_; refine Om rfl (Od rfl rfl rfl (Om rfl ?_))
  apply Cy 13 16 rfl
  ·intro g1_5 hk
   try simp only [nb] at g1_5
   refine Ow rfl ?_; refine Cg rfl rfl rfl (.met rfl rfl) rfl ?_; refine Ot rfl rfl ?_
   exact Au 2 rfl rfl hk
  ·intro _ hk; refine A2 2 rfl ?_; refine Of rfl rfl ?_
   exact Au 2 rfl rfl hk
  refine Ab ?_; refine Av rfl ?_ ?_
  ·intro c0
   try simp only [nb] at c0
   refine Se rfl ?_; refine Bq rfl .free rfl ?_; refine Bu rfl rfl rfl rfl .free ?_; refine Ab ?_; refine Ai (.c rfl .nil) ?_
   have e : t.repl a y = y := by rw [Tp t a y (Lc hg (by rw [c0.1]; exact ha0)), if_pos c0.1]
   exact ⟨I, L, .refl _, Bj, _, rfl, by rw [e]; exact hy, rfl⟩
  intro c0
  try simp only [nb] at c0
  refine Aj (Ah (Se rfl (Oh rfl ?_))); refine Bd rfl .free rfl ?_; refine Od rfl rfl rfl (Ab ?_); refine Av rfl ?_ ?_
  ·intro c1
   try simp only [nb] at c1
   refine Se rfl ?_; refine Bq rfl .free rfl ?_; refine Bu rfl rfl rfl rfl .free ?_; refine Ab ?_; refine Ai (.c rfl .nil) ?_
   have e : t.repl a y = t := by rw [Tp t a y (Lc hg c1), if_neg (fun e => by rcases c0 with h | h; exact h e; exact ha0 h)]
   exact ⟨I, L, .refl _, Bj, _, rfl, by rw [e]; exact hf.rep, rfl⟩
  intro c1
  try simp only [nb] at c1
  have hat : t.atom = [] := by simpa using c1
  have hne := Li hg hat
  have hre := Adp t a y hne.1
  refine Aj (Se rfl ?_); refine Cd rfl rfl rfl .free rfl ?_; refine A3 .free rfl ?_; intro b7; refine Bu rfl rfl rfl rfl .free ?_; refine Ab (Ah (Se rfl (Oa rfl (Ab (Ar ?_)))))
  refine Dv (X := GP) (fun x => t.parts.length - x.i) (fun x => [(1, .string (str a)), (3, .pointer (some ⟨b3, 0, none⟩)), (5, .pointer (some ⟨b5, 0, none⟩)), (6, .pointer (some ⟨b6, 0, none⟩)), (7, .pointer (some ⟨b7, 0, none⟩)), (8, .int .i64 (x.i : Nat))]) (fun x => x.J) (fun x => (b7, .cells [.string (str []), B8 x.i x.c x.B].toArray 68 (0, 0)) :: (Cb 68 x.xs x.B ++ ((b6, .cells [.string (str []), .slice none 0 0].toArray 68 (0, 0)) :: (b5, .cells [.string (str y.atom), .slice oy y.parts.length ky].toArray 68 (0, 0)) :: (b3, .cells [.string (str t.atom), .slice oa t.parts.length cc].toArray 68 (0, 0)) :: L))) (fun x => HLe I x.J ∧ x.i ≤ t.parts.length ∧ RepL x.J (Jc (t.parts.take x.i) a y) x.xs ∧ Ep 2 x.i x.c x.xs x.B) ⟨I, 0, [], none, 0⟩ ⟨.refl _, Nat.zero_le _, .nil, ⟨rfl, rfl, rfl⟩⟩ ⟨rfl, rfl, rfl, rfl, rfl, rfl, trivial⟩ (by intro _ h; exact h) ?_
  rintro ⟨J, i, xs, B, cb⟩ ⟨ez, hi, hl, hB⟩ ih
  simp only at ez hi hl hB ih ⊢
  have hf := hf.mono ez
  have hy := hy.mono ez
  refine Ah (Se rfl (Om rfl (Oh rfl ?_))); refine Bd rfl .free rfl ?_; refine On rfl (Oc rfl rfl rfl (Ab ?_)); refine Av rfl ?_ ?_
  ·intro c2
   try simp only [nb] at c2
   have hi1 : i < t.parts.length := by omega
   have hpg := Tree.pt_good hg i hi1
   have hlt1 := t.pt_lt i hi1
   refine Aj (Ah (Ar ?_)); refine Ug 14 rfl rfl ?_; refine Da 0 rfl (Ap rfl) ?_; refine Dt 1 [13] rfl (Cn rfl) ?_; refine Da 2 rfl (Ap rfl) ?_; refine Dt 3 [13] rfl (Cn rfl) ?_; refine Da 4 rfl (Ak rfl) ?_
   first | refine Da 5 rfl (Bw rfl rfl _ rfl) ?_ | refine Da 5 rfl (Bx rfl rfl _ rfl) ?_
   refine Dt 6 [13] rfl (C7 rfl) ?_; refine Da 7 rfl (Ak rfl) ?_; refine Dt 8 [13] rfl (Co rfl) ?_; refine Dc 9 rfl rfl (ihn (t := t.pt i) Aa (hf.rp i hi1) hpg a ha0 hy _) ?_; rintro _ J1 _ e1 ⟨cs1, rfl, h1, rfl⟩; obtain ⟨o1, k1, _, rfl, -⟩ := h1.open; refine Hx ?_; refine E8 10 rfl Ae rfl rfl rfl Ac Ac Ac Ad Ad Ac .free rfl (.inr Ax) ?_; intro b40
   refine B6 11 (B := B) (xs := xs) (ys := [.string (str ((t.pt i).repl a y).atom), .slice o1 ((t.pt i).repl a y).parts.length k1]) (m := i) (c := cb) rfl Ae rfl A4 Ac rfl rfl hB (fun _ h => h.u2) Ac (fun a ha => by cases ha; exact Bg Dk Ac) Af Ac Ad Aa Ad .free rfl (fun _ => .inr Ax) ?_; intro B2 c2 hB2; refine De (fun w h => Mem.w1 (Mem.sub (List.Sublist.append_left (.cons _ (.refl _)) _) h)) ?_; refine Da 12 rfl (Ap rfl) ?_; refine Ag9 13 rfl Ae rfl rfl rfl O7 rfl .free (.inl Ae) ?_; refine A5 Ae ?_; refine Aq (Ao rfl (Om rfl ?_)); refine Or rfl rfl rfl ?_; refine Oa rfl (Ab ?_)
   refine Cw (E' := [(1, .string (str a)), (3, .pointer (some ⟨b3, 0, none⟩)), (5, .pointer (some ⟨b5, 0, none⟩)), (6, .pointer (some ⟨b6, 0, none⟩)), (7, .pointer (some ⟨b7, 0, none⟩)), (8, .int .i64 ((i + 1 : Nat)))]) ⟨rfl, rfl, rfl, rfl, rfl, rfl, trivial⟩ (ih ⟨J1, i + 1, xs ++ [.string (str ((t.pt i).repl a y).atom), .slice o1 ((t.pt i).repl a y).parts.length k1], B2, c2⟩ ⟨ez.trans e1, by simp only; omega, ?_, hB2⟩ D1); rw [Y2 _ _ _ _ hi1, ← Tree.pt_at hi1]
   exact (hl.mono e1).append (.one h1)
  intro c2
  try simp only [nb] at c2
  refine Cs rfl ?_; refine Ah ?_
  have hie : i = t.parts.length := by omega
  rw [hie, List.take_length] at hl; refine Ck (fun w h => h.u1) (Sp hl hB (by rw [Lp, hie]) (by rw [Lp]; unfold Bb; omega) ?_); intro J2 oz cz ez2 hbv hst; rw [hbv]; refine Ao rfl ?_; refine Bq rfl .free rfl ?_; refine Bu rfl rfl rfl rfl .free ?_; refine Ab ?_; refine Ai (.c rfl .nil) ?_
  exact ⟨J2, L, ez.trans ez2, Bj, _, rfl, by rw [hre, hat]; exact hst.form [] Ad, rfl⟩
theorem Qj {s a b : As} {t x y : Tree} (h1 : C5 s = some t) (h2 : C5 a = some x) (h3 : C5 b = some y) : Jj s a b = if x.atom ≠ [] ∧ (C5 (t.repl a y).text).isSome = true then some (t.repl a y).text else none := by
 unfold Jj; rw [h1, h2, h3]
theorem Id {s a b : As} (h : C5 s = none ∨ C5 a = none ∨ C5 b = none) : Jj s a b = none := by
 unfold Jj
 rcases h with h | h | h
 ·rw [h]
 ·rw [h]; cases C5 s <;> rfl
 ·rw [h]; cases C5 s <;> cases C5 a <;> rfl
theorem Xz {p : Option Tree} {t : Tree} {ok : Bool} (hpf : match p with | some t0 => ok = true ∧ t = t0 | none => ok = false) : (ok = false → p = none) ∧ (ok = true → p = some t) := by
 cases p with
 | none => exact ⟨fun _ => rfl, fun h => (by rw [hpf] at h; cases h)⟩
 | some t0 => exact ⟨fun h => (by rw [hpf.1] at h; cases h), fun _ => (by rw [hpf.2])⟩
theorem Pu {s : As} {t : Tree} (h : C5 s = some t) : s.length ≤ 12000 ∧ t.len ≤ 12000 := by
 have h1 := (H4 h).1
 simp only [Tree.fits, Bool.and_eq_true, decide_eq_true_eq] at h1
 exact ⟨by rw [← Ke h, Tree.text_len]; exact h1.2, h1.2⟩
theorem Xf {s a b o : As} (h : Jj s a b = some o) : o.length ≤ 12000 := by
 unfold Jj at h
 cases h1 : C5 s with
 | none => rw [h1] at h; cases h
 | some t =>
  cases h2 : C5 a with
  | none => rw [h1, h2] at h; cases h
  | some x =>
   cases h3 : C5 b with
   | none => rw [h1, h2, h3] at h; cases h
   | some y =>
    rw [h1, h2, h3] at h
    simp only at h
    split at h
    ·rename_i hh
     cases h
     obtain ⟨z, hz⟩ := Option.isSome_iff_exists.1 hh.2
     exact (Pu hz).1
    ·cases h
theorem Nf (s a b : As) (hs : s.length ≤ Ld) (ha : a.length ≤ Ld) (hb : b.length ≤ 900) (I : Heap) (L : Bh) : Fun Tryz.prog 79 [.string (str s), .string (str a), .string (str b)] I L (EL (Jj s a b) L) := by
 refine Al Af ?_; refine Se rfl (Oa rfl (Oa rfl (Ab (Se rfl (Om rfl ?_))))); refine Ca rfl (H1 s hs _ _) ?_; rintro _ J1 _ e1 ⟨t, cs1, ok1, rfl, hr1, rfl, hp1⟩; obtain ⟨o1, k1, _, rfl, -⟩ := hr1.open; refine Om rfl (Oe rfl rfl (Oe rfl rfl ?_)); refine A3 .free rfl ?_; intro b8; refine Bu rfl rfl rfl rfl .free ?_; refine Oa rfl (Ab (Se rfl (Om rfl ?_))); refine Ca rfl (H1 a ha _ _) ?_; rintro _ J2 _ e2 ⟨x, cs2, ok2, rfl, hr2, rfl, hp2⟩; obtain ⟨o2, k2, _, rfl, -⟩ := hr2.open; refine Om rfl (Oe rfl rfl (Oe rfl rfl ?_)); refine A3 .free rfl ?_; intro b10; refine Bu rfl rfl rfl rfl .free ?_
 refine Oa rfl (Ab (Se rfl (Om rfl ?_))); refine Ca rfl (H1 b (by unfold Ld; omega) _ _) ?_; rintro _ J3 _ e3 ⟨y, cs3, ok3, rfl, hr3, rfl, hp3⟩; obtain ⟨o3, k3, _, rfl, -⟩ := hr3.open
 have q1 := Xz hp1
 have q2 := Xz hp2
 have q3 := Xz hp3
 have hle := (e1.trans e2).trans e3
 refine Om rfl (Oe rfl rfl (Oe rfl rfl ?_)); refine A3 .free rfl ?_; intro b12; refine Bu rfl rfl rfl rfl .free ?_; refine Oa rfl (Ab (Ah (Se rfl (Om rfl ?_)))); refine Dl rfl .free rfl ?_; refine Om rfl ?_
 apply F6 32 35 rfl
 ·intro g4_3 hk
  try simp only [nb] at g4_3
  refine Ow rfl ?_; refine Dl rfl (.met rfl rfl) rfl ?_; refine Of rfl rfl ?_
  exact Au 2 rfl rfl hk
 ·intro _ hk; refine A2 2 rfl ?_; refine Ot rfl rfl ?_
  exact Au 2 rfl rfl hk
 refine Om rfl ?_
 apply F6 36 39 rfl
 ·intro g4_7 hk
  try simp only [nb] at g4_7
  refine Ow rfl ?_; refine Dl rfl (.met rfl rfl) rfl ?_; refine Of rfl rfl ?_
  exact Au 2 rfl rfl hk
 ·intro _ hk; refine A2 2 rfl ?_; refine Ot rfl rfl ?_
  exact Au 2 rfl rfl hk
 refine Om rfl ?_
 apply F6 40 44 rfl
 ·intro g4_11 hk
  try simp only [nb] at g4_11
  refine A1 rfl (.met rfl rfl) rfl ?_; refine Bd rfl (.met rfl rfl) rfl ?_; refine Cg rfl rfl rfl (.met rfl rfl) rfl ?_; refine Of rfl rfl ?_
  exact Au 3 rfl rfl hk
 ·intro _ hk; refine A2 3 rfl ?_; refine Ot rfl rfl ?_
  exact Au 3 rfl rfl hk
 refine Ab ?_; refine Av rfl ?_ ?_
 ·intro c0
  try simp only [nb] at c0
  refine Se rfl (Oa rfl (Oa rfl (Ab ?_))); refine Ai (.tmp rfl (.tmp rfl .nil)) ?_; refine ⟨J3, L, hle, Bj, ?_, rfl⟩
  have hz : Jj s a b = none := by
   rcases c0 with ((h | h) | h) | h
   ·exact Id (.inl (q1.1 h))
   ·exact Id (.inr (.inl (q2.1 h)))
   ·exact Id (.inr (.inr (q3.1 h)))
   ·cases hh1 : C5 s with
    | none => exact Id (.inl hh1)
    | some t1 =>
     cases hh2 : C5 a with
     | none => exact Id (.inr (.inl hh2))
     | some x1 =>
      cases hh3 : C5 b with
      | none => exact Id (.inr (.inr hh3))
      | some y1 =>
       rw [hh2] at hp2; rw [Qj hh1 hh2 hh3, if_neg (by rw [← hp2.2]; exact fun e => e.1 h)]
  rw [hz]; rfl
 intro c0
 try simp only [nb] at c0
 obtain ⟨⟨⟨h1, h2⟩, h3⟩, h4⟩ := c0
 have p1 := q1.2 h1
 have p2 := q2.2 h2
 have p3 := q3.2 h3
 have f1 := H4 p1
 have f2 := H4 p2
 have f3 := H4 p3
 have l1 := (Pu p1).2
 have l3 : y.len ≤ 900 := by rw [← Tree.text_len, Ke p3]; exact hb
 have z1 := Lo p1
 have hrl := t.repl_len a y
 have hmul : t.size * y.len ≤ 12000 * 900 := Nat.mul_le_mul z1 l3
 have hrg := Tree.repl_good (a := a) f1.2.1 f3.2.1
 have ha0 : a ≠ [] := by
  intro e
  have h5 := Ke p2
  have h6 := Lc f2.2.1 h4
  cases x with
  | node n ps =>
   simp only [Tree.parts] at h6
   subst h6
   simp only [Tree.text, List.isEmpty_nil, cond_true] at h5
   exact h4 (h5.trans e)
 have hro := Qj p1 p2 p3
 refine Aj (Se rfl ?_); refine Bq rfl .free rfl ?_; refine Om rfl ?_; refine Bq rfl .free rfl ?_; refine Ca rfl (Wq _ (Nat.lt_succ_self _) ((hr1.mono e2).mono e3) f1.2.1 a ha0 hr3 _) ?_; rintro _ J4 _ e4 ⟨cs4, rfl, hr4, rfl⟩; refine Ca rfl (Ma _ (Nat.lt_succ_self _) hr4 hrg Aa _) ?_; rintro _ _ _ _ ⟨rfl, rfl, rfl⟩; refine Oa rfl (Ab (Ah (Se rfl (Om rfl ?_)))); refine Ca rfl (Wp _ (by rw [Tree.text_len]; unfold Ld; omega) _ _) ?_; rintro _ J5 _ e5 ⟨rfl, rfl⟩
 have hle := (hle.trans e4).trans e5
 refine Dl rfl .free rfl ?_; refine Ab ?_; refine Av rfl ?_ ?_
 ·intro c1
  try simp only [nb] at c1
  refine Se rfl (Oa rfl (Oa rfl (Ab ?_))); refine Ai (.tmp rfl (.tmp rfl .nil)) ?_; refine ⟨J5, L, hle, Bj, ?_, rfl⟩; rw [hro, if_neg (by rintro ⟨-, h⟩; rw [c1] at h; cases h)]; rfl
 intro c1
 try simp only [nb] at c1
 refine Aj (Se rfl (Om rfl (Oa rfl (Oa rfl (Ab ?_))))); refine Ai (.tmp rfl (.tmp rfl .nil)) ?_; refine ⟨J5, L, hle, Bj, ?_, rfl⟩; rw [hro, if_pos ⟨h4, c1⟩]; rfl
theorem Vm (I : Heap) (oa ob : Option Addr) : ScAt I [] [] oa 0 ob 0 := ⟨Gq _ _, Gq _ _, rfl, (fun _ h => by cases h), (fun _ h => by cases h)⟩
theorem Aap {I : Heap} {oa : Option Addr} {l : List UInt8} {c : Nat} (h : Bytes I oa l c) (hl : l.length ≤ 2000) (b p : Nat) (hp : p + 7000 ≤ 1099511627776) (L : Bh) :
  Fun Tryz.prog 77 [.pointer (some ⟨b, 0, none⟩)] I (rd b oa l c p :: L) (DT b oa l c p 7000 400000 L) := by
 have hle : HLe I I := .refl _
 have hk2 : kT 2 = 6 := rfl
 have hb2 : bT 2 = 19 := rfl
 refine Al Af ?_; refine Se rfl (Oa rfl (Ab (Se rfl (Oa rfl (Ab (Ah (Se rfl (Om rfl ?_)))))))); refine Ca rfl (C0 h hl b _ 3 Aa Ad _) ?_; rintro _ _ _ _ ⟨r, rfl, rfl, rfl, hr⟩; refine Oc rfl rfl rfl (Ab ?_); refine Av rfl ?_ ?_
 ·intro c0
  try simp only [nb] at c0
  refine Ao rfl (Om rfl ?_); refine Ca rfl (Lb 2 h hl b _ Aa Ad Ad _) ?_; rintro _ J _ e ⟨w, pw, rfl, hw, hp1, hp2, rfl⟩
  have h := h.mono e
  have hle := hle.trans e
  refine Oa rfl (Ab (Ah ?_))
  try have hw := hw
  refine Ao rfl (Om rfl ?_); refine D9 .free rfl ?_; intro b11; refine D9 .free rfl ?_; intro b12; refine Cd rfl rfl rfl .free rfl ?_; refine Om rfl (Om rfl ?_); refine Fl (fun w h => Mem.sub (L' := rd b oa l c _ :: L) Bo h) ?_; refine Ca rfl (C0 h hl b _ 3 Aa Ad _) ?_; rintro _ _ _ _ ⟨r2, rfl, rfl, rfl, hr2⟩
  have hr3 : r2 < 3 := by omega
  have hdd : ∃ d : Nat, (2 : Int) + (r2 : Nat) = (d : Nat) ∧ d ≤ 4 := ⟨2 + r2, by omega, by omega⟩
  obtain ⟨d, hd1, hd2⟩ := hdd; refine Or rfl rfl rfl ?_; refine Df (t := 17) (v' := .int .i64 (d : Nat)) rfl (by rw [← hd1]) ?_; refine Ca rfl (Mu hd2 h hl b _ Aa (Vm _ _ _) Af _ (by first | omega | (simp; done) | decide) _) ?_; rintro _ J1 _ e1 ⟨s1, p1, rfl, hs1, hp3, hp4, rfl⟩
  have h := h.mono e1
  have hle := hle.trans e1
  refine Oa rfl (Ab (Ah (Se rfl (Om rfl ?_)))); refine Ca rfl (L9 s1 Bz _ _) ?_; rintro _ _ _ _ ⟨rfl, rfl, rfl⟩; refine Ab ?_; refine Av rfl ?_ ?_
  ·intro c1
   try simp only [nb] at c1
   refine Se rfl (Om rfl (Oa rfl (Ab (Ai (.tmp rfl .nil) ?_))))
   exact ⟨_, _, hle, fun w h => Mem.sub (L' := rd b oa l c _ :: L) Bo h, _, _, rfl, by omega, by omega, by omega, rfl⟩
  intro c1
  try simp only [nb] at c1
  refine Aj (Se rfl (Om rfl ?_)); refine D9 .free rfl ?_; intro b23; refine D9 .free rfl ?_; intro b24; refine Cd rfl rfl rfl .free rfl ?_; refine Om rfl ?_; refine Fl (fun w h => Mem.sub (L' := rd b oa l c _ :: L) Bo h) ?_; refine Ca rfl (Mu (d := 2) Ad h hl b _ Aa (Vm _ _ _) Af _ (by first | omega | (simp; done) | decide) _) ?_; rintro _ J2 _ e2 ⟨s2, p2, rfl, hs2, hp5, hp6, rfl⟩
  have hle := hle.trans e2
  refine Oa rfl (Ab (Ai (.tmp rfl .nil) ?_))
  exact ⟨_, _, hle, fun w h => Mem.sub (L' := rd b oa l c _ :: L) Bo h, _, _, rfl, by omega, by omega, by omega, rfl⟩
 intro c0
 try simp only [nb] at c0
 refine Aj (Ah ?_)
 try have hw := hw
 refine Ao rfl (Om rfl ?_); refine D9 .free rfl ?_; intro b11; refine D9 .free rfl ?_; intro b12; refine Cd rfl rfl rfl .free rfl ?_; refine Om rfl (Om rfl ?_); refine Fl (fun w h => Mem.sub (L' := rd b oa l c _ :: L) Bo h) ?_; refine Ca rfl (C0 h hl b _ 3 Aa Ad _) ?_; rintro _ _ _ _ ⟨r2, rfl, rfl, rfl, hr2⟩
 have hr3 : r2 < 3 := by omega
 have hdd : ∃ d : Nat, (2 : Int) + (r2 : Nat) = (d : Nat) ∧ d ≤ 4 := ⟨2 + r2, by omega, by omega⟩
 obtain ⟨d, hd1, hd2⟩ := hdd; refine Or rfl rfl rfl ?_; refine Df (t := 17) (v' := .int .i64 (d : Nat)) rfl (by rw [← hd1]) ?_; refine Ca rfl (Mu hd2 h hl b _ Aa (Vm _ _ _) Af _ (by first | omega | (simp; done) | decide) _) ?_; rintro _ J1 _ e1 ⟨s1, p1, rfl, hs1, hp3, hp4, rfl⟩
 have h := h.mono e1
 have hle := hle.trans e1
 refine Oa rfl (Ab (Ah (Se rfl (Om rfl ?_)))); refine Ca rfl (L9 s1 Bz _ _) ?_; rintro _ _ _ _ ⟨rfl, rfl, rfl⟩; refine Ab ?_; refine Av rfl ?_ ?_
 ·intro c1
  try simp only [nb] at c1
  refine Se rfl (Om rfl (Oa rfl (Ab (Ai (.tmp rfl .nil) ?_))))
  exact ⟨_, _, hle, fun w h => Mem.sub (L' := rd b oa l c _ :: L) Bo h, _, _, rfl, by omega, by omega, by omega, rfl⟩
 intro c1
 try simp only [nb] at c1
 refine Aj (Se rfl (Om rfl ?_)); refine D9 .free rfl ?_; intro b23; refine D9 .free rfl ?_; intro b24; refine Cd rfl rfl rfl .free rfl ?_; refine Om rfl ?_; refine Fl (fun w h => Mem.sub (L' := rd b oa l c _ :: L) Bo h) ?_; refine Ca rfl (Mu (d := 2) Ad h hl b _ Aa (Vm _ _ _) Af _ (by first | omega | (simp; done) | decide) _) ?_; rintro _ J2 _ e2 ⟨s2, p2, rfl, hs2, hp5, hp6, rfl⟩
 have hle := hle.trans e2
 refine Oa rfl (Ab (Ai (.tmp rfl .nil) ?_))
 exact ⟨_, _, hle, fun w h => Mem.sub (L' := rd b oa l c _ :: L) Bo h, _, _, rfl, by omega, by omega, by omega, rfl⟩
theorem X1 {s : As} {l : List As} (h : I1 s = some l) : l ≠ [] ∧ (∀ x ∈ l, x.length ≤ 12000) ∧ l.length ≤ 12000 := by
 unfold I1 at h
 cases hp : C5 s with
 | none => rw [hp] at h; cases h
 | some t =>
  rw [hp] at h
  simp only [Option.map_some, Option.some.injEq] at h
  subst h
  have h1 := (Pu hp).2
  have h2 := Lo hp
  refine ⟨Z4 (Abz t), fun x hx => ?_, ?_⟩
  ·rcases Jx.1 hx with h3 | h3
   ·cases h3
   ·have := t.atom_len x h3; omega
  ·have := H0 [] t.atomL
   rw [t.atomL_len] at this
   simp only [List.length_nil, Nat.zero_add] at this
   exact Nat.le_trans this h2
theorem Acu {I : Heap} {oa : Option Addr} {l : List UInt8} {c : Nat} (h : Bytes I oa l c) (hl : l.length ≤ 2000) (b p : Nat) (hp : p + 8000 ≤ 1099511627776) (L : Bh) :
  Fun Tryz.prog 39 [.pointer (some ⟨b, 0, none⟩)] I (rd b oa l c p :: L) (DT b oa l c p 8000 400001 L) := by
 refine Al Af ?_; refine Se rfl (Oa rfl (Ab (Se rfl (Om rfl ?_)))); refine Ca rfl (Aap h hl b _ Aa _) ?_; rintro _ J1 _ e1 ⟨s, p1, rfl, hs, hp1, hp2, rfl⟩
 have h := h.mono e1
 refine Oa rfl (Ab (Ah (Se rfl (Om rfl ?_)))); refine Ca rfl (C0 h hl b _ 4 Aa Ad _) ?_; rintro _ _ _ _ ⟨r, rfl, rfl, rfl, hr⟩; refine Oc rfl rfl rfl (Ab ?_); refine Av rfl ?_ ?_
 ·intro c0
  try simp only [nb] at c0
  refine Se rfl (Om rfl (Oa rfl (Ab (Ai (.tmp rfl .nil) ?_))))
  exact ⟨J1, _, e1, fun _ h => h, s, _, rfl, by omega, by omega, by omega, rfl⟩
 intro c0
 try simp only [nb] at c0
 refine Aj (Se rfl (Om rfl ?_)); refine Ca rfl (Wo s (by unfold Ld; omega) _ _) ?_; rintro _ J2 _ e2 ⟨o1, k1, rfl, hat, rfl⟩
 have h := h.mono e2
 have hle := e1.trans e2
 refine Om rfl (Oe rfl rfl (Oe rfl rfl (Oa rfl (Oa rfl (Ab (Ah (Se rfl (Om rfl ?_)))))))); refine Dl rfl .free rfl ?_; refine Ab ?_; refine Av rfl ?_ ?_
 ·intro c1
  try simp only [nb] at c1
  refine Se rfl (Om rfl (Oa rfl (Ab (Ai (.tmp rfl .nil) ?_))))
  exact ⟨J2, _, hle, fun _ h => h, s, _, rfl, by omega, by omega, by omega, rfl⟩
 intro c1
 try simp only [nb] at c1
 obtain ⟨al, hal⟩ : ∃ al, I1 s = some al := Option.isSome_iff_exists.1 c1; rw [hal] at hat ⊢
 simp only [Option.getD_some] at hat ⊢
 obtain ⟨ha1, ha2, ha3⟩ := X1 hal
 have hapos := List.length_pos_iff.2 ha1
 have hanil := hat.nil'
 refine Aj (Ah ?_); refine Mh fun hlr => ?_
 refine M3 17 rfl rfl ?_; refine Da 0 rfl (Ak rfl) ?_; refine Da 1 rfl (Ak rfl) ?_; refine Da 2 rfl (Ak rfl) ?_; refine Da 3 rfl (Ak rfl) ?_; refine Da 4 rfl (Gj rfl) ?_; refine Da 8 rfl (Ak rfl) ?_; refine Fr 5 9 Ae ?_ ?_
 ·skip
  refine Ft 5 rfl rfl rfl .free rfl (C0 h hl b _ al.length Aa Aa _) ?_; rintro _ _ _ _ ⟨r2, rfl, rfl, rfl, hr2⟩
  have hr3 : r2 < al.length := by omega
  have hst := hat.st r2 hr3
  have hel : (al.getD r2 []).length ≤ 12000 := ha2 _ (by rw [show al.getD r2 [] = al[r2] by simp [hr3]]; exact List.getElem_mem _)
  refine Hx ?_
  first | refine Da 6 rfl (Bw rfl rfl _ rfl) ?_ | refine Da 6 rfl (Bx rfl rfl _ rfl) ?_
  refine Dt 7 [17] rfl (Qo rfl) ?_; refine E8 9 rfl Ae rfl rfl rfl Ac Ac Ac Ad Ad Ac .free rfl (.inr Ax) ?_; intro b32; refine D2 ?_; intro hz
  have hk := O5 (I := J2) (b := b32) (e := 9) (l := [[97], [120], [49], [112, 97, 105, 114], [99, 97, 108, 108], [102, 115, 116], [105], [43], [40, 102, 115, 116, 32, 49, 41], [98, 55]]) Ad Ad
  have hlr := hlr.trans hz
  have h := h.mono hz
  have hat := hat.mono hz
  try have hst := hst.mono hz
  refine Dc 10 rfl rfl (Ez h hl b _ Aa hk Af _) ?_; rintro _ _ _ _ ⟨y, rfl, hy, rfl, rfl⟩
  have hyl : y.length ≤ 10 := by revert y; decide
  refine Hx ?_; refine Dc 11 rfl rfl (Nf s (al.getD r2 []) y (by unfold Ld; omega) (by unfold Ld; omega) Aa _ _) ?_; rintro _ J3 _ e3 ⟨rfl, rfl⟩
  have h := h.mono e3
  have hlr := hlr.trans e3
  have hol : ((Jj s (al.getD r2 []) y).getD []).length ≤ 12000 := by
   cases ho : Jj s (al.getD r2 []) y with
   | none => decide
   | some o => exact Xf ho
  refine Hx ?_; refine Da 12 rfl (Ak rfl) ?_; refine Da 13 rfl (A9 rfl rfl) ?_; refine Da 14 rfl (A9 rfl rfl) ?_; refine Da 15 rfl (At rfl) ?_; refine Da 16 rfl (At rfl) ?_; refine A5 Ae ?_; refine Ah (Se rfl (Om rfl (Om rfl ?_)))
  first | refine G0 rfl rfl ?_ ?_ | refine E3 rfl rfl ?_ ?_ | refine Ly rfl rfl ?_ ?_
  ·intro g8_2; refine Ow rfl ?_; refine Cv rfl (.met rfl rfl) rfl (C0 h hl b _ 8 Aa Ad _) ?_; rintro _ _ _ _ ⟨r4, rfl, rfl, rfl, hr4⟩; refine Dp rfl rfl rfl (.met rfl rfl) rfl ?_; refine Ot rfl rfl (Ab ?_); refine Av rfl ?_ ?_
   ·intro c2
    try simp only [nb] at c2
    refine Se rfl (Om rfl (Oa rfl (Ab (Ai (.tmp rfl .nil) ?_))))
    exact ⟨J3, _, hle.trans hlr, fun _ h => h, _, _, rfl, by omega, by omega, by omega, rfl⟩
   intro c2
   try simp only [nb] at c2
   refine Aj (Se rfl (Om rfl (Om rfl ?_))); refine Ol rfl rfl ?_; intro b46; refine Ej [[], [32], [41]] Ad Ad ?_; intro J5 e5 k5; refine Ca rfl (Ez (h.mono e5) hl b _ Aa k5 Af _) ?_; rintro _ _ _ _ ⟨z, rfl, hz, rfl, rfl⟩
   have hzl : z.length ≤ 1 := by revert z; decide
   refine Ok rfl rfl ?_; refine Oa rfl (Ab (Ai (.tmp rfl .nil) ?_))
   exact ⟨J5, _, (hle.trans hlr).trans e5, fun _ h => h, _, _, rfl, Er, by omega, by omega, rfl⟩
  intro g8_2
  iterate 3 refine Ch rfl rfl rfl ?_
  refine Of rfl rfl (Ab ?_); refine Ay rfl ?_; refine Aj (Se rfl (Om rfl (Om rfl ?_))); refine Ol rfl rfl ?_; intro b46; refine Ej [[], [32], [41]] Ad Ad ?_; intro J5 e5 k5; refine Ca rfl (Ez (h.mono e5) hl b _ Aa k5 Af _) ?_; rintro _ _ _ _ ⟨z, rfl, hz, rfl, rfl⟩
  have hzl : z.length ≤ 1 := by revert z; decide
  refine Ok rfl rfl ?_; refine Oa rfl (Ab (Ai (.tmp rfl .nil) ?_))
  exact ⟨J5, _, (hle.trans hlr).trans e5, fun _ h => h, _, _, rfl, Er, by omega, by omega, rfl⟩
 ·skip
  refine G5 9 rfl rfl rfl rfl Ac Ac Ac Ad Ad Ac .free rfl (.inr Ax) ?_; intro b32; refine D2 ?_; intro hz
  have hk := O5 (I := J2) (b := b32) (e := 9) (l := [[97], [120], [49], [112, 97, 105, 114], [99, 97, 108, 108], [102, 115, 116], [105], [43], [40, 102, 115, 116, 32, 49, 41], [98, 55]]) Ad Ad
  have hlr := hlr.trans hz
  have h := h.mono hz
  have hat := hat.mono hz
  try have hst := hst.mono hz
  refine Dc 5 rfl rfl (C0 h hl b _ al.length Aa Aa _) ?_; rintro _ _ _ _ ⟨r2, rfl, rfl, rfl, hr2⟩
  have hr3 : r2 < al.length := by omega
  have hst := hat.st r2 hr3
  have hel : (al.getD r2 []).length ≤ 12000 := ha2 _ (by rw [show al.getD r2 [] = al[r2] by simp [hr3]]; exact List.getElem_mem _)
  refine Hx ?_
  first | refine Da 6 rfl (Bw rfl rfl _ rfl) ?_ | refine Da 6 rfl (Bx rfl rfl _ rfl) ?_
  refine Dt 7 [17] rfl (Qo rfl) ?_; refine Dc 10 rfl rfl (Ez h hl b _ Aa hk Af _) ?_; rintro _ _ _ _ ⟨y, rfl, hy, rfl, rfl⟩
  have hyl : y.length ≤ 10 := by revert y; decide
  refine Hx ?_; refine Dc 11 rfl rfl (Nf s (al.getD r2 []) y (by unfold Ld; omega) (by unfold Ld; omega) Aa _ _) ?_; rintro _ J3 _ e3 ⟨rfl, rfl⟩
  have h := h.mono e3
  have hlr := hlr.trans e3
  have hol : ((Jj s (al.getD r2 []) y).getD []).length ≤ 12000 := by
   cases ho : Jj s (al.getD r2 []) y with
   | none => decide
   | some o => exact Xf ho
  refine Hx ?_; refine Da 12 rfl (Ak rfl) ?_; refine Da 13 rfl (A9 rfl rfl) ?_; refine Da 14 rfl (A9 rfl rfl) ?_; refine Da 15 rfl (At rfl) ?_; refine Da 16 rfl (At rfl) ?_; refine A5 Ae ?_; refine Ah (Se rfl (Om rfl (Om rfl ?_)))
  first | refine G0 rfl rfl ?_ ?_ | refine E3 rfl rfl ?_ ?_ | refine Ly rfl rfl ?_ ?_
  ·intro g8_2; refine Ow rfl ?_; refine Cv rfl (.met rfl rfl) rfl (C0 h hl b _ 8 Aa Ad _) ?_; rintro _ _ _ _ ⟨r4, rfl, rfl, rfl, hr4⟩; refine Dp rfl rfl rfl (.met rfl rfl) rfl ?_; refine Ot rfl rfl (Ab ?_); refine Av rfl ?_ ?_
   ·intro c2
    try simp only [nb] at c2
    refine Se rfl (Om rfl (Oa rfl (Ab (Ai (.tmp rfl .nil) ?_))))
    exact ⟨J3, _, hle.trans hlr, fun _ h => h, _, _, rfl, by omega, by omega, by omega, rfl⟩
   intro c2
   try simp only [nb] at c2
   refine Aj (Se rfl (Om rfl (Om rfl ?_))); refine Ol rfl rfl ?_; intro b46; refine Ej [[], [32], [41]] Ad Ad ?_; intro J5 e5 k5; refine Ca rfl (Ez (h.mono e5) hl b _ Aa k5 Af _) ?_; rintro _ _ _ _ ⟨z, rfl, hz, rfl, rfl⟩
   have hzl : z.length ≤ 1 := by revert z; decide
   refine Ok rfl rfl ?_; refine Oa rfl (Ab (Ai (.tmp rfl .nil) ?_))
   exact ⟨J5, _, (hle.trans hlr).trans e5, fun _ h => h, _, _, rfl, Er, by omega, by omega, rfl⟩
  intro g8_2
  iterate 3 refine Ch rfl rfl rfl ?_
  refine Of rfl rfl (Ab ?_); refine Ay rfl ?_; refine Aj (Se rfl (Om rfl (Om rfl ?_))); refine Ol rfl rfl ?_; intro b46; refine Ej [[], [32], [41]] Ad Ad ?_; intro J5 e5 k5; refine Ca rfl (Ez (h.mono e5) hl b _ Aa k5 Af _) ?_; rintro _ _ _ _ ⟨z, rfl, hz, rfl, rfl⟩
  have hzl : z.length ≤ 1 := by revert z; decide
  refine Ok rfl rfl ?_; refine Oa rfl (Ab (Ai (.tmp rfl .nil) ?_))
  exact ⟨J5, _, (hle.trans hlr).trans e5, fun _ h => h, _, _, rfl, Er, by omega, by omega, rfl⟩
def DX (L : Bh) : C3 := fun v I' L' => ∃ s, v = .string (str s) ∧ List.length s ≤ 400001 ∧ L = L'
def DQ (L : Bh) : C3 := fun v I' L' => ∃ o1 n1 c1 o2 n2 c2 s, v = .tuple #[.slice o1 (List.length n1) c1, .slice o2 (List.length n2) c2, .string (str s)] ∧ Strs I' o1 n1 c1 ∧ Strs I' o2 n2 c2 ∧ n1.length ≤ 16 ∧ n2.length ≤ 16 ∧ (∀ s ∈ n1, s.length ≤ 16) ∧ (∀ s ∈ n2, s.length ≤ 16) ∧ List.length s ≤ 400001 ∧ L = L'
theorem S2 {e : Ex} (h : e.fine = true) : Ei e.tree.text = some e := by
 have hok : e.ok = true := by simp only [Ex.fine, Bool.and_eq_true] at h; exact h.1.1
 rw [Mp hok, if_pos h]
theorem Mo {s : As} {e : Ex} (h : Ei s = some e) : e.fine = true ∧ e.ok = true ∧ e.size ≤ 120 ∧ e.tree.len ≤ 12000 ∧ s = e.tree.text := by
 obtain ⟨_, h2, h3⟩ := It h
 have h4 := h2
 simp only [Ex.fine, Bool.and_eq_true, Tree.fits, decide_eq_true_eq] at h4
 exact ⟨h2, h4.1.1, h4.1.2, h4.2.2, h3⟩
def Ex.many : Ex → Nat
 | .num _ => 1
 | .name _ => 1
 | .bin _ a b => 1 + a.many + b.many
 | .ite a b c => 1 + a.many + b.many + c.many
 | .lt _ a b => 1 + a.many + b.many
 | .fn _ _ _ _ b => 1 + b.many
 | .un _ a => 1 + a.many
theorem Ex.put_id : ∀ {e : Ex} {n : As} {v : Ex}, n ∉ e.occ [] → e.put n v = e
 | .num _, n, v, h => rfl
 | .name s, n, v, h => by
  simp only [Ex.occ, List.not_mem_nil, if_false, List.mem_singleton] at h
  simp only [Ex.put]; rw [if_neg (fun e => h e.symm)]
 | .bin o a b, n, v, h => by
  simp only [Ex.occ, List.mem_append, not_or] at h
  simp only [Ex.put, Ex.put_id h.1, Ex.put_id h.2]
 | .ite a b c, n, v, h => by
  simp only [Ex.occ, List.mem_append, not_or] at h
  simp only [Ex.put, Ex.put_id h.1.1, Ex.put_id h.1.2, Ex.put_id h.2]
 | .lt x a b, n, v, h => by
  simp only [Ex.occ, List.mem_append, not_or, List.nil_append] at h
  simp only [Ex.put, Ex.put_id h.1]
  by_cases hx : x = n
  ·rw [if_pos hx]
  ·rw [if_neg hx, Ex.put_id]; intro hb; exact h.2 (Ex.occ_mem.2 ⟨hb, by simp only [List.mem_singleton]; exact fun e => hx e.symm⟩)
 | .fn f x s t b, n, v, h => by
  simp only [Ex.occ, List.nil_append] at h
  simp only [Ex.put]
  by_cases hx : f = n ∨ x = n
  ·rw [if_pos hx]
  ·rw [if_neg hx, Ex.put_id]; intro hb; refine h (Ex.occ_mem.2 ⟨hb, ?_⟩)
   simp only [List.mem_cons, List.not_mem_nil, or_false]
   rintro (e | e)
   ·exact hx (.inl e.symm)
   ·exact hx (.inr e.symm)
 | .un o a, n, v, h => by
  simp only [Ex.occ] at h
  simp only [Ex.put, Ex.put_id h]
def Ex.hd : Ex → As
 | .num _ => [110, 117, 109, 98, 101, 114]
 | .name _ => [110, 97, 109, 101]
 | e => e.tree.head
def Aha (s : As) : As := match Ei s with
 | some e => e.hd
 | none => []
def Ahc (s : As) : Option (List As) := (Ei s).map fun e => e.sub.map fun a => a.tree.text
def Ahe (s : As) : Int := match Ei s with
 | some e => (e.many : Nat)
 | none => -1
def Ag5 (s : As) : Int := match C5 s with
 | some t => (t.size : Nat)
 | none => -1
def Ada (s : As) : Nat := s.foldl (fun a c => 10 * a + (c.toNat - 48)) 0
theorem Adb (s : As) (c : UInt8) : Ada (s ++ [c]) = 10 * Ada s + (c.toNat - 48) := by simp [Ada]
theorem Sz {d : Nat} (h : d < 10) : (UInt8.ofNat (48 + d)).toNat - 48 = d := by
 have : (UInt8.ofNat (48 + d)).toNat = 48 + d := by simp [UInt8.toNat_ofNat]; omega
 omega
theorem Th : ∀ n : Nat, Ada (Jm n) = n := by
 intro n
 induction n using Nat.strongRecOn with
 | _ n ih =>
  by_cases h : n < 10
  ·rw [Fs h]
   show 10 * 0 + ((UInt8.ofNat (48 + n)).toNat - 48) = n
   rw [Sz h]; omega
  ·rw [Hr h, Adb, ih (n / 10) Aa, Sz (Nat.mod_lt _ Aa)]
   omega
theorem Ab9 {a b : Nat} (h : Jm a = Jm b) : a = b := by
 have := congrArg Ada h
 rwa [Th, Th] at this
def nm (c : UInt8) (n : Nat) : As := c :: Jm n
theorem Yp {c : UInt8} {a b : Nat} (h : nm c a = nm c b) : a = b := Ab9 (List.cons.inj h).2
def M5 (c : UInt8) (av : List As) (n : Nat) : Nat := ((List.range n).filter fun k => decide (nm c k ∈ av)).length
theorem Pk (c : UInt8) (av : List As) (n : Nat) : M5 c av (n + 1) = M5 c av n + (if nm c n ∈ av then 1 else 0) := by
 unfold M5
 rw [List.range_succ, List.filter_append]
 by_cases h : nm c n ∈ av <;> simp [h]
theorem R4 : ∀ {l m : List As}, l.Nodup → (∀ x ∈ l, x ∈ m) → l.length ≤ m.length
 | [], m, _, _ => Nat.zero_le _
 | x :: l, m, hn, hs => by
  obtain ⟨h1, h2⟩ := List.nodup_cons.1 hn
  have hx := hs x (.head _)
  have := R4 (l := l) (m := m.erase x) h2 fun y hy => by
   have hne : y ≠ x := by rintro rfl; exact h1 hy
   exact (List.mem_erase_of_ne hne).2 (hs y (.tail _ hy))
  rw [List.length_erase_of_mem hx] at this
  have := List.length_pos_of_mem hx
  simp only [List.length_cons]; omega
theorem I6 (c : UInt8) (av : List As) (n : Nat) : M5 c av n ≤ av.length := by
 unfold M5
 rw [← List.length_map (f := nm c)]; refine R4 ?_ ?_
 ·have h1 : ((List.range n).filter fun k => decide (nm c k ∈ av)).Nodup := List.nodup_range.filter _
  unfold List.Nodup at h1 ⊢
  rw [List.pairwise_map]
  exact h1.imp fun h e => h (Yp e)
 ·intro x hx; obtain ⟨k, hk, rfl⟩ := List.mem_map.1 hx
  simpa using (List.mem_filter.1 hk).2
def frs (c : UInt8) (av : List As) : Nat → Nat → Nat
 | 0, n => n
 | k + 1, n => if nm c n ∈ av then frs c av k (n + 1) else n
theorem Wm {c : UInt8} {av : List As} : ∀ {k n : Nat}, av.length ≤ M5 c av n + k → nm c (frs c av k n) ∉ av ∧ n ≤ frs c av k n ∧ frs c av k n + M5 c av n = n + M5 c av (frs c av k n)
 | 0, n, h => by
  have h1 := I6 c av (n + 1)
  rw [Pk] at h1; refine ⟨fun hm => ?_, Nat.le_refl _, rfl⟩
  simp only [frs] at hm
  rw [if_pos hm] at h1; omega
 | k + 1, n, h => by
  simp only [frs]
  by_cases hm : nm c n ∈ av
  ·rw [if_pos hm]
   have h2 := Pk c av n
   rw [if_pos hm] at h2; obtain ⟨h3, h4, h5⟩ := Wm (c := c) (av := av) (k := k) (n := n + 1) (by omega)
   exact ⟨h3, by omega, by omega⟩
  ·rw [if_neg hm]; exact ⟨hm, Nat.le_refl _, rfl⟩
def fr (c : UInt8) (av : List As) (n : Nat) : Nat := frs c av av.length n
theorem I9 (c : UInt8) (av : List As) (n : Nat) : nm c (fr c av n) ∉ av ∧ n ≤ fr c av n ∧ fr c av n + M5 c av n = n + M5 c av (fr c av n) := Wm (by omega)
theorem Hg (c : UInt8) (av : List As) (n : Nat) : fr c av n + 1 + M5 c av n = n + 1 + M5 c av (fr c av n + 1) := by
 obtain ⟨h1, h2, h3⟩ := I9 c av n
 have := Pk c av (fr c av n)
 rw [if_neg h1] at this; omega
def Ex.pl (av : List As) : Ex → List As → List As → Nat → Ex × Nat
 | .num s, _, _, n => (.num s, n)
 | .name s, f, t, n => (.name (match B9 f s with | some i => t.getD i [] | none => s), n)
 | .bin o a b, f, t, n => let p := a.pl av f t n; let q := b.pl av f t p.2; (.bin o p.1 q.1, q.2)
 | .ite a b c, f, t, n => let p := a.pl av f t n; let q := b.pl av f t p.2; let r := c.pl av f t q.2; (.ite p.1 q.1 r.1, r.2)
 | .lt x a b, f, t, n => let k := fr 120 av n; let p := a.pl av f t (k + 1); let q := b.pl av (f ++ [x]) (t ++ [nm 120 k]) p.2; (.lt (nm 120 k) p.1 q.1, q.2)
 | .fn g x s u b, f, t, n => let k := fr 120 av n; let j := fr 120 av (k + 1); let p := b.pl av (f ++ [g, x]) (t ++ [nm 120 k, nm 120 j]) (j + 1); (.fn (nm 120 k) (nm 120 j) s u p.1, p.2)
 | .un o a, f, t, n => let p := a.pl av f t n; (.un o p.1, p.2)
def Ex.nb : Ex → Nat
 | .num _ => 0
 | .name _ => 0
 | .bin _ a b => a.nb + b.nb
 | .ite a b c => a.nb + b.nb + c.nb
 | .lt _ a b => 1 + a.nb + b.nb
 | .fn _ _ _ _ b => 2 + b.nb
 | .un _ a => a.nb
theorem Ex.pl_hits (av : List As) : ∀ (e : Ex) (f t : List As) (n : Nat), n ≤ (e.pl av f t n).2 ∧ (e.pl av f t n).2 + M5 120 av n = n + e.nb + M5 120 av (e.pl av f t n).2
 | .num s, f, t, n => ⟨Nat.le_refl _, by simp [Ex.pl, Ex.nb]⟩
 | .name s, f, t, n => ⟨Nat.le_refl _, by simp [Ex.pl, Ex.nb]⟩
 | .bin o a b, f, t, n => by
  have h1 := a.pl_hits av f t n
  have h2 := b.pl_hits av f t (a.pl av f t n).2
  simp only [Ex.pl, Ex.nb]; omega
 | .ite a b c, f, t, n => by
  have h1 := a.pl_hits av f t n
  have h2 := b.pl_hits av f t (a.pl av f t n).2
  have h3 := c.pl_hits av f t (b.pl av f t (a.pl av f t n).2).2
  simp only [Ex.pl, Ex.nb]; omega
 | .lt x a b, f, t, n => by
  have h0 := Hg 120 av n
  have h00 := (I9 120 av n).2.1
  have h1 := a.pl_hits av f t (fr 120 av n + 1)
  have h2 := b.pl_hits av (f ++ [x]) (t ++ [nm 120 (fr 120 av n)]) (a.pl av f t (fr 120 av n + 1)).2
  simp only [Ex.pl, Ex.nb]; omega
 | .fn g x s u b, f, t, n => by
  have h0 := Hg 120 av n
  have h00 := (I9 120 av n).2.1
  have h1 := Hg 120 av (fr 120 av n + 1)
  have h11 := (I9 120 av (fr 120 av n + 1)).2.1
  have h2 := b.pl_hits av (f ++ [g, x]) (t ++ [nm 120 (fr 120 av n), nm 120 (fr 120 av (fr 120 av n + 1))]) (fr 120 av (fr 120 av n + 1) + 1)
  simp only [Ex.pl, Ex.nb]; omega
 | .un o a, f, t, n => by
  have h1 := a.pl_hits av f t n
  simp only [Ex.pl, Ex.nb]; omega
theorem Ex.pl_size (av : List As) : ∀ (e : Ex) (f t : List As) (n : Nat), (e.pl av f t n).1.size = e.size ∧ (e.pl av f t n).1.tree.depth = e.tree.depth ∧ (e.pl av f t n).1.many = e.many
 | .num s, f, t, n => ⟨rfl, rfl, rfl⟩
 | .name s, f, t, n => ⟨rfl, rfl, rfl⟩
 | .bin o a b, f, t, n => by
  obtain ⟨h1, h2, h3⟩ := a.pl_size av f t n; obtain ⟨g1, g2, g3⟩ := b.pl_size av f t (a.pl av f t n).2
  simp only [Ex.pl, Ex.size, Ex.many, Ex.tree, Tree.depth, Dr, List.isEmpty_cons, cond_false, h1, h2, h3, g1, g2, g3, and_self]
 | .ite a b c, f, t, n => by
  obtain ⟨h1, h2, h3⟩ := a.pl_size av f t n; obtain ⟨g1, g2, g3⟩ := b.pl_size av f t (a.pl av f t n).2; obtain ⟨k1, k2, k3⟩ := c.pl_size av f t (b.pl av f t (a.pl av f t n).2).2
  simp only [Ex.pl, Ex.size, Ex.many, Ex.tree, Tree.depth, Dr, List.isEmpty_cons, cond_false, h1, h2, h3, g1, g2, g3, k1, k2, k3, and_self]
 | .lt x a b, f, t, n => by
  obtain ⟨h1, h2, h3⟩ := a.pl_size av f t (fr 120 av n + 1); obtain ⟨g1, g2, g3⟩ := b.pl_size av (f ++ [x]) (t ++ [nm 120 (fr 120 av n)]) (a.pl av f t (fr 120 av n + 1)).2
  simp only [Ex.pl, Ex.size, Ex.many, Ex.tree, Tree.depth, Dr, List.isEmpty_cons, List.isEmpty_nil, cond_true, cond_false, h1, h2, h3, g1, g2, g3, and_self]
 | .fn g x s u b, f, t, n => by
  obtain ⟨g1, g2, g3⟩ := b.pl_size av (f ++ [g, x]) (t ++ [nm 120 (fr 120 av n), nm 120 (fr 120 av (fr 120 av n + 1))]) (fr 120 av (fr 120 av n + 1) + 1)
  simp only [Ex.pl, Ex.size, Ex.many, Ex.tree, Tree.depth, Dr, List.isEmpty_cons, List.isEmpty_nil, cond_true, cond_false, g1, g2, g3, and_self]
 | .un o a, f, t, n => by
  obtain ⟨h1, h2, h3⟩ := a.pl_size av f t n
  simp only [Ex.pl, Ex.size, Ex.many, Ex.tree, Tree.depth, Dr, List.isEmpty_cons, cond_false, h1, h2, h3, and_self]
theorem Ex.nb_occ : ∀ (e : Ex) (bd : List As), 3 * (e.nb + (e.occ bd).length) ≤ 2 * e.size + 1
 | .num s, bd => by simp [Ex.nb, Ex.occ, Ex.size]
 | .name s, bd => by simp only [Ex.nb, Ex.occ, Ex.size]; split <;> simp
 | .bin o a b, bd => by have := a.nb_occ bd; have := b.nb_occ bd; simp only [Ex.nb, Ex.occ, Ex.size, List.length_append]; omega
 | .ite a b c, bd => by have := a.nb_occ bd; have := b.nb_occ bd; have := c.nb_occ bd; simp only [Ex.nb, Ex.occ, Ex.size, List.length_append]; omega
 | .lt x a b, bd => by have := a.nb_occ bd; have := b.nb_occ (bd ++ [x]); simp only [Ex.nb, Ex.occ, Ex.size, List.length_append]; omega
 | .fn f x s t b, bd => by have := b.nb_occ (bd ++ [f, x]); have := s.size_pos; have := t.size_pos; simp only [Ex.nb, Ex.occ, Ex.size]; omega
 | .un o a, bd => by have := a.nb_occ bd; simp only [Ex.nb, Ex.occ, Ex.size]; omega
theorem V8 {d : Nat} (h : d < 10) : Ef (UInt8.ofNat (48 + d)) = true := by
 have : (UInt8.ofNat (48 + d)).toNat = 48 + d := by simp [UInt8.toNat_ofNat]; omega
 simp only [Ef, this, Bool.and_eq_true, decide_eq_true_eq]; omega
theorem V6 : ∀ n : Nat, (Jm n).all Ef = true := by
 intro n
 induction n using Nat.strongRecOn with
 | _ n ih =>
  by_cases h : n < 10
  ·rw [Fs h]; simp only [List.all_cons, List.all_nil, Bool.and_true]; exact V8 h
  ·rw [Hr h, List.all_append, ih (n / 10) Aa]
   simp only [List.all_cons, List.all_nil, Bool.and_true, Bool.true_and]; exact V8 (Nat.mod_lt n Aa)
theorem Aca {n : Nat} (h : n < 1000) : (Jm n).length ≤ 3 := by
 by_cases h1 : n < 10
 ·rw [Fs h1]; simp
 ·rw [Hr h1, List.length_append]
  by_cases h2 : n / 10 < 10
  ·rw [Fs h2]; simp
  ·rw [Hr h2, List.length_append, Fs (show n / 10 / 10 < 10 by omega)]; simp
theorem U3 {c : UInt8} {n : Nat} (hc : Oy c = true) (h : n < 1000) : Bn (nm c n) = true := by
 have := Aca h
 simp [nm, Bn, hc, V6 n, this]
def namesL (l : List As) : Prop := ∀ s ∈ l, Bn s = true
theorem namesL.add {l m : List As} (h : namesL l) (h' : namesL m) : namesL (l ++ m) := by
 intro s hs
 rcases List.mem_append.1 hs with hs | hs
 ·exact h s hs
 ·exact h' s hs
theorem Ex.pl_ok {av : List As} : ∀ {e : Ex} {f t : List As} {n : Nat}, e.ok = true → namesL t → f.length = t.length → n + e.nb + av.length ≤ 900 + M5 120 av n → (e.pl av f t n).1.ok = true
 | .num s, f, t, n, h, _, _, _ => h
 | .name s, f, t, n, h, ht, hl, _ => by
  simp only [Ex.pl, Ex.ok]
  cases hi : B9 f s with
  | none => exact h
  | some i =>
   have h1 := (Ju (show Gn f s f.length = some i from hi)).1
   have h2 : i < t.length := by omega
   show Bn (t.getD i []) = true
   rw [show t.getD i [] = t[i] by simp [h2]]
   exact ht _ (List.getElem_mem h2)
 | .bin o a b, f, t, n, h, ht, hl, hn => by
  simp only [Ex.ok, Bool.and_eq_true] at h
  simp only [Ex.nb] at hn
  have h1 := a.pl_hits av f t n
  have h2 := I6 120 av (a.pl av f t n).2
  simp only [Ex.pl, Ex.ok, Bool.and_eq_true]
  exact ⟨Ex.pl_ok h.1 ht hl (by omega), Ex.pl_ok h.2 ht hl (by omega)⟩
 | .ite a b c, f, t, n, h, ht, hl, hn => by
  simp only [Ex.ok, Bool.and_eq_true] at h
  simp only [Ex.nb] at hn
  have h1 := a.pl_hits av f t n
  have h2 := b.pl_hits av f t (a.pl av f t n).2
  have h3 := I6 120 av (a.pl av f t n).2
  have h4 := I6 120 av (b.pl av f t (a.pl av f t n).2).2
  simp only [Ex.pl, Ex.ok, Bool.and_eq_true]
  exact ⟨⟨Ex.pl_ok h.1.1 ht hl (by omega), Ex.pl_ok h.1.2 ht hl (by omega)⟩, Ex.pl_ok h.2 ht hl (by omega)⟩
 | .lt x a b, f, t, n, h, ht, hl, hn => by
  simp only [Ex.ok, Bool.and_eq_true] at h
  simp only [Ex.nb] at hn
  have h0 := Hg 120 av n
  have h1 := a.pl_hits av f t (fr 120 av n + 1)
  have h2 := I6 120 av (fr 120 av n + 1)
  have h3 := I6 120 av (a.pl av f t (fr 120 av n + 1)).2
  have h4 := I6 120 av n
  have hz : Bn (nm 120 (fr 120 av n)) = true := U3 (by decide) (by omega)
  simp only [Ex.pl, Ex.ok, Bool.and_eq_true]
  exact ⟨⟨hz, Ex.pl_ok h.1.2 ht hl (by omega)⟩, Ex.pl_ok h.2 (ht.add fun s hs => by rw [List.mem_singleton.1 hs]; exact hz) (by simp [hl]) (by omega)⟩
 | .fn g x s u b, f, t, n, h, ht, hl, hn => by
  simp only [Ex.ok, Bool.and_eq_true, decide_eq_true_eq] at h
  obtain ⟨⟨⟨⟨⟨h1, h2⟩, h3⟩, h4⟩, h5⟩, h6⟩ := h
  simp only [Ex.nb] at hn
  have k0 := Hg 120 av n
  have k1 := Hg 120 av (fr 120 av n + 1)
  have k2 := I6 120 av (fr 120 av n + 1)
  have k3 := I6 120 av (fr 120 av (fr 120 av n + 1) + 1)
  have k5 := I6 120 av n
  have k4 := (I9 120 av (fr 120 av n + 1)).2.1
  have hz1 : Bn (nm 120 (fr 120 av n)) = true := U3 (by decide) (by omega)
  have hz2 : Bn (nm 120 (fr 120 av (fr 120 av n + 1))) = true := U3 (by decide) (by omega)
  simp only [Ex.pl, Ex.ok, Bool.and_eq_true, decide_eq_true_eq]
  refine ⟨⟨⟨⟨⟨hz1, hz2⟩, fun e => ?_⟩, h4⟩, h5⟩, Ex.pl_ok h6 (ht.add fun s hs => ?_) (by simp [hl]) (by omega)⟩
  ·have := Yp e; omega
  ·simp only [List.mem_cons, List.not_mem_nil, or_false] at hs
   rcases hs with rfl | rfl
   ·exact hz1
   ·exact hz2
 | .un o a, f, t, n, h, ht, hl, hn => by
  simp only [Ex.pl, Ex.ok]
  exact Ex.pl_ok (e := a) h ht hl (by simpa [Ex.nb] using hn)
theorem B5.txt_len (o : B5) : o.txt.length ≤ 4 := by cases o <;> decide
theorem U2.txt_len (o : U2) : o.txt.length ≤ 3 := by cases o <;> decide
theorem Ex.len_size : ∀ {e : Ex}, e.ok = true → e.tree.len + 1 ≤ 8 * e.size
 | .num s, h => by
  have h : Bt s = true := h
  have : s.length ≤ 4 := by
   simp only [Bt, Bool.or_eq_true, Bool.and_eq_true, decide_eq_true_eq] at h
   rcases h with h | h
   ·rw [h]; decide
   ·have h1 := h.1.1.2
    unfold C6 at h1
    split at h1
    ·simp only [List.length_drop] at h1; omega
    ·omega
  simp only [Ex.tree, Tree.len, List.isEmpty_nil, cond_true, Ex.size]; omega
 | .name s, h => by
  have := F3 (show Bn s = true from h)
  simp only [Ex.tree, Tree.len, List.isEmpty_nil, cond_true, Ex.size]; omega
 | .bin o a b, h => by
  simp only [Ex.ok, Bool.and_eq_true] at h
  have h1 := Ex.len_size h.1; have h2 := Ex.len_size h.2; have h3 := o.txt_len
  simp only [Ex.tree, Tree.len, Ge, List.isEmpty_nil, List.isEmpty_cons, cond_true, cond_false, Ex.size]; omega
 | .ite a b c, h => by
  simp only [Ex.ok, Bool.and_eq_true] at h
  have h1 := Ex.len_size h.1.1; have h2 := Ex.len_size h.1.2; have h3 := Ex.len_size h.2
  simp only [Ex.tree, Tree.len, Ge, List.isEmpty_nil, List.isEmpty_cons, cond_true, cond_false, Ex.size, Hl, List.length_cons, List.length_nil]; omega
 | .lt x a b, h => by
  simp only [Ex.ok, Bool.and_eq_true] at h
  have h1 := Ex.len_size h.1.2; have h2 := Ex.len_size h.2; have h3 := F3 h.1.1
  simp only [Ex.tree, Tree.len, Ge, List.isEmpty_nil, List.isEmpty_cons, cond_true, cond_false, Ex.size, D5, List.length_cons, List.length_nil]; omega
 | .fn f x s t b, h => by
  simp only [Ex.ok, Bool.and_eq_true, decide_eq_true_eq] at h
  obtain ⟨⟨⟨⟨⟨h1, h2⟩, h3⟩, h4⟩, h5⟩, h6⟩ := h
  have k1 := Ex.len_size h6; have k2 := F3 h1; have k3 := F3 h2
  have k4 := s.tree_small; have k5 := t.tree_small; have k6 := s.size_pos; have k7 := t.size_pos
  simp only [Ex.tree, Tree.len, Ge, List.isEmpty_nil, List.isEmpty_cons, cond_true, cond_false, Ex.size, Ea, List.length_cons, List.length_nil]; omega
 | .un o a, h => by
  have h1 := Ex.len_size (e := a) h; have h3 := o.txt_len
  simp only [Ex.tree, Tree.len, Ge, List.isEmpty_nil, List.isEmpty_cons, cond_true, cond_false, Ex.size]; omega
def Ex.plain (e : Ex) : Ex := (e.pl e.free [] [] 0).1
theorem Vy (l m : List As) : (Dg l m).length ≤ l.length + m.length := by
 induction m generalizing l with
 | nil => exact Nat.le_refl _
 | cons s m ih =>
  have h1 : (G1 l s).length ≤ l.length + 1 := by unfold G1; split <;> simp
  have h2 := ih (G1 l s)
  simp only [Dg, List.foldl_cons, List.length_cons] at *
  omega
theorem Yy {e : Ex} (h : e.size ≤ 120) : e.nb + e.free.length ≤ 80 := by
 have h1 := e.nb_occ []
 have h2 := Vy [] (e.occ [])
 simp only [List.length_nil, Nat.zero_add] at h2
 have h3 : e.free.length ≤ (e.occ []).length := h2
 omega
theorem Yx {e : Ex} (h : e.fine = true) : e.plain.fine = true := by
 simp only [Ex.fine, Bool.and_eq_true, decide_eq_true_eq, Tree.fits] at h
 obtain ⟨h1, h2, h3⟩ := e.pl_size e.free [] [] 0
 have hr := Yy h.1.2
 have hok : e.plain.ok = true := Ex.pl_ok h.1.1 (fun s hs => by cases hs) rfl Aa
 have hl := Ex.len_size hok
 have h4 : e.plain.size = e.size := h1
 have h5 : e.plain.tree.depth = e.tree.depth := h2
 simp only [Ex.fine, Bool.and_eq_true, decide_eq_true_eq, Tree.fits]
 exact ⟨⟨hok, by omega⟩, by omega, by omega⟩
def Vh (s : As) : Option As := (Ei s).map fun e => e.plain.tree.text
theorem Vi {s : As} {e : Ex} (h : Ei s = some e) : Vh s = some e.plain.tree.text := by unfold Vh; rw [h]; rfl
def Ahd (l m : List As) (s : As) : As := match B9 l s with
 | some i => m.getD i []
 | none => s
def rn (b : Nat) (oa : Option Addr) (av : List As) (c n : Nat) : Nat × Obj := (b, .cells [.slice oa av.length c, .int .i64 (n : Nat)].toArray 179 (0, 0))
section
variable {I : Heap} {A B C D L : Bh} {w : World}
end
structure G11 where
 b6 : Nat
 b14 : Nat
 b16 : Nat
 b20 : Nat
 B : Kx
 c : Nat
 D : Kx
 e : Nat
def PR (b : Nat) (oa : Option Addr) (av : List As) (c : Nat) (p : Ex × Nat) (L : Bh) : C3 := fun v I' L' => ∃ cs, v = .agg (List.toArray cs) ∧ Rep I' p.1.tree cs ∧ L' = rn b oa av c p.2 :: L
def Ag8 (n : Nat) : Prop := ∀ {I : Heap} {e : Ex} {cs : List Value} (_ : SizeOf.sizeOf e < n) (_ : Rep I e.tree cs) (_ : e.ok = true) {f t : List As} {of ot : Option Addr} {cf ct : Nat} (_ : Strs I of f cf) (_ : Strs I ot t ct) (_ : f.length = t.length) (_ : f.length + 2 * e.size ≤ 100000)
  {oa : Option Addr} {av : List As} {c : Nat} (_ : Strs I oa av c) (b k : Nat) (_ : k + e.nb + av.length ≤ 90 + M5 120 av k) (_ : av.length ≤ 500) (L : Bh),
  Fun Tryz.prog 169 [.agg cs.toArray, .slice of f.length cf, .slice ot t.length ct, .pointer (some ⟨b, 0, none⟩)] I (rn b oa av c k :: L) (PR b oa av c (e.pl av f t k) L)
def Aht (s nm by' : As) : Option As := match Ei s, Cm by' with
 | some e, some v => if Bn nm = true ∧ (e.put nm v).fine = true then some (e.put nm v).tree.text else none
 | _, _ => none
def DX2 (L : Bh) : C3 := fun v I' L' => ∃ s t, v = .tuple #[.string (str s), .string (str t)] ∧ List.length s ≤ 400001 ∧ List.length t ≤ 400001 ∧ L = L'
def DX3 (L : Bh) : C3 := fun v I' L' => ∃ s t u, v = .tuple #[.string (str s), .string (str t), .string (str u)] ∧ List.length s ≤ 400001 ∧ List.length t ≤ 400001 ∧ List.length u ≤ 400001 ∧ L = L'
section
variable {P : Program} {f : FuncId} {n : Nat} {I₀ : Heap} {Q : C3} {k : List Item} {E : Hw} {I : Heap} {L : Bh} {ops : Array Oper} {d : Nat} {ty : TypeId} {pos : String} {af : Array Edge} {g : Option (Nat × Bool)} {l : List Oper}
end
def DXI (L : Bh) : C3 := fun v I' L' => ∃ (s : As) (n : Int), v = .tuple #[.string (str s), .int .i64 n] ∧ List.length s ≤ 400100 ∧ -10000 ≤ n ∧ n ≤ 10000 ∧ L = L'
theorem Yf {I : Heap} {oa : Option Addr} {l : List UInt8} {c : Nat} (h : Bytes I oa l c) (L : Bh) : Fun Tryz.prog 15 [.slice oa l.length c] I L (DXI L) := by
 refine Al Af ?_; refine Se rfl (Oa rfl (Oa rfl (Ab (Se rfl (Om rfl ?_))))); refine Ca rfl (Acs h _) ?_; rintro _ J1 _ e1 ⟨b, oa1, l1, c1, rfl, h1, hl1, rfl⟩; refine Oa rfl (Ab (Se rfl (Om rfl ?_))); refine Ca rfl (Acu h1 hl1 b 0 Ad L) ?_; rintro _ J2 _ e2 ⟨s, p', rfl, hs, hp1, hp2, rfl⟩
 have h1 := h1.mono e2
 refine Oa rfl (Ab (Ah (Se rfl (Om rfl ?_)))); refine Ca rfl (C0 h1 hl1 b _ 8 Aa Ad _) ?_; rintro _ _ _ _ ⟨r, rfl, rfl, rfl, hr⟩; refine Oc rfl rfl rfl (Ab ?_); refine Av rfl ?_ ?_
 ·intro c0
  try simp only [nb] at c0
  refine Se rfl (Om rfl (Om rfl ?_)); refine Ca rfl (C0 h1 hl1 b _ 30 Aa Ad _) ?_; rintro _ _ _ _ ⟨r2, rfl, rfl, rfl, hr2⟩; refine Om rfl ?_; refine Ca rfl (C0 h1 hl1 b _ 20 Aa Ad _) ?_; rintro _ _ _ _ ⟨r3, rfl, rfl, rfl, hr3⟩; refine Adj (b := 19) rfl rfl Aa Aa .free rfl ?_; refine Or rfl rfl rfl ?_; refine Or rfl rfl rfl ?_; refine Oa rfl (Oa rfl (Ab ?_)); refine Ai (.tmp rfl (.tmp rfl .nil)) ?_
  exact ⟨J2, L, e1.trans e2, fun _ h => h.drop, s, _, rfl, by omega, by omega, by omega, rfl⟩
 intro c0
 try simp only [nb] at c0
 refine Aj (Se rfl (Om rfl (Om rfl ?_))); refine Ca rfl (C0 h1 hl1 b _ 200 Aa Ad _) ?_; rintro _ _ _ _ ⟨r2, rfl, rfl, rfl, hr2⟩; refine Or rfl rfl rfl ?_; refine Om rfl ?_; refine Ca rfl (C0 h1 hl1 b _ 20 Aa Ad _) ?_; rintro _ _ _ _ ⟨r3, rfl, rfl, rfl, hr3⟩; refine Adj (b := 19) rfl rfl Aa Aa .free rfl ?_; refine Or rfl rfl rfl ?_; refine Or rfl rfl rfl ?_; refine Oa rfl (Oa rfl (Ab ?_)); refine Ai (.tmp rfl (.tmp rfl .nil)) ?_
 exact ⟨J2, L, e1.trans e2, fun _ h => h.drop, s, _, rfl, by omega, by omega, by omega, rfl⟩
open Go.Shelf
def Uz : Go.Shelf.Ren := ⟨fun | 171 => 158 | 243 => 193 | 246 => 205 | 283 => 212 | 284 => 213 | 285 => 214 | 286 => 215 | 129 => 217 | 317 => 216 | 318 => 218 | 319 => 219 | 320 => 220 | 337 => 221 | 338 => 222 | n => n, fun | 3 => 3 | 9 => 9 | 2 => 2 | 4 => 4 | 171 => 215 | 0 => 0 | 53 => 201 | 37 => 22 | 5 => 5 | 173 => 218 | 212 => 221 | 51 => 222 | 20 => 20 | 213 => 223 | 46 => 204 | 232 => 227 | 233 => 228 | n => n, fun | 17 => 2 | 18 => 3 | 19 => 4 | n => n⟩
theorem Ac8 : Go.Proofs.LaysM.n171 Tryz.prog Uz := {
 mixed := by kernel_rfl
 f129 := Tryz.func217.trans (congrArg some (by kernel_rfl))
 f171 := Tryz.func158.trans (congrArg some (by kernel_rfl))
 f243 := Tryz.func193.trans (congrArg some (by kernel_rfl))
 f246 := Tryz.func205.trans (congrArg some (by kernel_rfl))
 f283 := Tryz.func212.trans (congrArg some (by kernel_rfl))
 f284 := Tryz.func213.trans (congrArg some (by kernel_rfl))
 f285 := Tryz.func214.trans (congrArg some (by kernel_rfl))
 f286 := Tryz.func215.trans (congrArg some (by kernel_rfl))
 f317 := Tryz.func216.trans (congrArg some (by kernel_rfl))
 f318 := Tryz.func218.trans (congrArg some (by kernel_rfl))
 f319 := Tryz.func219.trans (congrArg some (by kernel_rfl))
 f320 := Tryz.func220.trans (congrArg some (by kernel_rfl))
 f337 := Tryz.func221.trans (congrArg some (by kernel_rfl))
 f338 := Tryz.func222.trans (congrArg some (by kernel_rfl))
 t0 := Tryz.underlying0
 a0 := Tryz.isAgg0
 z0 := Tryz.sizeOf0
 v0 := Tryz.zeroValue0
 t2 := Tryz.underlying2
 a2 := Tryz.isAgg2
 z2 := Tryz.sizeOf2
 v2 := Tryz.zeroValue2
 t3 := Tryz.underlying3
 a3 := Tryz.isAgg3
 z3 := Tryz.sizeOf3
 v3 := Tryz.zeroValue3
 t4 := Tryz.underlying4
 a4 := Tryz.isAgg4
 z4 := Tryz.sizeOf4
 v4 := Tryz.zeroValue4
 t5 := Tryz.underlying5
 a5 := Tryz.isAgg5
 z5 := Tryz.sizeOf5
 v5 := Tryz.zeroValue5
 t9 := Tryz.underlying9
 a9 := Tryz.isAgg9
 z9 := Tryz.sizeOf9
 v9 := Tryz.zeroValue9
 t20 := Tryz.underlying20
 a20 := Tryz.isAgg20
 z20 := Tryz.sizeOf20
 v20 := Tryz.zeroValue20
 t37 := Tryz.underlying22
 a37 := Tryz.isAgg22
 z37 := Tryz.sizeOf22
 v37 := Tryz.zeroValue22
 t46 := Tryz.underlying204
 a46 := Tryz.isAgg204
 z46 := Tryz.sizeOf204
 v46 := Tryz.zeroValue204
 t51 := Tryz.underlying222
 a51 := Tryz.isAgg222
 z51 := Tryz.sizeOf222
 v51 := Tryz.zeroValue222
 t53 := Tryz.underlying201
 a53 := Tryz.isAgg201
 z53 := Tryz.sizeOf201
 v53 := Tryz.zeroValue201
 t171 := Tryz.underlying215
 a171 := Tryz.isAgg215
 z171 := Tryz.sizeOf215
 v171 := Tryz.zeroValue215
 t173 := Tryz.underlying218
 a173 := Tryz.isAgg218
 z173 := Tryz.sizeOf218
 v173 := Tryz.zeroValue218
 t212 := Tryz.underlying221
 a212 := Tryz.isAgg221
 z212 := Tryz.sizeOf221
 v212 := Tryz.zeroValue221
 t213 := Tryz.underlying223
 a213 := Tryz.isAgg223
 z213 := Tryz.sizeOf223
 t232 := Tryz.underlying227
 a232 := Tryz.isAgg227
 z232 := Tryz.sizeOf227
 v232 := Tryz.zeroValue227
 t233 := Tryz.underlying228
 a233 := Tryz.isAgg228
 z233 := Tryz.sizeOf228
 v233 := Tryz.zeroValue228
 g17 := by kernel_rfl
 g18 := by kernel_rfl
 g19 := by kernel_rfl
 i0 := by kernel_rfl
 i2 := by kernel_rfl
 i3 := by kernel_rfl
 i4 := by kernel_rfl
 i5 := by kernel_rfl
 i9 := by kernel_rfl
 i20 := by kernel_rfl
 i37 := by kernel_rfl
 i46 := by kernel_rfl
 i51 := by kernel_rfl
 i53 := by kernel_rfl
 i171 := by kernel_rfl
 i173 := by kernel_rfl
 i212 := by kernel_rfl
 i232 := by kernel_rfl
 i233 := by kernel_rfl
 m17 := by kernel_rfl
 m18 := by kernel_rfl
 m19 := by kernel_rfl }
open Go.Shelf
def Aff : Go.Shelf.Ren := ⟨fun | 171 => 158 | 243 => 193 | 246 => 205 | 283 => 212 | 284 => 213 | 285 => 214 | 286 => 215 | 129 => 217 | 317 => 216 | 318 => 218 | 319 => 219 | 320 => 220 | 337 => 221 | 338 => 222 | n => n, fun | 3 => 3 | 9 => 9 | 2 => 2 | 4 => 4 | 171 => 215 | 0 => 0 | 53 => 201 | 37 => 22 | 5 => 5 | 173 => 218 | 212 => 221 | 51 => 222 | 20 => 20 | 213 => 223 | 46 => 204 | 232 => 227 | 233 => 228 | n => n, fun | 17 => 2 | 18 => 3 | 19 => 4 | n => n⟩
def Tab (I : Heap) : Prop := ∀ L w, Mem I L w → Lib.TabIs Tryz.prog w "internal/strconv.uint64pow10" .u64 Lib.pow10Tab
theorem Tab.mono {I I' : Heap} (h : Tab I) (hle : HLe I I') : Tab I' := fun L w hm => h L w (hm.le hle)
theorem Zm (n : Nat) : Lib.decDigits n = Jm n := by
 induction n using Nat.strongRecOn with
 | _ n ih =>
  rw [Lib.decDigits]
  by_cases h : n < 10
  ·rw [dif_pos h, Fs h]
  ·rw [dif_neg h, Hr h, ih (n / 10) Aa]
def Oq (n : Int) : As := if n < 0 then 45 :: Jm n.natAbs else Jm n.toNat
theorem Rn (n : Nat) : Oq (n : Nat) = Jm n := by unfold Oq; rw [if_neg (by omega)]; rfl
theorem Aa3 (n : Int) : Lib.itoa n = Oq n := by unfold Lib.itoa Oq; rw [Zm, Zm]
theorem Mem.grow {I : Heap} {L : Bh} {w : World} (h : Mem I L w) (k : Nat) (os : Array Obj) : Mem I L (Sort.grow (w.drewN k) os) := by
 have hk : ∀ b o, w.heap[b]? = some o → (w.heap ++ os)[b]? = some o := fun b o hb => by
  have hlt : b < w.heap.size := by
   rcases Nat.lt_or_ge b w.heap.size with g | g
   ·exact g
   ·rw [Array.getElem?_eq_none g] at hb; cases hb
  rw [Array.getElem?_append_left hlt]; exact hb
 exact ⟨⟨fun b o hb => hk b o (h.1.1 b o hb), h.1.2⟩, fun p hp => ⟨hk _ _ (h.2.1 p hp).1, (h.2.1 p hp).2⟩, h.2.2⟩
theorem Jh {I : Heap} (ht : Tab I) (n : Int) (h0 : -9223372036854775808 ≤ n) (h1 : n ≤ 9223372036854775807) (L : Bh) : Fun Tryz.prog 158 [.int .i64 n] I L (Ee (.string (str (Oq n))) I L) := by
 refine ⟨fun w hm => (Any.strconv_Itoa Ac8 n h0 h1 w (ht L w hm)).mono ?_⟩; rintro e w' ⟨rfl, k, os, rfl⟩; refine ⟨_, I, L, rfl, .refl _, hm.grow k os, ?_⟩; rw [Aa3]
 exact ⟨rfl, rfl, rfl⟩
end Go.Proofs.YtmfagaajiakgoaaGreatDoor
