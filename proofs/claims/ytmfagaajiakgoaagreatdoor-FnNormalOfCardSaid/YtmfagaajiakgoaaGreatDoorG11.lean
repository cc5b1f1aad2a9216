/- Types as they are drawn. No conditions. -/
import Derived.Test.YtmfagaajiakgoaaGreatDoorG10

namespace Go.Proofs.YtmfagaajiakgoaaGreatDoor
set_option maxRecDepth 100000
set_option linter.unusedVariables false
set_option linter.unusedSimpArgs false

def DT (b : Nat) (oa : Option Addr) (l : List UInt8) (c p K B : Nat) (L : Bo) : De := fun v I' L' => ∃ s p', v = .string (str s) ∧ List.length s ≤ B ∧ p ≤ p' ∧ p' ≤ p + K ∧ L' = rd b oa l c p' :: L
def kT : Nat → Nat
 | 0 => 0
 | d + 1 => 2 + 2 * kT d
def bT : Nat → Nat
 | 0 => 1
 | d + 1 => 5 + 2 * bT d
theorem Afj : ∀ d, 1 ≤ bT d
 | 0 => Nat.le_refl _
 | d + 1 => by simp only [bT]; omega
theorem Lu : ∀ (d : Nat) {I : Heap} {oa : Option Addr} {l : List UInt8} {c : Nat} (_ : Bytes I oa l c) (_ : l.length ≤ 2000) (b p : Nat) (_ : p + kT d ≤ 1099511627776) (_ : bT d ≤ 1000000) (_ : d ≤ 1000) (L : Bo),
  Fun Tryz.prog 134 [.pointer (some ⟨b, 0, none⟩), .int .i64 (d : Nat)] I (rd b oa l c p :: L) (DT b oa l c p (kT d) (bT d) L) := by
 intro d
 induction d with
 | zero =>
  intro I oa l c h hl b p hp hb hd L; refine Ao Af ?_; refine Se rfl (Oa rfl (Ab (Ah (Se rfl (Om rfl (Oc rfl rfl rfl (Om rfl ?_)))))))
  first | refine Afs rfl rfl Af ?_ | refine Afr rfl rfl Af ?_
  iterate 3 refine C1 rfl rfl rfl ?_
  refine Ot rfl rfl (Ab ?_); refine Cx rfl ?_; refine Se rfl (Oa rfl (Ab (Al (.tmp rfl .nil) ?_)))
  exact ⟨I, _, .refl _, fun _ h => h, [105], p, rfl, by decide, Nat.le_refl _, by omega, rfl⟩
 | succ d ihd =>
  intro I oa l c h hl b p hp hb hd L
  simp only [kT, bT] at hp hb ⊢
  have hbp := Afj d
  refine Ao Af ?_; refine Se rfl (Oa rfl (Ab (Ah (Se rfl (Om rfl (Oc rfl rfl rfl (Om rfl ?_)))))))
  first | refine Afp rfl rfl Aa ?_ | refine Afo rfl rfl Aa ?_
  refine Ow rfl ?_; refine Cq rfl (.met rfl rfl) rfl (D7 h hl b p 2 Aa Ae L) ?_; rintro _ _ _ _ ⟨r, rfl, rfl, rfl, hr⟩; refine D0 rfl rfl rfl (.met rfl rfl) rfl ?_; refine Of rfl rfl (Ab ?_); refine Si rfl ?_ ?_
  ·intro c0; refine Se rfl (Oa rfl (Ab (Al (.tmp rfl .nil) ?_)))
   exact ⟨I, _, .refl _, fun _ h => h, [105], p + 1, rfl, by simp; omega, by omega, by omega, rfl⟩
  intro c0; refine Ak (Se rfl (Om rfl ?_)); refine Ol rfl rfl ?_; intro b13; refine D5 [[62], [42]] Ae Ae ?_; intro J e1 k1; refine Ca rfl (Ff (h.mono e1) hl b (p + 1) Aa k1 Af L) ?_; rintro _ _ _ _ ⟨s, rfl, hs, rfl, rfl⟩
  have hsl : s.length = 1 := by revert s; decide
  refine Ok rfl rfl ?_; refine Ok rfl rfl ?_; refine Om rfl (Om rfl ?_); refine Or rfl rfl rfl ?_; refine Hu (t := 19) (v' := .int .i64 (d : Nat)) rfl Gl ?_; refine Ca rfl (ihd (h.mono e1) hl b (p + 1 + 1) Aa Aa Aa L) ?_; rintro _ J2 _ e2 ⟨s1, p1, rfl, hs1, hp1, hp2, rfl⟩; refine Ok rfl rfl ?_; refine Ok rfl rfl ?_; refine Om rfl (Om rfl ?_); refine Or rfl rfl rfl ?_; refine Hu (t := 25) (v' := .int .i64 (d : Nat)) rfl Gl ?_; refine Ca rfl (ihd ((h.mono e1).mono e2) hl b p1 Aa Aa Aa L) ?_; rintro _ J3 _ e3 ⟨s2, p2, rfl, hs2, hp3, hp4, rfl⟩; refine Ok rfl rfl ?_; refine Ok rfl rfl ?_
  refine Oa rfl (Ab (Al (.tmp rfl .nil) ?_))
  exact ⟨J3, _, (e1.trans e2).trans e3, fun _ h => h, _, p2, rfl, by simp; omega, by omega, by omega, rfl⟩
def Lc (n : Nat) : As := if n < 10 then [UInt8.ofNat (48 + n)] else Lc (n / 10) ++ [UInt8.ofNat (48 + n % 10)]
theorem G9 {n : Nat} (h : n < 10) : Lc n = [UInt8.ofNat (48 + n)] := by rw [Lc, if_pos h]
theorem I0 {n : Nat} (h : ¬ n < 10) : Lc n = Lc (n / 10) ++ [UInt8.ofNat (48 + n % 10)] := by rw [Lc, if_neg h]
section rules
variable {P : Program} {f : FuncId} {n : Nat} {I₀ : Heap} {Q : De} {k : List Item} {E : Hy} {I : Heap} {L : Bo}
variable {ops : Array Oper} {d : Nat} {ty : TypeId} {pos : String} {af : Array Edge} {g : Option (Nat × Bool)} {l : List Oper}
theorem Ae2 {m : Int} (h : 0 ≤ m ∧ m < 256) : IntKind.u8.wrap m = m := by
 simp [IntKind.wrap, IntKind.bits, IntKind.signed]; omega
theorem Va {S : World → Prop} {src dst sz bb sz2 bb2 : Nat} {z z2 : List Value} [hs : Ay P src (.int .i64) sz bb z] [hd : Ay P dst (.int .u8) sz2 bb2 z2] {x : Operand} {a : Nat} (hx : Cw E x = some (.int .i64 (a : Nat))) (ha : a < 256) :
  Iw P E S ⟨some d, .convert src dst x, ty, pos, af, g⟩ (.int .u8 (a : Nat)) := fun ac w he _ => by
 simp only [execOp, he.eval hx]
 refine Ai (a := .int .u8 (a : Nat)) (w' := w) ?_ |>.trans rfl
 unfold convert
 rw [Ai (A9 hs.und w), Ai (A9 hd.und w)]
 simp only [Conv.intToInt]
 rw [Ae2 (by omega)]
 rfl
theorem Aa5 {src dst sz bb sz2 bb2 : Nat} {z z2 : List Value} [hs : Ay P src (.int .i64) sz bb z] [hd : Ay P dst (.int .u8) sz2 bb2 z2] {x : Operand} {a : Nat} (hx : Cw E x = some (.int .i64 (a : Nat))) (ha : a < 256) (hg : Wants ops E g) (hdn : Nat.blt d n = true)
  (h : Bd P f n I₀ Q ops l k ((d, .int .u8 (a : Nat)) :: E) I L) : Bd P f n I₀ Q ops (⟨some d, .convert src dst x, ty, pos, af, g⟩ :: l) k E I L := E2 (Va hx ha) hg hdn h
theorem Nz {src dst e sz bb sz2 bb2 sz3 bb3 : Nat} {z z2 z3 : List Value} [hs : Ay P src (.slice e) sz bb z] [he : Ay P e (.int .u8) sz3 bb3 z3] [hd : Ay P dst .string sz2 bb2 z2] {x : Operand} {ad : Addr} {c a : Nat} (hx : Cw E x = some (.slice (some ad) 1 c)) (hr : Hj I L ad [.int .u8 (a : Nat)]) :
  Iw P E (Mem I L) ⟨some d, .convert src dst x, ty, pos, af, g⟩ (.string (str [UInt8.ofNat a])) := fun ac w he' hm => by
 simp only [execOp, he'.eval hx]
 refine Ai (a := .string (str [UInt8.ofNat a])) (w' := w) ?_ |>.trans rfl
 unfold convert
 rw [Ai (A9 hs.und w), Ai (A9 hd.und w)]
 simp only []
 rw [Ai (A9 he.und w)]
 simp only [Conv.bytesToString]
 have hl : (loadCells ad 1).run P w = .ok [Value.int .u8 (a : Nat)].toArray w := Lj [.int .u8 (a : Nat)] (hr w hm)
 rw [Ai hl]
 rfl
end rules
theorem Rt {n : Nat} (h : n ≤ 1000000000) : (Lc n).length ≤ 12 := by
 have key : ∀ (k m : Nat), m < 10 ^ (k + 1) → (Lc m).length ≤ k + 1 := by
  intro k
  induction k with
  | zero => intro m hm; rw [G9 Aa]; simp
  | succ k ih =>
   intro m hm
   by_cases h1 : m < 10
   ·rw [G9 h1]; simp
   ·rw [I0 h1, List.length_append]
    have := ih (m / 10) (by rw [Nat.pow_succ] at hm; omega)
    simp only [List.length_cons, List.length_nil]; omega
 exact Nat.le_trans (key 10 n Aa) Ae
theorem Vv : ∀ (k n : Nat) (_ : n < k) (_ : n ≤ 1000000000) (I : Heap) (L : Bo), Fun Tryz.prog 101 [.int .i64 (n : Nat)] I L (E1 (.string (str (Lc n))) I L) := by
 intro k
 induction k with
 | zero => intro n h; omega
 | succ k ihk =>
  intro n hlt hn I L; refine Ao Af ?_; refine Se rfl (Oa rfl (Ab (Ah (Se rfl (Om rfl (Oc rfl rfl rfl (Ab ?_)))))))
  first | refine Sf rfl Aa ?_ | refine Bl Av ?_
  refine Ak (Ah (Se rfl (Om rfl (Oc rfl rfl rfl (Ab ?_)))))
  first | refine Sf rfl Aa ?_ | refine Bl Av ?_
  refine Ak (Ah (Se rfl (Om rfl (Oc rfl rfl rfl (Ab ?_))))); refine A0 rfl ?_ ?_
  ·intro c2
   try simp only [nb] at c2
   refine Ah ?_
   have h10 : n < 10 := by omega
   refine Am rfl (Om rfl ?_); refine Or rfl rfl rfl ?_; refine Hu (t := 14) (v' := .int .i64 ((48 + n : Nat))) rfl (by congr 1) ?_; refine Aa5 rfl Aa .free rfl ?_; refine Ol rfl rfl ?_; intro b16; refine E2 (Nz rfl (Bm Dr Ac)) .free rfl ?_; refine Oa rfl (Ab (Al (.tmp rfl .nil) ?_)); refine only rfl ?_; rw [G9 h10]; rfl
  intro c2
  try simp only [nb] at c2
  refine Ak (Ah ?_)
  have h10 : ¬ n < 10 := by omega
  obtain ⟨q, hq, hq2⟩ : ∃ q, q = n / 10 ∧ q < n := ⟨_, rfl, by omega⟩; obtain ⟨r, hr, hr2⟩ : ∃ r, r = n % 10 ∧ r < 10 := ⟨_, rfl, Nat.mod_lt _ Aa⟩
  have hdl := Rt (n := q) Aa
  refine Dn 11 rfl rfl ?_; refine Da 0 rfl (Ag rfl) ?_; refine Da 1 rfl (Ad5 (b := 10) rfl rfl Aa Aa) ?_; refine Eh (t := 19) (v' := .int .i64 (q : Nat)) rfl (by rw [hq]) ?_; refine Da 3 rfl (Ag rfl) ?_; refine Da 4 rfl (Z5 (b := 10) rfl rfl Aa) ?_; refine Eh (t := 22) (v' := .int .i64 (r : Nat)) rfl (by rw [hr]) ?_; refine Da 5 rfl (Id rfl rfl rfl Aa) ?_; refine Eh (t := 23) (v' := .int .i64 ((48 + r : Nat))) rfl (by congr 1) ?_; refine Da 6 rfl (Va rfl Aa) ?_; refine El 2 7 Ad ?_ ?_
  ·skip
   refine G0 2 rfl rfl rfl .free rfl (ihk q Aa Aa _ _) ?_; rintro _ _ _ _ ⟨rfl, rfl, rfl⟩; refine Hx ?_; refine C5 7 rfl Ad rfl rfl rfl Ac Ac Ac Ae Ae Ac .free rfl (.inr Ap) ?_; intro b25; refine M2 8 rfl Ad rfl (Nz rfl (Bm Dr Ac)) .free rfl (.inr Ap) ?_; refine Da 9 rfl (Yk rfl rfl) ?_; refine Da 10 rfl (A5 rfl) ?_; refine At Ad ?_; refine Al (.tmp rfl .nil) ?_; refine only rfl ?_; rw [I0 h10, ← hq, ← hr]; rfl
  ·skip
   refine D3 7 rfl rfl rfl rfl Ac Ac Ac Ae Ae Ac .free rfl (.inr Ap) ?_; intro b25; refine El 2 8 Ad ?_ ?_
   ·skip
    refine G0 2 rfl rfl rfl .free rfl (ihk q Aa Aa _ _) ?_; rintro _ _ _ _ ⟨rfl, rfl, rfl⟩; refine Hx ?_; refine M2 8 rfl Ad rfl (Nz rfl (Bm Dr Ac)) .free rfl (.inr Ap) ?_; refine Da 9 rfl (Yk rfl rfl) ?_; refine Da 10 rfl (A5 rfl) ?_; refine At Ad ?_; refine Al (.tmp rfl .nil) ?_; refine only rfl ?_; rw [I0 h10, ← hq, ← hr]; rfl
   ·skip
    refine Lw 8 rfl rfl (Nz rfl (Bm Dr Ac)) .free rfl (.inr Ap) ?_; refine Dc 2 rfl rfl (ihk q Aa Aa _ _) ?_; rintro _ _ _ _ ⟨rfl, rfl, rfl⟩; refine Hx ?_; refine Da 9 rfl (Yk rfl rfl) ?_; refine Da 10 rfl (A5 rfl) ?_; refine At Ad ?_; refine Al (.tmp rfl .nil) ?_; refine only rfl ?_; rw [I0 h10, ← hq, ← hr]; rfl
def Ex.value : Ex → Bool
 | .num _ => true
 | .fn _ _ _ _ _ => true
 | .bin .pair a b => a.value && b.value
 | _ => false
def Ex.print : Ex → Tree
 | .bin .pair a b => .node [] [.node Ey [], a.print, b.print]
 | .fn _ _ _ _ _ => .node C6 []
 | e => e.tree
theorem Aa9 (a b : Tree) : (Tree.node [] [.node Ey [], a, b]).text = [40, 112, 97, 105, 114, 32] ++ a.text ++ [32] ++ b.text ++ [41] := by
 simp [Tree.text, Gu, Ey]
def Wl (s : As) : Option Ex := match Ho s with
 | some e => if e.value = true then some e else none
 | none => none
def Agw (s : As) : Option As := (Wl s).map fun e => e.print.text
def Ty.sample : Ty → Ex
 | .i => .num [48]
 | .pr a b => .bin .pair a.sample b.sample
 | .fn a b => .fn [102] [120] a b b.sample
theorem Ty.sample_ok : ∀ {t : Ty}, t.size ≤ 16 → t.sample.ok = true
 | .i, _ => by decide
 | .pr a b, h => by
  simp only [Ty.size] at h
  simp only [Ty.sample, Ex.ok, Bool.and_eq_true]
  exact ⟨Ty.sample_ok (by omega), Ty.sample_ok (by omega)⟩
 | .fn a b, h => by
  simp only [Ty.size] at h
  simp only [Ty.sample, Ex.ok, Bool.and_eq_true, decide_eq_true_eq]
  exact ⟨⟨⟨⟨⟨by decide, by decide⟩, by decide⟩, by omega⟩, by omega⟩, Ty.sample_ok (by omega)⟩
theorem Ty.sample_len : ∀ {t : Ty}, t.size ≤ 16 → t.sample.tree.len ≤ 200 * t.size
 | .i, _ => by decide
 | .pr a b, h => by
  simp only [Ty.size] at h ⊢
  have h1 := Ty.sample_len (t := a) (by omega)
  have h2 := Ty.sample_len (t := b) (by omega)
  simp only [Ty.sample, Ex.tree, Tree.len, G1, List.isEmpty_cons, cond_false, List.isEmpty_nil, cond_true, B5.txt, Ey, List.length_cons, List.length_nil]
  omega
 | .fn a b, h => by
  simp only [Ty.size] at h ⊢
  have h2 := Ty.sample_len (t := b) (by omega)
  have h3 := a.tree_small
  have h4 := b.tree_small
  simp only [Ty.sample, Ex.tree, Tree.len, G1, List.isEmpty_cons, cond_false, List.isEmpty_nil, cond_true, C6, List.length_cons, List.length_nil]
  omega
theorem Ty.sample_chk : ∀ {t : Ty} {l : List As} {m : List Ty}, t.size ≤ 16 → t.sample.chk l m = .ok t
 | .i, l, m, _ => rfl
 | .pr a b, l, m, h => by
  have h0 := h
  simp only [Ty.size] at h
  simp only [Ty.sample, Ex.chk, Ty.sample_chk (t := a) (l := l) (m := m) (by omega), Ty.sample_chk (t := b) (l := l) (m := m) (by omega), B5.ty, if_pos h0]
 | .fn a b, l, m, h => by
  have h0 := h
  simp only [Ty.size] at h
  simp only [Ty.sample, Ex.chk, if_pos h0, Ty.sample_chk (t := b) (by omega), if_true]
theorem Ty.sample_value : ∀ t : Ty, t.sample.value = true
 | .i => rfl
 | .pr a b => by simp [Ty.sample, Ex.value, a.sample_value, b.sample_value]
 | .fn a b => rfl
def Ex.txt (e : Ex) : As := e.tree.text
theorem Ty.sample_textlen {t : Ty} (h : t.size ≤ 16) : t.sample.tree.text.length ≤ 3200 := by
 have := Ty.sample_len h; rw [Tree.text_len]; omega
theorem Ace (f x : As) (s t : Ty) (b : Ex) : (Ex.fn f x s t b).tree.text = [40, 102, 117, 110, 32] ++ f ++ [32] ++ x ++ [32] ++ s.tree.text ++ [32] ++ t.tree.text ++ [32] ++ b.tree.text ++ [41] := by
 simp [Ex.tree, Tree.text, Gu, C6]
def Ro (s : As) : Option As := match Mp s with
 | some t => if t.sample.fine = true then some t.sample.tree.text else none
 | none => none
theorem Qq {s : As} (h : Mp s = none) : Ro s = none := by unfold Ro; rw [h]
theorem Qr {s : As} {t : Ty} (h : Mp s = some t) : Ro s = if t.sample.fine = true then some t.sample.tree.text else none := by unfold Ro; rw [h]
theorem Adh {s o : As} (h : Ro s = some o) : ∃ t, Mp s = some t ∧ s = t.tree.text ∧ Eu o = some t.sample ∧ Ho o = some t.sample ∧ tyC o = some t ∧ (Wl o).isSome = true ∧ o.length ≤ 3200 := by
 cases ht : Mp s with
 | none => rw [Qq ht] at h; cases h
 | some t =>
  rw [Qr ht] at h; obtain ⟨h1, h2, h3⟩ := U7 ht
  split at h
  ·rename_i hf
   cases h
   have hx := Lo (Ty.sample_ok h2)
   rw [if_pos hf] at hx
   have hty : t.sample.ty [] [] = some t := by unfold Ex.ty; rw [Ty.sample_chk h2]
   have hc : Ho t.sample.tree.text = some t.sample := by
    unfold Ho; rw [hx]; simp [Ex.ty_closed hty]
   refine ⟨t, rfl, h3, hx, hc, ?_, ?_, Ty.sample_textlen h2⟩
   ·unfold tyC; rw [hx]; exact hty
   ·unfold Wl; rw [hc]; simp [t.sample_value]
  ·cases h
theorem Acm : ∀ (n : Nat) {I : Heap} {t : Ty} {cs : List Value} (_ : SizeOf.sizeOf t < n) (_ : Rep I t.tree cs) (_ : t.size ≤ 16) (L : Bo), Fun Tryz.prog 206 [.agg cs.toArray] I L (E1 (.string (str t.sample.tree.text)) I L) := by
 intro n
 induction n with
 | zero => intro I t cs h; omega
 | succ n ihn =>
  intro I t cs hlt h hsz L; obtain ⟨oc, cc, oaf, cf, rfl, hf⟩ := h.at'
  have hg := t.tree_good.1
  have hfn := hf.nil
  refine Ao Af ?_; refine Se rfl ?_; refine Cn rfl rfl .free rfl ?_; intro b1; refine Oa rfl (Ab (Ah (Se rfl (Oh rfl ?_)))); refine Bz rfl .free rfl ?_; refine Od rfl rfl rfl (Ab ?_); refine A0 rfl ?_ ?_
  ·intro c0
   try simp only [nb] at c0
   refine Se rfl (Oa rfl (Ab (Al (.tmp rfl .nil) ?_))); refine only rfl ?_
   cases t with
   | i => rfl
   | fn a b => exact absurd rfl c0
   | pr a b => exact absurd rfl c0
  intro c0
  try simp only [nb] at c0
  have hpl : t.tree.parts.length = 3 := by
   cases t with
   | i => exact absurd c0 Ae
   | fn a b => rfl
   | pr a b => rfl
  have hhd := I4 (t := t.tree) Aa
  refine Ak (Ah (Se rfl (Oh rfl ?_))); refine Bz rfl .free rfl ?_
  first | refine Bx rfl rfl 0 rfl .free rfl ?_ | refine By rfl rfl 0 rfl .free rfl ?_
  refine Bg rfl .free rfl ?_; refine Gb rfl .free rfl ?_; refine Od rfl rfl rfl (Ab ?_); refine A0 rfl ?_ ?_
  ·intro c1
   try simp only [nb] at c1
   obtain ⟨a, b, rfl⟩ : ∃ a b, t = .pr a b := by
    cases t with
    | i => exact absurd c0 Ae
    | pr a b => exact ⟨a, b, rfl⟩
    | fn a b => exact absurd (show ([62] : As) = [42] from c1) Ae
   simp only [Ty.pr.sizeOf_spec] at hlt
   simp only [Ty.size] at hsz
   have ha16 : a.size ≤ 16 := by omega
   have hb16 : b.size ≤ 16 := by omega
   have hl1 := Ty.sample_textlen ha16
   have hl2 := Ty.sample_textlen hb16
   refine Ah ?_; refine Dn 15 rfl rfl ?_; refine Da 0 rfl (Aj rfl) ?_; refine Dt 1 [15] rfl (Bc rfl) ?_
   first | refine Da 2 rfl (A3 rfl rfl 1 rfl) ?_ | refine Da 2 rfl (A4 rfl rfl 1 rfl) ?_
   refine Dt 3 [15] rfl (B7 rfl) ?_; refine Da 7 rfl (Aj rfl) ?_; refine Dt 8 [15] rfl (Bc rfl) ?_
   first | refine Da 9 rfl (A3 rfl rfl 2 rfl) ?_ | refine Da 9 rfl (A4 rfl rfl 2 rfl) ?_
   refine Dt 10 [15] rfl (B7 rfl) ?_; refine Dc 4 rfl rfl (ihn (t := a) Aa (hf.as 1 a.tree Aa rfl) ha16 _) ?_; rintro _ _ _ _ ⟨rfl, rfl, rfl⟩; refine Hx ?_; refine Da 5 rfl (Yk rfl rfl) ?_; refine Da 6 rfl (Yk rfl rfl) ?_; refine Dc 11 rfl rfl (ihn (t := b) Aa (hf.as 2 b.tree Aa rfl) hb16 _) ?_; rintro _ _ _ _ ⟨rfl, rfl, rfl⟩; refine Hx ?_; refine Da 12 rfl (Yk rfl rfl) ?_; refine Da 13 rfl (Yk rfl rfl) ?_; refine Da 14 rfl (A5 rfl) ?_; refine At Ad ?_; refine Al (.tmp rfl .nil) ?_; refine only rfl ?_
   have := Aa9 a.sample.tree b.sample.tree
   rw [show (Ty.pr a b).sample.tree.text = _ from this]; rfl
  intro c1
  try simp only [nb] at c1
  obtain ⟨a, b, rfl⟩ : ∃ a b, t = .fn a b := by
   cases t with
   | i => exact absurd c0 Ae
   | fn a b => exact ⟨a, b, rfl⟩
   | pr a b => exact absurd rfl c1
  simp only [Ty.fn.sizeOf_spec] at hlt
  simp only [Ty.size] at hsz
  have ha16 : a.size ≤ 16 := by omega
  have hb16 : b.size ≤ 16 := by omega
  have hl1 := Ty.text_len ha16
  have hl2 := Ty.text_len hb16
  have hl3 := Ty.sample_textlen hb16
  have hs1 := a.tree_small
  have hs2 := b.tree_small
  refine Ak (Ah ?_); refine Dn 22 rfl rfl ?_; refine Da 0 rfl (Aj rfl) ?_; refine Dt 1 [22] rfl (Bc rfl) ?_
  first | refine Da 2 rfl (A3 rfl rfl 1 rfl) ?_ | refine Da 2 rfl (A4 rfl rfl 1 rfl) ?_
  refine Dt 3 [22] rfl (B7 rfl) ?_; refine Da 7 rfl (Aj rfl) ?_; refine Dt 8 [22] rfl (Bc rfl) ?_
  first | refine Da 9 rfl (A3 rfl rfl 2 rfl) ?_ | refine Da 9 rfl (A4 rfl rfl 2 rfl) ?_
  refine Dt 10 [22] rfl (B7 rfl) ?_; refine Da 14 rfl (Aj rfl) ?_; refine Dt 15 [22] rfl (Bc rfl) ?_
  first | refine Da 16 rfl (A3 rfl rfl 2 rfl) ?_ | refine Da 16 rfl (A4 rfl rfl 2 rfl) ?_
  refine Dt 17 [22] rfl (B7 rfl) ?_; refine Dc 4 rfl rfl (Kq (t := a.tree) _ (Nat.lt_succ_self _) (hf.as 1 a.tree Aa rfl) a.tree_good.1 Aa _) ?_; rintro _ _ _ _ ⟨rfl, rfl, rfl⟩; refine Hx ?_; refine Da 5 rfl (Yk rfl rfl) ?_; refine Da 6 rfl (Yk rfl rfl) ?_; refine Dc 11 rfl rfl (Kq (t := b.tree) _ (Nat.lt_succ_self _) (hf.as 2 b.tree Aa rfl) b.tree_good.1 Aa _) ?_; rintro _ _ _ _ ⟨rfl, rfl, rfl⟩; refine Hx ?_; refine Da 12 rfl (Yk rfl rfl) ?_; refine Da 13 rfl (Yk rfl rfl) ?_; refine Dc 18 rfl rfl (ihn (t := b) Aa (hf.as 2 b.tree Aa rfl) hb16 _) ?_; rintro _ _ _ _ ⟨rfl, rfl, rfl⟩; refine Hx ?_
  refine Da 19 rfl (Yk rfl rfl) ?_; refine Da 20 rfl (Yk rfl rfl) ?_; refine Da 21 rfl (A5 rfl) ?_; refine At Ad ?_; refine Al (.tmp rfl .nil) ?_; refine only rfl ?_
  have := Ace [102] [120] a b b.sample
  rw [show (Ty.fn a b).sample.tree.text = _ from this]; rfl
def smp (t : Tree) : Ex := (t.ty.getD .i).sample
theorem P0 (a : Ty) : smp a.tree = a.sample := by unfold smp; rw [a.tree_ty]; rfl
theorem Aej {I : Heap} {t : Tree} {cs : List Value} (h : Rep I t cs) (ht : ∃ a : Ty, t = a.tree ∧ a.size ≤ 16) (L : Bo) : Fun Tryz.prog 206 [.agg cs.toArray] I L (E1 (.string (str (smp t).tree.text)) I L) := by
 obtain ⟨a, rfl, h1⟩ := ht; rw [P0]
 exact Acm _ (Nat.lt_succ_self _) h h1 L
theorem Xa (s : As) (hs : s.length ≤ Ba) (I : Heap) (L : Bo) : Fun Tryz.prog 195 [.string (str s)] I L (EL (Ro s) L) := by
 refine Ao Af ?_; refine Se rfl (Oa rfl (Oa rfl (Ab (Se rfl (Om rfl ?_))))); refine Ca rfl (Un s hs _ _) ?_; rintro _ J _ e1 ⟨t, cs, ok, rfl, hrep, rfl, hpf⟩; obtain ⟨o1, k1, _, rfl, -⟩ := hrep.open
 have hty := U6 hpf
 refine Om rfl (Oe rfl rfl (Oe rfl rfl ?_)); refine Aw .free rfl ?_; intro b4; refine Bu rfl rfl rfl rfl .free ?_; refine Oa rfl (Ab (Ah (Se rfl (Om rfl ?_)))); refine Ec rfl .free rfl ?_; refine Om rfl ?_
 apply G5 13 17 rfl
 ·intro g2_3 hk
  try simp only [nb] at g2_3
  have hp := Gg (Iy hpf g2_3)
  refine A2 rfl (.met rfl rfl) rfl ?_; refine Cq rfl (.met rfl rfl) rfl (Nr hrep hp.1 (Tree.size_maxN hp.2.1) _) ?_; rintro _ _ _ _ ⟨rfl, rfl, rfl⟩; refine Ec rfl (.met rfl rfl) rfl ?_; refine Of rfl rfl ?_
  exact A7 3 rfl rfl hk
 ·intro _ hk; refine Bj 3 rfl ?_; refine Ot rfl rfl ?_
  exact A7 3 rfl rfl hk
 refine Om rfl ?_
 apply G5 18 23 rfl
 ·intro g2_8 hk
  try simp only [nb] at g2_8
  obtain ⟨a, ha, hta, hsz⟩ := hty.1 g2_8.1 g2_8.2
  have hl : (smp t).tree.text.length ≤ 3200 := by rw [hta, P0]; exact Ty.sample_textlen hsz
  refine A2 rfl (.met rfl rfl) rfl ?_; refine Cq rfl (.met rfl rfl) rfl (Aej hrep ⟨a, hta, hsz⟩ _) ?_; rintro _ _ _ _ ⟨rfl, rfl, rfl⟩; refine Cq rfl (.met rfl rfl) rfl (M5 _ Ch _ _) ?_; rintro _ _ _ _ ⟨rfl, rfl, rfl⟩; refine Ec rfl (.met rfl rfl) rfl ?_; refine Of rfl rfl ?_
  exact A7 4 rfl rfl hk
 ·intro _ hk; refine Bj 4 rfl ?_; refine Ot rfl rfl ?_
  exact A7 4 rfl rfl hk
 refine Ab ?_; refine A0 rfl ?_ ?_
 ·intro c0
  try simp only [nb] at c0
  refine Se rfl (Oa rfl (Oa rfl (Ab ?_))); refine Al (.tmp rfl (.tmp rfl .nil)) ?_; refine ⟨J, L, e1, Bk, ?_, rfl⟩
  have hz : Ro s = none := by
   by_cases h1 : ok = true
   ·by_cases h2 : t.typed = true
    ·obtain ⟨a, ha, hta, hsz⟩ := hty.1 h1 h2
     rcases c0 with (h | h) | h
     ·rw [h1] at h; cases h
     ·rw [h2] at h; cases h
     ·rw [hta, P0, Lo (Ty.sample_ok hsz)] at h; rw [Qr ha]
      cases hf : a.sample.fine with
      | true => rw [hf] at h; cases h
      | false => rfl
    ·exact Qq (hty.2 (.inr (by simpa using h2)))
   ·exact Qq (hty.2 (.inl (by simpa using h1)))
  rw [hz]; rfl
 intro c0
 try simp only [nb] at c0
 obtain ⟨⟨h1, h2⟩, h3⟩ := c0; obtain ⟨a, ha, rfl, hsz⟩ := hty.1 h1 h2; refine Ak (Se rfl ?_); refine A2 rfl .free rfl ?_; refine Ca rfl (Acm _ (Nat.lt_succ_self _) hrep hsz _) ?_; rintro _ _ _ _ ⟨rfl, rfl, rfl⟩; refine Oa rfl (Oa rfl (Ab ?_)); refine Al (.tmp rfl (.tmp rfl .nil)) ?_; refine ⟨J, L, e1, Bk, ?_, rfl⟩; rw [P0, Lo (Ty.sample_ok hsz)] at h3
 cases hf : a.sample.fine with
 | false => rw [hf] at h3; cases h3
 | true => rw [Qr ha, if_pos hf]; rfl
structure ScAt (I : Heap) (ns ts : List As) (oa : Option Addr) (c : Nat) (ob : Option Addr) (c' : Nat) : Prop where
 names : Strs I oa ns c
 types : Strs I ob ts c'
 len : ns.length = ts.length
 nb : ∀ s ∈ ns, s.length ≤ 4
 tb : ∀ s ∈ ts, s.length ≤ 1000
theorem ScAt.mono {I I' : Heap} (hle : HLe I I') {ns ts : List As} {oa : Option Addr} {c : Nat} {ob : Option Addr} {c' : Nat} (h : ScAt I ns ts oa c ob c') : ScAt I' ns ts oa c ob c' :=
 ⟨h.names.mono hle, h.types.mono hle, h.len, h.nb, h.tb⟩
def RSc (ns ts : List As) (L : Bo) : De := fun v I' L' => ∃ oa c ob c', v = .agg [.slice oa (List.length ns) c, .slice ob (List.length ts) c'].toArray ∧ ScAt I' ns ts oa c ob c' ∧ L = L'
theorem Lt {I : Heap} {ns ts : List As} {oa ob : Option Addr} {c c' : Nat} (h : ScAt I ns ts oa c ob c') (x k : As) (hx : x.length ≤ 4) (hk : k.length ≤ 1000) (hn : ns.length ≤ 200) (L : Bo) :
  Fun Tryz.prog 164 [.agg [.slice oa ns.length c, .slice ob ts.length c'].toArray, .string (str x), .string (str k)] I L (RSc (ns ++ [x]) (ts ++ [k]) L) := by
 have hlen := h.len
 have hlr : HLe I I := .refl _
 have hxm : x.length ≤ Ba := by unfold Ba; omega
 have hkm : k.length ≤ Ba := by unfold Ba; omega
 refine Ao Af ?_; refine Se rfl ?_; refine Cn rfl rfl .free rfl ?_; intro b3; refine Aw .free rfl ?_; intro b6; refine Ab (Ah ?_); refine Dn 12 rfl rfl ?_; refine Da 0 rfl (Aj rfl) ?_; refine Dt 1 [11] rfl (Bc rfl) ?_; refine Da 2 rfl (Ag rfl) ?_; refine Da 5 rfl (Aj rfl) ?_; refine Dt 6 [11] rfl (Bc rfl) ?_; refine Da 7 rfl (Ag rfl) ?_; refine El 3 8 Ad ?_ ?_
 ·skip
  refine D3 3 rfl rfl rfl rfl Ac Ac Ac Ae Ae Ac .free rfl (.inr Ap) ?_; intro b10; refine Cp ?_; intro hz
  have hlr := hlr.trans hz
  have h := h.mono hz
  have hk1 := Jk hz hxm
  try have hk2 := hk2.mono hz
  refine El 4 8 Ad ?_ ?_
  ·skip
   refine G0 4 rfl rfl rfl .free rfl (Lr h.names hk1 Ip _) ?_; rintro _ J2 _ e2 ⟨o3, c3', rfl, hn3, rfl⟩
   have hlr := hlr.trans e2
   have h := h.mono e2
   try have hk2 := hk2.mono e2
   refine Hx ?_; refine C5 8 rfl Ad rfl rfl rfl Ac Ac Ac Ae Ae Ac .free rfl (.inr Ap) ?_; intro b15; refine Cp ?_; intro hz
   have hlr := hlr.trans hz
   have h := h.mono hz
   have hk2 := Jk hz hkm
   try have hk1 := hk1.mono hz
   try have hn3 := hn3.mono hz
   refine Dc 9 rfl rfl (Lr h.types hk2 Ip _) ?_; rintro _ J3 _ e3 ⟨o4, c4', rfl, hn4, rfl⟩
   have hlr := hlr.trans e3
   have hn3 := hn3.mono e3
   refine Hx ?_; refine Da 10 rfl (E0 rfl rfl rfl) ?_; refine Dx 11 rfl rfl rfl rfl ?_; refine At Ad ?_; refine Al (.c rfl .nil) ?_
   exact ⟨J3, L, hlr, Bk, o3, c3', o4, c4', rfl, ⟨hn3, hn4, by simp [hlen], (fun s hs => by rcases List.mem_append.1 hs with hs | hs; exact h.nb s hs; rw [List.mem_singleton.1 hs]; exact hx), (fun s hs => by rcases List.mem_append.1 hs with hs | hs; exact h.tb s hs; rw [List.mem_singleton.1 hs]; exact hk)⟩, rfl⟩
  ·skip
   refine D3 8 rfl rfl rfl rfl Ac Ac Ac Ae Ae Ac .free rfl (.inr Ap) ?_; intro b15; refine Cp ?_; intro hz
   have hlr := hlr.trans hz
   have h := h.mono hz
   have hk2 := Jk hz hkm
   try have hk1 := hk1.mono hz
   try have hn3 := hn3.mono hz
   refine Dc 4 rfl rfl (Lr h.names hk1 Ip _) ?_; rintro _ J2 _ e2 ⟨o3, c3', rfl, hn3, rfl⟩
   have hlr := hlr.trans e2
   have h := h.mono e2
   try have hk2 := hk2.mono e2
   refine Hx ?_; refine Dc 9 rfl rfl (Lr h.types hk2 Ip _) ?_; rintro _ J3 _ e3 ⟨o4, c4', rfl, hn4, rfl⟩
   have hlr := hlr.trans e3
   have hn3 := hn3.mono e3
   refine Hx ?_; refine Da 10 rfl (E0 rfl rfl rfl) ?_; refine Dx 11 rfl rfl rfl rfl ?_; refine At Ad ?_; refine Al (.c rfl .nil) ?_
   exact ⟨J3, L, hlr, Bk, o3, c3', o4, c4', rfl, ⟨hn3, hn4, by simp [hlen], (fun s hs => by rcases List.mem_append.1 hs with hs | hs; exact h.nb s hs; rw [List.mem_singleton.1 hs]; exact hx), (fun s hs => by rcases List.mem_append.1 hs with hs | hs; exact h.tb s hs; rw [List.mem_singleton.1 hs]; exact hk)⟩, rfl⟩
 ·skip
  refine D3 8 rfl rfl rfl rfl Ac Ac Ac Ae Ae Ac .free rfl (.inr Ap) ?_; intro b15; refine Cp ?_; intro hz
  have hlr := hlr.trans hz
  have h := h.mono hz
  have hk2 := Jk hz hkm
  try have hk1 := hk1.mono hz
  try have hn3 := hn3.mono hz
  refine C5 3 rfl Ad rfl rfl rfl Ac Ac Ac Ae Ae Ac .free rfl (.inr Ap) ?_; intro b10; refine Cp ?_; intro hz
  have hlr := hlr.trans hz
  have h := h.mono hz
  have hk1 := Jk hz hxm
  try have hk2 := hk2.mono hz
  refine Dc 4 rfl rfl (Lr h.names hk1 Ip _) ?_; rintro _ J2 _ e2 ⟨o3, c3', rfl, hn3, rfl⟩
  have hlr := hlr.trans e2
  have h := h.mono e2
  try have hk2 := hk2.mono e2
  refine Hx ?_; refine Dc 9 rfl rfl (Lr h.types hk2 Ip _) ?_; rintro _ J3 _ e3 ⟨o4, c4', rfl, hn4, rfl⟩
  have hlr := hlr.trans e3
  have hn3 := hn3.mono e3
  refine Hx ?_; refine Da 10 rfl (E0 rfl rfl rfl) ?_; refine Dx 11 rfl rfl rfl rfl ?_; refine At Ad ?_; refine Al (.c rfl .nil) ?_
  exact ⟨J3, L, hlr, Bk, o3, c3', o4, c4', rfl, ⟨hn3, hn4, by simp [hlen], (fun s hs => by rcases List.mem_append.1 hs with hs | hs; exact h.nb s hs; rw [List.mem_singleton.1 hs]; exact hx), (fun s hs => by rcases List.mem_append.1 hs with hs | hs; exact h.tb s hs; rw [List.mem_singleton.1 hs]; exact hk)⟩, rfl⟩
theorem Ad0 (o : Option (Ty × Ty)) (sg s : As) (h : o = Hw sg s) : (t1 o).length ≤ 80 ∧ (t2 o).length ≤ 80 := by
 subst h
 cases h : Hw sg s with
 | none => exact ⟨by decide, by decide⟩
 | some p =>
  obtain ⟨a, b⟩ := p
  unfold Hw at h
  cases ht : Mp s with
  | none => rw [ht] at h; cases h
  | some t =>
   rw [ht] at h
   have h1 := (U7 ht).2.1
   cases t with
   | i => cases h
   | fn x y =>
    simp only at h
    split at h
    ·cases h; simp only [Ty.size] at h1
     exact ⟨Ty.text_len (t := a) Aa, Ty.text_len (t := b) Aa⟩
    ·cases h
   | pr x y =>
    simp only at h
    split at h
    ·cases h; simp only [Ty.size] at h1
     exact ⟨Ty.text_len (t := a) Aa, Ty.text_len (t := b) Aa⟩
    ·cases h
theorem Adi {s o : As} (h : Ro s = some o) : o.length ≤ 3200 := by obtain ⟨_, _, _, _, _, _, _, h⟩ := Adh h; exact h
structure LFs where
 i : Nat
 fs : List As
 b : Nat
 sp : List Value
 c : Nat
theorem Qe {I : Heap} {oa : Option Addr} {l : List UInt8} {c : Nat} (h : Bytes I oa l c) (hl : l.length ≤ 2000) (b p : Nat) (hp : p + 4 ≤ 1099511627776) {ns ts : List As} {o1 o2 : Option Addr} {c1 c2 : Nat} (hs : ScAt I ns ts o1 c1 o2 c2) (hn : ns.length ≤ 100) (want : As) (hw : want.length ≤ 1000) (L : Bo) :
  Fun Tryz.prog 163 [.pointer (some ⟨b, 0, none⟩), .agg [.slice o1 ns.length c1, .slice o2 ts.length c2].toArray, .string (str want)] I (rd b oa l c p :: L) (DT b oa l c p 4 3300 L) := by
 have hlen := hs.len
 have hnl := hs.names
 refine Ao Af ?_; refine Se rfl ?_; refine Cn rfl rfl .free rfl ?_; intro b4; refine Oa rfl (Ab (Se rfl ?_)); refine Do .free rfl ?_; intro b11; refine Oa rfl (Ab (Ah (Se rfl (Oa rfl (Ab (Aq ?_))))))
 refine C7 (X := LFs) (fun x => ns.length - x.i) (fun x => [(0, .pointer (some ⟨b, 0, none⟩)), (2, .string (str want)), (4, .pointer (some ⟨b4, 0, none⟩)), (6, .string (str [])), (7, .slice (some ⟨x.b, 0, none⟩) x.fs.length x.c), (8, .int .i64 (x.i : Nat))]) (fun _ => I) (fun x => (x.b, .cells (x.fs.map sv ++ x.sp).toArray 9 (0, 0)) :: (b4, .cells [.slice o1 ns.length c1, .slice o2 ts.length c2].toArray 134 (0, 0)) :: rd b oa l c p :: L) (fun x => x.i ≤ ns.length ∧ x.fs.length ≤ x.i ∧ (∀ s ∈ x.fs, s.length ≤ 4) ∧ C8 1 x.fs.length x.c (x.fs.map sv) (some (x.b, x.sp))) ⟨0, [], b11, [], 0⟩ ⟨Nat.zero_le _, Nat.zero_le _, (fun _ h => by cases h), ⟨rfl, Nat.le_refl _, rfl⟩⟩ ⟨rfl, rfl, rfl, rfl, rfl, rfl, trivial⟩ (by intro _ h; exact h) ?_
 rintro ⟨i, fs, bb, sp, cb⟩ ⟨hi, hfi, hfs, hB⟩ ih
 simp only at hi hfi hfs hB ih ⊢
 refine Ah (Se rfl (Om rfl (Oh rfl ?_))); refine Bz rfl .free rfl ?_; refine On rfl (Oc rfl rfl rfl (Ab ?_)); refine A0 rfl ?_ ?_
 ·intro c0
  try simp only [nb] at c0
  have hi1 : i < ns.length := by omega
  have hel : (ns.getD i []).length ≤ 4 := hs.nb _ (by rw [show ns.getD i [] = ns[i] by simp [hi1]]; exact List.getElem_mem _)
  have hle0 : HLe I I := .refl _
  refine Ak (Ah (Aq (Ah ?_))); refine Dn 12 rfl rfl ?_; refine Da 0 rfl (Aj rfl) ?_; refine Dt 1 [12] rfl (Bc rfl) ?_; refine Da 2 rfl (Aj rfl) ?_; refine Dt 3 [12] rfl (Bc rfl) ?_; refine Da 4 rfl (Aj rfl) ?_; refine Dt 5 [12] rfl (Bc rfl) ?_; refine Da 6 rfl (Ag rfl) ?_
  first | refine Da 7 rfl (A3 rfl rfl _ rfl) ?_ | refine Da 7 rfl (A4 rfl rfl _ rfl) ?_
  refine Dt 8 [12] rfl (Tr rfl) ?_; refine Da 10 rfl (Ag rfl) ?_; refine Dc 9 rfl rfl (Acl hs.names hs.types hlen _ _) ?_; rintro _ _ _ _ ⟨rfl, rfl, rfl⟩; refine Hx ?_; refine Da 11 rfl (Mq rfl rfl rfl) ?_; refine At Ad ?_; refine A0 rfl ?_ ?_
  ·intro c1
   try simp only [nb] at c1
   refine Am rfl (Om rfl (Oh rfl ?_)); refine Bz rfl .free rfl ?_; refine Om rfl ?_
   first | refine Bx rfl rfl _ rfl .free rfl ?_ | refine By rfl rfl _ rfl .free rfl ?_
   refine Ei rfl .free rfl ?_; refine Ol rfl rfl ?_; intro b37; refine Es (B := some (bb, sp)) (xs := fs.map sv) (ys := [sv (ns.getD i [])]) (m := fs.length) (c := cb) Au Ac rfl rfl hB (fun _ h => h.f1) Ac (fun a ha => by cases ha; exact Bm Dr Ac) Af Ac Ae Ae Aa Ae .free rfl ?_; intro bq sp2 c2q hB2; rw [show fs.map sv ++ [sv (ns.getD i [])] = (fs ++ [ns.getD i []]).map sv by simp] at hB2 ⊢; refine Oa rfl (Ab (Ar (Am rfl (Om rfl ?_)))); refine Or rfl rfl rfl ?_; refine Oa rfl (Ab ?_)
   first
    | exact Dy (E' := [(0, .pointer (some ⟨b, 0, none⟩)), (2, .string (str want)), (4, .pointer (some ⟨b4, 0, none⟩)), (6, .string (str [])), (7, .slice (some ⟨bq, 0, none⟩) (fs ++ [ns.getD i []]).length c2q), (8, .int .i64 ((i + 1 : Nat)))]) ⟨rfl, rfl, rfl, rfl, by simp; rfl, rfl, trivial⟩ (Cs (fun w h => Mem.sub (L' := (bq, _) :: (b4, _) :: rd b oa l c p :: L) Bf h) (ih ⟨i + 1, fs ++ [ns.getD i []], bq, sp2, c2q⟩ ⟨by simp only; omega, by simp; omega, (fun s hs => by rcases List.mem_append.1 hs with hs | hs; exact hfs s hs; rw [List.mem_singleton.1 hs]; exact hel), by simpa using hB2⟩ Eo))
    | exact Dy (E' := [(0, .pointer (some ⟨b, 0, none⟩)), (2, .string (str want)), (4, .pointer (some ⟨b4, 0, none⟩)), (6, .string (str [])), (7, .slice (some ⟨bb, 0, none⟩) fs.length cb), (8, .int .i64 ((i + 1 : Nat)))]) ⟨rfl, rfl, rfl, rfl, rfl, rfl, trivial⟩ (ih ⟨i + 1, fs, bb, sp, cb⟩ ⟨by simp only; omega, by simp only; omega, hfs, hB⟩ Eo)
  intro c1
  try simp only [nb] at c1
  refine Ak (Ar (Am rfl (Om rfl ?_))); refine Or rfl rfl rfl ?_; refine Oa rfl (Ab ?_)
  first
   | exact Dy (E' := [(0, .pointer (some ⟨b, 0, none⟩)), (2, .string (str want)), (4, .pointer (some ⟨b4, 0, none⟩)), (6, .string (str [])), (7, .slice (some ⟨bq, 0, none⟩) (fs ++ [ns.getD i []]).length c2q), (8, .int .i64 ((i + 1 : Nat)))]) ⟨rfl, rfl, rfl, rfl, by simp; rfl, rfl, trivial⟩ (Cs (fun w h => Mem.sub (L' := (bq, _) :: (b4, _) :: rd b oa l c p :: L) Bf h) (ih ⟨i + 1, fs ++ [ns.getD i []], bq, sp2, c2q⟩ ⟨by simp only; omega, by simp; omega, (fun s hs => by rcases List.mem_append.1 hs with hs | hs; exact hfs s hs; rw [List.mem_singleton.1 hs]; exact hel), by simpa using hB2⟩ Eo))
   | exact Dy (E' := [(0, .pointer (some ⟨b, 0, none⟩)), (2, .string (str want)), (4, .pointer (some ⟨b4, 0, none⟩)), (6, .string (str [])), (7, .slice (some ⟨bb, 0, none⟩) fs.length cb), (8, .int .i64 ((i + 1 : Nat)))]) ⟨rfl, rfl, rfl, rfl, rfl, rfl, trivial⟩ (ih ⟨i + 1, fs, bb, sp, cb⟩ ⟨by simp only; omega, by simp only; omega, hfs, hB⟩ Eo)
 intro c0
 try simp only [nb] at c0
 refine Ce rfl ?_; refine Ah (Ah ?_); refine Gr (B := some (bb, sp)) hB rfl Ch (fun s hs => by have := hfs s hs; unfold Ba; omega) ?_; intro J oz cz ez hbv hst
 simp only [Bn, Value.slice.injEq] at hbv
 obtain ⟨rfl, -, rfl⟩ := hbv; refine Cs (fun w h => h.f1) ?_
 have h := h.mono ez
 have hz0 := hst.nil'
 have hzl := hst.len
 refine Am rfl (Om rfl (On rfl (Oc rfl rfl rfl (Om rfl ?_))))
 first | refine Hd rfl rfl ?_ ?_ | refine Fg rfl rfl ?_ ?_ | refine Mr rfl rfl ?_ ?_
 ·intro g7_4; refine Ow rfl ?_; refine Cq rfl (.met rfl rfl) rfl (D7 h hl b p 4 Aa Ae _) ?_; rintro _ _ _ _ ⟨r, rfl, rfl, rfl, hr⟩; refine D0 rfl rfl rfl (.met rfl rfl) rfl ?_; refine Ot rfl rfl (Ab ?_); refine A0 rfl ?_ ?_
  ·intro c2
   try simp only [nb] at c2
   have hpos : 0 < fs.length := by omega
   refine Se rfl ?_
   iterate 3 refine Om rfl ?_
   refine On rfl ?_; refine Ca rfl (D7 h hl b _ fs.length Aa Aa _) ?_; rintro _ _ _ _ ⟨r2, rfl, rfl, rfl, hr2⟩
   have hr3 : r2 < fs.length := by omega
   have hfl : (fs.getD r2 []).length ≤ 4 := hfs _ (by rw [show fs.getD r2 [] = fs[r2] by simp [hr3]]; exact List.getElem_mem _)
   first | refine Bx rfl rfl _ rfl .free rfl ?_ | refine By rfl rfl _ rfl .free rfl ?_
   refine Ei rfl .free rfl ?_; refine Oa rfl (Ab (Al (.tmp rfl .nil) ?_))
   exact ⟨J, _, ez, fun w h => Mem.sub (L' := rd b oa l c _ :: L) Bf h, fs.getD r2 [], _, rfl, by omega, by omega, by omega, rfl⟩
  intro c2
  try simp only [nb] at c2
  refine Ak (Ah (Se rfl (Om rfl (Od rfl rfl rfl (Ab ?_))))); refine A0 rfl ?_ ?_
  ·intro c3
   try simp only [nb] at c3
   refine Se rfl (Om rfl ?_); refine Ol rfl rfl ?_; intro b57; refine D5 [[48], [49], [50], [51], [55], [45, 49], [52, 48, 48], [45, 57, 57, 57]] Ae Ae ?_; intro J2 e2 k2; refine Ca rfl (Ff (h.mono e2) hl b _ Aa k2 Af _) ?_; rintro _ _ _ _ ⟨s, rfl, hs9, rfl, rfl⟩
   have hs4 : s.length ≤ 4 := by revert s; decide
   refine Oa rfl (Ab (Al (.tmp rfl .nil) ?_))
   exact ⟨J2, _, ez.trans e2, fun w h => Mem.sub (L' := rd b oa l c _ :: L) Bf h, s, _, rfl, by omega, by omega, by omega, rfl⟩
  intro c3
  try simp only [nb] at c3
  refine Ak (Se rfl (Om rfl ?_)); refine Ca rfl (Xa want Ch _ _) ?_; rintro _ J3 _ e3 ⟨rfl, rfl⟩; refine Om rfl (Oe rfl rfl (Oe rfl rfl (Oa rfl (Oa rfl (Ab (Ah (Se rfl (Om rfl ?_)))))))); refine Ec rfl .free rfl ?_; refine Ab ?_; refine A0 rfl ?_ ?_
  ·intro c4
   try simp only [nb] at c4
   refine Se rfl (Oa rfl (Ab (Al (.tmp rfl .nil) ?_)))
   exact ⟨J3, _, ez.trans e3, fun w h => Mem.sub (L' := rd b oa l c _ :: L) Bf h, [48], _, rfl, by decide, by omega, by omega, rfl⟩
  intro c4
  try simp only [nb] at c4
  refine Ak (Se rfl (Om rfl (Oa rfl (Ab (Al (.tmp rfl .nil) ?_))))); refine ⟨J3, _, ez.trans e3, fun w h => Mem.sub (L' := rd b oa l c _ :: L) Bf h, (Ro want).getD [], _, rfl, ?_, by omega, by omega, rfl⟩
  cases ho : Ro want with
  | none => decide
  | some o => have := Adi ho; simp only [Option.getD_some]; omega
 intro g7_4
 iterate 3 refine C1 rfl rfl rfl ?_
 refine Of rfl rfl (Ab ?_); refine Bl rfl ?_; refine Ak (Ah (Se rfl (Om rfl (Od rfl rfl rfl (Ab ?_))))); refine A0 rfl ?_ ?_
 ·intro c3
  try simp only [nb] at c3
  refine Se rfl (Om rfl ?_); refine Ol rfl rfl ?_; intro b57; refine D5 [[48], [49], [50], [51], [55], [45, 49], [52, 48, 48], [45, 57, 57, 57]] Ae Ae ?_; intro J2 e2 k2; refine Ca rfl (Ff (h.mono e2) hl b _ Aa k2 Af _) ?_; rintro _ _ _ _ ⟨s, rfl, hs9, rfl, rfl⟩
  have hs4 : s.length ≤ 4 := by revert s; decide
  refine Oa rfl (Ab (Al (.tmp rfl .nil) ?_))
  exact ⟨J2, _, ez.trans e2, fun w h => Mem.sub (L' := rd b oa l c _ :: L) Bf h, s, _, rfl, by omega, by omega, by omega, rfl⟩
 intro c3
 try simp only [nb] at c3
 refine Ak (Se rfl (Om rfl ?_)); refine Ca rfl (Xa want Ch _ _) ?_; rintro _ J3 _ e3 ⟨rfl, rfl⟩; refine Om rfl (Oe rfl rfl (Oe rfl rfl (Oa rfl (Oa rfl (Ab (Ah (Se rfl (Om rfl ?_)))))))); refine Ec rfl .free rfl ?_; refine Ab ?_; refine A0 rfl ?_ ?_
 ·intro c4
  try simp only [nb] at c4
  refine Se rfl (Oa rfl (Ab (Al (.tmp rfl .nil) ?_)))
  exact ⟨J3, _, ez.trans e3, fun w h => Mem.sub (L' := rd b oa l c _ :: L) Bf h, [48], _, rfl, by decide, by omega, by omega, rfl⟩
 intro c4
 try simp only [nb] at c4
 refine Ak (Se rfl (Om rfl (Oa rfl (Ab (Al (.tmp rfl .nil) ?_))))); refine ⟨J3, _, ez.trans e3, fun w h => Mem.sub (L' := rd b oa l c _ :: L) Bf h, (Ro want).getD [], _, rfl, ?_, by omega, by omega, rfl⟩
 cases ho : Ro want with
 | none => decide
 | some o => have := Adi ho; simp only [Option.getD_some]; omega
theorem Aap {I : Heap} {oa : Option Addr} {l : List UInt8} {c : Nat} (h : Bytes I oa l c) (hl : l.length ≤ 2000) (b p : Nat) (hp : p + 4 ≤ 1099511627776) (L : Bo) :
  Fun Tryz.prog 165 [.pointer (some ⟨b, 0, none⟩)] I (rd b oa l c p :: L) (DT b oa l c p 4 200 L) := by
 refine Ao Af ?_; refine Se rfl (Oa rfl (Ab (Se rfl (Om rfl ?_)))); refine Ol rfl rfl ?_; intro b5; refine D5 [[40, 43, 32, 120, 56, 32, 40, 99, 97, 108, 108, 32, 102, 56, 32, 40, 45, 32, 120, 56, 32, 49, 41, 41, 41], [40, 99, 97, 108, 108, 32, 102, 56, 32, 40, 45, 32, 120, 56, 32, 49, 41, 41], [40, 42, 32, 120, 56, 32, 40, 99, 97, 108, 108, 32, 102, 56, 32, 40, 45, 32, 120, 56, 32, 49, 41, 41, 41], [40, 45, 32, 48, 32, 40, 99, 97, 108, 108, 32, 102, 56, 32, 40, 45, 32, 120, 56, 32, 49, 41, 41, 41]] Ae Ae ?_; intro J1 e1 k1; refine Ca rfl (Ff (h.mono e1) hl b _ Aa k1 Af L) ?_
 rintro _ _ _ _ ⟨s, rfl, hs, rfl, rfl⟩
 have hsl : s.length ≤ 30 := by revert s; decide
 refine Oa rfl (Ab (Se rfl (Om rfl ?_))); refine Ol rfl rfl ?_; intro b8; refine D5 [[48], [49], [53]] Ae Ae ?_; intro J2 e2 k2; refine Ca rfl (Ff ((h.mono e1).mono e2) hl b _ Aa k2 Af L) ?_; rintro _ _ _ _ ⟨s2, rfl, hs2, rfl, rfl⟩
 have hsl2 : s2.length ≤ 1 := by revert s2; decide
 refine Ok rfl rfl ?_; refine Ok rfl rfl ?_; refine Om rfl ?_; refine Ok rfl rfl ?_; refine Ok rfl rfl ?_; refine Om rfl ?_; refine Ca rfl (D7 ((h.mono e1).mono e2) hl b _ 7 Aa Ae L) ?_; rintro _ _ _ _ ⟨r, rfl, rfl, rfl, hr⟩
 have hdl := Rt (n := r) Aa
 refine Ca rfl (Vv _ r (Nat.lt_succ_self _) Aa _ _) ?_; rintro _ _ _ _ ⟨rfl, rfl, rfl⟩; refine Ok rfl rfl ?_; refine Ok rfl rfl ?_; refine Oa rfl (Ab (Al (.tmp rfl .nil) ?_))
 exact ⟨J2, _, e1.trans e2, fun _ h => h, _, _, rfl, E9, by omega, by omega, rfl⟩
def kE : Nat → Nat
 | 0 => 4
 | d + 1 => 3 * kE d + 60
def eT : Nat → Nat
 | 0 => 3300
 | d + 1 => 3 * eT d + 3000
theorem Ab7 : ∀ d, 3300 ≤ eT d
 | 0 => Nat.le_refl _
 | d + 1 => by have := Ab7 d; simp only [eT]; omega
def Wq (d : Nat) : Prop := ∀ {I : Heap} {oa : Option Addr} {l : List UInt8} {c : Nat} (_ : Bytes I oa l c) (_ : l.length ≤ 2000) (b p : Nat) (_ : p + kE d ≤ 1099511627776) {ns ts : List As} {o1 o2 : Option Addr} {c1 c2 : Nat} (_ : ScAt I ns ts o1 c1 o2 c2) (_ : ns.length + 4 * d ≤ 100) (want : As) (_ : want.length + 20 * d ≤ 1000) (L : Bo),
  Fun Tryz.prog 119 [.pointer (some ⟨b, 0, none⟩), .agg [.slice o1 ns.length c1, .slice o2 ts.length c2].toArray, .string (str want), .int .i64 (d : Nat)] I (rd b oa l c p :: L) (DT b oa l c p (kE d) (eT d) L)
theorem R7 {d : Nat} (ih : Wq d) (hd : d ≤ 20) (ht : eT (d + 1) ≤ 1000000000) {I : Heap} {oa : Option Addr} {l : List UInt8} {c : Nat} (h : Bytes I oa l c) (hl : l.length ≤ 2000) (b p : Nat) (hp : p + (3 * kE d + 40) ≤ 1099511627776) {ns ts : List As} {o1 o2 : Option Addr} {c1 c2 : Nat} (hs : ScAt I ns ts o1 c1 o2 c2) (hn : ns.length + 4 * (d + 1) ≤ 100) (want : As) (hw : want.length + 20 * (d + 1) ≤ 1000) (L : Bo) :
  Fun Tryz.prog 166 [.pointer (some ⟨b, 0, none⟩), .agg [.slice o1 ns.length c1, .slice o2 ts.length c2].toArray, .string (str want), .int .i64 ((d + 1 : Nat))] I (rd b oa l c p :: L) (DT b oa l c p (3 * kE d + 40) (3 * eT d + 3000) L) := by
 simp only [eT] at ht
 have hge := Ab7 d
 obtain ⟨q1, q2⟩ := Ad0 (Hw [42] want) [42] want rfl; obtain ⟨q3, q4⟩ := Ad0 (Hw [62] want) [62] want rfl
 have hle : HLe I I := .refl _
 have hlr : HLe I I := .refl _
 refine Ao Af ?_; refine Se rfl ?_; refine Cn rfl rfl .free rfl ?_; intro b5; refine Oa rfl (Ab (Ah ?_)); refine Cs (fun w h => h.f1) ?_; refine Am rfl (Om rfl ?_); refine Ca rfl (Yw want Ch _ _) ?_; rintro _ J _ e ⟨rfl, rfl⟩
 have h := h.mono e
 have hs := hs.mono e
 have hle := hle.trans e
 have hlr := hlr.trans e
 refine Om rfl ?_
 iterate 3 refine Oe rfl rfl ?_
 iterate 3 refine Oa rfl ?_
 refine Ab (Se rfl (Om rfl ?_)); refine Ca rfl (Aak want Ch _ _) ?_; rintro _ J _ e ⟨rfl, rfl⟩
 have h := h.mono e
 have hs := hs.mono e
 have hle := hle.trans e
 have hlr := hlr.trans e
 refine Om rfl ?_
 iterate 3 refine Oe rfl rfl ?_
 iterate 3 refine Oa rfl ?_
 refine Ab (Se rfl (Om rfl ?_)); refine Or rfl rfl rfl ?_; refine Oa rfl (Ab (Ah (Aq (Ah ?_)))); refine I9 (t := 15) (v' := .int .i64 (d : Nat)) rfl Gl ?_; refine Am rfl (Om rfl (Oa rfl (Ab ?_))); refine A0 rfl ?_ ?_
 ·intro c0
  try simp only [nb] at c0
  refine Ah ?_; refine Dl fun hlr => ?_
  refine Hp 15 rfl rfl ?_; refine Da 0 rfl (Ag rfl) ?_; refine Dt 1 [15] rfl (Cd rfl) ?_; refine Da 2 rfl (Ag rfl) ?_; refine Da 3 rfl (Ag rfl) ?_; refine Da 7 rfl (Ag rfl) ?_; refine Dt 8 [15] rfl (Cd rfl) ?_; refine Da 9 rfl (Ag rfl) ?_; refine Da 10 rfl (Ag rfl) ?_; refine Dc 4 rfl rfl (ih h hl b _ Aa hs Aa _ B9 _) ?_; rintro _ J _ e ⟨s1, p1, rfl, hs1, hp1, hp2, rfl⟩
  have h := h.mono e
  have hs := hs.mono e
  have hle := hle.trans e
  have hlr := hlr.trans e
  refine Hx ?_; refine Da 5 rfl (Yk rfl rfl) ?_; refine Da 6 rfl (Yk rfl rfl) ?_; refine Dc 11 rfl rfl (ih h hl b _ Aa hs Aa _ B9 _) ?_; rintro _ J _ e ⟨s1, p1, rfl, hs1, hp1, hp2, rfl⟩
  have h := h.mono e
  have hs := hs.mono e
  have hle := hle.trans e
  have hlr := hlr.trans e
  refine Hx ?_; refine Da 12 rfl (Yk rfl rfl) ?_; refine Da 13 rfl (Yk rfl rfl) ?_; refine Da 14 rfl (A5 rfl) ?_; refine At Ad ?_; refine Al (.tmp rfl .nil) ?_
  exact ⟨_, _, hle, fun w h => Mem.sub (L' := rd b oa l c _ :: L) Bf h, _, _, rfl, E9, by omega, by omega, rfl⟩
 intro c0
 try simp only [nb] at c0
 refine Se rfl (Om rfl (Oa rfl (Ab ?_))); refine A0 rfl ?_ ?_
 ·intro c1
  try simp only [nb] at c1
  refine Se rfl (Om rfl ?_); refine Ol rfl rfl ?_; intro b52; refine D5 [[102], [103], [102, 49]] Ae Ae ?_; intro J1 e1 k1
  have h := h.mono e1
  have hs := hs.mono e1
  have hle := hle.trans e1
  refine Ca rfl (Ff h hl b _ Aa k1 Af _) ?_; rintro _ _ _ _ ⟨nf, rfl, hnf, rfl, rfl⟩
  have hnfl : nf.length ≤ 2 := by revert nf; decide
  refine Oa rfl (Ab (Se rfl (Om rfl ?_))); refine Ol rfl rfl ?_; intro b55; refine D5 [[120], [122], [120, 50]] Ae Ae ?_; intro J1 e1 k1
  have h := h.mono e1
  have hs := hs.mono e1
  have hle := hle.trans e1
  refine Ca rfl (Ff h hl b _ Aa k1 Af _) ?_; rintro _ _ _ _ ⟨nx, rfl, hnx, rfl, rfl⟩
  have hnxl : nx.length ≤ 2 := by revert nx; decide
  refine Oa rfl (Ab (Se rfl ?_)); refine A2 rfl .free rfl ?_; refine Om rfl (Om rfl ?_); refine Ca rfl (Lt hs nx (t1 (Hw [62] want)) Aa Aa Aa _) ?_; rintro _ J2 _ e2 ⟨o3, c3, o4, c4, rfl, hs2, rfl⟩
  have h := h.mono e2
  have hs := hs.mono e2
  have hle := hle.trans e2
  refine Aw .free rfl ?_; intro b18; refine Bu rfl rfl rfl rfl .free ?_; refine Dp (fun w h => h.f1) ?_; refine Ab (Ah (Se rfl (Om rfl ?_))); refine Ca rfl (D7 h hl b _ 6 Aa Ae _) ?_; rintro _ _ _ _ ⟨r, rfl, rfl, rfl, hr⟩; refine Oc rfl rfl rfl (Ab ?_); refine A0 rfl ?_ ?_
  ·intro c2
   try simp only [nb] at c2
   refine Am rfl ?_; refine A2 rfl .free rfl ?_; refine Om rfl (Om rfl ?_); refine Ca rfl (Lt hs nf want Aa Aa Aa _) ?_; rintro _ J3 _ e3 ⟨o5, c5, o6, c6, rfl, hs3, rfl⟩
   have h := h.mono e3
   have hle := hle.trans e3
   refine Om rfl (Om rfl ?_); refine Ca rfl (Lt hs3 nx (t1 (Hw [62] want)) Aa Aa Cm _) ?_; rintro _ J4 _ e4 ⟨o7, c7, o8, c8, rfl, hs4, rfl⟩
   have h := h.mono e4
   have hle := hle.trans e4
   refine Bu rfl rfl rfl rfl .free ?_; refine Ab (Se rfl (Om rfl ?_)); refine Ok rfl rfl ?_; refine Ok rfl rfl ?_; refine Om rfl ?_; refine Ok rfl rfl ?_; refine Ok rfl rfl ?_; refine Om rfl ?_; refine Ok rfl rfl ?_; refine Ok rfl rfl ?_; refine Om rfl ?_; refine Ok rfl rfl ?_; refine Ok rfl rfl ?_; refine Om rfl ?_; refine A2 rfl .free rfl ?_; refine Om rfl (Om rfl ?_); refine Ca rfl (by first | exact ih h hl b _ Aa hs4 Cm _ Aa _ | exact ih h hl b _ Aa hs2 Cm _ Aa _) ?_; rintro _ J _ e ⟨s1, p1, rfl, hs1, hp1, hp2, rfl⟩
   have h := h.mono e
   have hle := hle.trans e
   refine Ok rfl rfl ?_; refine Ok rfl rfl ?_; refine Oa rfl (Ab (Al (.tmp rfl .nil) ?_))
   exact ⟨_, _, hle, fun w h => Mem.sub (L' := rd b oa l c _ :: L) Bf h, _, _, rfl, E9, by omega, by omega, rfl⟩
  intro c2
  try simp only [nb] at c2
  refine Ak (Se rfl (Om rfl ?_)); refine Ok rfl rfl ?_; refine Ok rfl rfl ?_; refine Om rfl ?_; refine Ok rfl rfl ?_; refine Ok rfl rfl ?_; refine Om rfl ?_; refine Ok rfl rfl ?_; refine Ok rfl rfl ?_; refine Om rfl ?_; refine Ok rfl rfl ?_; refine Ok rfl rfl ?_; refine Om rfl ?_; refine A2 rfl .free rfl ?_; refine Om rfl (Om rfl ?_); refine Ca rfl (by first | exact ih h hl b _ Aa hs4 Cm _ Aa _ | exact ih h hl b _ Aa hs2 Cm _ Aa _) ?_; rintro _ J _ e ⟨s1, p1, rfl, hs1, hp1, hp2, rfl⟩
  have h := h.mono e
  have hle := hle.trans e
  refine Ok rfl rfl ?_; refine Ok rfl rfl ?_; refine Oa rfl (Ab (Al (.tmp rfl .nil) ?_))
  exact ⟨_, _, hle, fun w h => Mem.sub (L' := rd b oa l c _ :: L) Bf h, _, _, rfl, E9, by omega, by omega, rfl⟩
 intro c1
 try simp only [nb] at c1
 refine Se rfl (Om rfl (Od rfl rfl rfl (Om rfl ?_)))
 first | refine Hd rfl rfl ?_ ?_ | refine Fg rfl rfl ?_ ?_ | refine Mr rfl rfl ?_ ?_
 ·intro g13_3; refine Ow rfl ?_; refine Cq rfl (.met rfl rfl) rfl (D7 h hl b _ 3 Aa Ae _) ?_; rintro _ _ _ _ ⟨r, rfl, rfl, rfl, hr⟩; refine D0 rfl rfl rfl (.met rfl rfl) rfl ?_; refine Ot rfl rfl (Oa rfl (Ab ?_)); refine A0 rfl ?_ ?_
  ·intro c3
   try simp only [nb] at c3
   refine Ah ?_; refine Dl fun hlr => ?_
   refine Hp 18 rfl rfl ?_; refine Da 0 rfl (Ag rfl) ?_; refine Da 5 rfl (Ag rfl) ?_; refine Dt 6 [18] rfl (Cd rfl) ?_; refine Da 7 rfl (Ag rfl) ?_; refine Da 11 rfl (Ag rfl) ?_; refine Dt 12 [18] rfl (Cd rfl) ?_; refine Da 13 rfl (Ag rfl) ?_; refine C5 1 rfl Ad rfl rfl rfl Ac Ac Ac Ae Ae Ac .free rfl (.inr Ap) ?_; intro b99; refine Cp ?_; intro hz
   have hk := P1 (l := [[43], [45], [42]]) (b := b99) (I := J) (e := 9) Ae Ae
   have h := h.mono hz
   have hs := hs.mono hz
   have hle := hle.trans hz
   have hlr := hlr.trans hz
   refine Dc 2 rfl rfl (Ff h hl b _ Aa hk Af _) ?_; rintro _ _ _ _ ⟨op, rfl, hop, rfl, rfl⟩
   have hopl : op.length ≤ 1 := by revert op; decide
   refine Hx ?_; refine Da 3 rfl (Yk rfl rfl) ?_; refine Da 4 rfl (Yk rfl rfl) ?_; refine Dc 8 rfl rfl (ih h hl b _ Aa hs Aa _ B9 _) ?_; rintro _ J _ e ⟨s1, p1, rfl, hs1, hp1, hp2, rfl⟩
   have h := h.mono e
   have hs := hs.mono e
   have hle := hle.trans e
   have hlr := hlr.trans e
   refine Hx ?_; refine Da 9 rfl (Yk rfl rfl) ?_; refine Da 10 rfl (Yk rfl rfl) ?_; refine Dc 14 rfl rfl (ih h hl b _ Aa hs Aa _ B9 _) ?_; rintro _ J _ e ⟨s1, p1, rfl, hs1, hp1, hp2, rfl⟩
   have h := h.mono e
   have hs := hs.mono e
   have hle := hle.trans e
   have hlr := hlr.trans e
   refine Hx ?_; refine Da 15 rfl (Yk rfl rfl) ?_; refine Da 16 rfl (Yk rfl rfl) ?_; refine Da 17 rfl (A5 rfl) ?_; refine At Ad ?_; refine Al (.tmp rfl .nil) ?_
   exact ⟨_, _, hle, fun w h => Mem.sub (L' := rd b oa l c _ :: L) Bf h, _, _, rfl, E9, by omega, by omega, rfl⟩
  intro c3
  try simp only [nb] at c3
  refine Ak (Ar (Se rfl (Om rfl ?_))); refine A2 rfl .free rfl ?_; refine Om rfl ?_; refine Ca rfl (Qe h hl b _ Aa hs Aa want Aa _) ?_; rintro _ J _ e ⟨s1, p1, rfl, hs1, hp1, hp2, rfl⟩
  have hle := hle.trans e
  refine Oa rfl (Ab (Al (.tmp rfl .nil) ?_))
  exact ⟨_, _, hle, fun w h => Mem.sub (L' := rd b oa l c _ :: L) Bf h, _, _, rfl, by omega, by omega, by omega, rfl⟩
 intro g13_3
 iterate 3 refine C1 rfl rfl rfl ?_
 refine Of rfl rfl (Oa rfl (Ab ?_)); refine Bl rfl ?_; refine Ak (Ar (Se rfl (Om rfl ?_))); refine A2 rfl .free rfl ?_; refine Om rfl ?_; refine Ca rfl (Qe h hl b _ Aa hs Aa want Aa _) ?_; rintro _ J _ e ⟨s1, p1, rfl, hs1, hp1, hp2, rfl⟩
 have hle := hle.trans e
 refine Oa rfl (Ab (Al (.tmp rfl .nil) ?_))
 exact ⟨_, _, hle, fun w h => Mem.sub (L' := rd b oa l c _ :: L) Bf h, _, _, rfl, by omega, by omega, by omega, rfl⟩
theorem Aaf : Wq 0 := by
 intro I oa l c h hl b p hp ns ts o1 o2 c1 c2 hs hn want hw L; refine Ao Af ?_; refine Se rfl ?_; refine Cn rfl rfl .free rfl ?_; intro b5; refine Oa rfl (Ab (Ah (Ah ?_))); refine Cs (fun w h => h.f1) ?_; refine Am rfl (Om rfl (Oc rfl rfl rfl (Ab ?_)))
 first | refine L2 rfl Ac ?_ | refine L1 rfl Ac ?_ | refine Cx Av ?_
 refine Se rfl (Om rfl ?_); refine A2 rfl .free rfl ?_; refine Om rfl ?_; refine Ca rfl (Qe h hl b _ hp hs Aa want Aa _) ?_; rintro _ J _ e ⟨s1, p1, rfl, hs1, hp1, hp2, rfl⟩; refine Oa rfl (Ab (Al (.tmp rfl .nil) ?_))
 exact ⟨J, _, e, fun w h => Mem.sub (L' := rd b oa l c _ :: L) Bf h, _, _, rfl, hs1, hp1, hp2, rfl⟩
set_option maxHeartbeats 1000000 in
theorem Aae {d : Nat} (ih : Wq d) (hd : d ≤ 20) (ht : eT (d + 1) ≤ 1000000000) : Wq (d + 1) := by
 intro I oa l c h hl b p hp ns ts o1 o2 c1 c2 hs hn want hw L
 have ht0 := ht
 simp only [eT, kE] at ht hp ⊢
 have hge := Ab7 d
 have hle : HLe I I := .refl _
 have hlr : HLe I I := .refl _
 have hb1 : bT 1 = 7 := rfl
 have hk1 : kT 1 = 2 := rfl
 refine Ao Af ?_; refine Se rfl ?_; refine Cn rfl rfl .free rfl ?_; intro b5; refine Oa rfl (Ab (Ah (Ah ?_))); refine Cs (fun w h => h.f1) ?_; refine Am rfl (Om rfl (Oc rfl rfl rfl (Ab ?_)))
 first | refine Sf rfl Aa ?_ | refine Bl Av ?_
 refine Ak (Se rfl (Om rfl ?_)); refine Or rfl rfl rfl ?_; refine Oa rfl (Ab (Ah (Ah ?_))); refine I9 (t := 9) (v' := .int .i64 (d : Nat)) rfl Gl ?_; refine Am rfl (Om rfl ?_); refine Ca rfl (D7 h hl b _ 12 Aa Ae _) ?_; rintro _ _ _ _ ⟨r, rfl, rfl, rfl, hr⟩; refine Ab (Aq (Se rfl (Oc rfl rfl rfl (Oa rfl (Ab ?_))))); refine A0 rfl ?_ ?_
 ·intro c1
  try simp only [nb] at c1
  refine Ah ?_; refine Dl fun hlr => ?_
  refine Hp 21 rfl rfl ?_; refine Da 0 rfl (Ag rfl) ?_; refine Dt 1 [21] rfl (Cd rfl) ?_; refine Da 2 rfl (Ag rfl) ?_; refine Da 6 rfl (Ag rfl) ?_; refine Dt 7 [21] rfl (Cd rfl) ?_; refine Da 8 rfl (Ag rfl) ?_; refine Da 9 rfl (Ag rfl) ?_; refine Da 13 rfl (Ag rfl) ?_; refine Dt 14 [21] rfl (Cd rfl) ?_; refine Da 15 rfl (Ag rfl) ?_; refine Da 16 rfl (Ag rfl) ?_; refine Dc 3 rfl rfl (ih h hl b _ Aa hs Aa _ B9 _) ?_; rintro _ J _ e ⟨s1, p1, rfl, hs1, hp1, hp2, rfl⟩
  have h := h.mono e
  have hs := hs.mono e
  have hle := hle.trans e
  have hlr := hlr.trans e
  refine Hx ?_; refine Da 4 rfl (Yk rfl rfl) ?_; refine Da 5 rfl (Yk rfl rfl) ?_; refine Dc 10 rfl rfl (ih h hl b _ Aa hs Aa _ B9 _) ?_; rintro _ J _ e ⟨s1, p1, rfl, hs1, hp1, hp2, rfl⟩
  have h := h.mono e
  have hs := hs.mono e
  have hle := hle.trans e
  have hlr := hlr.trans e
  refine Hx ?_; refine Da 11 rfl (Yk rfl rfl) ?_; refine Da 12 rfl (Yk rfl rfl) ?_; refine Dc 17 rfl rfl (ih h hl b _ Aa hs Aa _ B9 _) ?_; rintro _ J _ e ⟨s1, p1, rfl, hs1, hp1, hp2, rfl⟩
  have h := h.mono e
  have hs := hs.mono e
  have hle := hle.trans e
  have hlr := hlr.trans e
  refine Hx ?_; refine Da 18 rfl (Yk rfl rfl) ?_; refine Da 19 rfl (Yk rfl rfl) ?_; refine Da 20 rfl (A5 rfl) ?_; refine At Ad ?_; refine Al (.tmp rfl .nil) ?_
  exact ⟨_, _, hle, fun w h => Mem.sub (L' := rd b oa l c _ :: L) Bf h, _, _, rfl, E9, by omega, by omega, rfl⟩
 intro c1
 try simp only [nb] at c1
 refine Ah (Se rfl (Oc rfl rfl rfl (Oa rfl (Ab ?_)))); refine A0 rfl ?_ ?_
 ·intro c2
  try simp only [nb] at c2
  refine Ak ?_
  first | refine St rfl (by first | assumption | omega) ?_ | refine Cx Av ?_
  refine Se rfl (Om rfl ?_); refine Ca rfl (Lu 1 h hl b _ Aa Ae Ae _) ?_; rintro _ J _ e ⟨kd, pk, rfl, hkd, hpk1, hpk2, rfl⟩
  have h := h.mono e
  have hs := hs.mono e
  have hle := hle.trans e
  have hlr := hlr.trans e
  refine Oa rfl (Ab (Se rfl (Om rfl ?_))); refine Ol rfl rfl ?_; intro b51; refine D5 [[97], [98], [99], [120, 49], [121, 48]] Ae Ae ?_; intro J1 e1 k1
  have h := h.mono e1
  have hs := hs.mono e1
  have hle := hle.trans e1
  refine Ca rfl (Ff h hl b _ Aa k1 Af _) ?_; rintro _ _ _ _ ⟨nx, rfl, hnx, rfl, rfl⟩
  have hnxl : nx.length ≤ 2 := by revert nx; decide
  refine Oa rfl (Ab (Ah ?_)); refine Dl fun hlr => ?_
  refine Hp 21 rfl rfl ?_; refine Da 0 rfl (Ag rfl) ?_; refine Da 1 rfl (Yk rfl rfl) ?_; refine Da 2 rfl (Yk rfl rfl) ?_; refine Da 3 rfl (Ag rfl) ?_; refine Dt 4 [21] rfl (Cd rfl) ?_; refine Da 5 rfl (Ag rfl) ?_; refine Da 6 rfl (Ag rfl) ?_; refine Da 10 rfl (Ag rfl) ?_; refine Dt 11 [21] rfl (Cd rfl) ?_; refine Da 12 rfl (Ag rfl) ?_; refine Da 13 rfl (Ag rfl) ?_; refine Da 15 rfl (Ag rfl) ?_; refine Da 16 rfl (Ag rfl) ?_; refine Dc 7 rfl rfl (ih h hl b _ Aa hs Aa _ B9 _) ?_; rintro _ J _ e ⟨s1, p1, rfl, hs1, hp1, hp2, rfl⟩
  have h := h.mono e
  have hs := hs.mono e
  have hle := hle.trans e
  have hlr := hlr.trans e
  refine Hx ?_; refine Da 8 rfl (Yk rfl rfl) ?_; refine Da 9 rfl (Yk rfl rfl) ?_; refine Dc 14 rfl rfl (Lt hs nx kd Aa Aa Aa _) ?_; rintro _ J2 _ e2 ⟨o3, c3, o4, c4, rfl, hs2, rfl⟩
  have h := h.mono e2
  have hle := hle.trans e2
  have hlr := hlr.trans e2
  refine Hx ?_; refine Dc 17 rfl rfl (ih h hl b _ Aa hs2 Cm _ Aa _) ?_; rintro _ J _ e ⟨s1, p1, rfl, hs1, hp1, hp2, rfl⟩
  have hle := hle.trans e
  have hlr := hlr.trans e
  refine Hx ?_; refine Da 18 rfl (Yk rfl rfl) ?_; refine Da 19 rfl (Yk rfl rfl) ?_; refine Da 20 rfl (A5 rfl) ?_; refine At Ad ?_; refine Al (.tmp rfl .nil) ?_
  exact ⟨_, _, hle, fun w h => Mem.sub (L' := rd b oa l c _ :: L) Bf h, _, _, rfl, E9, by omega, by omega, rfl⟩
 intro c2
 try simp only [nb] at c2
 refine Am rfl (Oc rfl rfl rfl (Oa rfl (Ab ?_))); refine A0 rfl ?_ ?_
 ·intro c3
  try simp only [nb] at c3
  refine Se rfl (Om rfl ?_); refine Ca rfl (Lu 1 h hl b _ Aa Ae Ae _) ?_; rintro _ J _ e ⟨kd, pk, rfl, hkd, hpk1, hpk2, rfl⟩
  have h := h.mono e
  have hs := hs.mono e
  have hle := hle.trans e
  have hlr := hlr.trans e
  refine Oa rfl (Ab (Se rfl (Om rfl ?_))); refine Ol rfl rfl ?_; intro b51; refine D5 [[97], [98], [99], [120, 49], [121, 48]] Ae Ae ?_; intro J1 e1 k1
  have h := h.mono e1
  have hs := hs.mono e1
  have hle := hle.trans e1
  refine Ca rfl (Ff h hl b _ Aa k1 Af _) ?_; rintro _ _ _ _ ⟨nx, rfl, hnx, rfl, rfl⟩
  have hnxl : nx.length ≤ 2 := by revert nx; decide
  refine Oa rfl (Ab (Ah ?_)); refine Dl fun hlr => ?_
  refine Hp 21 rfl rfl ?_; refine Da 0 rfl (Ag rfl) ?_; refine Da 1 rfl (Yk rfl rfl) ?_; refine Da 2 rfl (Yk rfl rfl) ?_; refine Da 3 rfl (Ag rfl) ?_; refine Dt 4 [21] rfl (Cd rfl) ?_; refine Da 5 rfl (Ag rfl) ?_; refine Da 6 rfl (Ag rfl) ?_; refine Da 10 rfl (Ag rfl) ?_; refine Dt 11 [21] rfl (Cd rfl) ?_; refine Da 12 rfl (Ag rfl) ?_; refine Da 13 rfl (Ag rfl) ?_; refine Da 15 rfl (Ag rfl) ?_; refine Da 16 rfl (Ag rfl) ?_; refine Dc 7 rfl rfl (ih h hl b _ Aa hs Aa _ B9 _) ?_; rintro _ J _ e ⟨s1, p1, rfl, hs1, hp1, hp2, rfl⟩
  have h := h.mono e
  have hs := hs.mono e
  have hle := hle.trans e
  have hlr := hlr.trans e
  refine Hx ?_; refine Da 8 rfl (Yk rfl rfl) ?_; refine Da 9 rfl (Yk rfl rfl) ?_; refine Dc 14 rfl rfl (Lt hs nx kd Aa Aa Aa _) ?_; rintro _ J2 _ e2 ⟨o3, c3, o4, c4, rfl, hs2, rfl⟩
  have h := h.mono e2
  have hle := hle.trans e2
  have hlr := hlr.trans e2
  refine Hx ?_; refine Dc 17 rfl rfl (ih h hl b _ Aa hs2 Cm _ Aa _) ?_; rintro _ J _ e ⟨s1, p1, rfl, hs1, hp1, hp2, rfl⟩
  have hle := hle.trans e
  have hlr := hlr.trans e
  refine Hx ?_; refine Da 18 rfl (Yk rfl rfl) ?_; refine Da 19 rfl (Yk rfl rfl) ?_; refine Da 20 rfl (A5 rfl) ?_; refine At Ad ?_; refine Al (.tmp rfl .nil) ?_
  exact ⟨_, _, hle, fun w h => Mem.sub (L' := rd b oa l c _ :: L) Bf h, _, _, rfl, E9, by omega, by omega, rfl⟩
 intro c3
 try simp only [nb] at c3
 refine Ah (Se rfl (Oc rfl rfl rfl (Oa rfl (Ab ?_)))); refine A0 rfl ?_ ?_
 ·intro c4
  try simp only [nb] at c4
  refine Ak ?_
  first | refine St rfl (by first | assumption | omega) ?_ | refine Cx Av ?_
  refine Se rfl (Om rfl ?_); refine Ca rfl (Lu 1 h hl b _ Aa Ae Ae _) ?_; rintro _ J _ e ⟨kd, pk, rfl, hkd, hpk1, hpk2, rfl⟩
  have h := h.mono e
  have hs := hs.mono e
  have hle := hle.trans e
  have hlr := hlr.trans e
  refine Oa rfl (Ab (Ah ?_)); refine Dl fun hlr => ?_
  refine Hp 20 rfl rfl ?_; refine Da 0 rfl (Ag rfl) ?_; refine Dt 1 [20] rfl (Cd rfl) ?_; refine Da 2 rfl (Ag rfl) ?_; refine Da 3 rfl (Yk rfl rfl) ?_; refine Da 4 rfl (Yk rfl rfl) ?_; refine Da 5 rfl (Ag rfl) ?_; refine Da 6 rfl (Yk rfl rfl) ?_; refine Da 7 rfl (Yk rfl rfl) ?_; refine Da 8 rfl (Ag rfl) ?_; refine Da 12 rfl (Ag rfl) ?_; refine Dt 13 [20] rfl (Cd rfl) ?_; refine Da 14 rfl (Ag rfl) ?_; refine Da 15 rfl (Ag rfl) ?_; refine Dc 9 rfl rfl (ih h hl b _ Aa hs Aa _ B9 _) ?_; rintro _ J _ e ⟨s1, p1, rfl, hs1, hp1, hp2, rfl⟩
  have h := h.mono e
  have hs := hs.mono e
  have hle := hle.trans e
  have hlr := hlr.trans e
  refine Hx ?_; refine Da 10 rfl (Yk rfl rfl) ?_; refine Da 11 rfl (Yk rfl rfl) ?_; refine Dc 16 rfl rfl (ih h hl b _ Aa hs Aa _ B9 _) ?_; rintro _ J _ e ⟨s1, p1, rfl, hs1, hp1, hp2, rfl⟩
  have h := h.mono e
  have hs := hs.mono e
  have hle := hle.trans e
  have hlr := hlr.trans e
  refine Hx ?_; refine Da 17 rfl (Yk rfl rfl) ?_; refine Da 18 rfl (Yk rfl rfl) ?_; refine Da 19 rfl (A5 rfl) ?_; refine At Ad ?_; refine Al (.tmp rfl .nil) ?_
  exact ⟨_, _, hle, fun w h => Mem.sub (L' := rd b oa l c _ :: L) Bf h, _, _, rfl, E9, by omega, by omega, rfl⟩
 intro c4
 try simp only [nb] at c4
 refine Am rfl (Oc rfl rfl rfl (Oa rfl (Ab ?_))); refine A0 rfl ?_ ?_
 ·intro c5
  try simp only [nb] at c5
  refine Se rfl (Om rfl ?_); refine Ca rfl (Lu 1 h hl b _ Aa Ae Ae _) ?_; rintro _ J _ e ⟨kd, pk, rfl, hkd, hpk1, hpk2, rfl⟩
  have h := h.mono e
  have hs := hs.mono e
  have hle := hle.trans e
  have hlr := hlr.trans e
  refine Oa rfl (Ab (Ah ?_)); refine Dl fun hlr => ?_
  refine Hp 20 rfl rfl ?_; refine Da 0 rfl (Ag rfl) ?_; refine Dt 1 [20] rfl (Cd rfl) ?_; refine Da 2 rfl (Ag rfl) ?_; refine Da 3 rfl (Yk rfl rfl) ?_; refine Da 4 rfl (Yk rfl rfl) ?_; refine Da 5 rfl (Ag rfl) ?_; refine Da 6 rfl (Yk rfl rfl) ?_; refine Da 7 rfl (Yk rfl rfl) ?_; refine Da 8 rfl (Ag rfl) ?_; refine Da 12 rfl (Ag rfl) ?_; refine Dt 13 [20] rfl (Cd rfl) ?_; refine Da 14 rfl (Ag rfl) ?_; refine Da 15 rfl (Ag rfl) ?_; refine Dc 9 rfl rfl (ih h hl b _ Aa hs Aa _ B9 _) ?_; rintro _ J _ e ⟨s1, p1, rfl, hs1, hp1, hp2, rfl⟩
  have h := h.mono e
  have hs := hs.mono e
  have hle := hle.trans e
  have hlr := hlr.trans e
  refine Hx ?_; refine Da 10 rfl (Yk rfl rfl) ?_; refine Da 11 rfl (Yk rfl rfl) ?_; refine Dc 16 rfl rfl (ih h hl b _ Aa hs Aa _ B9 _) ?_; rintro _ J _ e ⟨s1, p1, rfl, hs1, hp1, hp2, rfl⟩
  have h := h.mono e
  have hs := hs.mono e
  have hle := hle.trans e
  have hlr := hlr.trans e
  refine Hx ?_; refine Da 17 rfl (Yk rfl rfl) ?_; refine Da 18 rfl (Yk rfl rfl) ?_; refine Da 19 rfl (A5 rfl) ?_; refine At Ad ?_; refine Al (.tmp rfl .nil) ?_
  exact ⟨_, _, hle, fun w h => Mem.sub (L' := rd b oa l c _ :: L) Bf h, _, _, rfl, E9, by omega, by omega, rfl⟩
 intro c5
 try simp only [nb] at c5
 refine Se rfl (Oc rfl rfl rfl (Oa rfl (Ab ?_))); refine A0 rfl ?_ ?_
 ·intro c6
  try simp only [nb] at c6
  refine Se rfl (Om rfl ?_); refine A2 rfl .free rfl ?_; refine Om rfl ?_; refine Ok rfl rfl ?_; refine Ok rfl rfl ?_; refine Om rfl ?_; refine Ca rfl (ih h hl b _ Aa hs Aa _ B9 _) ?_; rintro _ J _ e ⟨s1, p1, rfl, hs1, hp1, hp2, rfl⟩
  have h := h.mono e
  have hs := hs.mono e
  have hle := hle.trans e
  have hlr := hlr.trans e
  refine Ok rfl rfl ?_; refine Ok rfl rfl ?_; refine Oa rfl (Ab (Al (.tmp rfl .nil) ?_))
  exact ⟨_, _, hle, fun w h => Mem.sub (L' := rd b oa l c _ :: L) Bf h, _, _, rfl, E9, by omega, by omega, rfl⟩
 intro c6
 try simp only [nb] at c6
 refine Se rfl (Oc rfl rfl rfl (Oa rfl (Ab ?_))); refine A0 rfl ?_ ?_
 ·intro c7
  try simp only [nb] at c7
  refine Se rfl (Om rfl ?_); refine A2 rfl .free rfl ?_; refine Om rfl ?_; refine Ok rfl rfl ?_; refine Ok rfl rfl ?_; refine Om rfl ?_; refine Ca rfl (ih h hl b _ Aa hs Aa _ B9 _) ?_; rintro _ J _ e ⟨s1, p1, rfl, hs1, hp1, hp2, rfl⟩
  have h := h.mono e
  have hs := hs.mono e
  have hle := hle.trans e
  have hlr := hlr.trans e
  refine Ok rfl rfl ?_; refine Ok rfl rfl ?_; refine Oa rfl (Ab (Al (.tmp rfl .nil) ?_))
  exact ⟨_, _, hle, fun w h => Mem.sub (L' := rd b oa l c _ :: L) Bf h, _, _, rfl, E9, by omega, by omega, rfl⟩
 intro c7
 try simp only [nb] at c7
 refine Se rfl (Oc rfl rfl rfl (Oa rfl (Ab ?_))); refine A0 rfl ?_ ?_
 ·intro c8
  try simp only [nb] at c8
  refine Se rfl (Om rfl (Od rfl rfl rfl (Ab ?_))); refine A0 rfl ?_ ?_
  ·intro c9
   try simp only [nb] at c9
   refine Se rfl (Om rfl ?_); refine Ca rfl (Aap h hl b _ Aa _) ?_; rintro _ J _ e ⟨s1, p1, rfl, hs1, hp1, hp2, rfl⟩
   have hle := hle.trans e
   refine Oa rfl (Ab (Al (.tmp rfl .nil) ?_))
   exact ⟨_, _, hle, fun w h => Mem.sub (L' := rd b oa l c _ :: L) Bf h, _, _, rfl, E9, by omega, by omega, rfl⟩
  intro c9
  try simp only [nb] at c9
  refine Ak (Ar (Se rfl (Om rfl ?_))); refine A2 rfl .free rfl ?_; refine Om rfl (Om rfl ?_); refine Ca rfl (R7 ih hd ht0 h hl b _ Aa hs Aa want Aa _) ?_; rintro _ J _ e ⟨s1, p1, rfl, hs1, hp1, hp2, rfl⟩
  have hle := hle.trans e
  refine Oa rfl (Ab (Al (.tmp rfl .nil) ?_))
  exact ⟨_, _, hle, fun w h => Mem.sub (L' := rd b oa l c _ :: L) Bf h, _, _, rfl, E9, by omega, by omega, rfl⟩
 intro c8
 try simp only [nb] at c8
 refine Ak (Ar (Se rfl (Om rfl ?_))); refine A2 rfl .free rfl ?_; refine Om rfl (Om rfl ?_); refine Ca rfl (R7 ih hd ht0 h hl b _ Aa hs Aa want Aa _) ?_; rintro _ J _ e ⟨s1, p1, rfl, hs1, hp1, hp2, rfl⟩
 have hle := hle.trans e
 refine Oa rfl (Ab (Al (.tmp rfl .nil) ?_))
 exact ⟨_, _, hle, fun w h => Mem.sub (L' := rd b oa l c _ :: L) Bf h, _, _, rfl, E9, by omega, by omega, rfl⟩
theorem W0 : ∀ d, d ≤ 4 → Wq d
 | 0, _ => Aaf
 | d + 1, h => Aae (W0 d (by omega)) (by omega) (by
   have : ∀ d, d ≤ 4 → eT d ≤ 1000000000 := by decide
   exact this _ h)
theorem Ls {d : Nat} (hd : d ≤ 4) {I : Heap} {oa : Option Addr} {l : List UInt8} {c : Nat} (h : Bytes I oa l c) (hl : l.length ≤ 2000) (b p : Nat) (hp : p + 3000 ≤ 1099511627776) {ns ts : List As} {o1 o2 : Option Addr} {c1 c2 : Nat} (hs : ScAt I ns ts o1 c1 o2 c2) (hn : ns.length ≤ 80) (want : As) (hw : want.length ≤ 900) (L : Bo) :
  Fun Tryz.prog 119 [.pointer (some ⟨b, 0, none⟩), .agg [.slice o1 ns.length c1, .slice o2 ts.length c2].toArray, .string (str want), .int .i64 (d : Nat)] I (rd b oa l c p :: L) (DT b oa l c p 3000 400000 L) := by
 have hk : ∀ d, d ≤ 4 → kE d ≤ 3000 ∧ eT d ≤ 400000 := by decide
 obtain ⟨h1, h2⟩ := hk d hd; refine (W0 d hd h hl b p Aa hs Aa want Aa L).mono ?_; rintro v I' L' _ ⟨s, p', rfl, h3, h4, h5, rfl⟩
 exact ⟨s, p', rfl, by omega, h4, by omega, rfl⟩
mutual
def Tree.atomL : Tree → List As
 | .node a [] => [a]
 | .node _ (p :: ps) => p.atomL ++ Dz ps
def Dz : List Tree → List As
 | [] => []
 | t :: ts => t.atomL ++ Dz ts
end
mutual
def Tree.repl : Tree → As → Tree → Tree
 | .node x [], a, b => if x = a then b else .node x []
 | .node x (p :: ps), a, b => .node x (p.repl a b :: Jv ps a b)
def Jv : List Tree → As → Tree → List Tree
 | [], _, _ => []
 | t :: ts, a, b => t.repl a b :: Jv ts a b
end
theorem Ue (t : Tree) (h : t.parts ≠ []) : t.atomL = Dz t.parts := by
 cases t with
 | node a ps => cases ps with
  | nil => exact absurd rfl h
  | cons p ps => rfl
theorem R6 (t : Tree) (h : t.parts = []) : t.atomL = [t.atom] := by
 cases t with
 | node a ps => simp [Tree.parts] at h; subst h; rfl
theorem N0 : ∀ (a b : List Tree), Dz (a ++ b) = Dz a ++ Dz b
 | [], b => rfl
 | t :: a, b => by simp only [List.cons_append, Dz, N0 a b, List.append_assoc]
theorem M0 (ps : List Tree) (i : Nat) (hi : i < ps.length) : Dz (ps.take (i + 1)) = Dz (ps.take i) ++ ps[i].atomL := by
 rw [List.take_succ_eq_append_getElem hi, N0]; simp [Dz]
mutual
theorem Tree.atomL_len : ∀ t : Tree, t.atomL.length = t.size
 | .node a [] => rfl
 | .node a (p :: ps) => by
  have h1 := p.atomL_len; have h2 := If ps
  simp only [Tree.atomL, List.length_append, h1, h2, Tree.size, Ez, List.isEmpty_cons, cond_false]
theorem If : ∀ ts : List Tree, (Dz ts).length = Ez ts
 | [] => rfl
 | t :: ts => by have h1 := t.atomL_len; have h2 := If ts; simp only [Dz, List.length_append, h1, h2, Ez]
end
theorem Adv (t : Tree) (a : As) (b : Tree) (h : t.parts ≠ []) : t.repl a b = .node t.atom (Jv t.parts a b) := by
 cases t with
 | node x ps => cases ps with
  | nil => exact absurd rfl h
  | cons p ps => rfl
theorem Uz (t : Tree) (a : As) (b : Tree) (h : t.parts = []) : t.repl a b = if t.atom = a then b else t := by
 cases t with
 | node x ps => simp [Tree.parts] at h; subst h; rfl
theorem Pv : ∀ (p q : List Tree) (a : As) (b : Tree), Jv (p ++ q) a b = Jv p a b ++ Jv q a b
 | [], q, a, b => rfl
 | t :: p, q, a, b => by simp only [List.cons_append, Jv, Pv p q]
theorem Mh : ∀ (ps : List Tree) (a : As) (b : Tree), (Jv ps a b).length = ps.length
 | [], _, _ => rfl
 | t :: ps, a, b => by simp only [Jv, List.length_cons, Mh ps]
theorem Y8 (ps : List Tree) (a : As) (b : Tree) (i : Nat) (hi : i < ps.length) : Jv (ps.take (i + 1)) a b = Jv (ps.take i) a b ++ [ps[i].repl a b] := by
 rw [List.take_succ_eq_append_getElem hi, Pv]; rfl
mutual
theorem Tree.repl_good : ∀ {t : Tree} {a : As} {b : Tree}, t.good = true → b.good = true → (t.repl a b).good = true
 | .node x [], a, b, h, hb => by simp only [Tree.repl]; split; exact hb; exact h
 | .node x (p :: ps), a, b, h, hb => by
  obtain ⟨h1, h2, h3⟩ := Jc h; subst h1
  simp [Tree.repl, Tree.good, F1, Tree.repl_good h2 hb, Tb h3 hb]
theorem Tb : ∀ {ps : List Tree} {a : As} {b : Tree}, F1 ps = true → b.good = true → F1 (Jv ps a b) = true
 | [], a, b, h, hb => rfl
 | t :: ps, a, b, h, hb => by
  simp [F1] at h
  simp [Jv, F1, Tree.repl_good h.1 hb, Tb h.2 hb]
end
mutual
theorem Tree.repl_len : ∀ (t : Tree) (a : As) (b : Tree), (t.repl a b).len ≤ t.len + t.size * b.len
 | .node x [], a, b => by simp only [Tree.repl, Tree.size, List.isEmpty_nil, cond_true, Nat.one_mul]; split <;> omega
 | .node x (p :: ps), a, b => by
  have h1 := p.repl_len a b; have h2 := Uy ps a b
  simp only [Tree.repl, Tree.len, Tree.size, G1, Ez, List.isEmpty_cons, cond_false, Nat.add_mul]; omega
theorem Uy : ∀ (ps : List Tree) (a : As) (b : Tree), G1 (Jv ps a b) ≤ G1 ps + Ez ps * b.len
 | [], a, b => by simp [Jv, G1, Ez]
 | t :: ps, a, b => by
  have h1 := t.repl_len a b; have h2 := Uy ps a b
  simp only [Jv, G1, Ez, Nat.add_mul]; omega
end
theorem Z6 {l : List As} (h : l ≠ []) : Df [] l ≠ [] := fun e => h (Yl.1 e)
theorem Tree.size_one : ∀ t : Tree, 1 ≤ t.size
 | .node a [] => Nat.le_refl _
 | .node a (p :: ps) => by
  have := Tree.size_one p
  simp only [Tree.size, Ez, List.isEmpty_cons, cond_false]; omega
theorem Aby (t : Tree) : t.atomL ≠ [] := by
 have h1 := t.atomL_len
 have h2 := t.size_one
 intro e; rw [e] at h1; simp at h1; omega
mutual
theorem Tree.atom_len : ∀ (t : Tree) (x : As), x ∈ t.atomL → x.length ≤ t.len
 | .node a [], x, h => by
  simp only [Tree.atomL, List.mem_singleton] at h
  subst h; simp [Tree.len]
 | .node a (p :: ps), x, h => by
  simp only [Tree.atomL, List.mem_append] at h
  simp only [Tree.len, G1, List.isEmpty_cons, cond_false]
  rcases h with h | h
  ·have := p.atom_len x h; omega
  ·have := Mz ps x h; omega
theorem Mz : ∀ (ts : List Tree) (x : As), x ∈ Dz ts → x.length ≤ G1 ts
 | [], x, h => by cases h
 | t :: ts, x, h => by
  simp only [Dz, List.mem_append] at h
  simp only [G1]
  rcases h with h | h
  ·have := t.atom_len x h; omega
  ·have := Mz ts x h; omega
end
theorem Uf {t : Tree} (h : t.len ≤ 12000000) : ∀ s ∈ Df [] t.atomL, s.length ≤ Ba := by
 intro s hs
 rcases Hm.1 hs with h1 | h1
 ·cases h1
 ·have := t.atom_len s h1; unfold Ba; omega
def Jl (s : As) : Option (List As) := (Dw s).map fun t => Df [] t.atomL
def Ka (s a b : As) : Option As := match Dw s, Dw a, Dw b with
 | some t, some x, some y => if x.atom ≠ [] ∧ (Dw (t.repl a y).text).isSome = true then some (t.repl a y).text else none
 | _, _, _ => none
theorem Xc (s : As) (hs : s.length ≤ L8) (I : Heap) (L : Bo) : Fun Tryz.prog 136 [.string (str s)] I L (fun v I' L' => v = .bool (Dw s).isSome ∧ L = L') := by
 refine Ao Af ?_; refine Se rfl (Oa rfl (Ab (Se rfl (Om rfl ?_)))); refine Ca rfl (Ig s hs _ _) ?_; rintro _ J _ e1 ⟨t, cs, ok, rfl, hrep, rfl, hpf⟩; obtain ⟨o1, k1, _, rfl, -⟩ := hrep.open; refine Om rfl (Oe rfl rfl (Oe rfl rfl ?_)); refine Aw .free rfl ?_; intro b3; refine Bu rfl rfl rfl rfl .free ?_; refine Oa rfl (Ab (Se rfl (Om rfl (Oa rfl (Ab (Al (.tmp rfl .nil) ?_)))))); refine ⟨J, L, e1, Bk, ?_, rfl⟩
 cases hp : Dw s with
 | none => rw [hp] at hpf; rw [hpf]; rfl
 | some t0 => rw [hp] at hpf; rw [hpf.1]; rfl
structure GA where
 i : Nat
 l : List As
 B : Kd
 c : Nat
theorem Um : ∀ (n : Nat) {I : Heap} {t : Tree} {cs : List Value} (_ : SizeOf.sizeOf t < n) (_ : Rep I t cs) (_ : t.good = true) (l : List As) (B : Kd) (c : Nat) (_ : l.length + t.size ≤ 4294967295) (_ : C8 1 l.length c (l.map sv) B) (L : Bo),
  Fun Tryz.prog 124 [.agg cs.toArray, Bn l.length c B] I (A8 9 (l.map sv) B ++ L) (fun v I' L' => I = I' ∧ LP (Df l t.atomL) L v I' L') := by
 intro n
 induction n with
 | zero => intro I t cs h; omega
 | succ n ihn =>
  intro I t cs hlt h hg l B c hl hB L; obtain ⟨oa, cc, oaf, cf, rfl, hf⟩ := h.at'
  have ha := hf.alen
  have hnil := hf.nil
  have hp := hf.len
  unfold Ba at hp
  have hs1 := t.size_one
  have hlN : l.length ≤ Ba := by unfold Ba; omega
  refine Ao Af ?_; refine Se rfl ?_; refine Cn rfl rfl .free rfl ?_; intro b2; refine Oa rfl (Ab (Ah (Se rfl (Oh rfl ?_)))); refine Bz rfl .free rfl ?_; refine Od rfl rfl rfl (Ab ?_); refine A0 rfl ?_ ?_
  ·intro c0
   try simp only [nb] at c0
   have hat := R6 t (Lv hg c0)
   refine Ah (Se rfl (Om rfl (Oh rfl ?_))); refine Bz rfl .free rfl ?_; refine Ca rfl (Zx hB hlN _ _ _ _) ?_; rintro _ _ _ _ ⟨rfl, rfl, rfl⟩; refine Ab ?_; refine A0 rfl ?_ ?_
   ·intro c1
    try simp only [nb] at c1
    refine Se rfl (Om rfl (Oa rfl (Ab (Al (.tmp rfl .nil) ?_))))
    have hoc : Df l t.atomL = l := by rw [hat]; exact Ud c1
    exact ⟨I, _, .refl _, fun w h => h.drop, rfl, B, c, by rw [hoc]; rfl, by rw [hoc]; exact hB, by rw [hoc]⟩
   intro c1
   try simp only [nb] at c1
   refine Ak (Se rfl (Om rfl (Oh rfl ?_))); refine Bz rfl .free rfl ?_; refine Ol rfl rfl ?_; intro b17; refine Es (B := B) (xs := l.map sv) (ys := [sv t.atom]) (m := l.length) (c := c) Au Ac rfl rfl hB (fun _ h => h.u2) Ac (fun a ha => by cases ha; exact Bm (.head _) Ac) Af Ac Ae Ae Aa Ae .free rfl ?_; intro bb sp c2 hB'; refine Oa rfl (Ab (Al (.tmp rfl .nil) ?_))
   have hoc : Df l t.atomL = l ++ [t.atom] := by rw [hat]; exact R4 c1
   exact ⟨I, _, .refl _, Ms (L' := (bb, _) :: L), rfl, some (bb, sp), c2, by rw [hoc]; simp [Ck, Bn], by rw [hoc]; simpa using hB', by rw [hoc]; simp [A8]⟩
  intro c0
  try simp only [nb] at c0
  have hne := L5 hg Fv
  have hat := Ue t hne.1
  have hsz : t.size = Ez t.parts := by
   cases t with
   | node a ps => cases ps with
    | nil => exact absurd rfl hne.1
    | cons p ps => rfl
  refine Ak (Ah (Se rfl (Oa rfl (Ab (Aq ?_))))); refine C7 (X := GA) (fun x => t.parts.length - x.i) (fun x => [(1, Bn x.l.length x.c x.B), (2, .pointer (some ⟨b2, 0, none⟩)), (4, .slice none 0 0), (5, .int .i64 (x.i : Nat))]) (fun _ => I) (fun x => (b2, .cells [.string (str t.atom), .slice oa t.parts.length cc].toArray 68 (0, 0)) :: (A8 9 (x.l.map sv) x.B ++ L)) (fun x => x.i ≤ t.parts.length ∧ x.l = Df l (Dz (t.parts.take x.i)) ∧ C8 1 x.l.length x.c (x.l.map sv) x.B) ⟨0, l, B, c⟩ ⟨Nat.zero_le _, rfl, hB⟩ ⟨rfl, rfl, rfl, rfl, trivial⟩ (by intro _ h; exact h) ?_
  rintro ⟨i, l1, B1, c1⟩ ⟨hi, hl1, hB1⟩ ih
  simp only at hi hl1 hB1 ih ⊢
  have hll := Ie l (Dz (t.parts.take i))
  rw [← hl1, If] at hll; refine Ah (Se rfl (Om rfl (Oh rfl ?_))); refine Bz rfl .free rfl ?_; refine On rfl (Oc rfl rfl rfl (Ab ?_)); refine A0 rfl ?_ ?_
  ·intro c2
   try simp only [nb] at c2
   have hi1 : i < t.parts.length := by omega
   have hsl : Ez (t.parts.take i) + (t.pt i).size ≤ Ez t.parts := by
    rw [Tree.pt_at hi1]
    have h1 := H6 (t.parts.take i) (t.parts.drop i)
    rw [List.take_append_drop, List.drop_eq_getElem_cons hi1] at h1
    simp only [Ez] at h1; omega
   have hpg := Tree.pt_good hg i hi1
   refine Ak (Ah (Aq (Am rfl (Oh rfl ?_)))); refine Bz rfl .free rfl ?_; refine Om rfl ?_
   first | refine Bx rfl rfl _ rfl .free rfl ?_ | refine By rfl rfl _ rfl .free rfl ?_
   refine Fy rfl .free rfl ?_; refine Om rfl ?_; refine Dp (fun w h => h.u1) ?_; refine Ca rfl (ihn (t := t.pt i) (by have := t.pt_lt i hi1; omega) (hf.rp i hi1) hpg l1 B1 c1 Aa hB1 _) ?_; rintro _ _ _ _ ⟨rfl, B2, c2, rfl, hB2, rfl⟩; refine Dp (fun w h => h.w1) ?_; refine Oa rfl (Ab (Ar (Am rfl (Om rfl ?_)))); refine Or rfl rfl rfl ?_; refine Oa rfl (Ab ?_)
   exact Dy (E' := [(1, Bn (Df l1 (t.pt i).atomL).length c2 B2), (2, .pointer (some ⟨b2, 0, none⟩)), (4, .slice none 0 0), (5, .int .i64 ((i + 1 : Nat)))]) ⟨rfl, rfl, rfl, rfl, trivial⟩ (ih ⟨i + 1, Df l1 (t.pt i).atomL, B2, c2⟩ ⟨by simp only; omega, by simp only; rw [hl1, ← C2, M0 _ _ hi1, Tree.pt_at hi1], hB2⟩ Eo)
  intro c2
  try simp only [nb] at c2
  refine Ce rfl ?_; refine Se rfl (Om rfl (Oa rfl (Ab (Al (.tmp rfl .nil) ?_))))
  have hl2 : l1 = Df l t.atomL := by
   rw [hl1, hat, show i = t.parts.length by omega, List.take_length]
  subst hl2
  exact ⟨I, _, .refl _, fun w h => h.drop, rfl, B1, c1, rfl, hB1, rfl⟩
theorem Xb (s : As) (hs : s.length ≤ L8) (I : Heap) (L : Bo) : Fun Tryz.prog 78 [.string (str s)] I L (EF (Jl s) L) := by
 refine Ao Af ?_; refine Se rfl (Oa rfl (Oa rfl (Ab (Se rfl (Om rfl ?_))))); refine Ca rfl (Ig s hs _ _) ?_; rintro _ J _ e1 ⟨t, cs, ok, rfl, hrep, rfl, hpf⟩; obtain ⟨o1, k1, _, rfl, -⟩ := hrep.open; refine Om rfl (Oe rfl rfl (Oe rfl rfl ?_)); refine Aw .free rfl ?_; intro b4; refine Bu rfl rfl rfl rfl .free ?_; refine Oa rfl (Ab (Ah (Se rfl (Om rfl ?_)))); refine Ec rfl .free rfl ?_; refine Ab ?_; refine A0 rfl ?_ ?_
 ·intro c0
  try simp only [nb] at c0
  refine Se rfl ?_; refine Do .free rfl ?_; intro b13; refine Oa rfl (Oa rfl (Ab ?_)); refine Al (.tmp rfl (.tmp rfl .nil)) ?_; refine ⟨J, L, e1, Bk, some ⟨b13, 0, none⟩, 0, ?_, ?_, rfl⟩
  ·have : Jl s = none := by
    unfold Jl
    cases hp : Dw s with
    | none => rfl
    | some t0 => rw [hp] at hpf; rw [hpf.1] at c0; cases c0
   rw [this]; rfl
  ·have : Jl s = none := by
    unfold Jl
    cases hp : Dw s with
    | none => rfl
    | some t0 => rw [hp] at hpf; rw [hpf.1] at c0; cases c0
   rw [this]; exact Il _ _
 intro c0
 try simp only [nb] at c0
 have hps := Iy hpf c0
 have hpg := Gg hps
 have hpz := Mf hps
 have hat : Jl s = some (Df [] t.atomL) := by unfold Jl; rw [hps]; rfl
 refine Ak (Se rfl ?_); refine A2 rfl .free rfl ?_; refine Do .free rfl ?_; intro b15; refine Dp (L' := A8 9 (([] : List As).map sv) (some (b15, [])) ++ _) (fun w h => h) ?_; refine Ca rfl (Um _ (Nat.lt_succ_self _) hrep hpg.1 [] (some (b15, [])) 0 Cm ⟨rfl, Nat.le_refl _, rfl⟩ _) ?_; rintro _ _ _ _ ⟨rfl, B2, c2, rfl, hB2, rfl⟩; refine Oa rfl (Oa rfl (Ab ?_))
 have hll := Ie [] t.atomL
 rw [Tree.atomL_len] at hll
 simp only [List.length_nil, Nat.zero_add] at hll
 refine Gr hB2 rfl Ch (Uf hpg.2.1) ?_; intro J2 oz cz ez hbv hst; refine I9 (t := 2) rfl hbv ?_; refine Al (.tmp rfl (.tmp rfl .nil)) ?_
 exact ⟨J2, L, e1.trans ez, Bk, oz, cz, by rw [hat]; rfl, by rw [hat]; exact hst, rfl⟩
structure GP where
 J : Heap
 i : Nat
 xs : List Value
 B : Kd
 c : Nat
theorem Xd : ∀ (n : Nat) {I : Heap} {t : Tree} {cs : List Value} (_ : SizeOf.sizeOf t < n) (_ : Rep I t cs) (_ : t.good = true) (a : As) (_ : a ≠ []) {y : Tree} {ds : List Value} (_ : Rep I y ds) (L : Bo),
  Fun Tryz.prog 135 [.agg cs.toArray, .string (str a), .agg ds.toArray] I L (RP (t.repl a y) L) := by
 intro n
 induction n with
 | zero => intro I t cs h; omega
 | succ n ihn =>
  intro I t cs hlt h hg a ha0 y ds hy L; obtain ⟨oa, cc, oaf, cf, rfl, hf⟩ := h.at'; obtain ⟨oy, ky, _, rfl, -⟩ := hy.open
  have hp := hf.len
  unfold Ba at hp
  have hnil := hf.nil
  refine Ao Af ?_; refine Se rfl ?_; refine Cn rfl rfl .free rfl ?_; intro b3; refine Cn rfl rfl .free rfl ?_; intro b5; refine Aw .free rfl ?_; intro b6; refine Ab (Ah (Se rfl (Oh rfl ?_))); refine Bz rfl .free rfl ?_; refine Om rfl (Od rfl rfl rfl (Om rfl ?_))
  apply Ep 13 16 rfl
  ·intro g1_5 hk
   try simp only [nb] at g1_5
   refine Ow rfl ?_; refine Gf rfl rfl rfl (.met rfl rfl) rfl ?_; refine Ot rfl rfl ?_
   exact A7 2 rfl rfl hk
  ·intro _ hk; refine Bj 2 rfl ?_; refine Of rfl rfl ?_
   exact A7 2 rfl rfl hk
  refine Ab ?_; refine A0 rfl ?_ ?_
  ·intro c0
   try simp only [nb] at c0
   refine Se rfl ?_; refine A2 rfl .free rfl ?_; refine Bu rfl rfl rfl rfl .free ?_; refine Ab ?_; refine Al (.c rfl .nil) ?_
   have e : t.repl a y = y := by rw [Uz t a y (Lv hg (by rw [c0.1]; exact ha0)), if_pos c0.1]
   exact ⟨I, L, .refl _, Bk, _, rfl, by rw [e]; exact hy, rfl⟩
  intro c0
  try simp only [nb] at c0
  refine Ak (Ah (Se rfl (Oh rfl ?_))); refine Bz rfl .free rfl ?_; refine Od rfl rfl rfl (Ab ?_); refine A0 rfl ?_ ?_
  ·intro c1
   try simp only [nb] at c1
   refine Se rfl ?_; refine A2 rfl .free rfl ?_; refine Bu rfl rfl rfl rfl .free ?_; refine Ab ?_; refine Al (.c rfl .nil) ?_
   have e : t.repl a y = t := by rw [Uz t a y (Lv hg c1), if_neg (fun e => by rcases c0 with h | h; exact h e; exact ha0 h)]
   exact ⟨I, L, .refl _, Bk, _, rfl, by rw [e]; exact hf.rep, rfl⟩
  intro c1
  try simp only [nb] at c1
  have hat : t.atom = [] := by simpa using c1
  have hne := L5 hg hat
  have hre := Adv t a y hne.1
  refine Ak (Se rfl ?_); refine Cg rfl rfl rfl .free rfl ?_; refine Aw .free rfl ?_; intro b7; refine Bu rfl rfl rfl rfl .free ?_; refine Ab (Ah (Se rfl (Oa rfl (Ab (Aq ?_)))))
  refine C7 (X := GP) (fun x => t.parts.length - x.i) (fun x => [(1, .string (str a)), (3, .pointer (some ⟨b3, 0, none⟩)), (5, .pointer (some ⟨b5, 0, none⟩)), (6, .pointer (some ⟨b6, 0, none⟩)), (7, .pointer (some ⟨b7, 0, none⟩)), (8, .int .i64 (x.i : Nat))]) (fun x => x.J) (fun x => (b7, .cells [.string (str []), Bn x.i x.c x.B].toArray 68 (0, 0)) :: (A8 68 x.xs x.B ++ ((b6, .cells [.string (str []), .slice none 0 0].toArray 68 (0, 0)) :: (b5, .cells [.string (str y.atom), .slice oy y.parts.length ky].toArray 68 (0, 0)) :: (b3, .cells [.string (str t.atom), .slice oa t.parts.length cc].toArray 68 (0, 0)) :: L))) (fun x => HLe I x.J ∧ x.i ≤ t.parts.length ∧ RepL x.J (Jv (t.parts.take x.i) a y) x.xs ∧ C8 2 x.i x.c x.xs x.B) ⟨I, 0, [], none, 0⟩ ⟨.refl _, Nat.zero_le _, .nil, ⟨rfl, rfl, rfl⟩⟩ ⟨rfl, rfl, rfl, rfl, rfl, rfl, trivial⟩ (by intro _ h; exact h) ?_
  rintro ⟨J, i, xs, B, cb⟩ ⟨ez, hi, hl, hB⟩ ih
  simp only at ez hi hl hB ih ⊢
  have hf := hf.mono ez
  have hy := hy.mono ez
  refine Ah (Se rfl (Om rfl (Oh rfl ?_))); refine Bz rfl .free rfl ?_; refine On rfl (Oc rfl rfl rfl (Ab ?_)); refine A0 rfl ?_ ?_
  ·intro c2
   try simp only [nb] at c2
   have hi1 : i < t.parts.length := by omega
   have hpg := Tree.pt_good hg i hi1
   have hlt1 := t.pt_lt i hi1
   refine Ak (Ah (Aq ?_)); refine Vm 14 rfl rfl ?_; refine Da 0 rfl (Aj rfl) ?_; refine Dt 1 [13] rfl (Bc rfl) ?_; refine Da 2 rfl (Aj rfl) ?_; refine Dt 3 [13] rfl (Bc rfl) ?_; refine Da 4 rfl (Ag rfl) ?_
   first | refine Da 5 rfl (A3 rfl rfl _ rfl) ?_ | refine Da 5 rfl (A4 rfl rfl _ rfl) ?_
   refine Dt 6 [13] rfl (B7 rfl) ?_; refine Da 7 rfl (Ag rfl) ?_; refine Dt 8 [13] rfl (Cd rfl) ?_; refine Dc 9 rfl rfl (ihn (t := t.pt i) Aa (hf.rp i hi1) hpg a ha0 hy _) ?_; rintro _ J1 _ e1 ⟨cs1, rfl, h1, rfl⟩; obtain ⟨o1, k1, _, rfl, -⟩ := h1.open; refine Hx ?_; refine C5 10 rfl Ad rfl rfl rfl Ac Ac Ac Ae Ae Ac .free rfl (.inr Ap) ?_; intro b40
   refine Bt 11 (B := B) (xs := xs) (ys := [.string (str ((t.pt i).repl a y).atom), .slice o1 ((t.pt i).repl a y).parts.length k1]) (m := i) (c := cb) rfl Ad rfl Au Ac rfl rfl hB (fun _ h => h.u2) Ac (fun a ha => by cases ha; exact Bm Dr Ac) Af Ac Ae Aa Ae .free rfl (fun _ => .inr Ap) ?_; intro B2 c2 hB2; refine Br (fun w h => Mem.w1 (Mem.sub (List.Sublist.append_left (.cons _ (.refl _)) _) h)) ?_; refine Da 12 rfl (Aj rfl) ?_; refine Afn 13 rfl Ad rfl rfl rfl P3 rfl .free (.inl Ad) ?_; refine At Ad ?_; refine Ar (Am rfl (Om rfl ?_)); refine Or rfl rfl rfl ?_; refine Oa rfl (Ab ?_)
   refine Dy (E' := [(1, .string (str a)), (3, .pointer (some ⟨b3, 0, none⟩)), (5, .pointer (some ⟨b5, 0, none⟩)), (6, .pointer (some ⟨b6, 0, none⟩)), (7, .pointer (some ⟨b7, 0, none⟩)), (8, .int .i64 ((i + 1 : Nat)))]) ⟨rfl, rfl, rfl, rfl, rfl, rfl, trivial⟩ (ih ⟨J1, i + 1, xs ++ [.string (str ((t.pt i).repl a y).atom), .slice o1 ((t.pt i).repl a y).parts.length k1], B2, c2⟩ ⟨ez.trans e1, by simp only; omega, ?_, hB2⟩ Eo); rw [Y8 _ _ _ _ hi1, ← Tree.pt_at hi1]
   exact (hl.mono e1).append (.one h1)
  intro c2
  try simp only [nb] at c2
  refine Ce rfl ?_; refine Ah ?_
  have hie : i = t.parts.length := by omega
  rw [hie, List.take_length] at hl; refine Cs (fun w h => h.u1) (T9 hl hB (by rw [Mh, hie]) (by rw [Mh]; unfold Ba; omega) ?_); intro J2 oz cz ez2 hbv hst; rw [hbv]; refine Am rfl ?_; refine A2 rfl .free rfl ?_; refine Bu rfl rfl rfl rfl .free ?_; refine Ab ?_; refine Al (.c rfl .nil) ?_
  exact ⟨J2, L, ez.trans ez2, Bk, _, rfl, by rw [hre, hat]; exact hst.form [] Ae, rfl⟩
theorem Rh {s a b : As} {t x y : Tree} (h1 : Dw s = some t) (h2 : Dw a = some x) (h3 : Dw b = some y) : Ka s a b = if x.atom ≠ [] ∧ (Dw (t.repl a y).text).isSome = true then some (t.repl a y).text else none := by
 unfold Ka; rw [h1, h2, h3]
theorem Iv {s a b : As} (h : Dw s = none ∨ Dw a = none ∨ Dw b = none) : Ka s a b = none := by
 unfold Ka
 rcases h with h | h | h
 ·rw [h]
 ·rw [h]; cases Dw s <;> rfl
 ·rw [h]; cases Dw s <;> cases Dw a <;> rfl
theorem Yj {p : Option Tree} {t : Tree} {ok : Bool} (hpf : match p with | some t0 => ok = true ∧ t = t0 | none => ok = false) : (ok = false → p = none) ∧ (ok = true → p = some t) := by
 cases p with
 | none => exact ⟨fun _ => rfl, fun h => (by rw [hpf] at h; cases h)⟩
 | some t0 => exact ⟨fun h => (by rw [hpf.1] at h; cases h), fun _ => (by rw [hpf.2])⟩
theorem Qs {s : As} {t : Tree} (h : Dw s = some t) : s.length ≤ 12000 ∧ t.len ≤ 12000 := by
 have h1 := (Ij h).1
 simp only [Tree.fits, Bool.and_eq_true, decide_eq_true_eq] at h1
 exact ⟨by rw [← Kv h, Tree.text_len]; exact h1.2, h1.2⟩
theorem X2 {s a b o : As} (h : Ka s a b = some o) : o.length ≤ 12000 := by
 unfold Ka at h
 cases h1 : Dw s with
 | none => rw [h1] at h; cases h
 | some t =>
  cases h2 : Dw a with
  | none => rw [h1, h2] at h; cases h
  | some x =>
   cases h3 : Dw b with
   | none => rw [h1, h2, h3] at h; cases h
   | some y =>
    rw [h1, h2, h3] at h
    simp only at h
    split at h
    ·rename_i hh
     cases h
     obtain ⟨z, hz⟩ := Option.isSome_iff_exists.1 hh.2
     exact (Qs hz).1
    ·cases h
theorem N7 (s a b : As) (hs : s.length ≤ L8) (ha : a.length ≤ L8) (hb : b.length ≤ 900) (I : Heap) (L : Bo) : Fun Tryz.prog 79 [.string (str s), .string (str a), .string (str b)] I L (EL (Ka s a b) L) := by
 refine Ao Af ?_; refine Se rfl (Oa rfl (Oa rfl (Ab (Se rfl (Om rfl ?_))))); refine Ca rfl (Ig s hs _ _) ?_; rintro _ J1 _ e1 ⟨t, cs1, ok1, rfl, hr1, rfl, hp1⟩; obtain ⟨o1, k1, _, rfl, -⟩ := hr1.open; refine Om rfl (Oe rfl rfl (Oe rfl rfl ?_)); refine Aw .free rfl ?_; intro b8; refine Bu rfl rfl rfl rfl .free ?_; refine Oa rfl (Ab (Se rfl (Om rfl ?_))); refine Ca rfl (Ig a ha _ _) ?_; rintro _ J2 _ e2 ⟨x, cs2, ok2, rfl, hr2, rfl, hp2⟩; obtain ⟨o2, k2, _, rfl, -⟩ := hr2.open; refine Om rfl (Oe rfl rfl (Oe rfl rfl ?_)); refine Aw .free rfl ?_; intro b10; refine Bu rfl rfl rfl rfl .free ?_
 refine Oa rfl (Ab (Se rfl (Om rfl ?_))); refine Ca rfl (Ig b (by unfold L8; omega) _ _) ?_; rintro _ J3 _ e3 ⟨y, cs3, ok3, rfl, hr3, rfl, hp3⟩; obtain ⟨o3, k3, _, rfl, -⟩ := hr3.open
 have q1 := Yj hp1
 have q2 := Yj hp2
 have q3 := Yj hp3
 have hle := (e1.trans e2).trans e3
 refine Om rfl (Oe rfl rfl (Oe rfl rfl ?_)); refine Aw .free rfl ?_; intro b12; refine Bu rfl rfl rfl rfl .free ?_; refine Oa rfl (Ab (Ah (Se rfl (Om rfl ?_)))); refine Ec rfl .free rfl ?_; refine Om rfl ?_
 apply G5 32 35 rfl
 ·intro g4_3 hk
  try simp only [nb] at g4_3
  refine Ow rfl ?_; refine Ec rfl (.met rfl rfl) rfl ?_; refine Of rfl rfl ?_
  exact A7 2 rfl rfl hk
 ·intro _ hk; refine Bj 2 rfl ?_; refine Ot rfl rfl ?_
  exact A7 2 rfl rfl hk
 refine Om rfl ?_
 apply G5 36 39 rfl
 ·intro g4_7 hk
  try simp only [nb] at g4_7
  refine Ow rfl ?_; refine Ec rfl (.met rfl rfl) rfl ?_; refine Of rfl rfl ?_
  exact A7 2 rfl rfl hk
 ·intro _ hk; refine Bj 2 rfl ?_; refine Ot rfl rfl ?_
  exact A7 2 rfl rfl hk
 refine Om rfl ?_
 apply G5 40 44 rfl
 ·intro g4_11 hk
  try simp only [nb] at g4_11
  refine Cf rfl (.met rfl rfl) rfl ?_; refine Bz rfl (.met rfl rfl) rfl ?_; refine Gf rfl rfl rfl (.met rfl rfl) rfl ?_; refine Of rfl rfl ?_
  exact A7 3 rfl rfl hk
 ·intro _ hk; refine Bj 3 rfl ?_; refine Ot rfl rfl ?_
  exact A7 3 rfl rfl hk
 refine Ab ?_; refine A0 rfl ?_ ?_
 ·intro c0
  try simp only [nb] at c0
  refine Se rfl (Oa rfl (Oa rfl (Ab ?_))); refine Al (.tmp rfl (.tmp rfl .nil)) ?_; refine ⟨J3, L, hle, Bk, ?_, rfl⟩
  have hz : Ka s a b = none := by
   rcases c0 with ((h | h) | h) | h
   ·exact Iv (.inl (q1.1 h))
   ·exact Iv (.inr (.inl (q2.1 h)))
   ·exact Iv (.inr (.inr (q3.1 h)))
   ·cases hh1 : Dw s with
    | none => exact Iv (.inl hh1)
    | some t1 =>
     cases hh2 : Dw a with
     | none => exact Iv (.inr (.inl hh2))
     | some x1 =>
      cases hh3 : Dw b with
      | none => exact Iv (.inr (.inr hh3))
      | some y1 =>
       rw [hh2] at hp2; rw [Rh hh1 hh2 hh3, if_neg (by rw [← hp2.2]; exact fun e => e.1 h)]
  rw [hz]; rfl
 intro c0
 try simp only [nb] at c0
 obtain ⟨⟨⟨h1, h2⟩, h3⟩, h4⟩ := c0
 have p1 := q1.2 h1
 have p2 := q2.2 h2
 have p3 := q3.2 h3
 have f1 := Ij p1
 have f2 := Ij p2
 have f3 := Ij p3
 have l1 := (Qs p1).2
 have l3 : y.len ≤ 900 := by rw [← Tree.text_len, Kv p3]; exact hb
 have z1 := Mf p1
 have hrl := t.repl_len a y
 have hmul : t.size * y.len ≤ 12000 * 900 := Nat.mul_le_mul z1 l3
 have hrg := Tree.repl_good (a := a) f1.2.1 f3.2.1
 have ha0 : a ≠ [] := by
  intro e
  have h5 := Kv p2
  have h6 := Lv f2.2.1 h4
  cases x with
  | node n ps =>
   simp only [Tree.parts] at h6
   subst h6
   simp only [Tree.text, List.isEmpty_nil, cond_true] at h5
   exact h4 (h5.trans e)
 have hro := Rh p1 p2 p3
 refine Ak (Se rfl ?_); refine A2 rfl .free rfl ?_; refine Om rfl ?_; refine A2 rfl .free rfl ?_; refine Ca rfl (Xd _ (Nat.lt_succ_self _) ((hr1.mono e2).mono e3) f1.2.1 a ha0 hr3 _) ?_; rintro _ J4 _ e4 ⟨cs4, rfl, hr4, rfl⟩; refine Ca rfl (Kq _ (Nat.lt_succ_self _) hr4 hrg Aa _) ?_; rintro _ _ _ _ ⟨rfl, rfl, rfl⟩; refine Oa rfl (Ab (Ah (Se rfl (Om rfl ?_)))); refine Ca rfl (Xc _ (by rw [Tree.text_len]; unfold L8; omega) _ _) ?_; rintro _ J5 _ e5 ⟨rfl, rfl⟩
 have hle := (hle.trans e4).trans e5
 refine Ec rfl .free rfl ?_; refine Ab ?_; refine A0 rfl ?_ ?_
 ·intro c1
  try simp only [nb] at c1
  refine Se rfl (Oa rfl (Oa rfl (Ab ?_))); refine Al (.tmp rfl (.tmp rfl .nil)) ?_; refine ⟨J5, L, hle, Bk, ?_, rfl⟩; rw [hro, if_neg (by rintro ⟨-, h⟩; rw [c1] at h; cases h)]; rfl
 intro c1
 try simp only [nb] at c1
 refine Ak (Se rfl (Om rfl (Oa rfl (Oa rfl (Ab ?_))))); refine Al (.tmp rfl (.tmp rfl .nil)) ?_; refine ⟨J5, L, hle, Bk, ?_, rfl⟩; rw [hro, if_pos ⟨h4, c1⟩]; rfl
theorem Wh (I : Heap) (oa ob : Option Addr) : ScAt I [] [] oa 0 ob 0 := ⟨Il _ _, Il _ _, rfl, (fun _ h => by cases h), (fun _ h => by cases h)⟩
theorem Aao {I : Heap} {oa : Option Addr} {l : List UInt8} {c : Nat} (h : Bytes I oa l c) (hl : l.length ≤ 2000) (b p : Nat) (hp : p + 7000 ≤ 1099511627776) (L : Bo) :
  Fun Tryz.prog 77 [.pointer (some ⟨b, 0, none⟩)] I (rd b oa l c p :: L) (DT b oa l c p 7000 400000 L) := by
 have hle : HLe I I := .refl _
 have hk2 : kT 2 = 6 := rfl
 have hb2 : bT 2 = 19 := rfl
 refine Ao Af ?_; refine Se rfl (Oa rfl (Ab (Se rfl (Oa rfl (Ab (Ah (Se rfl (Om rfl ?_)))))))); refine Ca rfl (D7 h hl b _ 3 Aa Ae _) ?_; rintro _ _ _ _ ⟨r, rfl, rfl, rfl, hr⟩; refine Oc rfl rfl rfl (Ab ?_); refine A0 rfl ?_ ?_
 ·intro c0
  try simp only [nb] at c0
  refine Am rfl (Om rfl ?_); refine Ca rfl (Lu 2 h hl b _ Aa Ae Ae _) ?_; rintro _ J _ e ⟨w, pw, rfl, hw, hp1, hp2, rfl⟩
  have h := h.mono e
  have hle := hle.trans e
  refine Oa rfl (Ab (Ah ?_))
  try have hw := hw
  refine Am rfl (Om rfl ?_); refine Do .free rfl ?_; intro b11; refine Do .free rfl ?_; intro b12; refine Cg rfl rfl rfl .free rfl ?_; refine Om rfl (Om rfl ?_); refine Dp (fun w h => Mem.sub (L' := rd b oa l c _ :: L) Bf h) ?_; refine Ca rfl (D7 h hl b _ 3 Aa Ae _) ?_; rintro _ _ _ _ ⟨r2, rfl, rfl, rfl, hr2⟩
  have hr3 : r2 < 3 := by omega
  have hdd : ∃ d : Nat, (2 : Int) + (r2 : Nat) = (d : Nat) ∧ d ≤ 4 := ⟨2 + r2, by omega, by omega⟩
  obtain ⟨d, hd1, hd2⟩ := hdd; refine Or rfl rfl rfl ?_; refine Hu (t := 17) (v' := .int .i64 (d : Nat)) rfl (by rw [← hd1]) ?_; refine Ca rfl (Ls hd2 h hl b _ Aa (Wh _ _ _) Af _ (by first | omega | (simp; done) | decide) _) ?_; rintro _ J1 _ e1 ⟨s1, p1, rfl, hs1, hp3, hp4, rfl⟩
  have h := h.mono e1
  have hle := hle.trans e1
  refine Oa rfl (Ab (Ah (Se rfl (Om rfl ?_)))); refine Ca rfl (M5 s1 Ch _ _) ?_; rintro _ _ _ _ ⟨rfl, rfl, rfl⟩; refine Ab ?_; refine A0 rfl ?_ ?_
  ·intro c1
   try simp only [nb] at c1
   refine Se rfl (Om rfl (Oa rfl (Ab (Al (.tmp rfl .nil) ?_))))
   exact ⟨_, _, hle, fun w h => Mem.sub (L' := rd b oa l c _ :: L) Bf h, _, _, rfl, by omega, by omega, by omega, rfl⟩
  intro c1
  try simp only [nb] at c1
  refine Ak (Se rfl (Om rfl ?_)); refine Do .free rfl ?_; intro b23; refine Do .free rfl ?_; intro b24; refine Cg rfl rfl rfl .free rfl ?_; refine Om rfl ?_; refine Dp (fun w h => Mem.sub (L' := rd b oa l c _ :: L) Bf h) ?_; refine Ca rfl (Ls (d := 2) Ae h hl b _ Aa (Wh _ _ _) Af _ (by first | omega | (simp; done) | decide) _) ?_; rintro _ J2 _ e2 ⟨s2, p2, rfl, hs2, hp5, hp6, rfl⟩
  have hle := hle.trans e2
  refine Oa rfl (Ab (Al (.tmp rfl .nil) ?_))
  exact ⟨_, _, hle, fun w h => Mem.sub (L' := rd b oa l c _ :: L) Bf h, _, _, rfl, by omega, by omega, by omega, rfl⟩
 intro c0
 try simp only [nb] at c0
 refine Ak (Ah ?_)
 try have hw := hw
 refine Am rfl (Om rfl ?_); refine Do .free rfl ?_; intro b11; refine Do .free rfl ?_; intro b12; refine Cg rfl rfl rfl .free rfl ?_; refine Om rfl (Om rfl ?_); refine Dp (fun w h => Mem.sub (L' := rd b oa l c _ :: L) Bf h) ?_; refine Ca rfl (D7 h hl b _ 3 Aa Ae _) ?_; rintro _ _ _ _ ⟨r2, rfl, rfl, rfl, hr2⟩
 have hr3 : r2 < 3 := by omega
 have hdd : ∃ d : Nat, (2 : Int) + (r2 : Nat) = (d : Nat) ∧ d ≤ 4 := ⟨2 + r2, by omega, by omega⟩
 obtain ⟨d, hd1, hd2⟩ := hdd; refine Or rfl rfl rfl ?_; refine Hu (t := 17) (v' := .int .i64 (d : Nat)) rfl (by rw [← hd1]) ?_; refine Ca rfl (Ls hd2 h hl b _ Aa (Wh _ _ _) Af _ (by first | omega | (simp; done) | decide) _) ?_; rintro _ J1 _ e1 ⟨s1, p1, rfl, hs1, hp3, hp4, rfl⟩
 have h := h.mono e1
 have hle := hle.trans e1
 refine Oa rfl (Ab (Ah (Se rfl (Om rfl ?_)))); refine Ca rfl (M5 s1 Ch _ _) ?_; rintro _ _ _ _ ⟨rfl, rfl, rfl⟩; refine Ab ?_; refine A0 rfl ?_ ?_
 ·intro c1
  try simp only [nb] at c1
  refine Se rfl (Om rfl (Oa rfl (Ab (Al (.tmp rfl .nil) ?_))))
  exact ⟨_, _, hle, fun w h => Mem.sub (L' := rd b oa l c _ :: L) Bf h, _, _, rfl, by omega, by omega, by omega, rfl⟩
 intro c1
 try simp only [nb] at c1
 refine Ak (Se rfl (Om rfl ?_)); refine Do .free rfl ?_; intro b23; refine Do .free rfl ?_; intro b24; refine Cg rfl rfl rfl .free rfl ?_; refine Om rfl ?_; refine Dp (fun w h => Mem.sub (L' := rd b oa l c _ :: L) Bf h) ?_; refine Ca rfl (Ls (d := 2) Ae h hl b _ Aa (Wh _ _ _) Af _ (by first | omega | (simp; done) | decide) _) ?_; rintro _ J2 _ e2 ⟨s2, p2, rfl, hs2, hp5, hp6, rfl⟩
 have hle := hle.trans e2
 refine Oa rfl (Ab (Al (.tmp rfl .nil) ?_))
 exact ⟨_, _, hle, fun w h => Mem.sub (L' := rd b oa l c _ :: L) Bf h, _, _, rfl, by omega, by omega, by omega, rfl⟩
theorem Yn {s : As} {l : List As} (h : Jl s = some l) : l ≠ [] ∧ (∀ x ∈ l, x.length ≤ 12000) ∧ l.length ≤ 12000 := by
 unfold Jl at h
 cases hp : Dw s with
 | none => rw [hp] at h; cases h
 | some t =>
  rw [hp] at h
  simp only [Option.map_some, Option.some.injEq] at h
  subst h
  have h1 := (Qs hp).2
  have h2 := Mf hp
  refine ⟨Z6 (Aby t), fun x hx => ?_, ?_⟩
  ·rcases Hm.1 hx with h3 | h3
   ·cases h3
   ·have := t.atom_len x h3; omega
  ·have := Ie [] t.atomL
   rw [t.atomL_len] at this
   simp only [List.length_nil, Nat.zero_add] at this
   exact Nat.le_trans this h2
theorem Aco {I : Heap} {oa : Option Addr} {l : List UInt8} {c : Nat} (h : Bytes I oa l c) (hl : l.length ≤ 2000) (b p : Nat) (hp : p + 8000 ≤ 1099511627776) (L : Bo) :
  Fun Tryz.prog 39 [.pointer (some ⟨b, 0, none⟩)] I (rd b oa l c p :: L) (DT b oa l c p 8000 400001 L) := by
 refine Ao Af ?_; refine Se rfl (Oa rfl (Ab (Se rfl (Om rfl ?_)))); refine Ca rfl (Aao h hl b _ Aa _) ?_; rintro _ J1 _ e1 ⟨s, p1, rfl, hs, hp1, hp2, rfl⟩
 have h := h.mono e1
 refine Oa rfl (Ab (Ah (Se rfl (Om rfl ?_)))); refine Ca rfl (D7 h hl b _ 4 Aa Ae _) ?_; rintro _ _ _ _ ⟨r, rfl, rfl, rfl, hr⟩; refine Oc rfl rfl rfl (Ab ?_); refine A0 rfl ?_ ?_
 ·intro c0
  try simp only [nb] at c0
  refine Se rfl (Om rfl (Oa rfl (Ab (Al (.tmp rfl .nil) ?_))))
  exact ⟨J1, _, e1, fun _ h => h, s, _, rfl, by omega, by omega, by omega, rfl⟩
 intro c0
 try simp only [nb] at c0
 refine Ak (Se rfl (Om rfl ?_)); refine Ca rfl (Xb s (by unfold L8; omega) _ _) ?_; rintro _ J2 _ e2 ⟨o1, k1, rfl, hat, rfl⟩
 have h := h.mono e2
 have hle := e1.trans e2
 refine Om rfl (Oe rfl rfl (Oe rfl rfl (Oa rfl (Oa rfl (Ab (Ah (Se rfl (Om rfl ?_)))))))); refine Ec rfl .free rfl ?_; refine Ab ?_; refine A0 rfl ?_ ?_
 ·intro c1
  try simp only [nb] at c1
  refine Se rfl (Om rfl (Oa rfl (Ab (Al (.tmp rfl .nil) ?_))))
  exact ⟨J2, _, hle, fun _ h => h, s, _, rfl, by omega, by omega, by omega, rfl⟩
 intro c1
 try simp only [nb] at c1
 obtain ⟨al, hal⟩ : ∃ al, Jl s = some al := Option.isSome_iff_exists.1 c1; rw [hal] at hat ⊢
 simp only [Option.getD_some] at hat ⊢
 obtain ⟨ha1, ha2, ha3⟩ := Yn hal
 have hapos := List.length_pos_iff.2 ha1
 have hanil := hat.nil'
 refine Ak (Ah ?_); refine Dl fun hlr => ?_
 refine Hp 17 rfl rfl ?_; refine Da 0 rfl (Ag rfl) ?_; refine Da 1 rfl (Ag rfl) ?_; refine Da 2 rfl (Ag rfl) ?_; refine Da 3 rfl (Ag rfl) ?_; refine Da 4 rfl (E4 rfl) ?_; refine Da 8 rfl (Ag rfl) ?_; refine El 5 9 Ad ?_ ?_
 ·skip
  refine G0 5 rfl rfl rfl .free rfl (D7 h hl b _ al.length Aa Aa _) ?_; rintro _ _ _ _ ⟨r2, rfl, rfl, rfl, hr2⟩
  have hr3 : r2 < al.length := by omega
  have hst := hat.st r2 hr3
  have hel : (al.getD r2 []).length ≤ 12000 := ha2 _ (by rw [show al.getD r2 [] = al[r2] by simp [hr3]]; exact List.getElem_mem _)
  refine Hx ?_
  first | refine Da 6 rfl (A3 rfl rfl _ rfl) ?_ | refine Da 6 rfl (A4 rfl rfl _ rfl) ?_
  refine Dt 7 [17] rfl (Tr rfl) ?_; refine C5 9 rfl Ad rfl rfl rfl Ac Ac Ac Ae Ae Ac .free rfl (.inr Ap) ?_; intro b32; refine Cp ?_; intro hz
  have hk := P1 (I := J2) (b := b32) (e := 9) (l := [[97], [120], [49], [112, 97, 105, 114], [99, 97, 108, 108], [102, 115, 116], [105], [43], [40, 102, 115, 116, 32, 49, 41], [98, 55]]) Ae Ae
  have hlr := hlr.trans hz
  have h := h.mono hz
  have hat := hat.mono hz
  try have hst := hst.mono hz
  refine Dc 10 rfl rfl (Ff h hl b _ Aa hk Af _) ?_; rintro _ _ _ _ ⟨y, rfl, hy, rfl, rfl⟩
  have hyl : y.length ≤ 10 := by revert y; decide
  refine Hx ?_; refine Dc 11 rfl rfl (N7 s (al.getD r2 []) y (by unfold L8; omega) (by unfold L8; omega) Aa _ _) ?_; rintro _ J3 _ e3 ⟨rfl, rfl⟩
  have h := h.mono e3
  have hlr := hlr.trans e3
  have hol : ((Ka s (al.getD r2 []) y).getD []).length ≤ 12000 := by
   cases ho : Ka s (al.getD r2 []) y with
   | none => decide
   | some o => exact X2 ho
  refine Hx ?_; refine Da 12 rfl (Ag rfl) ?_; refine Da 13 rfl (Cj rfl rfl) ?_; refine Da 14 rfl (Cj rfl rfl) ?_; refine Da 15 rfl (A5 rfl) ?_; refine Da 16 rfl (A5 rfl) ?_; refine At Ad ?_; refine Ah (Se rfl (Om rfl (Om rfl ?_)))
  first | refine Hd rfl rfl ?_ ?_ | refine Fg rfl rfl ?_ ?_ | refine Mr rfl rfl ?_ ?_
  ·intro g8_2; refine Ow rfl ?_; refine Cq rfl (.met rfl rfl) rfl (D7 h hl b _ 8 Aa Ae _) ?_; rintro _ _ _ _ ⟨r4, rfl, rfl, rfl, hr4⟩; refine D0 rfl rfl rfl (.met rfl rfl) rfl ?_; refine Ot rfl rfl (Ab ?_); refine A0 rfl ?_ ?_
   ·intro c2
    try simp only [nb] at c2
    refine Se rfl (Om rfl (Oa rfl (Ab (Al (.tmp rfl .nil) ?_))))
    exact ⟨J3, _, hle.trans hlr, fun _ h => h, _, _, rfl, by omega, by omega, by omega, rfl⟩
   intro c2
   try simp only [nb] at c2
   refine Ak (Se rfl (Om rfl (Om rfl ?_))); refine Ol rfl rfl ?_; intro b46; refine D5 [[], [32], [41]] Ae Ae ?_; intro J5 e5 k5; refine Ca rfl (Ff (h.mono e5) hl b _ Aa k5 Af _) ?_; rintro _ _ _ _ ⟨z, rfl, hz, rfl, rfl⟩
   have hzl : z.length ≤ 1 := by revert z; decide
   refine Ok rfl rfl ?_; refine Oa rfl (Ab (Al (.tmp rfl .nil) ?_))
   exact ⟨J5, _, (hle.trans hlr).trans e5, fun _ h => h, _, _, rfl, E9, by omega, by omega, rfl⟩
  intro g8_2
  iterate 3 refine C1 rfl rfl rfl ?_
  refine Of rfl rfl (Ab ?_); refine Bl rfl ?_; refine Ak (Se rfl (Om rfl (Om rfl ?_))); refine Ol rfl rfl ?_; intro b46; refine D5 [[], [32], [41]] Ae Ae ?_; intro J5 e5 k5; refine Ca rfl (Ff (h.mono e5) hl b _ Aa k5 Af _) ?_; rintro _ _ _ _ ⟨z, rfl, hz, rfl, rfl⟩
  have hzl : z.length ≤ 1 := by revert z; decide
  refine Ok rfl rfl ?_; refine Oa rfl (Ab (Al (.tmp rfl .nil) ?_))
  exact ⟨J5, _, (hle.trans hlr).trans e5, fun _ h => h, _, _, rfl, E9, by omega, by omega, rfl⟩
 ·skip
  refine D3 9 rfl rfl rfl rfl Ac Ac Ac Ae Ae Ac .free rfl (.inr Ap) ?_; intro b32; refine Cp ?_; intro hz
  have hk := P1 (I := J2) (b := b32) (e := 9) (l := [[97], [120], [49], [112, 97, 105, 114], [99, 97, 108, 108], [102, 115, 116], [105], [43], [40, 102, 115, 116, 32, 49, 41], [98, 55]]) Ae Ae
  have hlr := hlr.trans hz
  have h := h.mono hz
  have hat := hat.mono hz
  try have hst := hst.mono hz
  refine Dc 5 rfl rfl (D7 h hl b _ al.length Aa Aa _) ?_; rintro _ _ _ _ ⟨r2, rfl, rfl, rfl, hr2⟩
  have hr3 : r2 < al.length := by omega
  have hst := hat.st r2 hr3
  have hel : (al.getD r2 []).length ≤ 12000 := ha2 _ (by rw [show al.getD r2 [] = al[r2] by simp [hr3]]; exact List.getElem_mem _)
  refine Hx ?_
  first | refine Da 6 rfl (A3 rfl rfl _ rfl) ?_ | refine Da 6 rfl (A4 rfl rfl _ rfl) ?_
  refine Dt 7 [17] rfl (Tr rfl) ?_; refine Dc 10 rfl rfl (Ff h hl b _ Aa hk Af _) ?_; rintro _ _ _ _ ⟨y, rfl, hy, rfl, rfl⟩
  have hyl : y.length ≤ 10 := by revert y; decide
  refine Hx ?_; refine Dc 11 rfl rfl (N7 s (al.getD r2 []) y (by unfold L8; omega) (by unfold L8; omega) Aa _ _) ?_; rintro _ J3 _ e3 ⟨rfl, rfl⟩
  have h := h.mono e3
  have hlr := hlr.trans e3
  have hol : ((Ka s (al.getD r2 []) y).getD []).length ≤ 12000 := by
   cases ho : Ka s (al.getD r2 []) y with
   | none => decide
   | some o => exact X2 ho
  refine Hx ?_; refine Da 12 rfl (Ag rfl) ?_; refine Da 13 rfl (Cj rfl rfl) ?_; refine Da 14 rfl (Cj rfl rfl) ?_; refine Da 15 rfl (A5 rfl) ?_; refine Da 16 rfl (A5 rfl) ?_; refine At Ad ?_; refine Ah (Se rfl (Om rfl (Om rfl ?_)))
  first | refine Hd rfl rfl ?_ ?_ | refine Fg rfl rfl ?_ ?_ | refine Mr rfl rfl ?_ ?_
  ·intro g8_2; refine Ow rfl ?_; refine Cq rfl (.met rfl rfl) rfl (D7 h hl b _ 8 Aa Ae _) ?_; rintro _ _ _ _ ⟨r4, rfl, rfl, rfl, hr4⟩; refine D0 rfl rfl rfl (.met rfl rfl) rfl ?_; refine Ot rfl rfl (Ab ?_); refine A0 rfl ?_ ?_
   ·intro c2
    try simp only [nb] at c2
    refine Se rfl (Om rfl (Oa rfl (Ab (Al (.tmp rfl .nil) ?_))))
    exact ⟨J3, _, hle.trans hlr, fun _ h => h, _, _, rfl, by omega, by omega, by omega, rfl⟩
   intro c2
   try simp only [nb] at c2
   refine Ak (Se rfl (Om rfl (Om rfl ?_))); refine Ol rfl rfl ?_; intro b46; refine D5 [[], [32], [41]] Ae Ae ?_; intro J5 e5 k5; refine Ca rfl (Ff (h.mono e5) hl b _ Aa k5 Af _) ?_; rintro _ _ _ _ ⟨z, rfl, hz, rfl, rfl⟩
   have hzl : z.length ≤ 1 := by revert z; decide
   refine Ok rfl rfl ?_; refine Oa rfl (Ab (Al (.tmp rfl .nil) ?_))
   exact ⟨J5, _, (hle.trans hlr).trans e5, fun _ h => h, _, _, rfl, E9, by omega, by omega, rfl⟩
  intro g8_2
  iterate 3 refine C1 rfl rfl rfl ?_
  refine Of rfl rfl (Ab ?_); refine Bl rfl ?_; refine Ak (Se rfl (Om rfl (Om rfl ?_))); refine Ol rfl rfl ?_; intro b46; refine D5 [[], [32], [41]] Ae Ae ?_; intro J5 e5 k5; refine Ca rfl (Ff (h.mono e5) hl b _ Aa k5 Af _) ?_; rintro _ _ _ _ ⟨z, rfl, hz, rfl, rfl⟩
  have hzl : z.length ≤ 1 := by revert z; decide
  refine Ok rfl rfl ?_; refine Oa rfl (Ab (Al (.tmp rfl .nil) ?_))
  exact ⟨J5, _, (hle.trans hlr).trans e5, fun _ h => h, _, _, rfl, E9, by omega, by omega, rfl⟩
def DX (L : Bo) : De := fun v I' L' => ∃ s, v = .string (str s) ∧ List.length s ≤ 400001 ∧ L = L'
theorem Aaq {I : Heap} {oa : Option Addr} {l : List UInt8} {c : Nat} (h : Bytes I oa l c) (hl : l.length ≤ 2000) (b p : Nat) (hp : p + 4000 ≤ 1099511627776) (L : Bo) :
  Fun Tryz.prog 69 [.pointer (some ⟨b, 0, none⟩)] I (rd b oa l c p :: L) (DT b oa l c p 4000 400000 L) := by
 refine Ao Af ?_; refine Se rfl (Oa rfl (Ab (Se rfl ?_))); refine Ol rfl rfl ?_; intro b4; refine D5 [[97], [98], [120, 48]] Ae Ae ?_; intro J1 e1 k1
 have h := h.mono e1
 refine Ol rfl rfl ?_; intro b5; refine D5 [[105], [40, 42, 32, 105, 32, 105, 41], [105]] Ae Ae ?_; intro J2 e2 k2
 have h := h.mono e2
 have k1 := k1.mono e2
 have hle := e1.trans e2
 have hsc : ScAt J2 [[97], [98], [120, 48]] [[105], [40, 42, 32, 105, 32, 105, 41], [105]] (some ⟨b4, 0, none⟩) 3 (some ⟨b5, 0, none⟩) 3 := ⟨k1, k2, rfl, by decide, by decide⟩
 refine Cg rfl rfl rfl .free rfl ?_; refine Aw .free rfl ?_; intro b3; refine Bu rfl rfl rfl rfl .free ?_; refine Ab (Ah ?_); refine Cs (fun w h => h.perm2) ?_; refine Dl fun hlr => ?_
 refine Hp 7 rfl rfl ?_; refine Da 0 rfl (Ag rfl) ?_; refine Dt 1 [7] rfl (Cd rfl) ?_; refine Da 2 rfl (Ag rfl) ?_; refine Dc 3 rfl rfl (D7 h hl b _ 2 Aa Ae _) ?_; rintro _ _ _ _ ⟨r, rfl, rfl, rfl, hr⟩; refine Hx ?_; refine Da 4 rfl (Id rfl rfl rfl Aa) ?_; refine Dc 5 rfl rfl (Ls (d := 2 + r) Aa h hl b _ Aa hsc Af [105] Ae _) ?_; rintro _ J3 _ e3 ⟨s, p1, rfl, hs, hp1, hp2, rfl⟩
 have hlr := hlr.trans e3
 refine Hx ?_; refine Da 6 rfl (A5 rfl) ?_; refine At Ad ?_; refine Al (.tmp rfl .nil) ?_
 exact ⟨_, _, hle.trans e3, fun w h => Mem.sub (L' := rd b oa l c _ :: L) Bf h, _, _, rfl, hs, by omega, by omega, rfl⟩
def DQ (L : Bo) : De := fun v I' L' => ∃ o1 n1 c1 o2 n2 c2 s, v = .tuple #[.slice o1 (List.length n1) c1, .slice o2 (List.length n2) c2, .string (str s)] ∧ Strs I' o1 n1 c1 ∧ Strs I' o2 n2 c2 ∧ n1.length ≤ 16 ∧ n2.length ≤ 16 ∧ (∀ s ∈ n1, s.length ≤ 16) ∧ (∀ s ∈ n2, s.length ≤ 16) ∧ List.length s ≤ 400001 ∧ L = L'
theorem Ui {e : Ex} (h : e.fine = true) : Eu e.tree.text = some e := by
 have hok : e.ok = true := by simp only [Ex.fine, Bool.and_eq_true] at h; exact h.1.1
 rw [Lo hok, if_pos h]
theorem H0 {s : As} {e : Ex} (h : Eu s = some e) : e.fine = true ∧ e.ok = true ∧ e.size ≤ 120 ∧ e.tree.len ≤ 12000 ∧ s = e.tree.text := by
 obtain ⟨_, h2, h3⟩ := Ln h
 have h4 := h2
 simp only [Ex.fine, Bool.and_eq_true, Tree.fits, decide_eq_true_eq] at h4
 exact ⟨h2, h4.1.1, h4.1.2, h4.2.2, h3⟩
def Ex.many : Ex → Nat
 | .num _ => 1
 | .name _ => 1
 | .bin _ a b => 1 + a.many + b.many
 | .ite a b c => 1 + a.many + b.many + c.many
 | .lt _ a b => 1 + a.many + b.many
 | .fn _ _ _ _ b => 1 + b.many
 | .un _ a => 1 + a.many
def Ex.hd : Ex → As
 | .num _ => [110, 117, 109, 98, 101, 114]
 | .name _ => [110, 97, 109, 101]
 | e => e.tree.head
def Ag3 (s : As) : As := match Eu s with
 | some e => e.hd
 | none => []
def Ag5 (s : As) : Option (List As) := (Eu s).map fun e => e.sub.map fun a => a.tree.text
def Ag6 (s : As) : Int := match Eu s with
 | some e => (e.many : Nat)
 | none => -1
def Agx (s : As) : Int := match Dw s with
 | some t => (t.size : Nat)
 | none => -1
def Ac4 (s : As) : Nat := s.foldl (fun a c => 10 * a + (c.toNat - 48)) 0
theorem Ac5 (s : As) (c : UInt8) : Ac4 (s ++ [c]) = 10 * Ac4 s + (c.toNat - 48) := by simp [Ac4]
theorem Ug {d : Nat} (h : d < 10) : (UInt8.ofNat (48 + d)).toNat - 48 = d := by
 have : (UInt8.ofNat (48 + d)).toNat = 48 + d := by simp [UInt8.toNat_ofNat]; omega
 omega
theorem Uu : ∀ n : Nat, Ac4 (Lc n) = n := by
 intro n
 induction n using Nat.strongRecOn with
 | _ n ih =>
  by_cases h : n < 10
  ·rw [G9 h]
   show 10 * 0 + ((UInt8.ofNat (48 + n)).toNat - 48) = n
   rw [Ug h]; omega
  ·rw [I0 h, Ac5, ih (n / 10) Aa, Ug (Nat.mod_lt _ Aa)]
   omega
theorem Ab6 {a b : Nat} (h : Lc a = Lc b) : a = b := by
 have := congrArg Ac4 h
 rwa [Uu, Uu] at this
def nm (c : UInt8) (n : Nat) : As := c :: Lc n
theorem S4 {c : UInt8} {a b : Nat} (h : nm c a = nm c b) : a = b := Ab6 (List.cons.inj h).2
def E5 (c : UInt8) (av : List As) (n : Nat) : Nat := ((List.range n).filter fun k => decide (nm c k ∈ av)).length
theorem Jd (c : UInt8) (av : List As) (n : Nat) : E5 c av (n + 1) = E5 c av n + (if nm c n ∈ av then 1 else 0) := by
 unfold E5
 rw [List.range_succ, List.filter_append]
 by_cases h : nm c n ∈ av <;> simp [h]
theorem Mk : ∀ {l m : List As}, l.Nodup → (∀ x ∈ l, x ∈ m) → l.length ≤ m.length
 | [], m, _, _ => Nat.zero_le _
 | x :: l, m, hn, hs => by
  obtain ⟨h1, h2⟩ := List.nodup_cons.1 hn
  have hx := hs x (.head _)
  have := Mk (l := l) (m := m.erase x) h2 fun y hy => by
   have hne : y ≠ x := by rintro rfl; exact h1 hy
   exact (List.mem_erase_of_ne hne).2 (hs y (.tail _ hy))
  rw [List.length_erase_of_mem hx] at this
  have := List.length_pos_of_mem hx
  simp only [List.length_cons]; omega
theorem Bs (c : UInt8) (av : List As) (n : Nat) : E5 c av n ≤ av.length := by
 unfold E5
 rw [← List.length_map (f := nm c)]; refine Mk ?_ ?_
 ·have h1 : ((List.range n).filter fun k => decide (nm c k ∈ av)).Nodup := List.nodup_range.filter _
  unfold List.Nodup at h1 ⊢
  rw [List.pairwise_map]
  exact h1.imp fun h e => h (S4 e)
 ·intro x hx; obtain ⟨k, hk, rfl⟩ := List.mem_map.1 hx
  simpa using (List.mem_filter.1 hk).2
def frs (c : UInt8) (av : List As) : Nat → Nat → Nat
 | 0, n => n
 | k + 1, n => if nm c n ∈ av then frs c av k (n + 1) else n
theorem W8 {c : UInt8} {av : List As} : ∀ {k n : Nat}, av.length ≤ E5 c av n + k → nm c (frs c av k n) ∉ av ∧ n ≤ frs c av k n ∧ frs c av k n + E5 c av n = n + E5 c av (frs c av k n)
 | 0, n, h => by
  have h1 := Bs c av (n + 1)
  rw [Jd] at h1; refine ⟨fun hm => ?_, Nat.le_refl _, rfl⟩
  simp only [frs] at hm
  rw [if_pos hm] at h1; omega
 | k + 1, n, h => by
  simp only [frs]
  by_cases hm : nm c n ∈ av
  ·rw [if_pos hm]
   have h2 := Jd c av n
   rw [if_pos hm] at h2; obtain ⟨h3, h4, h5⟩ := W8 (c := c) (av := av) (k := k) (n := n + 1) (by omega)
   exact ⟨h3, by omega, by omega⟩
  ·rw [if_neg hm]; exact ⟨hm, Nat.le_refl _, rfl⟩
def fr (c : UInt8) (av : List As) (n : Nat) : Nat := frs c av av.length n
theorem D2 (c : UInt8) (av : List As) (n : Nat) : nm c (fr c av n) ∉ av ∧ n ≤ fr c av n ∧ fr c av n + E5 c av n = n + E5 c av (fr c av n) := W8 (by omega)
theorem Ew (c : UInt8) (av : List As) (n : Nat) : fr c av n + 1 + E5 c av n = n + 1 + E5 c av (fr c av n + 1) := by
 obtain ⟨h1, h2, h3⟩ := D2 c av n
 have := Jd c av (fr c av n)
 rw [if_neg h1] at this; omega
theorem W9 {c : UInt8} {av : List As} : ∀ {k n m : Nat}, (∀ j, n ≤ j → j < m → nm c j ∈ av) → n ≤ m → m ≤ n + k → nm c m ∉ av → frs c av k n = m
 | 0, n, m, _, h1, h2, _ => by simp only [frs]; omega
 | k + 1, n, m, h, h1, h2, h3 => by
  simp only [frs]
  by_cases hm : nm c n ∈ av
  ·rw [if_pos hm]
   have : n ≠ m := by rintro rfl; exact h3 hm
   exact W9 (fun j a b => h j (by omega) b) (by omega) (by omega) h3
  ·rw [if_neg hm]
   by_cases he : n = m
   ·exact he
   ·exact absurd (h n (Nat.le_refl _) (by omega)) hm
theorem Ru {c : UInt8} {av : List As} {n m : Nat} (h : ∀ j, n ≤ j → j < m → nm c j ∈ av) (h1 : n ≤ m) (h3 : nm c m ∉ av) : fr c av n = m := by
 obtain ⟨g1, g2, g3⟩ := D2 c av n
 by_cases hlt : fr c av n < m
 ·exact absurd (h _ g2 hlt) g1
 ·have hmm : m ≤ fr c av n := by omega
  have key : ∀ d, E5 c av (n + d) ≤ E5 c av n + d := by
   intro d
   induction d with
   | zero => exact Nat.le_refl _
   | succ d ih => rw [← Nat.add_assoc, Jd]; split <;> omega
  have h5 : m ≤ n + av.length := by
   have e1 : ∀ d, n + d ≤ m → E5 c av (n + d) = E5 c av n + d := by
    intro d hd
    induction d with
    | zero => rfl
    | succ d ih =>
     rw [← Nat.add_assoc, Jd, if_pos (h (n + d) Aa Aa), ih Aa]; omega
   have e2 := e1 (m - n) Aa
   have e3 := Bs c av (n + (m - n))
   omega
  exact W9 h h1 h5 h3

def Ex.pl (av : List As) : Ex → List As → List As → Nat → Ex × Nat
 | .num s, _, _, n => (.num s, n)
 | .name s, f, t, n => (.name (match Bv f s with | some i => t.getD i [] | none => s), n)
 | .bin o a b, f, t, n => let p := a.pl av f t n; let q := b.pl av f t p.2; (.bin o p.1 q.1, q.2)
 | .ite a b c, f, t, n => let p := a.pl av f t n; let q := b.pl av f t p.2; let r := c.pl av f t q.2; (.ite p.1 q.1 r.1, r.2)
 | .lt x a b, f, t, n => let k := fr 120 av n; let p := a.pl av f t (k + 1); let q := b.pl av (f ++ [x]) (t ++ [nm 120 k]) p.2; (.lt (nm 120 k) p.1 q.1, q.2)
 | .fn g x s u b, f, t, n => let k := fr 120 av n; let j := fr 120 av (k + 1); let p := b.pl av (f ++ [g, x]) (t ++ [nm 120 k, nm 120 j]) (j + 1); (.fn (nm 120 k) (nm 120 j) s u p.1, p.2)
 | .un o a, f, t, n => let p := a.pl av f t n; (.un o p.1, p.2)
def Ex.nb : Ex → Nat
 | .num _ => 0
 | .name _ => 0
 | .bin _ a b => a.nb + b.nb
 | .ite a b c => a.nb + b.nb + c.nb
 | .lt _ a b => 1 + a.nb + b.nb
 | .fn _ _ _ _ b => 2 + b.nb
 | .un _ a => a.nb
theorem Ex.pl_hits (av : List As) : ∀ (e : Ex) (f t : List As) (n : Nat), n ≤ (e.pl av f t n).2 ∧ (e.pl av f t n).2 + E5 120 av n = n + e.nb + E5 120 av (e.pl av f t n).2
 | .num s, f, t, n => ⟨Nat.le_refl _, by simp [Ex.pl, Ex.nb]⟩
 | .name s, f, t, n => ⟨Nat.le_refl _, by simp [Ex.pl, Ex.nb]⟩
 | .bin o a b, f, t, n => by
  have h1 := a.pl_hits av f t n
  have h2 := b.pl_hits av f t (a.pl av f t n).2
  simp only [Ex.pl, Ex.nb]; omega
 | .ite a b c, f, t, n => by
  have h1 := a.pl_hits av f t n
  have h2 := b.pl_hits av f t (a.pl av f t n).2
  have h3 := c.pl_hits av f t (b.pl av f t (a.pl av f t n).2).2
  simp only [Ex.pl, Ex.nb]; omega
 | .lt x a b, f, t, n => by
  have h0 := Ew 120 av n
  have h00 := (D2 120 av n).2.1
  have h1 := a.pl_hits av f t (fr 120 av n + 1)
  have h2 := b.pl_hits av (f ++ [x]) (t ++ [nm 120 (fr 120 av n)]) (a.pl av f t (fr 120 av n + 1)).2
  simp only [Ex.pl, Ex.nb]; omega
 | .fn g x s u b, f, t, n => by
  have h0 := Ew 120 av n
  have h00 := (D2 120 av n).2.1
  have h1 := Ew 120 av (fr 120 av n + 1)
  have h11 := (D2 120 av (fr 120 av n + 1)).2.1
  have h2 := b.pl_hits av (f ++ [g, x]) (t ++ [nm 120 (fr 120 av n), nm 120 (fr 120 av (fr 120 av n + 1))]) (fr 120 av (fr 120 av n + 1) + 1)
  simp only [Ex.pl, Ex.nb]; omega
 | .un o a, f, t, n => by
  have h1 := a.pl_hits av f t n
  simp only [Ex.pl, Ex.nb]; omega
theorem Ex.pl_size (av : List As) : ∀ (e : Ex) (f t : List As) (n : Nat), (e.pl av f t n).1.size = e.size ∧ (e.pl av f t n).1.tree.depth = e.tree.depth ∧ (e.pl av f t n).1.many = e.many
 | .num s, f, t, n => ⟨rfl, rfl, rfl⟩
 | .name s, f, t, n => ⟨rfl, rfl, rfl⟩
 | .bin o a b, f, t, n => by
  obtain ⟨h1, h2, h3⟩ := a.pl_size av f t n; obtain ⟨g1, g2, g3⟩ := b.pl_size av f t (a.pl av f t n).2
  simp only [Ex.pl, Ex.size, Ex.many, Ex.tree, Tree.depth, Eg, List.isEmpty_cons, cond_false, h1, h2, h3, g1, g2, g3, and_self]
 | .ite a b c, f, t, n => by
  obtain ⟨h1, h2, h3⟩ := a.pl_size av f t n; obtain ⟨g1, g2, g3⟩ := b.pl_size av f t (a.pl av f t n).2; obtain ⟨k1, k2, k3⟩ := c.pl_size av f t (b.pl av f t (a.pl av f t n).2).2
  simp only [Ex.pl, Ex.size, Ex.many, Ex.tree, Tree.depth, Eg, List.isEmpty_cons, cond_false, h1, h2, h3, g1, g2, g3, k1, k2, k3, and_self]
 | .lt x a b, f, t, n => by
  obtain ⟨h1, h2, h3⟩ := a.pl_size av f t (fr 120 av n + 1); obtain ⟨g1, g2, g3⟩ := b.pl_size av (f ++ [x]) (t ++ [nm 120 (fr 120 av n)]) (a.pl av f t (fr 120 av n + 1)).2
  simp only [Ex.pl, Ex.size, Ex.many, Ex.tree, Tree.depth, Eg, List.isEmpty_cons, List.isEmpty_nil, cond_true, cond_false, h1, h2, h3, g1, g2, g3, and_self]
 | .fn g x s u b, f, t, n => by
  obtain ⟨g1, g2, g3⟩ := b.pl_size av (f ++ [g, x]) (t ++ [nm 120 (fr 120 av n), nm 120 (fr 120 av (fr 120 av n + 1))]) (fr 120 av (fr 120 av n + 1) + 1)
  simp only [Ex.pl, Ex.size, Ex.many, Ex.tree, Tree.depth, Eg, List.isEmpty_cons, List.isEmpty_nil, cond_true, cond_false, g1, g2, g3, and_self]
 | .un o a, f, t, n => by
  obtain ⟨h1, h2, h3⟩ := a.pl_size av f t n
  simp only [Ex.pl, Ex.size, Ex.many, Ex.tree, Tree.depth, Eg, List.isEmpty_cons, cond_false, h1, h2, h3, and_self]
theorem Ex.nb_occ : ∀ (e : Ex) (bd : List As), 3 * (e.nb + (e.occ bd).length) ≤ 2 * e.size + 1
 | .num s, bd => by simp [Ex.nb, Ex.occ, Ex.size]
 | .name s, bd => by simp only [Ex.nb, Ex.occ, Ex.size]; split <;> simp
 | .bin o a b, bd => by have := a.nb_occ bd; have := b.nb_occ bd; simp only [Ex.nb, Ex.occ, Ex.size, List.length_append]; omega
 | .ite a b c, bd => by have := a.nb_occ bd; have := b.nb_occ bd; have := c.nb_occ bd; simp only [Ex.nb, Ex.occ, Ex.size, List.length_append]; omega
 | .lt x a b, bd => by have := a.nb_occ bd; have := b.nb_occ (bd ++ [x]); simp only [Ex.nb, Ex.occ, Ex.size, List.length_append]; omega
 | .fn f x s t b, bd => by have := b.nb_occ (bd ++ [f, x]); have := s.size_pos; have := t.size_pos; simp only [Ex.nb, Ex.occ, Ex.size]; omega
 | .un o a, bd => by have := a.nb_occ bd; simp only [Ex.nb, Ex.occ, Ex.size]; omega
theorem Wy {d : Nat} (h : d < 10) : Ga (UInt8.ofNat (48 + d)) = true := by
 have : (UInt8.ofNat (48 + d)).toNat = 48 + d := by simp [UInt8.toNat_ofNat]; omega
 simp only [Ga, this, Bool.and_eq_true, decide_eq_true_eq]; omega
theorem Ww : ∀ n : Nat, (Lc n).all Ga = true := by
 intro n
 induction n using Nat.strongRecOn with
 | _ n ih =>
  by_cases h : n < 10
  ·rw [G9 h]; simp only [List.all_cons, List.all_nil, Bool.and_true]; exact Wy h
  ·rw [I0 h, List.all_append, ih (n / 10) Aa]
   simp only [List.all_cons, List.all_nil, Bool.and_true, Bool.true_and]; exact Wy (Nat.mod_lt n Aa)
theorem Sb {n : Nat} (h : n < 1000) : (Lc n).length ≤ 3 := by
 by_cases h1 : n < 10
 ·rw [G9 h1]; simp
 ·rw [I0 h1, List.length_append]
  by_cases h2 : n / 10 < 10
  ·rw [G9 h2]; simp
  ·rw [I0 h2, List.length_append, G9 (show n / 10 / 10 < 10 by omega)]; simp
theorem L9 {c : UInt8} {n : Nat} (hc : Po c = true) (h : n < 1000) : B0 (nm c n) = true := by
 have := Sb h
 simp [nm, B0, hc, Ww n, this]
def namesL (l : List As) : Prop := ∀ s ∈ l, B0 s = true
theorem namesL.add {l m : List As} (h : namesL l) (h' : namesL m) : namesL (l ++ m) := by
 intro s hs
 rcases List.mem_append.1 hs with hs | hs
 ·exact h s hs
 ·exact h' s hs
theorem Ex.pl_ok {av : List As} : ∀ {e : Ex} {f t : List As} {n : Nat}, e.ok = true → namesL t → f.length = t.length → n + e.nb + av.length ≤ 900 + E5 120 av n → (e.pl av f t n).1.ok = true
 | .num s, f, t, n, h, _, _, _ => h
 | .name s, f, t, n, h, ht, hl, _ => by
  simp only [Ex.pl, Ex.ok]
  cases hi : Bv f s with
  | none => exact h
  | some i =>
   have h1 := (It (show F4 f s f.length = some i from hi)).1
   have h2 : i < t.length := by omega
   show B0 (t.getD i []) = true
   rw [show t.getD i [] = t[i] by simp [h2]]
   exact ht _ (List.getElem_mem h2)
 | .bin o a b, f, t, n, h, ht, hl, hn => by
  simp only [Ex.ok, Bool.and_eq_true] at h
  simp only [Ex.nb] at hn
  have h1 := a.pl_hits av f t n
  have h2 := Bs 120 av (a.pl av f t n).2
  simp only [Ex.pl, Ex.ok, Bool.and_eq_true]
  exact ⟨Ex.pl_ok h.1 ht hl (by omega), Ex.pl_ok h.2 ht hl (by omega)⟩
 | .ite a b c, f, t, n, h, ht, hl, hn => by
  simp only [Ex.ok, Bool.and_eq_true] at h
  simp only [Ex.nb] at hn
  have h1 := a.pl_hits av f t n
  have h2 := b.pl_hits av f t (a.pl av f t n).2
  have h3 := Bs 120 av (a.pl av f t n).2
  have h4 := Bs 120 av (b.pl av f t (a.pl av f t n).2).2
  simp only [Ex.pl, Ex.ok, Bool.and_eq_true]
  exact ⟨⟨Ex.pl_ok h.1.1 ht hl (by omega), Ex.pl_ok h.1.2 ht hl (by omega)⟩, Ex.pl_ok h.2 ht hl (by omega)⟩
 | .lt x a b, f, t, n, h, ht, hl, hn => by
  simp only [Ex.ok, Bool.and_eq_true] at h
  simp only [Ex.nb] at hn
  have h0 := Ew 120 av n
  have h1 := a.pl_hits av f t (fr 120 av n + 1)
  have h2 := Bs 120 av (fr 120 av n + 1)
  have h3 := Bs 120 av (a.pl av f t (fr 120 av n + 1)).2
  have h4 := Bs 120 av n
  have hz : B0 (nm 120 (fr 120 av n)) = true := L9 (by decide) (by omega)
  simp only [Ex.pl, Ex.ok, Bool.and_eq_true]
  exact ⟨⟨hz, Ex.pl_ok h.1.2 ht hl (by omega)⟩, Ex.pl_ok h.2 (ht.add fun s hs => by rw [List.mem_singleton.1 hs]; exact hz) (by simp [hl]) (by omega)⟩
 | .fn g x s u b, f, t, n, h, ht, hl, hn => by
  simp only [Ex.ok, Bool.and_eq_true, decide_eq_true_eq] at h
  obtain ⟨⟨⟨⟨⟨h1, h2⟩, h3⟩, h4⟩, h5⟩, h6⟩ := h
  simp only [Ex.nb] at hn
  have k0 := Ew 120 av n
  have k1 := Ew 120 av (fr 120 av n + 1)
  have k2 := Bs 120 av (fr 120 av n + 1)
  have k3 := Bs 120 av (fr 120 av (fr 120 av n + 1) + 1)
  have k5 := Bs 120 av n
  have k4 := (D2 120 av (fr 120 av n + 1)).2.1
  have hz1 : B0 (nm 120 (fr 120 av n)) = true := L9 (by decide) (by omega)
  have hz2 : B0 (nm 120 (fr 120 av (fr 120 av n + 1))) = true := L9 (by decide) (by omega)
  simp only [Ex.pl, Ex.ok, Bool.and_eq_true, decide_eq_true_eq]
  refine ⟨⟨⟨⟨⟨hz1, hz2⟩, fun e => ?_⟩, h4⟩, h5⟩, Ex.pl_ok h6 (ht.add fun s hs => ?_) (by simp [hl]) (by omega)⟩
  ·have := S4 e; omega
  ·simp only [List.mem_cons, List.not_mem_nil, or_false] at hs
   rcases hs with rfl | rfl
   ·exact hz1
   ·exact hz2
 | .un o a, f, t, n, h, ht, hl, hn => by
  simp only [Ex.pl, Ex.ok]
  exact Ex.pl_ok (e := a) h ht hl (by simpa [Ex.nb] using hn)
theorem B5.txt_len (o : B5) : o.txt.length ≤ 4 := by cases o <;> decide
theorem U2.txt_len (o : U2) : o.txt.length ≤ 3 := by cases o <;> decide
theorem Ex.len_size : ∀ {e : Ex}, e.ok = true → e.tree.len + 1 ≤ 8 * e.size
 | .num s, h => by
  have h : C4 s = true := h
  have : s.length ≤ 4 := by
   simp only [C4, Bool.or_eq_true, Bool.and_eq_true, decide_eq_true_eq] at h
   rcases h with h | h
   ·rw [h]; decide
   ·have h1 := h.1.1.2
    unfold E6 at h1
    split at h1
    ·simp only [List.length_drop] at h1; omega
    ·omega
  simp only [Ex.tree, Tree.len, List.isEmpty_nil, cond_true, Ex.size]; omega
 | .name s, h => by
  have := Ks (show B0 s = true from h)
  simp only [Ex.tree, Tree.len, List.isEmpty_nil, cond_true, Ex.size]; omega
 | .bin o a b, h => by
  simp only [Ex.ok, Bool.and_eq_true] at h
  have h1 := Ex.len_size h.1; have h2 := Ex.len_size h.2; have h3 := o.txt_len
  simp only [Ex.tree, Tree.len, G1, List.isEmpty_nil, List.isEmpty_cons, cond_true, cond_false, Ex.size]; omega
 | .ite a b c, h => by
  simp only [Ex.ok, Bool.and_eq_true] at h
  have h1 := Ex.len_size h.1.1; have h2 := Ex.len_size h.1.2; have h3 := Ex.len_size h.2
  simp only [Ex.tree, Tree.len, G1, List.isEmpty_nil, List.isEmpty_cons, cond_true, cond_false, Ex.size, Gi, List.length_cons, List.length_nil]; omega
 | .lt x a b, h => by
  simp only [Ex.ok, Bool.and_eq_true] at h
  have h1 := Ex.len_size h.1.2; have h2 := Ex.len_size h.2; have h3 := Ks h.1.1
  simp only [Ex.tree, Tree.len, G1, List.isEmpty_nil, List.isEmpty_cons, cond_true, cond_false, Ex.size, Dq, List.length_cons, List.length_nil]; omega
 | .fn f x s t b, h => by
  simp only [Ex.ok, Bool.and_eq_true, decide_eq_true_eq] at h
  obtain ⟨⟨⟨⟨⟨h1, h2⟩, h3⟩, h4⟩, h5⟩, h6⟩ := h
  have k1 := Ex.len_size h6; have k2 := Ks h1; have k3 := Ks h2
  have k4 := s.tree_small; have k5 := t.tree_small; have k6 := s.size_pos; have k7 := t.size_pos
  simp only [Ex.tree, Tree.len, G1, List.isEmpty_nil, List.isEmpty_cons, cond_true, cond_false, Ex.size, C6, List.length_cons, List.length_nil]; omega
 | .un o a, h => by
  have h1 := Ex.len_size (e := a) h; have h3 := o.txt_len
  simp only [Ex.tree, Tree.len, G1, List.isEmpty_nil, List.isEmpty_cons, cond_true, cond_false, Ex.size]; omega
def Ex.plain (e : Ex) : Ex := (e.pl e.free [] [] 0).1
theorem Q1 (l m : List As) : (Df l m).length ≤ l.length + m.length := by
 induction m generalizing l with
 | nil => exact Nat.le_refl _
 | cons s m ih =>
  have h1 : (Fa l s).length ≤ l.length + 1 := by unfold Fa; split <;> simp
  have h2 := ih (Fa l s)
  simp only [Df, List.foldl_cons, List.length_cons] at *
  omega
theorem O3 {e : Ex} (h : e.size ≤ 120) : e.nb + e.free.length ≤ 80 := by
 have h1 := e.nb_occ []
 have h2 := Q1 [] (e.occ [])
 simp only [List.length_nil, Nat.zero_add] at h2
 have h3 : e.free.length ≤ (e.occ []).length := h2
 omega
theorem Gt {e : Ex} (h : e.fine = true) : e.plain.fine = true := by
 simp only [Ex.fine, Bool.and_eq_true, decide_eq_true_eq, Tree.fits] at h
 obtain ⟨h1, h2, h3⟩ := e.pl_size e.free [] [] 0
 have hr := O3 h.1.2
 have hok : e.plain.ok = true := Ex.pl_ok h.1.1 (fun s hs => by cases hs) rfl Aa
 have hl := Ex.len_size hok
 have h4 : e.plain.size = e.size := h1
 have h5 : e.plain.tree.depth = e.tree.depth := h2
 simp only [Ex.fine, Bool.and_eq_true, decide_eq_true_eq, Tree.fits]
 exact ⟨⟨hok, by omega⟩, by omega, by omega⟩
def Agv (s : As) : Option As := (Eu s).map fun e => e.plain.tree.text
def V0 (l m : List As) (s : As) : As := match Bv l s with
 | some i => m.getD i []
 | none => s
theorem Ack {I : Heap} {oa ob : Option Addr} {l m : List As} {c c' : Nat} (h : Strs I oa l c) (h' : Strs I ob m c') (hlm : l.length = m.length) (s : As) (L : Bo) :
  Fun Tryz.prog 199 [.slice oa l.length c, .slice ob m.length c', .string (str s)] I L (E1 (.string (str (V0 l m s))) I L) := by
 have hlen := h.len
 unfold Ba at hlen
 refine Ao Af ?_; refine Se rfl (Oa rfl (Ab (Ah (Se rfl (Om rfl (On rfl ?_)))))); refine Or rfl rfl rfl ?_; refine Oa rfl (Ab (Aq ?_)); refine C7 (X := Nat) (fun n => n) (fun n => [(0, .slice oa l.length c), (1, .slice ob m.length c'), (2, .string (str s)), (7, .int .i64 ((n : Int) - 1))]) (fun _ => I) (fun _ => L) (fun n => n ≤ l.length ∧ Bv l s = F4 l s n) l.length ⟨Nat.le_refl _, rfl⟩ ⟨rfl, rfl, rfl, rfl, trivial⟩ Bk ?_; rintro n ⟨hn, hl⟩ ih; refine Ah (Se rfl (Om rfl (Oc rfl rfl rfl (Ab ?_)))); refine Si rfl ?_ ?_
 ·intro c0; obtain ⟨k, rfl⟩ : ∃ k, n = k + 1 := ⟨n - 1, by omega⟩; obtain ⟨x, hx, hst⟩ := h.at k Aa; obtain ⟨y, hy, hst'⟩ := h'.at k Aa; refine I9 (t := 7) (v' := .int .i64 (k : Nat)) rfl Gl ?_
  simp only [F4, List.getD_eq_getElem?_getD, List.getElem?_eq_getElem (show k < l.length by omega), Option.getD_some] at hl
  refine Ak (Ah (Aq (Se rfl (Om rfl (Om rfl ?_))))); refine Cl rfl rfl _ rfl Cc D1 .free rfl ?_; refine C0 rfl .free rfl ?_; refine Om rfl (Od rfl rfl rfl (Ab ?_)); refine Si rfl ?_ ?_
  ·intro c1; refine Se rfl (Om rfl (Om rfl ?_)); refine Cl rfl rfl _ rfl Cc D1 .free rfl ?_; refine C0 rfl .free rfl ?_; refine Oa rfl (Ab (Al (.tmp rfl .nil) ?_)); refine only rfl ?_; rw [if_pos Dk] at hl
   simp only [V0, hl]; simp [Ck, show k < m.length by omega]
  intro c1; refine Ak (Ar (Am rfl (Om rfl ?_))); refine Or rfl rfl rfl ?_; refine Oa rfl (Ab ?_); refine Dy (E' := [(0, .slice oa l.length c), (1, .slice ob m.length c'), (2, .string (str s)), (7, .int .i64 ((k : Int) - 1))]) ⟨rfl, rfl, rfl, rfl, trivial⟩ (ih k ⟨by omega, ?_⟩ Aa); rw [hl, if_neg Dk]
 intro c0; refine Ce rfl ?_; refine Se rfl (Om rfl (Oa rfl (Ab (Al (.tmp rfl .nil) ?_)))); refine only rfl ?_; obtain rfl : n = 0 := by omega
 simp only [V0, hl, F4]; rfl
theorem H8 (s : As) (I : Heap) (L : Bo) : Fun Tryz.prog 160 [.string (str s)] I L (E1 (.agg [.string (str s), .slice none 0 0].toArray) I L) := by
 refine Ao Af ?_; refine Se rfl ?_; refine Aw .free rfl ?_; intro b2; refine Ab (Se rfl (Om rfl ?_)); refine Cg rfl rfl rfl .free rfl ?_; refine Bu rfl rfl rfl rfl .free ?_; refine Ab ?_; refine Al (.c rfl .nil) ?_; refine only rfl ?_
 rfl
theorem Age (c : UInt8) (av : List As) (n : Nat) : fr c av n ≤ n + av.length := by
 have h1 := (D2 c av n).2.2
 have h2 := Bs c av (fr c av n)
 omega
def rn (b : Nat) (oa : Option Addr) (av : List As) (c n : Nat) : Nat × Obj := (b, .cells [.slice oa av.length c, .int .i64 (n : Nat)].toArray 179 (0, 0))
theorem Qd {I : Heap} {oa : Option Addr} {av : List As} {c : Nat} (hav : Strs I oa av c) (b n : Nat) (hn : n + av.length ≤ 900) (L : Bo) :
  Fun Tryz.prog 200 [.pointer (some ⟨b, 0, none⟩)] I (rn b oa av c n :: L) (fun v I' L' => v = .string (str (nm 120 (fr 120 av n))) ∧ I = I' ∧ L' = rn b oa av c (fr 120 av n + 1) :: L) := by
 obtain ⟨f1, f2, f3⟩ := D2 120 av n
 have f4 := Age 120 av n
 refine Ao Af ?_; refine Se rfl (Oa rfl (Ab (Aq ?_))); refine C7 (X := Nat) (fun m => fr 120 av n + 1 - m) (fun m => [(0, .pointer (some ⟨b, 0, none⟩))]) (fun _ => I) (fun m => rn b oa av c m :: L) (fun m => n ≤ m ∧ m ≤ fr 120 av n ∧ ∀ j, n ≤ j → j < m → nm 120 j ∈ av) n ⟨Nat.le_refl _, f2, fun j h1 h2 => absurd h2 Aa⟩ ⟨rfl, trivial⟩ (fun _ h => h) ?_; rintro m ⟨hm1, hm2, hm3⟩ ih
 unfold rn
 have hdl := Sb (n := m) Aa
 refine Aq (Se rfl (Om rfl ?_)); refine Bw rfl .free rfl ?_
 first | refine Oh rfl ?_ | refine Oj rfl ?_
 refine O1 rfl .free rfl ?_; refine Ca rfl (Vv _ m (Nat.lt_succ_self _) Aa _ _) ?_; rintro _ _ _ _ ⟨rfl, rfl, rfl⟩; refine Ok rfl rfl ?_; refine Oa rfl (Ab (Se rfl (Om rfl (Om rfl ?_)))); refine Bw rfl .free rfl ?_
 first | refine Oh rfl ?_ | refine Oj rfl ?_
 refine O1 rfl .free rfl ?_; refine Or rfl rfl rfl ?_; refine Bw rfl .free rfl ?_
 first | refine Oh rfl ?_ | refine Oj rfl ?_
 refine Bu rfl rfl rfl rfl .free ?_; refine Ab (Se rfl (Om rfl ?_)); refine Bw rfl .free rfl ?_
 first | refine Oh rfl ?_ | refine Oj rfl ?_
 refine O1 rfl .free rfl ?_; refine Om rfl ?_; refine Ca rfl (Rv (hav.rd _) c (nm 120 m)) ?_; rintro _ _ _ _ ⟨rfl, rfl, rfl⟩; refine Ec rfl .free rfl ?_; refine Ab ?_; refine A0 rfl ?_ ?_
 ·intro c0
  try simp only [nb] at c0
  refine Se rfl (Om rfl (Oa rfl (Ab (Al (.tmp rfl .nil) ?_))))
  have hfm : fr 120 av n = m := Ru hm3 hm1 c0
  exact ⟨I, _, .refl _, fun _ h => h, by rw [hfm]; rfl, rfl, by rw [hfm]; rfl⟩
 intro c0
 try simp only [nb] at c0
 refine Ak (Ar ?_)
 have hne : m ≠ fr 120 av n := fun e => f1 (e ▸ c0)
 refine Dy (E' := [(0, .pointer (some ⟨b, 0, none⟩))]) ⟨rfl, trivial⟩ (ih (m + 1) ⟨by omega, by omega, fun j h1 h2 => ?_⟩ Aa)
 by_cases hj : j = m
 ·subst hj; exact c0
 ·exact hm3 j h1 Aa
theorem Qm {n : Nat} (h : n < 1000) : (nm 120 n).length ≤ Ba := Ex.name_len (L9 (by decide) h)
theorem Ej {P : Program} {f : FuncId} {n : Nat} {I₀ : Heap} {Q : De} {k : List Item} {E : Hy} {I : Heap} {L : Bo} {ops : Array Oper} {S : World → Prop} {fuel : Nat} {listed : Array Bool} {X : Type} (fu : Nat) (ls : Array Bool) (E' : X → Hy) (L' : X → Bo → Bo) (R : X → Prop)
  (hk : ∀ x, R x → Cv P f n I₀ Q ops S fu ls k (E' x ++ E) I (L' x L)) (h : (∀ x, R x → Cv P f n I₀ Q ops S fu ls k (E' x ++ E) I (L' x L)) → Cv P f n I₀ Q ops S fuel listed k E I L) : Cv P f n I₀ Q ops S fuel listed k E I L := h hk
section
variable {I : Heap} {A B C D L : Bo} {w : World}
theorem Mem.seg2 (h : Mem I (A ++ (B ++ L)) w) : Mem I (B ++ (A ++ L)) w := h.perm (List.perm_append_comm_assoc _ _ _)
theorem Mem.seg3 (h : Mem I (A ++ (B ++ (C ++ L))) w) : Mem I (C ++ (A ++ (B ++ L))) w := h.perm ((List.Perm.append_left A (List.perm_append_comm_assoc _ _ _)).trans (List.perm_append_comm_assoc _ _ _))
theorem Mem.ins3 (h : Mem I (A ++ (B ++ (C ++ L))) w) : Mem I (B ++ (C ++ (A ++ L))) w := h.perm ((List.perm_append_comm_assoc _ _ _).trans (List.Perm.append_left B (List.perm_append_comm_assoc _ _ _)))
theorem Mem.ins4 (h : Mem I (A ++ (B ++ (C ++ (D ++ L)))) w) : Mem I (B ++ (C ++ (D ++ (A ++ L)))) w := h.perm (((List.perm_append_comm_assoc _ _ _).trans (List.Perm.append_left B (List.perm_append_comm_assoc _ _ _))).trans (List.Perm.append_left B (List.Perm.append_left C (List.perm_append_comm_assoc _ _ _))))
end
end Go.Proofs.YtmfagaajiakgoaaGreatDoor
