/- Types as they are drawn. No conditions. -/
import Derived.Test.YtmfagaajiakgoaaGreatDoorG10

namespace Go.Proofs.YtmfagaajiakgoaaGreatDoor
set_option maxRecDepth 100000
set_option linter.unusedVariables false
set_option linter.unusedSimpArgs false

def DT (b : Nat) (oa : Option Addr) (l : List UInt8) (c p K B : Nat) (L : Bm) : C2 := fun v I' L' => ∃ s p', v = .string (str s) ∧ List.length s ≤ B ∧ p ≤ p' ∧ p' ≤ p + K ∧ L' = rd b oa l c p' :: L
def kT : Nat → Nat
 | 0 => 0
 | d + 1 => 2 + 2 * kT d
def bT : Nat → Nat
 | 0 => 1
 | d + 1 => 5 + 2 * bT d
theorem Adh : ∀ d, 1 ≤ bT d
 | 0 => Nat.le_refl _
 | d + 1 => by simp only [bT]; omega
theorem Ku : ∀ (d : Nat) {I : Heap} {oa : Option Addr} {l : List UInt8} {c : Nat} (_ : Bytes I oa l c) (_ : l.length ≤ 2000) (b p : Nat) (_ : p + kT d ≤ 1099511627776) (_ : bT d ≤ 1000000) (_ : d ≤ 1000) (L : Bm),
  Fun Tryz.prog 134 [.pointer (some ⟨b, 0, none⟩), .int .i64 (d : Nat)] I (rd b oa l c p :: L) (DT b oa l c p (kT d) (bT d) L) := by
 intro d
 induction d with
 | zero =>
  intro I oa l c h hl b p hp hb hd L; refine Ap Af ?_; refine Se rfl (Oa rfl (Aa (Ah (Se rfl (Om rfl (Oc rfl rfl rfl (Om rfl ?_)))))))
  first | refine Ads rfl rfl Af ?_ | refine Adr rfl rfl Af ?_
  iterate 3 refine Cl rfl rfl rfl ?_
  refine Ot rfl rfl (Aa ?_); refine Bo rfl ?_; refine Se rfl (Oa rfl (Aa (Ak (.tmp rfl .nil) ?_)))
  exact ⟨I, _, .refl _, fun _ h => h, [105], p, rfl, by decide, Nat.le_refl _, by omega, rfl⟩
 | succ d ihd =>
  intro I oa l c h hl b p hp hb hd L
  simp only [kT, bT] at hp hb ⊢
  have hbp := Adh d
  refine Ap Af ?_; refine Se rfl (Oa rfl (Aa (Ah (Se rfl (Om rfl (Oc rfl rfl rfl (Om rfl ?_)))))))
  first | refine Adq rfl rfl Ab ?_ | refine Adp rfl rfl Ab ?_
  refine Ow rfl ?_; refine Cq rfl (.met rfl rfl) rfl (C0 h hl b p 2 Ab Ad L) ?_; rintro _ _ _ _ ⟨r, rfl, rfl, rfl, hr⟩; refine Dq rfl rfl rfl (.met rfl rfl) rfl ?_; refine Of rfl rfl (Aa ?_); refine Si rfl ?_ ?_
  ·intro c0; refine Se rfl (Oa rfl (Aa (Ak (.tmp rfl .nil) ?_)))
   exact ⟨I, _, .refl _, fun _ h => h, [105], p + 1, rfl, by simp; omega, by omega, by omega, rfl⟩
  intro c0; refine Aj (Se rfl (Om rfl ?_)); refine Ol rfl rfl ?_; intro b13; refine Ei [[62], [42]] Ad Ad ?_; intro J e1 k1; refine Ca rfl (Ez (h.mono e1) hl b (p + 1) Ab k1 Af L) ?_; rintro _ _ _ _ ⟨s, rfl, hs, rfl, rfl⟩
  have hsl : s.length = 1 := by revert s; decide
  refine Ok rfl rfl ?_; refine Ok rfl rfl ?_; refine Om rfl (Om rfl ?_); refine Or rfl rfl rfl ?_; refine C9 (t := 19) (v' := .int .i64 (d : Nat)) rfl Eg ?_; refine Ca rfl (ihd (h.mono e1) hl b (p + 1 + 1) Ab Ab Ab L) ?_; rintro _ J2 _ e2 ⟨s1, p1, rfl, hs1, hp1, hp2, rfl⟩; refine Ok rfl rfl ?_; refine Ok rfl rfl ?_; refine Om rfl (Om rfl ?_); refine Or rfl rfl rfl ?_; refine C9 (t := 25) (v' := .int .i64 (d : Nat)) rfl Eg ?_; refine Ca rfl (ihd ((h.mono e1).mono e2) hl b p1 Ab Ab Ab L) ?_; rintro _ J3 _ e3 ⟨s2, p2, rfl, hs2, hp3, hp4, rfl⟩; refine Ok rfl rfl ?_; refine Ok rfl rfl ?_
  refine Oa rfl (Aa (Ak (.tmp rfl .nil) ?_))
  exact ⟨J3, _, (e1.trans e2).trans e3, fun _ h => h, _, p2, rfl, by simp; omega, by omega, by omega, rfl⟩
def Jy (n : Nat) : Au := if n < 10 then [UInt8.ofNat (48 + n)] else Jy (n / 10) ++ [UInt8.ofNat (48 + n % 10)]
theorem Hi {n : Nat} (h : n < 10) : Jy n = [UInt8.ofNat (48 + n)] := by rw [Jy, if_pos h]
theorem Jk {n : Nat} (h : ¬ n < 10) : Jy n = Jy (n / 10) ++ [UInt8.ofNat (48 + n % 10)] := by rw [Jy, if_neg h]
section rules
variable {P : Program} {f : FuncId} {n : Nat} {I₀ : Heap} {Q : C2} {k : List Item} {E : He} {I : Heap} {L : Bm}
variable {ops : Array Oper} {d : Nat} {ty : TypeId} {pos : String} {af : Array Edge} {g : Option (Nat × Bool)} {l : List Oper}
theorem Ac2 {m : Int} (h : 0 ≤ m ∧ m < 256) : IntKind.u8.wrap m = m := by
 simp [IntKind.wrap, IntKind.bits, IntKind.signed]; omega
theorem S3 {S : World → Prop} {src dst sz bb sz2 bb2 : Nat} {z z2 : List Value} [hs : Ax P src (.int .i64) sz bb z] [hd : Ax P dst (.int .u8) sz2 bb2 z2] {x : Operand} {a : Nat} (hx : Ch E x = some (.int .i64 (a : Nat))) (ha : a < 256) :
  Hf P E S ⟨some d, .convert src dst x, ty, pos, af, g⟩ (.int .u8 (a : Nat)) := fun ac w he _ => by
 simp only [execOp, he.eval hx]
 refine Ag (a := .int .u8 (a : Nat)) (w' := w) ?_ |>.trans rfl
 unfold convert
 rw [Ag (A9 hs.und w), Ag (A9 hd.und w)]
 simp only [Conv.intToInt]
 rw [Ac2 (by omega)]
 rfl
theorem Zo {src dst sz bb sz2 bb2 : Nat} {z z2 : List Value} [hs : Ax P src (.int .i64) sz bb z] [hd : Ax P dst (.int .u8) sz2 bb2 z2] {x : Operand} {a : Nat} (hx : Ch E x = some (.int .i64 (a : Nat))) (ha : a < 256) (hg : Wants ops E g) (hdn : Nat.blt d n = true)
  (h : A6 P f n I₀ Q ops l k ((d, .int .u8 (a : Nat)) :: E) I L) : A6 P f n I₀ Q ops (⟨some d, .convert src dst x, ty, pos, af, g⟩ :: l) k E I L := D8 (S3 hx ha) hg hdn h
theorem Mo {src dst e sz bb sz2 bb2 sz3 bb3 : Nat} {z z2 z3 : List Value} [hs : Ax P src (.slice e) sz bb z] [he : Ax P e (.int .u8) sz3 bb3 z3] [hd : Ax P dst .string sz2 bb2 z2] {x : Operand} {ad : Addr} {c a : Nat} (hx : Ch E x = some (.slice (some ad) 1 c)) (hr : Gh I L ad [.int .u8 (a : Nat)]) :
  Hf P E (Mem I L) ⟨some d, .convert src dst x, ty, pos, af, g⟩ (.string (str [UInt8.ofNat a])) := fun ac w he' hm => by
 simp only [execOp, he'.eval hx]
 refine Ag (a := .string (str [UInt8.ofNat a])) (w' := w) ?_ |>.trans rfl
 unfold convert
 rw [Ag (A9 hs.und w), Ag (A9 hd.und w)]
 simp only []
 rw [Ag (A9 he.und w)]
 simp only [Conv.bytesToString]
 have hl : (loadCells ad 1).run P w = .ok [Value.int .u8 (a : Nat)].toArray w := Kn [.int .u8 (a : Nat)] (hr w hm)
 rw [Ag hl]
 rfl
end rules
theorem Th {n : Nat} (h : n ≤ 1000000000) : (Jy n).length ≤ 12 := by
 have key : ∀ (k m : Nat), m < 10 ^ (k + 1) → (Jy m).length ≤ k + 1 := by
  intro k
  induction k with
  | zero => intro m hm; rw [Hi Ab]; simp
  | succ k ih =>
   intro m hm
   by_cases h1 : m < 10
   ·rw [Hi h1]; simp
   ·rw [Jk h1, List.length_append]
    have := ih (m / 10) (by rw [Nat.pow_succ] at hm; omega)
    simp only [List.length_cons, List.length_nil]; omega
 exact Nat.le_trans (key 10 n Ab) Ad
theorem Tv : ∀ (k n : Nat) (_ : n < k) (_ : n ≤ 1000000000) (I : Heap) (L : Bm), Fun Tryz.prog 101 [.int .i64 (n : Nat)] I L (Ef (.string (str (Jy n))) I L) := by
 intro k
 induction k with
 | zero => intro n h; omega
 | succ k ihk =>
  intro n hlt hn I L; refine Ap Af ?_; refine Se rfl (Oa rfl (Aa (Ah (Se rfl (Om rfl (Oc rfl rfl rfl (Aa ?_)))))))
  first | refine Sf rfl Ab ?_ | refine As Ai ?_
  refine Aj (Ah (Se rfl (Om rfl (Oc rfl rfl rfl (Aa ?_)))))
  first | refine Sf rfl Ab ?_ | refine As Ai ?_
  refine Aj (Ah (Se rfl (Om rfl (Oc rfl rfl rfl (Aa ?_))))); refine Ay rfl ?_ ?_
  ·intro c2
   try simp only [nb] at c2
   refine Ah ?_
   have h10 : n < 10 := by omega
   refine Al rfl (Om rfl ?_); refine Or rfl rfl rfl ?_; refine C9 (t := 14) (v' := .int .i64 ((48 + n : Nat))) rfl (by congr 1) ?_; refine Zo rfl Ab .free rfl ?_; refine Ol rfl rfl ?_; intro b16; refine D8 (Mo rfl (Cm Hv Ae)) .free rfl ?_; refine Oa rfl (Aa (Ak (.tmp rfl .nil) ?_)); refine only rfl ?_; rw [Hi h10]; rfl
  intro c2
  try simp only [nb] at c2
  refine Aj (Ah ?_)
  have h10 : ¬ n < 10 := by omega
  obtain ⟨q, hq, hq2⟩ : ∃ q, q = n / 10 ∧ q < n := ⟨_, rfl, by omega⟩; obtain ⟨r, hr, hr2⟩ : ∃ r, r = n % 10 ∧ r < 10 := ⟨_, rfl, Nat.mod_lt _ Ab⟩
  have hdl := Th (n := q) Ab
  refine D6 11 rfl rfl ?_; refine Da 0 rfl (Am rfl) ?_; refine Da 1 rfl (Ab7 (b := 10) rfl rfl Ab Ab) ?_; refine H5 (t := 19) (v' := .int .i64 (q : Nat)) rfl (by rw [hq]) ?_; refine Da 3 rfl (Am rfl) ?_; refine Da 4 rfl (Yg (b := 10) rfl rfl Ab) ?_; refine H5 (t := 22) (v' := .int .i64 (r : Nat)) rfl (by rw [hr]) ?_; refine Da 5 rfl (G5 rfl rfl rfl Ab) ?_; refine H5 (t := 23) (v' := .int .i64 ((48 + r : Nat))) rfl (by congr 1) ?_; refine Da 6 rfl (S3 rfl Ab) ?_; refine Dj 2 7 Ac ?_ ?_
  ·skip
   refine K9 2 rfl rfl rfl .free rfl (ihk q Ab Ab _ _) ?_; rintro _ _ _ _ ⟨rfl, rfl, rfl⟩; refine Hx ?_; refine Fy 7 rfl Ac rfl rfl rfl Ae Ae Ae Ad Ad Ae .free rfl (.inr At) ?_; intro b25; refine Fl 8 rfl Ac rfl (Mo rfl (Cm Hv Ae)) .free rfl (.inr At) ?_; refine Da 9 rfl (Yk rfl rfl) ?_; refine Da 10 rfl (A5 rfl) ?_; refine Aw Ac ?_; refine Ak (.tmp rfl .nil) ?_; refine only rfl ?_; rw [Jk h10, ← hq, ← hr]; rfl
  ·skip
   refine M6 7 rfl rfl rfl rfl Ae Ae Ae Ad Ad Ae .free rfl (.inr At) ?_; intro b25; refine Dj 2 8 Ac ?_ ?_
   ·skip
    refine K9 2 rfl rfl rfl .free rfl (ihk q Ab Ab _ _) ?_; rintro _ _ _ _ ⟨rfl, rfl, rfl⟩; refine Hx ?_; refine Fl 8 rfl Ac rfl (Mo rfl (Cm Hv Ae)) .free rfl (.inr At) ?_; refine Da 9 rfl (Yk rfl rfl) ?_; refine Da 10 rfl (A5 rfl) ?_; refine Aw Ac ?_; refine Ak (.tmp rfl .nil) ?_; refine only rfl ?_; rw [Jk h10, ← hq, ← hr]; rfl
   ·skip
    refine D5 8 rfl rfl (Mo rfl (Cm Hv Ae)) .free rfl (.inr At) ?_; refine Dc 2 rfl rfl (ihk q Ab Ab _ _) ?_; rintro _ _ _ _ ⟨rfl, rfl, rfl⟩; refine Hx ?_; refine Da 9 rfl (Yk rfl rfl) ?_; refine Da 10 rfl (A5 rfl) ?_; refine Aw Ac ?_; refine Ak (.tmp rfl .nil) ?_; refine only rfl ?_; rw [Jk h10, ← hq, ← hr]; rfl
def Ex.value : Ex → Bool
 | .num _ => true
 | .fn _ _ _ _ _ => true
 | .bin .pair a b => a.value && b.value
 | _ => false
def Ex.print : Ex → Tree
 | .bin .pair a b => .node [] [.node Do [], a.print, b.print]
 | .fn _ _ _ _ _ => .node Dz []
 | e => e.tree
theorem Ex.print_len : ∀ e : Ex, e.print.len ≤ e.tree.len
 | .bin .pair a b => by
  have := a.print_len; have := b.print_len
  simp [Ex.print, Ex.tree, Tree.len, F8, B5.txt]; omega
 | .bin .add a b => Nat.le_refl _
 | .bin .sub a b => Nat.le_refl _
 | .bin .mul a b => Nat.le_refl _
 | .bin .call a b => Nat.le_refl _
 | .fn f x s t b => by simp [Ex.print, Ex.tree, Tree.len, F8]; omega
 | .num s => Nat.le_refl _
 | .name s => Nat.le_refl _
 | .ite a b c => Nat.le_refl _
 | .lt x a b => Nat.le_refl _
 | .un o a => Nat.le_refl _
theorem Ex.is_pair {e : Ex} (h : e.tree.is Do 3 = true) : ∃ a b, e = .bin .pair a b := by
 simp only [Tree.is, Bool.and_eq_true, decide_eq_true_eq] at h
 exact Ex.of_bin (o := .pair) h.2
theorem Ex.not_pair {e : Ex} (h : e.tree.is Do 3 = false) : ∀ a b, e ≠ .bin .pair a b := by
 rintro a b rfl; simp [Tree.is, Ex.tree, Tree.parts, Tree.head, Tree.atom, B5.txt] at h
theorem Ex.value_other {e : Ex} (hok : e.ok = true) (h : ∀ a b, e ≠ .bin .pair a b) : e.value = (decide (e.tree.head = Dz) || (e.tree.parts.isEmpty && Cc e.tree.atom)) := by
 cases e with
 | num s => have h1 : Cc s = true := hok; simp [Ex.value, Ex.tree, Tree.parts, Tree.atom, h1]
 | name s =>
  have h1 := Gf (show Cb s = true from hok)
  simp only [Ex.tree, Tree.parts, Tree.atom, h1]; rfl
 | bin o a b => cases o <;> first | exact absurd rfl (h a b) | rfl
 | ite a b c => rfl
 | lt x a b => rfl
 | fn f x s t b => rfl
 | un o a => cases o <;> rfl

theorem Fq : ∀ (n : Nat) {I : Heap} {e : Ex} {cs : List Value} (_ : SizeOf.sizeOf e < n) (_ : Rep I e.tree cs) (_ : e.ok = true) (L : Bm), Fun Tryz.prog 58 [.agg cs.toArray] I L (Ef (.bool e.value) I L) := by
 intro n
 induction n with
 | zero => intro I e cs h; omega
 | succ n ihn =>
  intro I e cs hlt h hok L; obtain ⟨oa, c, oaf, cf, rfl, hf⟩ := h.at'
  have ha := hf.alen
  refine Ap Af ?_; refine Se rfl ?_; refine Cg rfl rfl .free rfl ?_; intro b1; refine Oa rfl (Aa (Ah (Se rfl ?_))); refine A8 rfl .free rfl ?_; refine Ca rfl (Oz hf.rep _ 3 _) ?_; rintro _ _ _ _ ⟨rfl, rfl, rfl⟩; refine Aa ?_; refine Ay rfl ?_ ?_
  ·intro c0
   try simp only [nb] at c0
   obtain ⟨a, b, rfl⟩ := Ex.is_pair c0
   simp only [Ex.ok, Bool.and_eq_true] at hok
   simp only [Ex.bin.sizeOf_spec] at hlt
   have hlen : (Ex.bin .pair a b).tree.parts.length = 3 := rfl
   refine Se rfl (Oh rfl ?_); refine A4 rfl .free rfl ?_
   first | refine Ba rfl rfl 1 rfl .free rfl ?_ | refine Bb rfl rfl 1 rfl .free rfl ?_
   refine E1 rfl .free rfl ?_; refine Ca rfl (ihn Ab (hf.as 1 a.tree Ab rfl) hok.1 _) ?_; rintro _ _ _ _ ⟨rfl, rfl, rfl⟩; refine Om rfl ?_
   apply Cp 10 16 rfl
   ·intro g2_6 hk
    try simp only [nb] at g2_6
    refine A2 rfl (.met rfl rfl) rfl ?_; refine A4 rfl (.met rfl rfl) rfl ?_
    first | refine Ba rfl rfl 2 rfl (.met rfl rfl) rfl ?_ | refine Bb rfl rfl 2 rfl (.met rfl rfl) rfl ?_
    refine E1 rfl (.met rfl rfl) rfl ?_; refine Cq rfl (.met rfl rfl) rfl (ihn Ab (hf.as 2 b.tree Ab rfl) hok.2 _) ?_; rintro _ _ _ _ ⟨rfl, rfl, rfl⟩; refine Ot rfl rfl ?_
    exact Av 5 rfl rfl hk
   ·intro _ hk; refine A0 5 rfl ?_; refine Of rfl rfl ?_
    exact Av 5 rfl rfl hk
   refine Oa rfl (Aa (Ak (.tmp rfl .nil) ?_)); refine only rfl ?_
   rfl
  intro c0
  try simp only [nb] at c0
  refine Aj (Se rfl ?_); refine A8 rfl .free rfl ?_; refine Ca rfl (Bq hf.rep _) ?_; rintro _ _ _ _ ⟨rfl, rfl, rfl⟩; refine Od rfl rfl rfl (Om rfl ?_)
  apply F9 20 28 rfl
  ·intro g3_4 hk
   try simp only [nb] at g3_4
   refine A8 rfl (.met rfl rfl) rfl ?_; refine Cq rfl (.met rfl rfl) rfl (B8 hf.rep _) ?_; rintro _ _ _ _ ⟨rfl, rfl, rfl⟩; refine Ow rfl ?_
   apply Cp 23 27 rfl
   ·intro g3_7 hk
    try simp only [nb] at g3_7
    refine A2 rfl (.met rfl rfl) rfl ?_; refine A4 rfl (.met rfl rfl) rfl ?_; refine Cq rfl (.met rfl rfl) rfl (Pu e.tree.atom ha _ _) ?_; rintro _ _ _ _ ⟨rfl, rfl, rfl⟩; refine Fm rfl rfl (.met rfl rfl) rfl ?_
    exact Av 3 rfl rfl hk
   ·intro _ hk; refine A0 3 rfl ?_; refine Ew rfl rfl (.met rfl rfl) rfl ?_
    exact Av 3 rfl rfl hk
   refine Of rfl rfl ?_
   exact Av 4 rfl rfl hk
  ·intro _ hk; refine A0 7 rfl ?_; refine Ot rfl rfl ?_
   exact Av 7 rfl rfl hk
  refine Oa rfl (Aa (Ak (.tmp rfl .nil) ?_)); refine only rfl ?_; rw [Ex.value_other hok (Ex.not_pair c0)]; rfl
theorem Tq : ∀ (n : Nat) {I : Heap} {e : Ex} {cs : List Value} (_ : SizeOf.sizeOf e < n) (_ : Rep I e.tree cs) (L : Bm), Fun Tryz.prog 59 [.agg cs.toArray] I L (RP e.print L) := by
 intro n
 induction n with
 | zero => intro I e cs h; omega
 | succ n ihn =>
  intro I e cs hlt h L; obtain ⟨oa, c, oaf, cf, rfl, hf⟩ := h.at'; refine Ap Af ?_; refine Se rfl ?_; refine Cg rfl rfl .free rfl ?_; intro b1; refine A3 .free rfl ?_; intro b2; refine Aa (Ah (Se rfl ?_)); refine A8 rfl .free rfl ?_; refine Ca rfl (Bq hf.rep _) ?_; rintro _ _ _ _ ⟨rfl, rfl, rfl⟩; refine Aa (Aq (Se rfl (Od rfl rfl rfl (Oa rfl (Aa ?_))))); refine Ay rfl ?_ ?_
  ·intro c0
   try simp only [nb] at c0
   obtain ⟨a, b, rfl⟩ := Ex.of_bin (o := .pair) c0
   simp only [Ex.bin.sizeOf_spec] at hlt
   have hlen : (Ex.bin .pair a b).tree.parts.length = 3 := rfl
   refine Ah ?_; refine D6 13 rfl rfl ?_; refine Da 0 rfl (Ao rfl) ?_; refine Dt 1 [12] rfl (By rfl) ?_
   first | refine Da 2 rfl (Br rfl rfl 1 rfl) ?_ | refine Da 2 rfl (Bs rfl rfl 1 rfl) ?_
   refine Dt 3 [12] rfl (Bx rfl) ?_; refine Da 5 rfl (Ao rfl) ?_; refine Dt 6 [12] rfl (By rfl) ?_
   first | refine Da 7 rfl (Br rfl rfl 2 rfl) ?_ | refine Da 7 rfl (Bs rfl rfl 2 rfl) ?_
   refine Dt 8 [12] rfl (Bx rfl) ?_; refine Dc 4 rfl rfl (ihn Ab (hf.as 1 a.tree Ab rfl) _) ?_; rintro _ J1 _ e1 ⟨cs1, rfl, h1, rfl⟩; obtain ⟨o1, k1, _, rfl, -⟩ := h1.open
   have hf := hf.mono e1
   refine Hx ?_; refine Dc 9 rfl rfl (ihn Ab (hf.as 2 b.tree Ab rfl) _) ?_; rintro _ J2 _ e2 ⟨cs2, rfl, h2, rfl⟩; obtain ⟨o2, k2, _, rfl, -⟩ := h2.open
   have e3 := e1.trans e2
   refine Hx ?_; refine Fy 10 rfl Ac rfl rfl rfl Ae Ae Ae Ad Ad Ae .free rfl (.inr At) ?_; intro b17; refine Ed ?_; intro hz
   have e4 := e3.trans hz
   have hfs := W4 (c := 2) (b := b17) (RepL.two (h1.mono e2) h2) hz Af Eh
   refine Dc 11 rfl rfl (Aan Do Ad hfs Eh _) ?_; rintro _ J4 _ e5 ⟨cs4, rfl, h4, rfl⟩; obtain ⟨o4, k4, _, rfl, -⟩ := h4.open
   have e6 := e4.trans e5
   refine Hx ?_; refine Dx 12 rfl rfl rfl rfl ?_; refine Aw Ac ?_; refine Ak (.c rfl .nil) ?_
   exact ⟨J4, L, e6, Bt, _, rfl, h4, rfl⟩
  intro c0
  try simp only [nb] at c0
  refine Se rfl (Od rfl rfl rfl (Oa rfl (Aa ?_))); refine Ay rfl ?_ ?_
  ·intro c1
   try simp only [nb] at c1
   obtain ⟨f, x, s, t, b, rfl⟩ := Ex.of_fun c1; refine Se rfl ?_; refine Ca rfl (Qr Dz Ad _ _) ?_; rintro _ _ _ _ ⟨rfl, rfl, rfl⟩; refine Bu rfl rfl rfl rfl .free ?_; refine Aa ?_; refine Ak (.c rfl .nil) ?_
   exact ⟨I, L, .refl _, Bt, _, rfl, .ofAtom Ad, rfl⟩
  intro c1
  try simp only [nb] at c1
  refine Aj (Ar (Se rfl ?_)); refine A8 rfl .free rfl ?_; refine Bu rfl rfl rfl rfl .free ?_; refine Aa ?_; refine Ak (.c rfl .nil) ?_; refine ⟨I, L, .refl _, Bt, _, rfl, ?_, rfl⟩
  have : e.print = e.tree := by
   cases e with
   | bin o a b => cases o <;> first | rfl | exact absurd rfl c0
   | fn f x s t b => exact absurd rfl c1
   | _ => rfl
  rw [this]; exact hf.rep
theorem Zr (a b : Tree) : (Tree.node [] [.node Do [], a, b]).text = [40, 112, 97, 105, 114, 32] ++ a.text ++ [32] ++ b.text ++ [41] := by
 simp [Tree.text, Fx, Do]
def Gq (s : Au) : Option Ex := match Cf s with
 | some e => if e.value = true then some e else none
 | none => none
def Ml (s : Au) : Option Au := (Gq s).map fun e => e.print.text
theorem W3 {I : Heap} {s : Au} {t : Tree} {cs : List Value} {ok : Bool} (h : Rep I t cs) (hpf : match Cf s with | some e => ok = true ∧ t = e.tree | none => ok = false) (hc : ok = true) (L : Bm) :
  Fun Tryz.prog 58 [.agg cs.toArray] I L (Ef (.bool (Gq s).isSome) I L) := by
 cases hcl : Cf s with
 | none => rw [hcl] at hpf; rw [hpf] at hc; cases hc
 | some e =>
  rw [hcl] at hpf; obtain ⟨_, rfl⟩ := hpf; obtain ⟨h2, h3⟩ := G9 hcl
  have h4 := (Jc h2).2.1
  simp only [Ex.fine, Bool.and_eq_true] at h4
  have : (Gq s).isSome = e.value := by unfold Gq; rw [hcl]; cases hv : e.value <;> simp [hv]
  rw [this]; exact Fq _ (Nat.lt_succ_self _) h h4.1.1 L
theorem Uj {s : Au} (h : Cf s = none) : Gq s = none := by unfold Gq; rw [h]
theorem Oi {s : Au} (h : (Gq s).isSome = true) : ∃ e, Gq s = some e ∧ Ff s = some e ∧ Cf s = some e ∧ e.value = true ∧ e.ok = true ∧ e.tree.len ≤ 12000 := by
 cases hv : Gq s with
 | none => rw [hv] at h; cases h
 | some e =>
  unfold Gq at hv
  cases hc : Cf s with
  | none => rw [hc] at hv; cases hv
  | some e' =>
   rw [hc] at hv
   simp only at hv
   split at hv
   ·rename_i hval
    cases hv
    have h1 := (G9 hc).1
    have h2 := (Jc h1).2.1
    simp only [Ex.fine, Bool.and_eq_true, Tree.fits, decide_eq_true_eq] at h2
    exact ⟨e, rfl, h1, rfl, hval, h2.1.1, h2.2.2⟩
   ·cases hv
theorem To (s : Au) (hs : s.length ≤ Be) (I : Heap) (L : Bm) : Fun Tryz.prog 18 [.string (str s)] I L (EL (Ml s) L) := by
 refine Ap Af ?_; refine Se rfl (Oa rfl (Oa rfl (Aa (Se rfl (Om rfl ?_))))); refine Ca rfl (K7 s hs _ _) ?_; rintro _ J _ hleJ ⟨t, cs, ok, rfl, hrep, rfl, hpf⟩; obtain ⟨oa, cc, vs, rfl, -⟩ := hrep.open; refine Om rfl (Oe rfl rfl (Oe rfl rfl ?_)); refine A3 .free rfl ?_; intro b4; refine Bu rfl rfl rfl rfl .free ?_; refine Oa rfl (Aa (Ah (Se rfl (Om rfl ?_)))); refine C6 rfl .free rfl ?_; refine Om rfl ?_
 apply F9 13 17 rfl
 ·intro g2_3 hk
  try simp only [nb] at g2_3
  refine A8 rfl (.met rfl rfl) rfl ?_; refine Cq rfl (.met rfl rfl) rfl (W3 hrep hpf g2_3 _) ?_; rintro _ _ _ _ ⟨rfl, rfl, rfl⟩; refine C6 rfl (.met rfl rfl) rfl ?_; refine Of rfl rfl ?_
  exact Av 3 rfl rfl hk
 ·intro _ hk; refine A0 3 rfl ?_; refine Ot rfl rfl ?_
  exact Av 3 rfl rfl hk
 refine Aa ?_; refine Ay rfl ?_ ?_
 ·intro c0
  try simp only [nb] at c0
  refine Se rfl (Oa rfl (Oa rfl (Aa ?_))); refine Ak (.tmp rfl (.tmp rfl .nil)) ?_; refine ⟨J, L, hleJ, Bt, ?_, rfl⟩
  have : Gq s = none := by
   rcases c0 with h | h
   ·refine Uj ?_
    cases hc : Cf s with
    | none => rfl
    | some e => rw [hc] at hpf; rw [hpf.1] at h; cases h
   ·cases hv : Gq s with
    | none => rfl
    | some e => rw [hv] at h; cases h
  rw [Ml, this]; rfl
 intro c0
 try simp only [nb] at c0
 obtain ⟨e, hv, hx, hc, hval, hok, hlen⟩ := Oi c0.2; rw [hc] at hpf; obtain ⟨_, rfl⟩ := hpf
 have hpl := e.print_len
 have hpt := e.print.text_len
 refine Aj (Se rfl ?_); refine A8 rfl .free rfl ?_; refine Ca rfl (Tq _ (Nat.lt_succ_self _) hrep _) ?_; rintro _ J2 _ e2 ⟨cs2, rfl, h2, rfl⟩; refine Ca rfl (Lr h2 Cu _) ?_; rintro _ _ _ _ ⟨rfl, rfl, rfl⟩; refine Oa rfl (Oa rfl (Aa ?_)); refine Ak (.tmp rfl (.tmp rfl .nil)) ?_
 exact ⟨J2, L, hleJ.trans e2, Bt, by rw [Ml, hv]; rfl, rfl⟩
def Ty.sample : Ty → Ex
 | .i => .num [48]
 | .pr a b => .bin .pair a.sample b.sample
 | .fn a b => .fn [102] [120] a b b.sample
theorem Ty.sample_ok : ∀ {t : Ty}, t.size ≤ 16 → t.sample.ok = true
 | .i, _ => by decide
 | .pr a b, h => by
  simp only [Ty.size] at h
  simp only [Ty.sample, Ex.ok, Bool.and_eq_true]
  exact ⟨Ty.sample_ok (by omega), Ty.sample_ok (by omega)⟩
 | .fn a b, h => by
  simp only [Ty.size] at h
  simp only [Ty.sample, Ex.ok, Bool.and_eq_true, decide_eq_true_eq]
  exact ⟨⟨⟨⟨⟨by decide, by decide⟩, by decide⟩, by omega⟩, by omega⟩, Ty.sample_ok (by omega)⟩
theorem Ty.sample_len : ∀ {t : Ty}, t.size ≤ 16 → t.sample.tree.len ≤ 200 * t.size
 | .i, _ => by decide
 | .pr a b, h => by
  simp only [Ty.size] at h ⊢
  have h1 := Ty.sample_len (t := a) (by omega)
  have h2 := Ty.sample_len (t := b) (by omega)
  simp only [Ty.sample, Ex.tree, Tree.len, F8, List.isEmpty_cons, cond_false, List.isEmpty_nil, cond_true, B5.txt, Do, List.length_cons, List.length_nil]
  omega
 | .fn a b, h => by
  simp only [Ty.size] at h ⊢
  have h2 := Ty.sample_len (t := b) (by omega)
  have h3 := a.tree_small
  have h4 := b.tree_small
  simp only [Ty.sample, Ex.tree, Tree.len, F8, List.isEmpty_cons, cond_false, List.isEmpty_nil, cond_true, Dz, List.length_cons, List.length_nil]
  omega
theorem Ty.sample_chk : ∀ {t : Ty} {l : List Au} {m : List Ty}, t.size ≤ 16 → t.sample.chk l m = .ok t
 | .i, l, m, _ => rfl
 | .pr a b, l, m, h => by
  have h0 := h
  simp only [Ty.size] at h
  simp only [Ty.sample, Ex.chk, Ty.sample_chk (t := a) (l := l) (m := m) (by omega), Ty.sample_chk (t := b) (l := l) (m := m) (by omega), B5.ty, if_pos h0]
 | .fn a b, l, m, h => by
  have h0 := h
  simp only [Ty.size] at h
  simp only [Ty.sample, Ex.chk, if_pos h0, Ty.sample_chk (t := b) (by omega), if_true]
theorem Ty.sample_value : ∀ t : Ty, t.sample.value = true
 | .i => rfl
 | .pr a b => by simp [Ty.sample, Ex.value, a.sample_value, b.sample_value]
 | .fn a b => rfl
def Ex.txt (e : Ex) : Au := e.tree.text
theorem Ty.sample_textlen {t : Ty} (h : t.size ≤ 16) : t.sample.tree.text.length ≤ 3200 := by
 have := Ty.sample_len h; rw [Tree.text_len]; omega
theorem Aar (f x : Au) (s t : Ty) (b : Ex) : (Ex.fn f x s t b).tree.text = [40, 102, 117, 110, 32] ++ f ++ [32] ++ x ++ [32] ++ s.tree.text ++ [32] ++ t.tree.text ++ [32] ++ b.tree.text ++ [41] := by
 simp [Ex.tree, Tree.text, Fx, Dz]
def P6 (s : Au) : Option Au := match Lj s with
 | some t => if t.sample.fine = true then some t.sample.tree.text else none
 | none => none
theorem Pb {s : Au} (h : Lj s = none) : P6 s = none := by unfold P6; rw [h]
theorem Pc {s : Au} {t : Ty} (h : Lj s = some t) : P6 s = if t.sample.fine = true then some t.sample.tree.text else none := by unfold P6; rw [h]
theorem Abs {s o : Au} (h : P6 s = some o) : ∃ t, Lj s = some t ∧ s = t.tree.text ∧ Ff o = some t.sample ∧ Cf o = some t.sample ∧ tyC o = some t ∧ (Gq o).isSome = true ∧ o.length ≤ 3200 := by
 cases ht : Lj s with
 | none => rw [Pb ht] at h; cases h
 | some t =>
  rw [Pc ht] at h; obtain ⟨h1, h2, h3⟩ := S0 ht
  split at h
  ·rename_i hf
   cases h
   have hx := Mc (Ty.sample_ok h2)
   rw [if_pos hf] at hx
   have hty : t.sample.ty [] [] = some t := by unfold Ex.ty; rw [Ty.sample_chk h2]
   have hc : Cf t.sample.tree.text = some t.sample := by
    unfold Cf; rw [hx]; simp [Ex.ty_closed hty]
   refine ⟨t, rfl, h3, hx, hc, ?_, ?_, Ty.sample_textlen h2⟩
   ·unfold tyC; rw [hx]; exact hty
   ·unfold Gq; rw [hc]; simp [t.sample_value]
  ·cases h
theorem Aax : ∀ (n : Nat) {I : Heap} {t : Ty} {cs : List Value} (_ : SizeOf.sizeOf t < n) (_ : Rep I t.tree cs) (_ : t.size ≤ 16) (L : Bm), Fun Tryz.prog 206 [.agg cs.toArray] I L (Ef (.string (str t.sample.tree.text)) I L) := by
 intro n
 induction n with
 | zero => intro I t cs h; omega
 | succ n ihn =>
  intro I t cs hlt h hsz L; obtain ⟨oc, cc, oaf, cf, rfl, hf⟩ := h.at'
  have hg := t.tree_good.1
  have hfn := hf.nil
  refine Ap Af ?_; refine Se rfl ?_; refine Cg rfl rfl .free rfl ?_; intro b1; refine Oa rfl (Aa (Ah (Se rfl (Oh rfl ?_)))); refine A4 rfl .free rfl ?_; refine Od rfl rfl rfl (Aa ?_); refine Ay rfl ?_ ?_
  ·intro c0
   try simp only [nb] at c0
   refine Se rfl (Oa rfl (Aa (Ak (.tmp rfl .nil) ?_))); refine only rfl ?_
   cases t with
   | i => rfl
   | fn a b => exact absurd rfl c0
   | pr a b => exact absurd rfl c0
  intro c0
  try simp only [nb] at c0
  have hpl : t.tree.parts.length = 3 := by
   cases t with
   | i => exact absurd c0 Ad
   | fn a b => rfl
   | pr a b => rfl
  have hhd := Mh (t := t.tree) Ab
  refine Aj (Ah (Se rfl (Oh rfl ?_))); refine A4 rfl .free rfl ?_
  first | refine Ba rfl rfl 0 rfl .free rfl ?_ | refine Bb rfl rfl 0 rfl .free rfl ?_
  refine Bj rfl .free rfl ?_; refine Gj rfl .free rfl ?_; refine Od rfl rfl rfl (Aa ?_); refine Ay rfl ?_ ?_
  ·intro c1
   try simp only [nb] at c1
   obtain ⟨a, b, rfl⟩ : ∃ a b, t = .pr a b := by
    cases t with
    | i => exact absurd c0 Ad
    | pr a b => exact ⟨a, b, rfl⟩
    | fn a b => exact absurd (show ([62] : Au) = [42] from c1) Ad
   simp only [Ty.pr.sizeOf_spec] at hlt
   simp only [Ty.size] at hsz
   have ha16 : a.size ≤ 16 := by omega
   have hb16 : b.size ≤ 16 := by omega
   have hl1 := Ty.sample_textlen ha16
   have hl2 := Ty.sample_textlen hb16
   refine Ah ?_; refine D6 15 rfl rfl ?_; refine Da 0 rfl (Ao rfl) ?_; refine Dt 1 [15] rfl (By rfl) ?_
   first | refine Da 2 rfl (Br rfl rfl 1 rfl) ?_ | refine Da 2 rfl (Bs rfl rfl 1 rfl) ?_
   refine Dt 3 [15] rfl (Bx rfl) ?_; refine Da 7 rfl (Ao rfl) ?_; refine Dt 8 [15] rfl (By rfl) ?_
   first | refine Da 9 rfl (Br rfl rfl 2 rfl) ?_ | refine Da 9 rfl (Bs rfl rfl 2 rfl) ?_
   refine Dt 10 [15] rfl (Bx rfl) ?_; refine Dc 4 rfl rfl (ihn (t := a) Ab (hf.as 1 a.tree Ab rfl) ha16 _) ?_; rintro _ _ _ _ ⟨rfl, rfl, rfl⟩; refine Hx ?_; refine Da 5 rfl (Yk rfl rfl) ?_; refine Da 6 rfl (Yk rfl rfl) ?_; refine Dc 11 rfl rfl (ihn (t := b) Ab (hf.as 2 b.tree Ab rfl) hb16 _) ?_; rintro _ _ _ _ ⟨rfl, rfl, rfl⟩; refine Hx ?_; refine Da 12 rfl (Yk rfl rfl) ?_; refine Da 13 rfl (Yk rfl rfl) ?_; refine Da 14 rfl (A5 rfl) ?_; refine Aw Ac ?_; refine Ak (.tmp rfl .nil) ?_; refine only rfl ?_
   have := Zr a.sample.tree b.sample.tree
   rw [show (Ty.pr a b).sample.tree.text = _ from this]; rfl
  intro c1
  try simp only [nb] at c1
  obtain ⟨a, b, rfl⟩ : ∃ a b, t = .fn a b := by
   cases t with
   | i => exact absurd c0 Ad
   | fn a b => exact ⟨a, b, rfl⟩
   | pr a b => exact absurd rfl c1
  simp only [Ty.fn.sizeOf_spec] at hlt
  simp only [Ty.size] at hsz
  have ha16 : a.size ≤ 16 := by omega
  have hb16 : b.size ≤ 16 := by omega
  have hl1 := Ty.text_len ha16
  have hl2 := Ty.text_len hb16
  have hl3 := Ty.sample_textlen hb16
  have hs1 := a.tree_small
  have hs2 := b.tree_small
  refine Aj (Ah ?_); refine D6 22 rfl rfl ?_; refine Da 0 rfl (Ao rfl) ?_; refine Dt 1 [22] rfl (By rfl) ?_
  first | refine Da 2 rfl (Br rfl rfl 1 rfl) ?_ | refine Da 2 rfl (Bs rfl rfl 1 rfl) ?_
  refine Dt 3 [22] rfl (Bx rfl) ?_; refine Da 7 rfl (Ao rfl) ?_; refine Dt 8 [22] rfl (By rfl) ?_
  first | refine Da 9 rfl (Br rfl rfl 2 rfl) ?_ | refine Da 9 rfl (Bs rfl rfl 2 rfl) ?_
  refine Dt 10 [22] rfl (Bx rfl) ?_; refine Da 14 rfl (Ao rfl) ?_; refine Dt 15 [22] rfl (By rfl) ?_
  first | refine Da 16 rfl (Br rfl rfl 2 rfl) ?_ | refine Da 16 rfl (Bs rfl rfl 2 rfl) ?_
  refine Dt 17 [22] rfl (Bx rfl) ?_; refine Dc 4 rfl rfl (Lw (t := a.tree) _ (Nat.lt_succ_self _) (hf.as 1 a.tree Ab rfl) a.tree_good.1 Ab _) ?_; rintro _ _ _ _ ⟨rfl, rfl, rfl⟩; refine Hx ?_; refine Da 5 rfl (Yk rfl rfl) ?_; refine Da 6 rfl (Yk rfl rfl) ?_; refine Dc 11 rfl rfl (Lw (t := b.tree) _ (Nat.lt_succ_self _) (hf.as 2 b.tree Ab rfl) b.tree_good.1 Ab _) ?_; rintro _ _ _ _ ⟨rfl, rfl, rfl⟩; refine Hx ?_; refine Da 12 rfl (Yk rfl rfl) ?_; refine Da 13 rfl (Yk rfl rfl) ?_; refine Dc 18 rfl rfl (ihn (t := b) Ab (hf.as 2 b.tree Ab rfl) hb16 _) ?_; rintro _ _ _ _ ⟨rfl, rfl, rfl⟩; refine Hx ?_
  refine Da 19 rfl (Yk rfl rfl) ?_; refine Da 20 rfl (Yk rfl rfl) ?_; refine Da 21 rfl (A5 rfl) ?_; refine Aw Ac ?_; refine Ak (.tmp rfl .nil) ?_; refine only rfl ?_
  have := Aar [102] [120] a b b.sample
  rw [show (Ty.fn a b).sample.tree.text = _ from this]; rfl
def smp (t : Tree) : Ex := (t.ty.getD .i).sample
theorem N8 (a : Ty) : smp a.tree = a.sample := by unfold smp; rw [a.tree_ty]; rfl
theorem Ach {I : Heap} {t : Tree} {cs : List Value} (h : Rep I t cs) (ht : ∃ a : Ty, t = a.tree ∧ a.size ≤ 16) (L : Bm) : Fun Tryz.prog 206 [.agg cs.toArray] I L (Ef (.string (str (smp t).tree.text)) I L) := by
 obtain ⟨a, rfl, h1⟩ := ht; rw [N8]
 exact Aax _ (Nat.lt_succ_self _) h h1 L
theorem Ve (s : Au) (hs : s.length ≤ Be) (I : Heap) (L : Bm) : Fun Tryz.prog 195 [.string (str s)] I L (EL (P6 s) L) := by
 refine Ap Af ?_; refine Se rfl (Oa rfl (Oa rfl (Aa (Se rfl (Om rfl ?_))))); refine Ca rfl (Sa s hs _ _) ?_; rintro _ J _ e1 ⟨t, cs, ok, rfl, hrep, rfl, hpf⟩; obtain ⟨o1, k1, _, rfl, -⟩ := hrep.open
 have hty := Sz hpf
 refine Om rfl (Oe rfl rfl (Oe rfl rfl ?_)); refine A3 .free rfl ?_; intro b4; refine Bu rfl rfl rfl rfl .free ?_; refine Oa rfl (Aa (Ah (Se rfl (Om rfl ?_)))); refine C6 rfl .free rfl ?_; refine Om rfl ?_
 apply F9 13 17 rfl
 ·intro g2_3 hk
  try simp only [nb] at g2_3
  have hp := Fr (Hw hpf g2_3)
  refine A8 rfl (.met rfl rfl) rfl ?_; refine Cq rfl (.met rfl rfl) rfl (Md hrep hp.1 (Tree.size_maxN hp.2.1) _) ?_; rintro _ _ _ _ ⟨rfl, rfl, rfl⟩; refine C6 rfl (.met rfl rfl) rfl ?_; refine Of rfl rfl ?_
  exact Av 3 rfl rfl hk
 ·intro _ hk; refine A0 3 rfl ?_; refine Ot rfl rfl ?_
  exact Av 3 rfl rfl hk
 refine Om rfl ?_
 apply F9 18 23 rfl
 ·intro g2_8 hk
  try simp only [nb] at g2_8
  obtain ⟨a, ha, hta, hsz⟩ := hty.1 g2_8.1 g2_8.2
  have hl : (smp t).tree.text.length ≤ 3200 := by rw [hta, N8]; exact Ty.sample_textlen hsz
  refine A8 rfl (.met rfl rfl) rfl ?_; refine Cq rfl (.met rfl rfl) rfl (Ach hrep ⟨a, hta, hsz⟩ _) ?_; rintro _ _ _ _ ⟨rfl, rfl, rfl⟩; refine Cq rfl (.met rfl rfl) rfl (Lu _ Cu _ _) ?_; rintro _ _ _ _ ⟨rfl, rfl, rfl⟩; refine C6 rfl (.met rfl rfl) rfl ?_; refine Of rfl rfl ?_
  exact Av 4 rfl rfl hk
 ·intro _ hk; refine A0 4 rfl ?_; refine Ot rfl rfl ?_
  exact Av 4 rfl rfl hk
 refine Aa ?_; refine Ay rfl ?_ ?_
 ·intro c0
  try simp only [nb] at c0
  refine Se rfl (Oa rfl (Oa rfl (Aa ?_))); refine Ak (.tmp rfl (.tmp rfl .nil)) ?_; refine ⟨J, L, e1, Bt, ?_, rfl⟩
  have hz : P6 s = none := by
   by_cases h1 : ok = true
   ·by_cases h2 : t.typed = true
    ·obtain ⟨a, ha, hta, hsz⟩ := hty.1 h1 h2
     rcases c0 with (h | h) | h
     ·rw [h1] at h; cases h
     ·rw [h2] at h; cases h
     ·rw [hta, N8, Mc (Ty.sample_ok hsz)] at h; rw [Pc ha]
      cases hf : a.sample.fine with
      | true => rw [hf] at h; cases h
      | false => rfl
    ·exact Pb (hty.2 (.inr (by simpa using h2)))
   ·exact Pb (hty.2 (.inl (by simpa using h1)))
  rw [hz]; rfl
 intro c0
 try simp only [nb] at c0
 obtain ⟨⟨h1, h2⟩, h3⟩ := c0; obtain ⟨a, ha, rfl, hsz⟩ := hty.1 h1 h2; refine Aj (Se rfl ?_); refine A8 rfl .free rfl ?_; refine Ca rfl (Aax _ (Nat.lt_succ_self _) hrep hsz _) ?_; rintro _ _ _ _ ⟨rfl, rfl, rfl⟩; refine Oa rfl (Oa rfl (Aa ?_)); refine Ak (.tmp rfl (.tmp rfl .nil)) ?_; refine ⟨J, L, e1, Bt, ?_, rfl⟩; rw [N8, Mc (Ty.sample_ok hsz)] at h3
 cases hf : a.sample.fine with
 | false => rw [hf] at h3; cases h3
 | true => rw [Pc ha, if_pos hf]; rfl
structure ScAt (I : Heap) (ns ts : List Au) (oa : Option Addr) (c : Nat) (ob : Option Addr) (c' : Nat) : Prop where
 names : Strs I oa ns c
 types : Strs I ob ts c'
 len : ns.length = ts.length
 nb : ∀ s ∈ ns, s.length ≤ 4
 tb : ∀ s ∈ ts, s.length ≤ 1000
theorem ScAt.mono {I I' : Heap} (hle : HLe I I') {ns ts : List Au} {oa : Option Addr} {c : Nat} {ob : Option Addr} {c' : Nat} (h : ScAt I ns ts oa c ob c') : ScAt I' ns ts oa c ob c' :=
 ⟨h.names.mono hle, h.types.mono hle, h.len, h.nb, h.tb⟩
def RSc (ns ts : List Au) (L : Bm) : C2 := fun v I' L' => ∃ oa c ob c', v = .agg [.slice oa (List.length ns) c, .slice ob (List.length ts) c'].toArray ∧ ScAt I' ns ts oa c ob c' ∧ L = L'
theorem Kt {I : Heap} {ns ts : List Au} {oa ob : Option Addr} {c c' : Nat} (h : ScAt I ns ts oa c ob c') (x k : Au) (hx : x.length ≤ 4) (hk : k.length ≤ 1000) (hn : ns.length ≤ 200) (L : Bm) :
  Fun Tryz.prog 164 [.agg [.slice oa ns.length c, .slice ob ts.length c'].toArray, .string (str x), .string (str k)] I L (RSc (ns ++ [x]) (ts ++ [k]) L) := by
 have hlen := h.len
 have hlr : HLe I I := .refl _
 have hxm : x.length ≤ Be := by unfold Be; omega
 have hkm : k.length ≤ Be := by unfold Be; omega
 refine Ap Af ?_; refine Se rfl ?_; refine Cg rfl rfl .free rfl ?_; intro b3; refine A3 .free rfl ?_; intro b6; refine Aa (Ah ?_); refine D6 12 rfl rfl ?_; refine Da 0 rfl (Ao rfl) ?_; refine Dt 1 [11] rfl (By rfl) ?_; refine Da 2 rfl (Am rfl) ?_; refine Da 5 rfl (Ao rfl) ?_; refine Dt 6 [11] rfl (By rfl) ?_; refine Da 7 rfl (Am rfl) ?_; refine Dj 3 8 Ac ?_ ?_
 ·skip
  refine M6 3 rfl rfl rfl rfl Ae Ae Ae Ad Ad Ae .free rfl (.inr At) ?_; intro b10; refine Ed ?_; intro hz
  have hlr := hlr.trans hz
  have h := h.mono hz
  have hk1 := Hu hz hxm
  try have hk2 := hk2.mono hz
  refine Dj 4 8 Ac ?_ ?_
  ·skip
   refine K9 4 rfl rfl rfl .free rfl (Io h.names hk1 G0 _) ?_; rintro _ J2 _ e2 ⟨o3, c3', rfl, hn3, rfl⟩
   have hlr := hlr.trans e2
   have h := h.mono e2
   try have hk2 := hk2.mono e2
   refine Hx ?_; refine Fy 8 rfl Ac rfl rfl rfl Ae Ae Ae Ad Ad Ae .free rfl (.inr At) ?_; intro b15; refine Ed ?_; intro hz
   have hlr := hlr.trans hz
   have h := h.mono hz
   have hk2 := Hu hz hkm
   try have hk1 := hk1.mono hz
   try have hn3 := hn3.mono hz
   refine Dc 9 rfl rfl (Io h.types hk2 G0 _) ?_; rintro _ J3 _ e3 ⟨o4, c4', rfl, hn4, rfl⟩
   have hlr := hlr.trans e3
   have hn3 := hn3.mono e3
   refine Hx ?_; refine Da 10 rfl (Iv rfl rfl rfl) ?_; refine Dx 11 rfl rfl rfl rfl ?_; refine Aw Ac ?_; refine Ak (.c rfl .nil) ?_
   exact ⟨J3, L, hlr, Bt, o3, c3', o4, c4', rfl, ⟨hn3, hn4, by simp [hlen], (fun s hs => by rcases List.mem_append.1 hs with hs | hs; exact h.nb s hs; rw [List.mem_singleton.1 hs]; exact hx), (fun s hs => by rcases List.mem_append.1 hs with hs | hs; exact h.tb s hs; rw [List.mem_singleton.1 hs]; exact hk)⟩, rfl⟩
  ·skip
   refine M6 8 rfl rfl rfl rfl Ae Ae Ae Ad Ad Ae .free rfl (.inr At) ?_; intro b15; refine Ed ?_; intro hz
   have hlr := hlr.trans hz
   have h := h.mono hz
   have hk2 := Hu hz hkm
   try have hk1 := hk1.mono hz
   try have hn3 := hn3.mono hz
   refine Dc 4 rfl rfl (Io h.names hk1 G0 _) ?_; rintro _ J2 _ e2 ⟨o3, c3', rfl, hn3, rfl⟩
   have hlr := hlr.trans e2
   have h := h.mono e2
   try have hk2 := hk2.mono e2
   refine Hx ?_; refine Dc 9 rfl rfl (Io h.types hk2 G0 _) ?_; rintro _ J3 _ e3 ⟨o4, c4', rfl, hn4, rfl⟩
   have hlr := hlr.trans e3
   have hn3 := hn3.mono e3
   refine Hx ?_; refine Da 10 rfl (Iv rfl rfl rfl) ?_; refine Dx 11 rfl rfl rfl rfl ?_; refine Aw Ac ?_; refine Ak (.c rfl .nil) ?_
   exact ⟨J3, L, hlr, Bt, o3, c3', o4, c4', rfl, ⟨hn3, hn4, by simp [hlen], (fun s hs => by rcases List.mem_append.1 hs with hs | hs; exact h.nb s hs; rw [List.mem_singleton.1 hs]; exact hx), (fun s hs => by rcases List.mem_append.1 hs with hs | hs; exact h.tb s hs; rw [List.mem_singleton.1 hs]; exact hk)⟩, rfl⟩
 ·skip
  refine M6 8 rfl rfl rfl rfl Ae Ae Ae Ad Ad Ae .free rfl (.inr At) ?_; intro b15; refine Ed ?_; intro hz
  have hlr := hlr.trans hz
  have h := h.mono hz
  have hk2 := Hu hz hkm
  try have hk1 := hk1.mono hz
  try have hn3 := hn3.mono hz
  refine Fy 3 rfl Ac rfl rfl rfl Ae Ae Ae Ad Ad Ae .free rfl (.inr At) ?_; intro b10; refine Ed ?_; intro hz
  have hlr := hlr.trans hz
  have h := h.mono hz
  have hk1 := Hu hz hxm
  try have hk2 := hk2.mono hz
  refine Dc 4 rfl rfl (Io h.names hk1 G0 _) ?_; rintro _ J2 _ e2 ⟨o3, c3', rfl, hn3, rfl⟩
  have hlr := hlr.trans e2
  have h := h.mono e2
  try have hk2 := hk2.mono e2
  refine Hx ?_; refine Dc 9 rfl rfl (Io h.types hk2 G0 _) ?_; rintro _ J3 _ e3 ⟨o4, c4', rfl, hn4, rfl⟩
  have hlr := hlr.trans e3
  have hn3 := hn3.mono e3
  refine Hx ?_; refine Da 10 rfl (Iv rfl rfl rfl) ?_; refine Dx 11 rfl rfl rfl rfl ?_; refine Aw Ac ?_; refine Ak (.c rfl .nil) ?_
  exact ⟨J3, L, hlr, Bt, o3, c3', o4, c4', rfl, ⟨hn3, hn4, by simp [hlen], (fun s hs => by rcases List.mem_append.1 hs with hs | hs; exact h.nb s hs; rw [List.mem_singleton.1 hs]; exact hx), (fun s hs => by rcases List.mem_append.1 hs with hs | hs; exact h.tb s hs; rw [List.mem_singleton.1 hs]; exact hk)⟩, rfl⟩
theorem Ab1 (o : Option (Ty × Ty)) (sg s : Au) (h : o = Gy sg s) : (t1 o).length ≤ 80 ∧ (t2 o).length ≤ 80 := by
 subst h
 cases h : Gy sg s with
 | none => exact ⟨by decide, by decide⟩
 | some p =>
  obtain ⟨a, b⟩ := p
  unfold Gy at h
  cases ht : Lj s with
  | none => rw [ht] at h; cases h
  | some t =>
   rw [ht] at h
   have h1 := (S0 ht).2.1
   cases t with
   | i => cases h
   | fn x y =>
    simp only at h
    split at h
    ·cases h; simp only [Ty.size] at h1
     exact ⟨Ty.text_len (t := a) Ab, Ty.text_len (t := b) Ab⟩
    ·cases h
   | pr x y =>
    simp only at h
    split at h
    ·cases h; simp only [Ty.size] at h1
     exact ⟨Ty.text_len (t := a) Ab, Ty.text_len (t := b) Ab⟩
    ·cases h
theorem Abt {s o : Au} (h : P6 s = some o) : o.length ≤ 3200 := by obtain ⟨_, _, _, _, _, _, _, h⟩ := Abs h; exact h
structure LFs where
 i : Nat
 fs : List Au
 b : Nat
 sp : List Value
 c : Nat
theorem O2 {I : Heap} {oa : Option Addr} {l : List UInt8} {c : Nat} (h : Bytes I oa l c) (hl : l.length ≤ 2000) (b p : Nat) (hp : p + 4 ≤ 1099511627776) {ns ts : List Au} {o1 o2 : Option Addr} {c1 c2 : Nat} (hs : ScAt I ns ts o1 c1 o2 c2) (hn : ns.length ≤ 100) (want : Au) (hw : want.length ≤ 1000) (L : Bm) :
  Fun Tryz.prog 163 [.pointer (some ⟨b, 0, none⟩), .agg [.slice o1 ns.length c1, .slice o2 ts.length c2].toArray, .string (str want)] I (rd b oa l c p :: L) (DT b oa l c p 4 3300 L) := by
 have hlen := hs.len
 have hnl := hs.names
 refine Ap Af ?_; refine Se rfl ?_; refine Cg rfl rfl .free rfl ?_; intro b4; refine Oa rfl (Aa (Se rfl ?_)); refine El .free rfl ?_; intro b11; refine Oa rfl (Aa (Ah (Se rfl (Oa rfl (Aa (Aq ?_))))))
 refine D7 (X := LFs) (fun x => ns.length - x.i) (fun x => [(0, .pointer (some ⟨b, 0, none⟩)), (2, .string (str want)), (4, .pointer (some ⟨b4, 0, none⟩)), (6, .string (str [])), (7, .slice (some ⟨x.b, 0, none⟩) x.fs.length x.c), (8, .int .i64 (x.i : Nat))]) (fun _ => I) (fun x => (x.b, .cells (x.fs.map sv ++ x.sp).toArray 9 (0, 0)) :: (b4, .cells [.slice o1 ns.length c1, .slice o2 ts.length c2].toArray 134 (0, 0)) :: rd b oa l c p :: L) (fun x => x.i ≤ ns.length ∧ x.fs.length ≤ x.i ∧ (∀ s ∈ x.fs, s.length ≤ 4) ∧ E6 1 x.fs.length x.c (x.fs.map sv) (some (x.b, x.sp))) ⟨0, [], b11, [], 0⟩ ⟨Nat.zero_le _, Nat.zero_le _, (fun _ h => by cases h), ⟨rfl, Nat.le_refl _, rfl⟩⟩ ⟨rfl, rfl, rfl, rfl, rfl, rfl, trivial⟩ (by intro _ h; exact h) ?_
 rintro ⟨i, fs, bb, sp, cb⟩ ⟨hi, hfi, hfs, hB⟩ ih
 simp only at hi hfi hfs hB ih ⊢
 refine Ah (Se rfl (Om rfl (Oh rfl ?_))); refine A4 rfl .free rfl ?_; refine On rfl (Oc rfl rfl rfl (Aa ?_)); refine Ay rfl ?_ ?_
 ·intro c0
  try simp only [nb] at c0
  have hi1 : i < ns.length := by omega
  have hel : (ns.getD i []).length ≤ 4 := hs.nb _ (by rw [show ns.getD i [] = ns[i] by simp [hi1]]; exact List.getElem_mem _)
  have hle0 : HLe I I := .refl _
  refine Aj (Ah (Aq (Ah ?_))); refine D6 12 rfl rfl ?_; refine Da 0 rfl (Ao rfl) ?_; refine Dt 1 [12] rfl (By rfl) ?_; refine Da 2 rfl (Ao rfl) ?_; refine Dt 3 [12] rfl (By rfl) ?_; refine Da 4 rfl (Ao rfl) ?_; refine Dt 5 [12] rfl (By rfl) ?_; refine Da 6 rfl (Am rfl) ?_
  first | refine Da 7 rfl (Br rfl rfl _ rfl) ?_ | refine Da 7 rfl (Bs rfl rfl _ rfl) ?_
  refine Dt 8 [12] rfl (P5 rfl) ?_; refine Da 10 rfl (Am rfl) ?_; refine Dc 9 rfl rfl (Aaw hs.names hs.types hlen _ _) ?_; rintro _ _ _ _ ⟨rfl, rfl, rfl⟩; refine Hx ?_; refine Da 11 rfl (Uo rfl rfl rfl) ?_; refine Aw Ac ?_; refine Ay rfl ?_ ?_
  ·intro c1
   try simp only [nb] at c1
   refine Al rfl (Om rfl (Oh rfl ?_)); refine A4 rfl .free rfl ?_; refine Om rfl ?_
   first | refine Ba rfl rfl _ rfl .free rfl ?_ | refine Bb rfl rfl _ rfl .free rfl ?_
   refine Ev rfl .free rfl ?_; refine Ol rfl rfl ?_; intro b37; refine Ea (B := some (bb, sp)) (xs := fs.map sv) (ys := [sv (ns.getD i [])]) (m := fs.length) (c := cb) Bl Ae rfl rfl hB (fun _ h => h.f1) Ae (fun a ha => by cases ha; exact Cm Hv Ae) Af Ae Ad Ad Ab Ad .free rfl ?_; intro bq sp2 c2q hB2; rw [show fs.map sv ++ [sv (ns.getD i [])] = (fs ++ [ns.getD i []]).map sv by simp] at hB2 ⊢; refine Oa rfl (Aa (Ar (Al rfl (Om rfl ?_)))); refine Or rfl rfl rfl ?_; refine Oa rfl (Aa ?_)
   first
    | exact Bw (E' := [(0, .pointer (some ⟨b, 0, none⟩)), (2, .string (str want)), (4, .pointer (some ⟨b4, 0, none⟩)), (6, .string (str [])), (7, .slice (some ⟨bq, 0, none⟩) (fs ++ [ns.getD i []]).length c2q), (8, .int .i64 ((i + 1 : Nat)))]) ⟨rfl, rfl, rfl, rfl, by simp; rfl, rfl, trivial⟩ (Bk (fun w h => Mem.sub (L' := (bq, _) :: (b4, _) :: rd b oa l c p :: L) Bz h) (ih ⟨i + 1, fs ++ [ns.getD i []], bq, sp2, c2q⟩ ⟨by simp only; omega, by simp; omega, (fun s hs => by rcases List.mem_append.1 hs with hs | hs; exact hfs s hs; rw [List.mem_singleton.1 hs]; exact hel), by simpa using hB2⟩ D1))
    | exact Bw (E' := [(0, .pointer (some ⟨b, 0, none⟩)), (2, .string (str want)), (4, .pointer (some ⟨b4, 0, none⟩)), (6, .string (str [])), (7, .slice (some ⟨bb, 0, none⟩) fs.length cb), (8, .int .i64 ((i + 1 : Nat)))]) ⟨rfl, rfl, rfl, rfl, rfl, rfl, trivial⟩ (ih ⟨i + 1, fs, bb, sp, cb⟩ ⟨by simp only; omega, by simp only; omega, hfs, hB⟩ D1)
  intro c1
  try simp only [nb] at c1
  refine Aj (Ar (Al rfl (Om rfl ?_))); refine Or rfl rfl rfl ?_; refine Oa rfl (Aa ?_)
  first
   | exact Bw (E' := [(0, .pointer (some ⟨b, 0, none⟩)), (2, .string (str want)), (4, .pointer (some ⟨b4, 0, none⟩)), (6, .string (str [])), (7, .slice (some ⟨bq, 0, none⟩) (fs ++ [ns.getD i []]).length c2q), (8, .int .i64 ((i + 1 : Nat)))]) ⟨rfl, rfl, rfl, rfl, by simp; rfl, rfl, trivial⟩ (Bk (fun w h => Mem.sub (L' := (bq, _) :: (b4, _) :: rd b oa l c p :: L) Bz h) (ih ⟨i + 1, fs ++ [ns.getD i []], bq, sp2, c2q⟩ ⟨by simp only; omega, by simp; omega, (fun s hs => by rcases List.mem_append.1 hs with hs | hs; exact hfs s hs; rw [List.mem_singleton.1 hs]; exact hel), by simpa using hB2⟩ D1))
   | exact Bw (E' := [(0, .pointer (some ⟨b, 0, none⟩)), (2, .string (str want)), (4, .pointer (some ⟨b4, 0, none⟩)), (6, .string (str [])), (7, .slice (some ⟨bb, 0, none⟩) fs.length cb), (8, .int .i64 ((i + 1 : Nat)))]) ⟨rfl, rfl, rfl, rfl, rfl, rfl, trivial⟩ (ih ⟨i + 1, fs, bb, sp, cb⟩ ⟨by simp only; omega, by simp only; omega, hfs, hB⟩ D1)
 intro c0
 try simp only [nb] at c0
 refine Cd rfl ?_; refine Ah (Ah ?_); refine G4 (B := some (bb, sp)) hB rfl Cu (fun s hs => by have := hfs s hs; unfold Be; omega) ?_; intro J oz cz ez hbv hst
 simp only [Ci, Value.slice.injEq] at hbv
 obtain ⟨rfl, -, rfl⟩ := hbv; refine Bk (fun w h => h.f1) ?_
 have h := h.mono ez
 have hz0 := hst.nil'
 have hzl := hst.len
 refine Al rfl (Om rfl (On rfl (Oc rfl rfl rfl (Om rfl ?_))))
 first | refine Gu rfl rfl ?_ ?_ | refine E8 rfl rfl ?_ ?_ | refine Lv rfl rfl ?_ ?_
 ·intro g7_4; refine Ow rfl ?_; refine Cq rfl (.met rfl rfl) rfl (C0 h hl b p 4 Ab Ad _) ?_; rintro _ _ _ _ ⟨r, rfl, rfl, rfl, hr⟩; refine Dq rfl rfl rfl (.met rfl rfl) rfl ?_; refine Ot rfl rfl (Aa ?_); refine Ay rfl ?_ ?_
  ·intro c2
   try simp only [nb] at c2
   have hpos : 0 < fs.length := by omega
   refine Se rfl ?_
   iterate 3 refine Om rfl ?_
   refine On rfl ?_; refine Ca rfl (C0 h hl b _ fs.length Ab Ab _) ?_; rintro _ _ _ _ ⟨r2, rfl, rfl, rfl, hr2⟩
   have hr3 : r2 < fs.length := by omega
   have hfl : (fs.getD r2 []).length ≤ 4 := hfs _ (by rw [show fs.getD r2 [] = fs[r2] by simp [hr3]]; exact List.getElem_mem _)
   first | refine Ba rfl rfl _ rfl .free rfl ?_ | refine Bb rfl rfl _ rfl .free rfl ?_
   refine Ev rfl .free rfl ?_; refine Oa rfl (Aa (Ak (.tmp rfl .nil) ?_))
   exact ⟨J, _, ez, fun w h => Mem.sub (L' := rd b oa l c _ :: L) Bz h, fs.getD r2 [], _, rfl, by omega, by omega, by omega, rfl⟩
  intro c2
  try simp only [nb] at c2
  refine Aj (Ah (Se rfl (Om rfl (Od rfl rfl rfl (Aa ?_))))); refine Ay rfl ?_ ?_
  ·intro c3
   try simp only [nb] at c3
   refine Se rfl (Om rfl ?_); refine Ol rfl rfl ?_; intro b57; refine Ei [[48], [49], [50], [51], [55], [45, 49], [52, 48, 48], [45, 57, 57, 57]] Ad Ad ?_; intro J2 e2 k2; refine Ca rfl (Ez (h.mono e2) hl b _ Ab k2 Af _) ?_; rintro _ _ _ _ ⟨s, rfl, hs9, rfl, rfl⟩
   have hs4 : s.length ≤ 4 := by revert s; decide
   refine Oa rfl (Aa (Ak (.tmp rfl .nil) ?_))
   exact ⟨J2, _, ez.trans e2, fun w h => Mem.sub (L' := rd b oa l c _ :: L) Bz h, s, _, rfl, by omega, by omega, by omega, rfl⟩
  intro c3
  try simp only [nb] at c3
  refine Aj (Se rfl (Om rfl ?_)); refine Ca rfl (Ve want Cu _ _) ?_; rintro _ J3 _ e3 ⟨rfl, rfl⟩; refine Om rfl (Oe rfl rfl (Oe rfl rfl (Oa rfl (Oa rfl (Aa (Ah (Se rfl (Om rfl ?_)))))))); refine C6 rfl .free rfl ?_; refine Aa ?_; refine Ay rfl ?_ ?_
  ·intro c4
   try simp only [nb] at c4
   refine Se rfl (Oa rfl (Aa (Ak (.tmp rfl .nil) ?_)))
   exact ⟨J3, _, ez.trans e3, fun w h => Mem.sub (L' := rd b oa l c _ :: L) Bz h, [48], _, rfl, by decide, by omega, by omega, rfl⟩
  intro c4
  try simp only [nb] at c4
  refine Aj (Se rfl (Om rfl (Oa rfl (Aa (Ak (.tmp rfl .nil) ?_))))); refine ⟨J3, _, ez.trans e3, fun w h => Mem.sub (L' := rd b oa l c _ :: L) Bz h, (P6 want).getD [], _, rfl, ?_, by omega, by omega, rfl⟩
  cases ho : P6 want with
  | none => decide
  | some o => have := Abt ho; simp only [Option.getD_some]; omega
 intro g7_4
 iterate 3 refine Cl rfl rfl rfl ?_
 refine Of rfl rfl (Aa ?_); refine As rfl ?_; refine Aj (Ah (Se rfl (Om rfl (Od rfl rfl rfl (Aa ?_))))); refine Ay rfl ?_ ?_
 ·intro c3
  try simp only [nb] at c3
  refine Se rfl (Om rfl ?_); refine Ol rfl rfl ?_; intro b57; refine Ei [[48], [49], [50], [51], [55], [45, 49], [52, 48, 48], [45, 57, 57, 57]] Ad Ad ?_; intro J2 e2 k2; refine Ca rfl (Ez (h.mono e2) hl b _ Ab k2 Af _) ?_; rintro _ _ _ _ ⟨s, rfl, hs9, rfl, rfl⟩
  have hs4 : s.length ≤ 4 := by revert s; decide
  refine Oa rfl (Aa (Ak (.tmp rfl .nil) ?_))
  exact ⟨J2, _, ez.trans e2, fun w h => Mem.sub (L' := rd b oa l c _ :: L) Bz h, s, _, rfl, by omega, by omega, by omega, rfl⟩
 intro c3
 try simp only [nb] at c3
 refine Aj (Se rfl (Om rfl ?_)); refine Ca rfl (Ve want Cu _ _) ?_; rintro _ J3 _ e3 ⟨rfl, rfl⟩; refine Om rfl (Oe rfl rfl (Oe rfl rfl (Oa rfl (Oa rfl (Aa (Ah (Se rfl (Om rfl ?_)))))))); refine C6 rfl .free rfl ?_; refine Aa ?_; refine Ay rfl ?_ ?_
 ·intro c4
  try simp only [nb] at c4
  refine Se rfl (Oa rfl (Aa (Ak (.tmp rfl .nil) ?_)))
  exact ⟨J3, _, ez.trans e3, fun w h => Mem.sub (L' := rd b oa l c _ :: L) Bz h, [48], _, rfl, by decide, by omega, by omega, rfl⟩
 intro c4
 try simp only [nb] at c4
 refine Aj (Se rfl (Om rfl (Oa rfl (Aa (Ak (.tmp rfl .nil) ?_))))); refine ⟨J3, _, ez.trans e3, fun w h => Mem.sub (L' := rd b oa l c _ :: L) Bz h, (P6 want).getD [], _, rfl, ?_, by omega, by omega, rfl⟩
 cases ho : P6 want with
 | none => decide
 | some o => have := Abt ho; simp only [Option.getD_some]; omega
theorem Zb {I : Heap} {oa : Option Addr} {l : List UInt8} {c : Nat} (h : Bytes I oa l c) (hl : l.length ≤ 2000) (b p : Nat) (hp : p + 4 ≤ 1099511627776) (L : Bm) :
  Fun Tryz.prog 165 [.pointer (some ⟨b, 0, none⟩)] I (rd b oa l c p :: L) (DT b oa l c p 4 200 L) := by
 refine Ap Af ?_; refine Se rfl (Oa rfl (Aa (Se rfl (Om rfl ?_)))); refine Ol rfl rfl ?_; intro b5; refine Ei [[40, 43, 32, 120, 56, 32, 40, 99, 97, 108, 108, 32, 102, 56, 32, 40, 45, 32, 120, 56, 32, 49, 41, 41, 41], [40, 99, 97, 108, 108, 32, 102, 56, 32, 40, 45, 32, 120, 56, 32, 49, 41, 41], [40, 42, 32, 120, 56, 32, 40, 99, 97, 108, 108, 32, 102, 56, 32, 40, 45, 32, 120, 56, 32, 49, 41, 41, 41], [40, 45, 32, 48, 32, 40, 99, 97, 108, 108, 32, 102, 56, 32, 40, 45, 32, 120, 56, 32, 49, 41, 41, 41]] Ad Ad ?_; intro J1 e1 k1; refine Ca rfl (Ez (h.mono e1) hl b _ Ab k1 Af L) ?_
 rintro _ _ _ _ ⟨s, rfl, hs, rfl, rfl⟩
 have hsl : s.length ≤ 30 := by revert s; decide
 refine Oa rfl (Aa (Se rfl (Om rfl ?_))); refine Ol rfl rfl ?_; intro b8; refine Ei [[48], [49], [53]] Ad Ad ?_; intro J2 e2 k2; refine Ca rfl (Ez ((h.mono e1).mono e2) hl b _ Ab k2 Af L) ?_; rintro _ _ _ _ ⟨s2, rfl, hs2, rfl, rfl⟩
 have hsl2 : s2.length ≤ 1 := by revert s2; decide
 refine Ok rfl rfl ?_; refine Ok rfl rfl ?_; refine Om rfl ?_; refine Ok rfl rfl ?_; refine Ok rfl rfl ?_; refine Om rfl ?_; refine Ca rfl (C0 ((h.mono e1).mono e2) hl b _ 7 Ab Ad L) ?_; rintro _ _ _ _ ⟨r, rfl, rfl, rfl, hr⟩
 have hdl := Th (n := r) Ab
 refine Ca rfl (Tv _ r (Nat.lt_succ_self _) Ab _ _) ?_; rintro _ _ _ _ ⟨rfl, rfl, rfl⟩; refine Ok rfl rfl ?_; refine Ok rfl rfl ?_; refine Oa rfl (Aa (Ak (.tmp rfl .nil) ?_))
 exact ⟨J2, _, e1.trans e2, fun _ h => h, _, _, rfl, Ep, by omega, by omega, rfl⟩
def kE : Nat → Nat
 | 0 => 4
 | d + 1 => 3 * kE d + 60
def eT : Nat → Nat
 | 0 => 3300
 | d + 1 => 3 * eT d + 3000
theorem Aak : ∀ d, 3300 ≤ eT d
 | 0 => Nat.le_refl _
 | d + 1 => by have := Aak d; simp only [eT]; omega
def Us (d : Nat) : Prop := ∀ {I : Heap} {oa : Option Addr} {l : List UInt8} {c : Nat} (_ : Bytes I oa l c) (_ : l.length ≤ 2000) (b p : Nat) (_ : p + kE d ≤ 1099511627776) {ns ts : List Au} {o1 o2 : Option Addr} {c1 c2 : Nat} (_ : ScAt I ns ts o1 c1 o2 c2) (_ : ns.length + 4 * d ≤ 100) (want : Au) (_ : want.length + 20 * d ≤ 1000) (L : Bm),
  Fun Tryz.prog 119 [.pointer (some ⟨b, 0, none⟩), .agg [.slice o1 ns.length c1, .slice o2 ts.length c2].toArray, .string (str want), .int .i64 (d : Nat)] I (rd b oa l c p :: L) (DT b oa l c p (kE d) (eT d) L)
theorem Qi {d : Nat} (ih : Us d) (hd : d ≤ 20) (ht : eT (d + 1) ≤ 1000000000) {I : Heap} {oa : Option Addr} {l : List UInt8} {c : Nat} (h : Bytes I oa l c) (hl : l.length ≤ 2000) (b p : Nat) (hp : p + (3 * kE d + 40) ≤ 1099511627776) {ns ts : List Au} {o1 o2 : Option Addr} {c1 c2 : Nat} (hs : ScAt I ns ts o1 c1 o2 c2) (hn : ns.length + 4 * (d + 1) ≤ 100) (want : Au) (hw : want.length + 20 * (d + 1) ≤ 1000) (L : Bm) :
  Fun Tryz.prog 166 [.pointer (some ⟨b, 0, none⟩), .agg [.slice o1 ns.length c1, .slice o2 ts.length c2].toArray, .string (str want), .int .i64 ((d + 1 : Nat))] I (rd b oa l c p :: L) (DT b oa l c p (3 * kE d + 40) (3 * eT d + 3000) L) := by
 simp only [eT] at ht
 have hge := Aak d
 obtain ⟨q1, q2⟩ := Ab1 (Gy [42] want) [42] want rfl; obtain ⟨q3, q4⟩ := Ab1 (Gy [62] want) [62] want rfl
 have hle : HLe I I := .refl _
 have hlr : HLe I I := .refl _
 refine Ap Af ?_; refine Se rfl ?_; refine Cg rfl rfl .free rfl ?_; intro b5; refine Oa rfl (Aa (Ah ?_)); refine Bk (fun w h => h.f1) ?_; refine Al rfl (Om rfl ?_); refine Ca rfl (W8 want Cu _ _) ?_; rintro _ J _ e ⟨rfl, rfl⟩
 have h := h.mono e
 have hs := hs.mono e
 have hle := hle.trans e
 have hlr := hlr.trans e
 refine Om rfl ?_
 iterate 3 refine Oe rfl rfl ?_
 iterate 3 refine Oa rfl ?_
 refine Aa (Se rfl (Om rfl ?_)); refine Ca rfl (Y6 want Cu _ _) ?_; rintro _ J _ e ⟨rfl, rfl⟩
 have h := h.mono e
 have hs := hs.mono e
 have hle := hle.trans e
 have hlr := hlr.trans e
 refine Om rfl ?_
 iterate 3 refine Oe rfl rfl ?_
 iterate 3 refine Oa rfl ?_
 refine Aa (Se rfl (Om rfl ?_)); refine Or rfl rfl rfl ?_; refine Oa rfl (Aa (Ah (Aq (Ah ?_)))); refine Lk (t := 15) (v' := .int .i64 (d : Nat)) rfl Eg ?_; refine Al rfl (Om rfl (Oa rfl (Aa ?_))); refine Ay rfl ?_ ?_
 ·intro c0
  try simp only [nb] at c0
  refine Ah ?_; refine L3 fun hlr => ?_
  refine Mp 15 rfl rfl ?_; refine Da 0 rfl (Am rfl) ?_; refine Dt 1 [15] rfl (C7 rfl) ?_; refine Da 2 rfl (Am rfl) ?_; refine Da 3 rfl (Am rfl) ?_; refine Da 7 rfl (Am rfl) ?_; refine Dt 8 [15] rfl (C7 rfl) ?_; refine Da 9 rfl (Am rfl) ?_; refine Da 10 rfl (Am rfl) ?_; refine Dc 4 rfl rfl (ih h hl b _ Ab hs Ab _ Fo _) ?_; rintro _ J _ e ⟨s1, p1, rfl, hs1, hp1, hp2, rfl⟩
  have h := h.mono e
  have hs := hs.mono e
  have hle := hle.trans e
  have hlr := hlr.trans e
  refine Hx ?_; refine Da 5 rfl (Yk rfl rfl) ?_; refine Da 6 rfl (Yk rfl rfl) ?_; refine Dc 11 rfl rfl (ih h hl b _ Ab hs Ab _ Fo _) ?_; rintro _ J _ e ⟨s1, p1, rfl, hs1, hp1, hp2, rfl⟩
  have h := h.mono e
  have hs := hs.mono e
  have hle := hle.trans e
  have hlr := hlr.trans e
  refine Hx ?_; refine Da 12 rfl (Yk rfl rfl) ?_; refine Da 13 rfl (Yk rfl rfl) ?_; refine Da 14 rfl (A5 rfl) ?_; refine Aw Ac ?_; refine Ak (.tmp rfl .nil) ?_
  exact ⟨_, _, hle, fun w h => Mem.sub (L' := rd b oa l c _ :: L) Bz h, _, _, rfl, Ep, by omega, by omega, rfl⟩
 intro c0
 try simp only [nb] at c0
 refine Se rfl (Om rfl (Oa rfl (Aa ?_))); refine Ay rfl ?_ ?_
 ·intro c1
  try simp only [nb] at c1
  refine Se rfl (Om rfl ?_); refine Ol rfl rfl ?_; intro b52; refine Ei [[102], [103], [102, 49]] Ad Ad ?_; intro J1 e1 k1
  have h := h.mono e1
  have hs := hs.mono e1
  have hle := hle.trans e1
  refine Ca rfl (Ez h hl b _ Ab k1 Af _) ?_; rintro _ _ _ _ ⟨nf, rfl, hnf, rfl, rfl⟩
  have hnfl : nf.length ≤ 2 := by revert nf; decide
  refine Oa rfl (Aa (Se rfl (Om rfl ?_))); refine Ol rfl rfl ?_; intro b55; refine Ei [[120], [122], [120, 50]] Ad Ad ?_; intro J1 e1 k1
  have h := h.mono e1
  have hs := hs.mono e1
  have hle := hle.trans e1
  refine Ca rfl (Ez h hl b _ Ab k1 Af _) ?_; rintro _ _ _ _ ⟨nx, rfl, hnx, rfl, rfl⟩
  have hnxl : nx.length ≤ 2 := by revert nx; decide
  refine Oa rfl (Aa (Se rfl ?_)); refine A8 rfl .free rfl ?_; refine Om rfl (Om rfl ?_); refine Ca rfl (Kt hs nx (t1 (Gy [62] want)) Ab Ab Ab _) ?_; rintro _ J2 _ e2 ⟨o3, c3, o4, c4, rfl, hs2, rfl⟩
  have h := h.mono e2
  have hs := hs.mono e2
  have hle := hle.trans e2
  refine A3 .free rfl ?_; intro b18; refine Bu rfl rfl rfl rfl .free ?_; refine En (fun w h => h.f1) ?_; refine Aa (Ah (Se rfl (Om rfl ?_))); refine Ca rfl (C0 h hl b _ 6 Ab Ad _) ?_; rintro _ _ _ _ ⟨r, rfl, rfl, rfl, hr⟩; refine Oc rfl rfl rfl (Aa ?_); refine Ay rfl ?_ ?_
  ·intro c2
   try simp only [nb] at c2
   refine Al rfl ?_; refine A8 rfl .free rfl ?_; refine Om rfl (Om rfl ?_); refine Ca rfl (Kt hs nf want Ab Ab Ab _) ?_; rintro _ J3 _ e3 ⟨o5, c5, o6, c6, rfl, hs3, rfl⟩
   have h := h.mono e3
   have hle := hle.trans e3
   refine Om rfl (Om rfl ?_); refine Ca rfl (Kt hs3 nx (t1 (Gy [62] want)) Ab Ab D2 _) ?_; rintro _ J4 _ e4 ⟨o7, c7, o8, c8, rfl, hs4, rfl⟩
   have h := h.mono e4
   have hle := hle.trans e4
   refine Bu rfl rfl rfl rfl .free ?_; refine Aa (Se rfl (Om rfl ?_)); refine Ok rfl rfl ?_; refine Ok rfl rfl ?_; refine Om rfl ?_; refine Ok rfl rfl ?_; refine Ok rfl rfl ?_; refine Om rfl ?_; refine Ok rfl rfl ?_; refine Ok rfl rfl ?_; refine Om rfl ?_; refine Ok rfl rfl ?_; refine Ok rfl rfl ?_; refine Om rfl ?_; refine A8 rfl .free rfl ?_; refine Om rfl (Om rfl ?_); refine Ca rfl (by first | exact ih h hl b _ Ab hs4 D2 _ Ab _ | exact ih h hl b _ Ab hs2 D2 _ Ab _) ?_; rintro _ J _ e ⟨s1, p1, rfl, hs1, hp1, hp2, rfl⟩
   have h := h.mono e
   have hle := hle.trans e
   refine Ok rfl rfl ?_; refine Ok rfl rfl ?_; refine Oa rfl (Aa (Ak (.tmp rfl .nil) ?_))
   exact ⟨_, _, hle, fun w h => Mem.sub (L' := rd b oa l c _ :: L) Bz h, _, _, rfl, Ep, by omega, by omega, rfl⟩
  intro c2
  try simp only [nb] at c2
  refine Aj (Se rfl (Om rfl ?_)); refine Ok rfl rfl ?_; refine Ok rfl rfl ?_; refine Om rfl ?_; refine Ok rfl rfl ?_; refine Ok rfl rfl ?_; refine Om rfl ?_; refine Ok rfl rfl ?_; refine Ok rfl rfl ?_; refine Om rfl ?_; refine Ok rfl rfl ?_; refine Ok rfl rfl ?_; refine Om rfl ?_; refine A8 rfl .free rfl ?_; refine Om rfl (Om rfl ?_); refine Ca rfl (by first | exact ih h hl b _ Ab hs4 D2 _ Ab _ | exact ih h hl b _ Ab hs2 D2 _ Ab _) ?_; rintro _ J _ e ⟨s1, p1, rfl, hs1, hp1, hp2, rfl⟩
  have h := h.mono e
  have hle := hle.trans e
  refine Ok rfl rfl ?_; refine Ok rfl rfl ?_; refine Oa rfl (Aa (Ak (.tmp rfl .nil) ?_))
  exact ⟨_, _, hle, fun w h => Mem.sub (L' := rd b oa l c _ :: L) Bz h, _, _, rfl, Ep, by omega, by omega, rfl⟩
 intro c1
 try simp only [nb] at c1
 refine Se rfl (Om rfl (Od rfl rfl rfl (Om rfl ?_)))
 first | refine Gu rfl rfl ?_ ?_ | refine E8 rfl rfl ?_ ?_ | refine Lv rfl rfl ?_ ?_
 ·intro g13_3; refine Ow rfl ?_; refine Cq rfl (.met rfl rfl) rfl (C0 h hl b _ 3 Ab Ad _) ?_; rintro _ _ _ _ ⟨r, rfl, rfl, rfl, hr⟩; refine Dq rfl rfl rfl (.met rfl rfl) rfl ?_; refine Ot rfl rfl (Oa rfl (Aa ?_)); refine Ay rfl ?_ ?_
  ·intro c3
   try simp only [nb] at c3
   refine Ah ?_; refine L3 fun hlr => ?_
   refine Mp 18 rfl rfl ?_; refine Da 0 rfl (Am rfl) ?_; refine Da 5 rfl (Am rfl) ?_; refine Dt 6 [18] rfl (C7 rfl) ?_; refine Da 7 rfl (Am rfl) ?_; refine Da 11 rfl (Am rfl) ?_; refine Dt 12 [18] rfl (C7 rfl) ?_; refine Da 13 rfl (Am rfl) ?_; refine Fy 1 rfl Ac rfl rfl rfl Ae Ae Ae Ad Ad Ae .free rfl (.inr At) ?_; intro b99; refine Ed ?_; intro hz
   have hk := N9 (l := [[43], [45], [42]]) (b := b99) (I := J) (e := 9) Ad Ad
   have h := h.mono hz
   have hs := hs.mono hz
   have hle := hle.trans hz
   have hlr := hlr.trans hz
   refine Dc 2 rfl rfl (Ez h hl b _ Ab hk Af _) ?_; rintro _ _ _ _ ⟨op, rfl, hop, rfl, rfl⟩
   have hopl : op.length ≤ 1 := by revert op; decide
   refine Hx ?_; refine Da 3 rfl (Yk rfl rfl) ?_; refine Da 4 rfl (Yk rfl rfl) ?_; refine Dc 8 rfl rfl (ih h hl b _ Ab hs Ab _ Fo _) ?_; rintro _ J _ e ⟨s1, p1, rfl, hs1, hp1, hp2, rfl⟩
   have h := h.mono e
   have hs := hs.mono e
   have hle := hle.trans e
   have hlr := hlr.trans e
   refine Hx ?_; refine Da 9 rfl (Yk rfl rfl) ?_; refine Da 10 rfl (Yk rfl rfl) ?_; refine Dc 14 rfl rfl (ih h hl b _ Ab hs Ab _ Fo _) ?_; rintro _ J _ e ⟨s1, p1, rfl, hs1, hp1, hp2, rfl⟩
   have h := h.mono e
   have hs := hs.mono e
   have hle := hle.trans e
   have hlr := hlr.trans e
   refine Hx ?_; refine Da 15 rfl (Yk rfl rfl) ?_; refine Da 16 rfl (Yk rfl rfl) ?_; refine Da 17 rfl (A5 rfl) ?_; refine Aw Ac ?_; refine Ak (.tmp rfl .nil) ?_
   exact ⟨_, _, hle, fun w h => Mem.sub (L' := rd b oa l c _ :: L) Bz h, _, _, rfl, Ep, by omega, by omega, rfl⟩
  intro c3
  try simp only [nb] at c3
  refine Aj (Ar (Se rfl (Om rfl ?_))); refine A8 rfl .free rfl ?_; refine Om rfl ?_; refine Ca rfl (O2 h hl b _ Ab hs Ab want Ab _) ?_; rintro _ J _ e ⟨s1, p1, rfl, hs1, hp1, hp2, rfl⟩
  have hle := hle.trans e
  refine Oa rfl (Aa (Ak (.tmp rfl .nil) ?_))
  exact ⟨_, _, hle, fun w h => Mem.sub (L' := rd b oa l c _ :: L) Bz h, _, _, rfl, by omega, by omega, by omega, rfl⟩
 intro g13_3
 iterate 3 refine Cl rfl rfl rfl ?_
 refine Of rfl rfl (Oa rfl (Aa ?_)); refine As rfl ?_; refine Aj (Ar (Se rfl (Om rfl ?_))); refine A8 rfl .free rfl ?_; refine Om rfl ?_; refine Ca rfl (O2 h hl b _ Ab hs Ab want Ab _) ?_; rintro _ J _ e ⟨s1, p1, rfl, hs1, hp1, hp2, rfl⟩
 have hle := hle.trans e
 refine Oa rfl (Aa (Ak (.tmp rfl .nil) ?_))
 exact ⟨_, _, hle, fun w h => Mem.sub (L' := rd b oa l c _ :: L) Bz h, _, _, rfl, by omega, by omega, by omega, rfl⟩
theorem Yx : Us 0 := by
 intro I oa l c h hl b p hp ns ts o1 o2 c1 c2 hs hn want hw L; refine Ap Af ?_; refine Se rfl ?_; refine Cg rfl rfl .free rfl ?_; intro b5; refine Oa rfl (Aa (Ah (Ah ?_))); refine Bk (fun w h => h.f1) ?_; refine Al rfl (Om rfl (Oc rfl rfl rfl (Aa ?_)))
 first | refine L5 rfl Ae ?_ | refine L4 rfl Ae ?_ | refine Bo Ai ?_
 refine Se rfl (Om rfl ?_); refine A8 rfl .free rfl ?_; refine Om rfl ?_; refine Ca rfl (O2 h hl b _ hp hs Ab want Ab _) ?_; rintro _ J _ e ⟨s1, p1, rfl, hs1, hp1, hp2, rfl⟩; refine Oa rfl (Aa (Ak (.tmp rfl .nil) ?_))
 exact ⟨J, _, e, fun w h => Mem.sub (L' := rd b oa l c _ :: L) Bz h, _, _, rfl, hs1, hp1, hp2, rfl⟩
set_option maxHeartbeats 1000000 in
theorem Yw {d : Nat} (ih : Us d) (hd : d ≤ 20) (ht : eT (d + 1) ≤ 1000000000) : Us (d + 1) := by
 intro I oa l c h hl b p hp ns ts o1 o2 c1 c2 hs hn want hw L
 have ht0 := ht
 simp only [eT, kE] at ht hp ⊢
 have hge := Aak d
 have hle : HLe I I := .refl _
 have hlr : HLe I I := .refl _
 have hb1 : bT 1 = 7 := rfl
 have hk1 : kT 1 = 2 := rfl
 refine Ap Af ?_; refine Se rfl ?_; refine Cg rfl rfl .free rfl ?_; intro b5; refine Oa rfl (Aa (Ah (Ah ?_))); refine Bk (fun w h => h.f1) ?_; refine Al rfl (Om rfl (Oc rfl rfl rfl (Aa ?_)))
 first | refine Sf rfl Ab ?_ | refine As Ai ?_
 refine Aj (Se rfl (Om rfl ?_)); refine Or rfl rfl rfl ?_; refine Oa rfl (Aa (Ah (Ah ?_))); refine Lk (t := 9) (v' := .int .i64 (d : Nat)) rfl Eg ?_; refine Al rfl (Om rfl ?_); refine Ca rfl (C0 h hl b _ 12 Ab Ad _) ?_; rintro _ _ _ _ ⟨r, rfl, rfl, rfl, hr⟩; refine Aa (Aq (Se rfl (Oc rfl rfl rfl (Oa rfl (Aa ?_))))); refine Ay rfl ?_ ?_
 ·intro c1
  try simp only [nb] at c1
  refine Ah ?_; refine L3 fun hlr => ?_
  refine Mp 21 rfl rfl ?_; refine Da 0 rfl (Am rfl) ?_; refine Dt 1 [21] rfl (C7 rfl) ?_; refine Da 2 rfl (Am rfl) ?_; refine Da 6 rfl (Am rfl) ?_; refine Dt 7 [21] rfl (C7 rfl) ?_; refine Da 8 rfl (Am rfl) ?_; refine Da 9 rfl (Am rfl) ?_; refine Da 13 rfl (Am rfl) ?_; refine Dt 14 [21] rfl (C7 rfl) ?_; refine Da 15 rfl (Am rfl) ?_; refine Da 16 rfl (Am rfl) ?_; refine Dc 3 rfl rfl (ih h hl b _ Ab hs Ab _ Fo _) ?_; rintro _ J _ e ⟨s1, p1, rfl, hs1, hp1, hp2, rfl⟩
  have h := h.mono e
  have hs := hs.mono e
  have hle := hle.trans e
  have hlr := hlr.trans e
  refine Hx ?_; refine Da 4 rfl (Yk rfl rfl) ?_; refine Da 5 rfl (Yk rfl rfl) ?_; refine Dc 10 rfl rfl (ih h hl b _ Ab hs Ab _ Fo _) ?_; rintro _ J _ e ⟨s1, p1, rfl, hs1, hp1, hp2, rfl⟩
  have h := h.mono e
  have hs := hs.mono e
  have hle := hle.trans e
  have hlr := hlr.trans e
  refine Hx ?_; refine Da 11 rfl (Yk rfl rfl) ?_; refine Da 12 rfl (Yk rfl rfl) ?_; refine Dc 17 rfl rfl (ih h hl b _ Ab hs Ab _ Fo _) ?_; rintro _ J _ e ⟨s1, p1, rfl, hs1, hp1, hp2, rfl⟩
  have h := h.mono e
  have hs := hs.mono e
  have hle := hle.trans e
  have hlr := hlr.trans e
  refine Hx ?_; refine Da 18 rfl (Yk rfl rfl) ?_; refine Da 19 rfl (Yk rfl rfl) ?_; refine Da 20 rfl (A5 rfl) ?_; refine Aw Ac ?_; refine Ak (.tmp rfl .nil) ?_
  exact ⟨_, _, hle, fun w h => Mem.sub (L' := rd b oa l c _ :: L) Bz h, _, _, rfl, Ep, by omega, by omega, rfl⟩
 intro c1
 try simp only [nb] at c1
 refine Ah (Se rfl (Oc rfl rfl rfl (Oa rfl (Aa ?_)))); refine Ay rfl ?_ ?_
 ·intro c2
  try simp only [nb] at c2
  refine Aj ?_
  first | refine St rfl (by first | assumption | omega) ?_ | refine Bo Ai ?_
  refine Se rfl (Om rfl ?_); refine Ca rfl (Ku 1 h hl b _ Ab Ad Ad _) ?_; rintro _ J _ e ⟨kd, pk, rfl, hkd, hpk1, hpk2, rfl⟩
  have h := h.mono e
  have hs := hs.mono e
  have hle := hle.trans e
  have hlr := hlr.trans e
  refine Oa rfl (Aa (Se rfl (Om rfl ?_))); refine Ol rfl rfl ?_; intro b51; refine Ei [[97], [98], [99], [120, 49], [121, 48]] Ad Ad ?_; intro J1 e1 k1
  have h := h.mono e1
  have hs := hs.mono e1
  have hle := hle.trans e1
  refine Ca rfl (Ez h hl b _ Ab k1 Af _) ?_; rintro _ _ _ _ ⟨nx, rfl, hnx, rfl, rfl⟩
  have hnxl : nx.length ≤ 2 := by revert nx; decide
  refine Oa rfl (Aa (Ah ?_)); refine L3 fun hlr => ?_
  refine Mp 21 rfl rfl ?_; refine Da 0 rfl (Am rfl) ?_; refine Da 1 rfl (Yk rfl rfl) ?_; refine Da 2 rfl (Yk rfl rfl) ?_; refine Da 3 rfl (Am rfl) ?_; refine Dt 4 [21] rfl (C7 rfl) ?_; refine Da 5 rfl (Am rfl) ?_; refine Da 6 rfl (Am rfl) ?_; refine Da 10 rfl (Am rfl) ?_; refine Dt 11 [21] rfl (C7 rfl) ?_; refine Da 12 rfl (Am rfl) ?_; refine Da 13 rfl (Am rfl) ?_; refine Da 15 rfl (Am rfl) ?_; refine Da 16 rfl (Am rfl) ?_; refine Dc 7 rfl rfl (ih h hl b _ Ab hs Ab _ Fo _) ?_; rintro _ J _ e ⟨s1, p1, rfl, hs1, hp1, hp2, rfl⟩
  have h := h.mono e
  have hs := hs.mono e
  have hle := hle.trans e
  have hlr := hlr.trans e
  refine Hx ?_; refine Da 8 rfl (Yk rfl rfl) ?_; refine Da 9 rfl (Yk rfl rfl) ?_; refine Dc 14 rfl rfl (Kt hs nx kd Ab Ab Ab _) ?_; rintro _ J2 _ e2 ⟨o3, c3, o4, c4, rfl, hs2, rfl⟩
  have h := h.mono e2
  have hle := hle.trans e2
  have hlr := hlr.trans e2
  refine Hx ?_; refine Dc 17 rfl rfl (ih h hl b _ Ab hs2 D2 _ Ab _) ?_; rintro _ J _ e ⟨s1, p1, rfl, hs1, hp1, hp2, rfl⟩
  have hle := hle.trans e
  have hlr := hlr.trans e
  refine Hx ?_; refine Da 18 rfl (Yk rfl rfl) ?_; refine Da 19 rfl (Yk rfl rfl) ?_; refine Da 20 rfl (A5 rfl) ?_; refine Aw Ac ?_; refine Ak (.tmp rfl .nil) ?_
  exact ⟨_, _, hle, fun w h => Mem.sub (L' := rd b oa l c _ :: L) Bz h, _, _, rfl, Ep, by omega, by omega, rfl⟩
 intro c2
 try simp only [nb] at c2
 refine Al rfl (Oc rfl rfl rfl (Oa rfl (Aa ?_))); refine Ay rfl ?_ ?_
 ·intro c3
  try simp only [nb] at c3
  refine Se rfl (Om rfl ?_); refine Ca rfl (Ku 1 h hl b _ Ab Ad Ad _) ?_; rintro _ J _ e ⟨kd, pk, rfl, hkd, hpk1, hpk2, rfl⟩
  have h := h.mono e
  have hs := hs.mono e
  have hle := hle.trans e
  have hlr := hlr.trans e
  refine Oa rfl (Aa (Se rfl (Om rfl ?_))); refine Ol rfl rfl ?_; intro b51; refine Ei [[97], [98], [99], [120, 49], [121, 48]] Ad Ad ?_; intro J1 e1 k1
  have h := h.mono e1
  have hs := hs.mono e1
  have hle := hle.trans e1
  refine Ca rfl (Ez h hl b _ Ab k1 Af _) ?_; rintro _ _ _ _ ⟨nx, rfl, hnx, rfl, rfl⟩
  have hnxl : nx.length ≤ 2 := by revert nx; decide
  refine Oa rfl (Aa (Ah ?_)); refine L3 fun hlr => ?_
  refine Mp 21 rfl rfl ?_; refine Da 0 rfl (Am rfl) ?_; refine Da 1 rfl (Yk rfl rfl) ?_; refine Da 2 rfl (Yk rfl rfl) ?_; refine Da 3 rfl (Am rfl) ?_; refine Dt 4 [21] rfl (C7 rfl) ?_; refine Da 5 rfl (Am rfl) ?_; refine Da 6 rfl (Am rfl) ?_; refine Da 10 rfl (Am rfl) ?_; refine Dt 11 [21] rfl (C7 rfl) ?_; refine Da 12 rfl (Am rfl) ?_; refine Da 13 rfl (Am rfl) ?_; refine Da 15 rfl (Am rfl) ?_; refine Da 16 rfl (Am rfl) ?_; refine Dc 7 rfl rfl (ih h hl b _ Ab hs Ab _ Fo _) ?_; rintro _ J _ e ⟨s1, p1, rfl, hs1, hp1, hp2, rfl⟩
  have h := h.mono e
  have hs := hs.mono e
  have hle := hle.trans e
  have hlr := hlr.trans e
  refine Hx ?_; refine Da 8 rfl (Yk rfl rfl) ?_; refine Da 9 rfl (Yk rfl rfl) ?_; refine Dc 14 rfl rfl (Kt hs nx kd Ab Ab Ab _) ?_; rintro _ J2 _ e2 ⟨o3, c3, o4, c4, rfl, hs2, rfl⟩
  have h := h.mono e2
  have hle := hle.trans e2
  have hlr := hlr.trans e2
  refine Hx ?_; refine Dc 17 rfl rfl (ih h hl b _ Ab hs2 D2 _ Ab _) ?_; rintro _ J _ e ⟨s1, p1, rfl, hs1, hp1, hp2, rfl⟩
  have hle := hle.trans e
  have hlr := hlr.trans e
  refine Hx ?_; refine Da 18 rfl (Yk rfl rfl) ?_; refine Da 19 rfl (Yk rfl rfl) ?_; refine Da 20 rfl (A5 rfl) ?_; refine Aw Ac ?_; refine Ak (.tmp rfl .nil) ?_
  exact ⟨_, _, hle, fun w h => Mem.sub (L' := rd b oa l c _ :: L) Bz h, _, _, rfl, Ep, by omega, by omega, rfl⟩
 intro c3
 try simp only [nb] at c3
 refine Ah (Se rfl (Oc rfl rfl rfl (Oa rfl (Aa ?_)))); refine Ay rfl ?_ ?_
 ·intro c4
  try simp only [nb] at c4
  refine Aj ?_
  first | refine St rfl (by first | assumption | omega) ?_ | refine Bo Ai ?_
  refine Se rfl (Om rfl ?_); refine Ca rfl (Ku 1 h hl b _ Ab Ad Ad _) ?_; rintro _ J _ e ⟨kd, pk, rfl, hkd, hpk1, hpk2, rfl⟩
  have h := h.mono e
  have hs := hs.mono e
  have hle := hle.trans e
  have hlr := hlr.trans e
  refine Oa rfl (Aa (Ah ?_)); refine L3 fun hlr => ?_
  refine Mp 20 rfl rfl ?_; refine Da 0 rfl (Am rfl) ?_; refine Dt 1 [20] rfl (C7 rfl) ?_; refine Da 2 rfl (Am rfl) ?_; refine Da 3 rfl (Yk rfl rfl) ?_; refine Da 4 rfl (Yk rfl rfl) ?_; refine Da 5 rfl (Am rfl) ?_; refine Da 6 rfl (Yk rfl rfl) ?_; refine Da 7 rfl (Yk rfl rfl) ?_; refine Da 8 rfl (Am rfl) ?_; refine Da 12 rfl (Am rfl) ?_; refine Dt 13 [20] rfl (C7 rfl) ?_; refine Da 14 rfl (Am rfl) ?_; refine Da 15 rfl (Am rfl) ?_; refine Dc 9 rfl rfl (ih h hl b _ Ab hs Ab _ Fo _) ?_; rintro _ J _ e ⟨s1, p1, rfl, hs1, hp1, hp2, rfl⟩
  have h := h.mono e
  have hs := hs.mono e
  have hle := hle.trans e
  have hlr := hlr.trans e
  refine Hx ?_; refine Da 10 rfl (Yk rfl rfl) ?_; refine Da 11 rfl (Yk rfl rfl) ?_; refine Dc 16 rfl rfl (ih h hl b _ Ab hs Ab _ Fo _) ?_; rintro _ J _ e ⟨s1, p1, rfl, hs1, hp1, hp2, rfl⟩
  have h := h.mono e
  have hs := hs.mono e
  have hle := hle.trans e
  have hlr := hlr.trans e
  refine Hx ?_; refine Da 17 rfl (Yk rfl rfl) ?_; refine Da 18 rfl (Yk rfl rfl) ?_; refine Da 19 rfl (A5 rfl) ?_; refine Aw Ac ?_; refine Ak (.tmp rfl .nil) ?_
  exact ⟨_, _, hle, fun w h => Mem.sub (L' := rd b oa l c _ :: L) Bz h, _, _, rfl, Ep, by omega, by omega, rfl⟩
 intro c4
 try simp only [nb] at c4
 refine Al rfl (Oc rfl rfl rfl (Oa rfl (Aa ?_))); refine Ay rfl ?_ ?_
 ·intro c5
  try simp only [nb] at c5
  refine Se rfl (Om rfl ?_); refine Ca rfl (Ku 1 h hl b _ Ab Ad Ad _) ?_; rintro _ J _ e ⟨kd, pk, rfl, hkd, hpk1, hpk2, rfl⟩
  have h := h.mono e
  have hs := hs.mono e
  have hle := hle.trans e
  have hlr := hlr.trans e
  refine Oa rfl (Aa (Ah ?_)); refine L3 fun hlr => ?_
  refine Mp 20 rfl rfl ?_; refine Da 0 rfl (Am rfl) ?_; refine Dt 1 [20] rfl (C7 rfl) ?_; refine Da 2 rfl (Am rfl) ?_; refine Da 3 rfl (Yk rfl rfl) ?_; refine Da 4 rfl (Yk rfl rfl) ?_; refine Da 5 rfl (Am rfl) ?_; refine Da 6 rfl (Yk rfl rfl) ?_; refine Da 7 rfl (Yk rfl rfl) ?_; refine Da 8 rfl (Am rfl) ?_; refine Da 12 rfl (Am rfl) ?_; refine Dt 13 [20] rfl (C7 rfl) ?_; refine Da 14 rfl (Am rfl) ?_; refine Da 15 rfl (Am rfl) ?_; refine Dc 9 rfl rfl (ih h hl b _ Ab hs Ab _ Fo _) ?_; rintro _ J _ e ⟨s1, p1, rfl, hs1, hp1, hp2, rfl⟩
  have h := h.mono e
  have hs := hs.mono e
  have hle := hle.trans e
  have hlr := hlr.trans e
  refine Hx ?_; refine Da 10 rfl (Yk rfl rfl) ?_; refine Da 11 rfl (Yk rfl rfl) ?_; refine Dc 16 rfl rfl (ih h hl b _ Ab hs Ab _ Fo _) ?_; rintro _ J _ e ⟨s1, p1, rfl, hs1, hp1, hp2, rfl⟩
  have h := h.mono e
  have hs := hs.mono e
  have hle := hle.trans e
  have hlr := hlr.trans e
  refine Hx ?_; refine Da 17 rfl (Yk rfl rfl) ?_; refine Da 18 rfl (Yk rfl rfl) ?_; refine Da 19 rfl (A5 rfl) ?_; refine Aw Ac ?_; refine Ak (.tmp rfl .nil) ?_
  exact ⟨_, _, hle, fun w h => Mem.sub (L' := rd b oa l c _ :: L) Bz h, _, _, rfl, Ep, by omega, by omega, rfl⟩
 intro c5
 try simp only [nb] at c5
 refine Se rfl (Oc rfl rfl rfl (Oa rfl (Aa ?_))); refine Ay rfl ?_ ?_
 ·intro c6
  try simp only [nb] at c6
  refine Se rfl (Om rfl ?_); refine A8 rfl .free rfl ?_; refine Om rfl ?_; refine Ok rfl rfl ?_; refine Ok rfl rfl ?_; refine Om rfl ?_; refine Ca rfl (ih h hl b _ Ab hs Ab _ Fo _) ?_; rintro _ J _ e ⟨s1, p1, rfl, hs1, hp1, hp2, rfl⟩
  have h := h.mono e
  have hs := hs.mono e
  have hle := hle.trans e
  have hlr := hlr.trans e
  refine Ok rfl rfl ?_; refine Ok rfl rfl ?_; refine Oa rfl (Aa (Ak (.tmp rfl .nil) ?_))
  exact ⟨_, _, hle, fun w h => Mem.sub (L' := rd b oa l c _ :: L) Bz h, _, _, rfl, Ep, by omega, by omega, rfl⟩
 intro c6
 try simp only [nb] at c6
 refine Se rfl (Oc rfl rfl rfl (Oa rfl (Aa ?_))); refine Ay rfl ?_ ?_
 ·intro c7
  try simp only [nb] at c7
  refine Se rfl (Om rfl ?_); refine A8 rfl .free rfl ?_; refine Om rfl ?_; refine Ok rfl rfl ?_; refine Ok rfl rfl ?_; refine Om rfl ?_; refine Ca rfl (ih h hl b _ Ab hs Ab _ Fo _) ?_; rintro _ J _ e ⟨s1, p1, rfl, hs1, hp1, hp2, rfl⟩
  have h := h.mono e
  have hs := hs.mono e
  have hle := hle.trans e
  have hlr := hlr.trans e
  refine Ok rfl rfl ?_; refine Ok rfl rfl ?_; refine Oa rfl (Aa (Ak (.tmp rfl .nil) ?_))
  exact ⟨_, _, hle, fun w h => Mem.sub (L' := rd b oa l c _ :: L) Bz h, _, _, rfl, Ep, by omega, by omega, rfl⟩
 intro c7
 try simp only [nb] at c7
 refine Se rfl (Oc rfl rfl rfl (Oa rfl (Aa ?_))); refine Ay rfl ?_ ?_
 ·intro c8
  try simp only [nb] at c8
  refine Se rfl (Om rfl (Od rfl rfl rfl (Aa ?_))); refine Ay rfl ?_ ?_
  ·intro c9
   try simp only [nb] at c9
   refine Se rfl (Om rfl ?_); refine Ca rfl (Zb h hl b _ Ab _) ?_; rintro _ J _ e ⟨s1, p1, rfl, hs1, hp1, hp2, rfl⟩
   have hle := hle.trans e
   refine Oa rfl (Aa (Ak (.tmp rfl .nil) ?_))
   exact ⟨_, _, hle, fun w h => Mem.sub (L' := rd b oa l c _ :: L) Bz h, _, _, rfl, Ep, by omega, by omega, rfl⟩
  intro c9
  try simp only [nb] at c9
  refine Aj (Ar (Se rfl (Om rfl ?_))); refine A8 rfl .free rfl ?_; refine Om rfl (Om rfl ?_); refine Ca rfl (Qi ih hd ht0 h hl b _ Ab hs Ab want Ab _) ?_; rintro _ J _ e ⟨s1, p1, rfl, hs1, hp1, hp2, rfl⟩
  have hle := hle.trans e
  refine Oa rfl (Aa (Ak (.tmp rfl .nil) ?_))
  exact ⟨_, _, hle, fun w h => Mem.sub (L' := rd b oa l c _ :: L) Bz h, _, _, rfl, Ep, by omega, by omega, rfl⟩
 intro c8
 try simp only [nb] at c8
 refine Aj (Ar (Se rfl (Om rfl ?_))); refine A8 rfl .free rfl ?_; refine Om rfl (Om rfl ?_); refine Ca rfl (Qi ih hd ht0 h hl b _ Ab hs Ab want Ab _) ?_; rintro _ J _ e ⟨s1, p1, rfl, hs1, hp1, hp2, rfl⟩
 have hle := hle.trans e
 refine Oa rfl (Aa (Ak (.tmp rfl .nil) ?_))
 exact ⟨_, _, hle, fun w h => Mem.sub (L' := rd b oa l c _ :: L) Bz h, _, _, rfl, Ep, by omega, by omega, rfl⟩
theorem U6 : ∀ d, d ≤ 4 → Us d
 | 0, _ => Yx
 | d + 1, h => Yw (U6 d (by omega)) (by omega) (by
   have : ∀ d, d ≤ 4 → eT d ≤ 1000000000 := by decide
   exact this _ h)
theorem Mf {d : Nat} (hd : d ≤ 4) {I : Heap} {oa : Option Addr} {l : List UInt8} {c : Nat} (h : Bytes I oa l c) (hl : l.length ≤ 2000) (b p : Nat) (hp : p + 3000 ≤ 1099511627776) {ns ts : List Au} {o1 o2 : Option Addr} {c1 c2 : Nat} (hs : ScAt I ns ts o1 c1 o2 c2) (hn : ns.length ≤ 80) (want : Au) (hw : want.length ≤ 900) (L : Bm) :
  Fun Tryz.prog 119 [.pointer (some ⟨b, 0, none⟩), .agg [.slice o1 ns.length c1, .slice o2 ts.length c2].toArray, .string (str want), .int .i64 (d : Nat)] I (rd b oa l c p :: L) (DT b oa l c p 3000 400000 L) := by
 have hk : ∀ d, d ≤ 4 → kE d ≤ 3000 ∧ eT d ≤ 400000 := by decide
 obtain ⟨h1, h2⟩ := hk d hd; refine (U6 d hd h hl b p Ab hs Ab want Ab L).mono ?_; rintro v I' L' _ ⟨s, p', rfl, h3, h4, h5, rfl⟩
 exact ⟨s, p', rfl, by omega, h4, by omega, rfl⟩
mutual
def Tree.atomL : Tree → List Au
 | .node a [] => [a]
 | .node _ (p :: ps) => p.atomL ++ G7 ps
def G7 : List Tree → List Au
 | [] => []
 | t :: ts => t.atomL ++ G7 ts
end
mutual
def Tree.repl : Tree → Au → Tree → Tree
 | .node x [], a, b => if x = a then b else .node x []
 | .node x (p :: ps), a, b => .node x (p.repl a b :: Iq ps a b)
def Iq : List Tree → Au → Tree → List Tree
 | [], _, _ => []
 | t :: ts, a, b => t.repl a b :: Iq ts a b
end
theorem Yn (t : Tree) (h : t.parts ≠ []) : t.atomL = G7 t.parts := by
 cases t with
 | node a ps => cases ps with
  | nil => exact absurd rfl h
  | cons p ps => rfl
theorem Wp (t : Tree) (h : t.parts = []) : t.atomL = [t.atom] := by
 cases t with
 | node a ps => simp [Tree.parts] at h; subst h; rfl
theorem Mr : ∀ (a b : List Tree), G7 (a ++ b) = G7 a ++ G7 b
 | [], b => rfl
 | t :: a, b => by simp only [List.cons_append, G7, Mr a b, List.append_assoc]
theorem Uv (ps : List Tree) (i : Nat) (hi : i < ps.length) : G7 (ps.take (i + 1)) = G7 (ps.take i) ++ ps[i].atomL := by
 rw [List.take_succ_eq_append_getElem hi, Mr]; simp [G7]
mutual
theorem Tree.atomL_len : ∀ t : Tree, t.atomL.length = t.size
 | .node a [] => rfl
 | .node a (p :: ps) => by
  have h1 := p.atomL_len; have h2 := M2 ps
  simp only [Tree.atomL, List.length_append, h1, h2, Tree.size, Ej, List.isEmpty_cons, cond_false]
theorem M2 : ∀ ts : List Tree, (G7 ts).length = Ej ts
 | [] => rfl
 | t :: ts => by have h1 := t.atomL_len; have h2 := M2 ts; simp only [G7, List.length_append, h1, h2, Ej]
end
theorem Abx (t : Tree) (a : Au) (b : Tree) (h : t.parts ≠ []) : t.repl a b = .node t.atom (Iq t.parts a b) := by
 cases t with
 | node x ps => cases ps with
  | nil => exact absurd rfl h
  | cons p ps => rfl
theorem Ss (t : Tree) (a : Au) (b : Tree) (h : t.parts = []) : t.repl a b = if t.atom = a then b else t := by
 cases t with
 | node x ps => simp [Tree.parts] at h; subst h; rfl
theorem N5 : ∀ (p q : List Tree) (a : Au) (b : Tree), Iq (p ++ q) a b = Iq p a b ++ Iq q a b
 | [], q, a, b => rfl
 | t :: p, q, a, b => by simp only [List.cons_append, Iq, N5 p q]
theorem Le : ∀ (ps : List Tree) (a : Au) (b : Tree), (Iq ps a b).length = ps.length
 | [], _, _ => rfl
 | t :: ps, a, b => by simp only [Iq, List.length_cons, Le ps]
theorem Xq (ps : List Tree) (a : Au) (b : Tree) (i : Nat) (hi : i < ps.length) : Iq (ps.take (i + 1)) a b = Iq (ps.take i) a b ++ [ps[i].repl a b] := by
 rw [List.take_succ_eq_append_getElem hi, N5]; rfl
mutual
theorem Tree.repl_good : ∀ {t : Tree} {a : Au} {b : Tree}, t.good = true → b.good = true → (t.repl a b).good = true
 | .node x [], a, b, h, hb => by simp only [Tree.repl]; split; exact hb; exact h
 | .node x (p :: ps), a, b, h, hb => by
  obtain ⟨h1, h2, h3⟩ := Ic h; subst h1
  simp [Tree.repl, Tree.good, Fg, Tree.repl_good h2 hb, Rd h3 hb]
theorem Rd : ∀ {ps : List Tree} {a : Au} {b : Tree}, Fg ps = true → b.good = true → Fg (Iq ps a b) = true
 | [], a, b, h, hb => rfl
 | t :: ps, a, b, h, hb => by
  simp [Fg] at h
  simp [Iq, Fg, Tree.repl_good h.1 hb, Rd h.2 hb]
end
mutual
theorem Tree.repl_len : ∀ (t : Tree) (a : Au) (b : Tree), (t.repl a b).len ≤ t.len + t.size * b.len
 | .node x [], a, b => by simp only [Tree.repl, Tree.size, List.isEmpty_nil, cond_true, Nat.one_mul]; split <;> omega
 | .node x (p :: ps), a, b => by
  have h1 := p.repl_len a b; have h2 := Sr ps a b
  simp only [Tree.repl, Tree.len, Tree.size, F8, Ej, List.isEmpty_cons, cond_false, Nat.add_mul]; omega
theorem Sr : ∀ (ps : List Tree) (a : Au) (b : Tree), F8 (Iq ps a b) ≤ F8 ps + Ej ps * b.len
 | [], a, b => by simp [Iq, F8, Ej]
 | t :: ps, a, b => by
  have h1 := t.repl_len a b; have h2 := Sr ps a b
  simp only [Iq, F8, Ej, Nat.add_mul]; omega
end
theorem Ym {l : List Au} (h : l ≠ []) : Du [] l ≠ [] := fun e => h (Qf.1 e)
theorem Tree.size_one : ∀ t : Tree, 1 ≤ t.size
 | .node a [] => Nat.le_refl _
 | .node a (p :: ps) => by
  have := Tree.size_one p
  simp only [Tree.size, Ej, List.isEmpty_cons, cond_false]; omega
theorem Aaa (t : Tree) : t.atomL ≠ [] := by
 have h1 := t.atomL_len
 have h2 := t.size_one
 intro e; rw [e] at h1; simp at h1; omega
mutual
theorem Tree.atom_len : ∀ (t : Tree) (x : Au), x ∈ t.atomL → x.length ≤ t.len
 | .node a [], x, h => by
  simp only [Tree.atomL, List.mem_singleton] at h
  subst h; simp [Tree.len]
 | .node a (p :: ps), x, h => by
  simp only [Tree.atomL, List.mem_append] at h
  simp only [Tree.len, F8, List.isEmpty_cons, cond_false]
  rcases h with h | h
  ·have := p.atom_len x h; omega
  ·have := Lq ps x h; omega
theorem Lq : ∀ (ts : List Tree) (x : Au), x ∈ G7 ts → x.length ≤ F8 ts
 | [], x, h => by cases h
 | t :: ts, x, h => by
  simp only [G7, List.mem_append] at h
  simp only [F8]
  rcases h with h | h
  ·have := t.atom_len x h; omega
  ·have := Lq ts x h; omega
end
theorem Yo {t : Tree} (h : t.len ≤ 12000000) : ∀ s ∈ Du [] t.atomL, s.length ≤ Be := by
 intro s hs
 rcases K2.1 hs with h1 | h1
 ·cases h1
 ·have := t.atom_len s h1; unfold Be; omega
def Ij (s : Au) : Option (List Au) := (Dn s).map fun t => Du [] t.atomL
def Iy (s a b : Au) : Option Au := match Dn s, Dn a, Dn b with
 | some t, some x, some y => if x.atom ≠ [] ∧ (Dn (t.repl a y).text).isSome = true then some (t.repl a y).text else none
 | _, _, _ => none
theorem Vg (s : Au) (hs : s.length ≤ Kw) (I : Heap) (L : Bm) : Fun Tryz.prog 136 [.string (str s)] I L (fun v I' L' => v = .bool (Dn s).isSome ∧ L = L') := by
 refine Ap Af ?_; refine Se rfl (Oa rfl (Aa (Se rfl (Om rfl ?_)))); refine Ca rfl (Hj s hs _ _) ?_; rintro _ J _ e1 ⟨t, cs, ok, rfl, hrep, rfl, hpf⟩; obtain ⟨o1, k1, _, rfl, -⟩ := hrep.open; refine Om rfl (Oe rfl rfl (Oe rfl rfl ?_)); refine A3 .free rfl ?_; intro b3; refine Bu rfl rfl rfl rfl .free ?_; refine Oa rfl (Aa (Se rfl (Om rfl (Oa rfl (Aa (Ak (.tmp rfl .nil) ?_)))))); refine ⟨J, L, e1, Bt, ?_, rfl⟩
 cases hp : Dn s with
 | none => rw [hp] at hpf; rw [hpf]; rfl
 | some t0 => rw [hp] at hpf; rw [hpf.1]; rfl
structure GA where
 i : Nat
 l : List Au
 B : K1
 c : Nat
theorem Y7 : ∀ (n : Nat) {I : Heap} {t : Tree} {cs : List Value} (_ : SizeOf.sizeOf t < n) (_ : Rep I t cs) (_ : t.good = true) (l : List Au) (B : K1) (c : Nat) (_ : l.length + t.size ≤ 4294967295) (_ : E6 1 l.length c (l.map sv) B) (L : Bm),
  Fun Tryz.prog 124 [.agg cs.toArray, Ci l.length c B] I (Cn 9 (l.map sv) B ++ L) (fun v I' L' => I = I' ∧ LP (Du l t.atomL) L v I' L') := by
 intro n
 induction n with
 | zero => intro I t cs h; omega
 | succ n ihn =>
  intro I t cs hlt h hg l B c hl hB L; obtain ⟨oa, cc, oaf, cf, rfl, hf⟩ := h.at'
  have ha := hf.alen
  have hnil := hf.nil
  have hp := hf.len
  unfold Be at hp
  have hs1 := t.size_one
  have hlN : l.length ≤ Be := by unfold Be; omega
  refine Ap Af ?_; refine Se rfl ?_; refine Cg rfl rfl .free rfl ?_; intro b2; refine Oa rfl (Aa (Ah (Se rfl (Oh rfl ?_)))); refine A4 rfl .free rfl ?_; refine Od rfl rfl rfl (Aa ?_); refine Ay rfl ?_ ?_
  ·intro c0
   try simp only [nb] at c0
   have hat := Wp t (Kv hg c0)
   refine Ah (Se rfl (Om rfl (Oh rfl ?_))); refine A4 rfl .free rfl ?_; refine Ca rfl (X9 hB hlN _ _ _ _) ?_; rintro _ _ _ _ ⟨rfl, rfl, rfl⟩; refine Aa ?_; refine Ay rfl ?_ ?_
   ·intro c1
    try simp only [nb] at c1
    refine Se rfl (Om rfl (Oa rfl (Aa (Ak (.tmp rfl .nil) ?_))))
    have hoc : Du l t.atomL = l := by rw [hat]; exact Ry c1
    exact ⟨I, _, .refl _, fun w h => h.drop, rfl, B, c, by rw [hoc]; rfl, by rw [hoc]; exact hB, by rw [hoc]⟩
   intro c1
   try simp only [nb] at c1
   refine Aj (Se rfl (Om rfl (Oh rfl ?_))); refine A4 rfl .free rfl ?_; refine Ol rfl rfl ?_; intro b17; refine Ea (B := B) (xs := l.map sv) (ys := [sv t.atom]) (m := l.length) (c := c) Bl Ae rfl rfl hB (fun _ h => h.u2) Ae (fun a ha => by cases ha; exact Cm (.head _) Ae) Af Ae Ad Ad Ab Ad .free rfl ?_; intro bb sp c2 hB'; refine Oa rfl (Aa (Ak (.tmp rfl .nil) ?_))
   have hoc : Du l t.atomL = l ++ [t.atom] := by rw [hat]; exact Qg c1
   exact ⟨I, _, .refl _, Ms (L' := (bb, _) :: L), rfl, some (bb, sp), c2, by rw [hoc]; simp [Dl, Ci], by rw [hoc]; simpa using hB', by rw [hoc]; simp [Cn]⟩
  intro c0
  try simp only [nb] at c0
  have hne := K8 hg E9
  have hat := Yn t hne.1
  have hsz : t.size = Ej t.parts := by
   cases t with
   | node a ps => cases ps with
    | nil => exact absurd rfl hne.1
    | cons p ps => rfl
  refine Aj (Ah (Se rfl (Oa rfl (Aa (Aq ?_))))); refine D7 (X := GA) (fun x => t.parts.length - x.i) (fun x => [(1, Ci x.l.length x.c x.B), (2, .pointer (some ⟨b2, 0, none⟩)), (4, .slice none 0 0), (5, .int .i64 (x.i : Nat))]) (fun _ => I) (fun x => (b2, .cells [.string (str t.atom), .slice oa t.parts.length cc].toArray 68 (0, 0)) :: (Cn 9 (x.l.map sv) x.B ++ L)) (fun x => x.i ≤ t.parts.length ∧ x.l = Du l (G7 (t.parts.take x.i)) ∧ E6 1 x.l.length x.c (x.l.map sv) x.B) ⟨0, l, B, c⟩ ⟨Nat.zero_le _, rfl, hB⟩ ⟨rfl, rfl, rfl, rfl, trivial⟩ (by intro _ h; exact h) ?_
  rintro ⟨i, l1, B1, c1⟩ ⟨hi, hl1, hB1⟩ ih
  simp only at hi hl1 hB1 ih ⊢
  have hll := Hh l (G7 (t.parts.take i))
  rw [← hl1, M2] at hll; refine Ah (Se rfl (Om rfl (Oh rfl ?_))); refine A4 rfl .free rfl ?_; refine On rfl (Oc rfl rfl rfl (Aa ?_)); refine Ay rfl ?_ ?_
  ·intro c2
   try simp only [nb] at c2
   have hi1 : i < t.parts.length := by omega
   have hsl : Ej (t.parts.take i) + (t.pt i).size ≤ Ej t.parts := by
    rw [Tree.pt_at hi1]
    have h1 := Ja (t.parts.take i) (t.parts.drop i)
    rw [List.take_append_drop, List.drop_eq_getElem_cons hi1] at h1
    simp only [Ej] at h1; omega
   have hpg := Tree.pt_good hg i hi1
   refine Aj (Ah (Aq (Al rfl (Oh rfl ?_)))); refine A4 rfl .free rfl ?_; refine Om rfl ?_
   first | refine Ba rfl rfl _ rfl .free rfl ?_ | refine Bb rfl rfl _ rfl .free rfl ?_
   refine E1 rfl .free rfl ?_; refine Om rfl ?_; refine En (fun w h => h.u1) ?_; refine Ca rfl (ihn (t := t.pt i) (by have := t.pt_lt i hi1; omega) (hf.rp i hi1) hpg l1 B1 c1 Ab hB1 _) ?_; rintro _ _ _ _ ⟨rfl, B2, c2, rfl, hB2, rfl⟩; refine En (fun w h => h.w1) ?_; refine Oa rfl (Aa (Ar (Al rfl (Om rfl ?_)))); refine Or rfl rfl rfl ?_; refine Oa rfl (Aa ?_)
   exact Bw (E' := [(1, Ci (Du l1 (t.pt i).atomL).length c2 B2), (2, .pointer (some ⟨b2, 0, none⟩)), (4, .slice none 0 0), (5, .int .i64 ((i + 1 : Nat)))]) ⟨rfl, rfl, rfl, rfl, trivial⟩ (ih ⟨i + 1, Du l1 (t.pt i).atomL, B2, c2⟩ ⟨by simp only; omega, by simp only; rw [hl1, ← Cw, Uv _ _ hi1, Tree.pt_at hi1], hB2⟩ D1)
  intro c2
  try simp only [nb] at c2
  refine Cd rfl ?_; refine Se rfl (Om rfl (Oa rfl (Aa (Ak (.tmp rfl .nil) ?_))))
  have hl2 : l1 = Du l t.atomL := by
   rw [hl1, hat, show i = t.parts.length by omega, List.take_length]
  subst hl2
  exact ⟨I, _, .refl _, fun w h => h.drop, rfl, B1, c1, rfl, hB1, rfl⟩
theorem Vf (s : Au) (hs : s.length ≤ Kw) (I : Heap) (L : Bm) : Fun Tryz.prog 78 [.string (str s)] I L (EF (Ij s) L) := by
 refine Ap Af ?_; refine Se rfl (Oa rfl (Oa rfl (Aa (Se rfl (Om rfl ?_))))); refine Ca rfl (Hj s hs _ _) ?_; rintro _ J _ e1 ⟨t, cs, ok, rfl, hrep, rfl, hpf⟩; obtain ⟨o1, k1, _, rfl, -⟩ := hrep.open; refine Om rfl (Oe rfl rfl (Oe rfl rfl ?_)); refine A3 .free rfl ?_; intro b4; refine Bu rfl rfl rfl rfl .free ?_; refine Oa rfl (Aa (Ah (Se rfl (Om rfl ?_)))); refine C6 rfl .free rfl ?_; refine Aa ?_; refine Ay rfl ?_ ?_
 ·intro c0
  try simp only [nb] at c0
  refine Se rfl ?_; refine El .free rfl ?_; intro b13; refine Oa rfl (Oa rfl (Aa ?_)); refine Ak (.tmp rfl (.tmp rfl .nil)) ?_; refine ⟨J, L, e1, Bt, some ⟨b13, 0, none⟩, 0, ?_, ?_, rfl⟩
  ·have : Ij s = none := by
    unfold Ij
    cases hp : Dn s with
    | none => rfl
    | some t0 => rw [hp] at hpf; rw [hpf.1] at c0; cases c0
   rw [this]; rfl
  ·have : Ij s = none := by
    unfold Ij
    cases hp : Dn s with
    | none => rfl
    | some t0 => rw [hp] at hpf; rw [hpf.1] at c0; cases c0
   rw [this]; exact Ho _ _
 intro c0
 try simp only [nb] at c0
 have hps := Hw hpf c0
 have hpg := Fr hps
 have hpz := M7 hps
 have hat : Ij s = some (Du [] t.atomL) := by unfold Ij; rw [hps]; rfl
 refine Aj (Se rfl ?_); refine A8 rfl .free rfl ?_; refine El .free rfl ?_; intro b15; refine En (L' := Cn 9 (([] : List Au).map sv) (some (b15, [])) ++ _) (fun w h => h) ?_; refine Ca rfl (Y7 _ (Nat.lt_succ_self _) hrep hpg.1 [] (some (b15, [])) 0 D2 ⟨rfl, Nat.le_refl _, rfl⟩ _) ?_; rintro _ _ _ _ ⟨rfl, B2, c2, rfl, hB2, rfl⟩; refine Oa rfl (Oa rfl (Aa ?_))
 have hll := Hh [] t.atomL
 rw [Tree.atomL_len] at hll
 simp only [List.length_nil, Nat.zero_add] at hll
 refine G4 hB2 rfl Cu (Yo hpg.2.1) ?_; intro J2 oz cz ez hbv hst; refine Lk (t := 2) rfl hbv ?_; refine Ak (.tmp rfl (.tmp rfl .nil)) ?_
 exact ⟨J2, L, e1.trans ez, Bt, oz, cz, by rw [hat]; rfl, by rw [hat]; exact hst, rfl⟩
structure GP where
 J : Heap
 i : Nat
 xs : List Value
 B : K1
 c : Nat
theorem Vh : ∀ (n : Nat) {I : Heap} {t : Tree} {cs : List Value} (_ : SizeOf.sizeOf t < n) (_ : Rep I t cs) (_ : t.good = true) (a : Au) (_ : a ≠ []) {y : Tree} {ds : List Value} (_ : Rep I y ds) (L : Bm),
  Fun Tryz.prog 135 [.agg cs.toArray, .string (str a), .agg ds.toArray] I L (RP (t.repl a y) L) := by
 intro n
 induction n with
 | zero => intro I t cs h; omega
 | succ n ihn =>
  intro I t cs hlt h hg a ha0 y ds hy L; obtain ⟨oa, cc, oaf, cf, rfl, hf⟩ := h.at'; obtain ⟨oy, ky, _, rfl, -⟩ := hy.open
  have hp := hf.len
  unfold Be at hp
  have hnil := hf.nil
  refine Ap Af ?_; refine Se rfl ?_; refine Cg rfl rfl .free rfl ?_; intro b3; refine Cg rfl rfl .free rfl ?_; intro b5; refine A3 .free rfl ?_; intro b6; refine Aa (Ah (Se rfl (Oh rfl ?_))); refine A4 rfl .free rfl ?_; refine Om rfl (Od rfl rfl rfl (Om rfl ?_))
  apply Cp 13 16 rfl
  ·intro g1_5 hk
   try simp only [nb] at g1_5
   refine Ow rfl ?_; refine Ck rfl rfl rfl (.met rfl rfl) rfl ?_; refine Ot rfl rfl ?_
   exact Av 2 rfl rfl hk
  ·intro _ hk; refine A0 2 rfl ?_; refine Of rfl rfl ?_
   exact Av 2 rfl rfl hk
  refine Aa ?_; refine Ay rfl ?_ ?_
  ·intro c0
   try simp only [nb] at c0
   refine Se rfl ?_; refine A8 rfl .free rfl ?_; refine Bu rfl rfl rfl rfl .free ?_; refine Aa ?_; refine Ak (.c rfl .nil) ?_
   have e : t.repl a y = y := by rw [Ss t a y (Kv hg (by rw [c0.1]; exact ha0)), if_pos c0.1]
   exact ⟨I, L, .refl _, Bt, _, rfl, by rw [e]; exact hy, rfl⟩
  intro c0
  try simp only [nb] at c0
  refine Aj (Ah (Se rfl (Oh rfl ?_))); refine A4 rfl .free rfl ?_; refine Od rfl rfl rfl (Aa ?_); refine Ay rfl ?_ ?_
  ·intro c1
   try simp only [nb] at c1
   refine Se rfl ?_; refine A8 rfl .free rfl ?_; refine Bu rfl rfl rfl rfl .free ?_; refine Aa ?_; refine Ak (.c rfl .nil) ?_
   have e : t.repl a y = t := by rw [Ss t a y (Kv hg c1), if_neg (fun e => by rcases c0 with h | h; exact h e; exact ha0 h)]
   exact ⟨I, L, .refl _, Bt, _, rfl, by rw [e]; exact hf.rep, rfl⟩
  intro c1
  try simp only [nb] at c1
  have hat : t.atom = [] := by simpa using c1
  have hne := K8 hg hat
  have hre := Abx t a y hne.1
  refine Aj (Se rfl ?_); refine B6 rfl rfl rfl .free rfl ?_; refine A3 .free rfl ?_; intro b7; refine Bu rfl rfl rfl rfl .free ?_; refine Aa (Ah (Se rfl (Oa rfl (Aa (Aq ?_)))))
  refine D7 (X := GP) (fun x => t.parts.length - x.i) (fun x => [(1, .string (str a)), (3, .pointer (some ⟨b3, 0, none⟩)), (5, .pointer (some ⟨b5, 0, none⟩)), (6, .pointer (some ⟨b6, 0, none⟩)), (7, .pointer (some ⟨b7, 0, none⟩)), (8, .int .i64 (x.i : Nat))]) (fun x => x.J) (fun x => (b7, .cells [.string (str []), Ci x.i x.c x.B].toArray 68 (0, 0)) :: (Cn 68 x.xs x.B ++ ((b6, .cells [.string (str []), .slice none 0 0].toArray 68 (0, 0)) :: (b5, .cells [.string (str y.atom), .slice oy y.parts.length ky].toArray 68 (0, 0)) :: (b3, .cells [.string (str t.atom), .slice oa t.parts.length cc].toArray 68 (0, 0)) :: L))) (fun x => HLe I x.J ∧ x.i ≤ t.parts.length ∧ RepL x.J (Iq (t.parts.take x.i) a y) x.xs ∧ E6 2 x.i x.c x.xs x.B) ⟨I, 0, [], none, 0⟩ ⟨.refl _, Nat.zero_le _, .nil, ⟨rfl, rfl, rfl⟩⟩ ⟨rfl, rfl, rfl, rfl, rfl, rfl, trivial⟩ (by intro _ h; exact h) ?_
  rintro ⟨J, i, xs, B, cb⟩ ⟨ez, hi, hl, hB⟩ ih
  simp only at ez hi hl hB ih ⊢
  have hf := hf.mono ez
  have hy := hy.mono ez
  refine Ah (Se rfl (Om rfl (Oh rfl ?_))); refine A4 rfl .free rfl ?_; refine On rfl (Oc rfl rfl rfl (Aa ?_)); refine Ay rfl ?_ ?_
  ·intro c2
   try simp only [nb] at c2
   have hi1 : i < t.parts.length := by omega
   have hpg := Tree.pt_good hg i hi1
   have hlt1 := t.pt_lt i hi1
   refine Aj (Ah (Aq ?_)); refine Tg 14 rfl rfl ?_; refine Da 0 rfl (Ao rfl) ?_; refine Dt 1 [13] rfl (By rfl) ?_; refine Da 2 rfl (Ao rfl) ?_; refine Dt 3 [13] rfl (By rfl) ?_; refine Da 4 rfl (Am rfl) ?_
   first | refine Da 5 rfl (Br rfl rfl _ rfl) ?_ | refine Da 5 rfl (Bs rfl rfl _ rfl) ?_
   refine Dt 6 [13] rfl (Bx rfl) ?_; refine Da 7 rfl (Am rfl) ?_; refine Dt 8 [13] rfl (C7 rfl) ?_; refine Dc 9 rfl rfl (ihn (t := t.pt i) Ab (hf.rp i hi1) hpg a ha0 hy _) ?_; rintro _ J1 _ e1 ⟨cs1, rfl, h1, rfl⟩; obtain ⟨o1, k1, _, rfl, -⟩ := h1.open; refine Hx ?_; refine Fy 10 rfl Ac rfl rfl rfl Ae Ae Ae Ad Ad Ae .free rfl (.inr At) ?_; intro b40
   refine Dg 11 (B := B) (xs := xs) (ys := [.string (str ((t.pt i).repl a y).atom), .slice o1 ((t.pt i).repl a y).parts.length k1]) (m := i) (c := cb) rfl Ac rfl Bl Ae rfl rfl hB (fun _ h => h.u2) Ae (fun a ha => by cases ha; exact Cm Hv Ae) Af Ae Ad Ab Ad .free rfl (fun _ => .inr At) ?_; intro B2 c2 hB2; refine Df (fun w h => Mem.w1 (Mem.sub (List.Sublist.append_left (.cons _ (.refl _)) _) h)) ?_; refine Da 12 rfl (Ao rfl) ?_; refine Ae1 13 rfl Ac rfl rfl rfl Og rfl .free (.inl Ac) ?_; refine Aw Ac ?_; refine Ar (Al rfl (Om rfl ?_)); refine Or rfl rfl rfl ?_; refine Oa rfl (Aa ?_)
   refine Bw (E' := [(1, .string (str a)), (3, .pointer (some ⟨b3, 0, none⟩)), (5, .pointer (some ⟨b5, 0, none⟩)), (6, .pointer (some ⟨b6, 0, none⟩)), (7, .pointer (some ⟨b7, 0, none⟩)), (8, .int .i64 ((i + 1 : Nat)))]) ⟨rfl, rfl, rfl, rfl, rfl, rfl, trivial⟩ (ih ⟨J1, i + 1, xs ++ [.string (str ((t.pt i).repl a y).atom), .slice o1 ((t.pt i).repl a y).parts.length k1], B2, c2⟩ ⟨ez.trans e1, by simp only; omega, ?_, hB2⟩ D1); rw [Xq _ _ _ _ hi1, ← Tree.pt_at hi1]
   exact (hl.mono e1).append (.one h1)
  intro c2
  try simp only [nb] at c2
  refine Cd rfl ?_; refine Ah ?_
  have hie : i = t.parts.length := by omega
  rw [hie, List.take_length] at hl; refine Bk (fun w h => h.u1) (Ru hl hB (by rw [Le, hie]) (by rw [Le]; unfold Be; omega) ?_); intro J2 oz cz ez2 hbv hst; rw [hbv]; refine Al rfl ?_; refine A8 rfl .free rfl ?_; refine Bu rfl rfl rfl rfl .free ?_; refine Aa ?_; refine Ak (.c rfl .nil) ?_
  exact ⟨J2, L, ez.trans ez2, Bt, _, rfl, by rw [hre, hat]; exact hst.form [] Ad, rfl⟩
theorem P0 {s a b : Au} {t x y : Tree} (h1 : Dn s = some t) (h2 : Dn a = some x) (h3 : Dn b = some y) : Iy s a b = if x.atom ≠ [] ∧ (Dn (t.repl a y).text).isSome = true then some (t.repl a y).text else none := by
 unfold Iy; rw [h1, h2, h3]
theorem Ht {s a b : Au} (h : Dn s = none ∨ Dn a = none ∨ Dn b = none) : Iy s a b = none := by
 unfold Iy
 rcases h with h | h | h
 ·rw [h]
 ·rw [h]; cases Dn s <;> rfl
 ·rw [h]; cases Dn s <;> cases Dn a <;> rfl
theorem Wo {p : Option Tree} {t : Tree} {ok : Bool} (hpf : match p with | some t0 => ok = true ∧ t = t0 | none => ok = false) : (ok = false → p = none) ∧ (ok = true → p = some t) := by
 cases p with
 | none => exact ⟨fun _ => rfl, fun h => (by rw [hpf] at h; cases h)⟩
 | some t0 => exact ⟨fun h => (by rw [hpf.1] at h; cases h), fun _ => (by rw [hpf.2])⟩
theorem Pd {s : Au} {t : Tree} (h : Dn s = some t) : s.length ≤ 12000 ∧ t.len ≤ 12000 := by
 have h1 := (Hm h).1
 simp only [Tree.fits, Bool.and_eq_true, decide_eq_true_eq] at h1
 exact ⟨by rw [← Js h, Tree.text_len]; exact h1.2, h1.2⟩
theorem V4 {s a b o : Au} (h : Iy s a b = some o) : o.length ≤ 12000 := by
 unfold Iy at h
 cases h1 : Dn s with
 | none => rw [h1] at h; cases h
 | some t =>
  cases h2 : Dn a with
  | none => rw [h1, h2] at h; cases h
  | some x =>
   cases h3 : Dn b with
   | none => rw [h1, h2, h3] at h; cases h
   | some y =>
    rw [h1, h2, h3] at h
    simp only at h
    split at h
    ·rename_i hh
     cases h
     obtain ⟨z, hz⟩ := Option.isSome_iff_exists.1 hh.2
     exact (Pd hz).1
    ·cases h
theorem Mz (s a b : Au) (hs : s.length ≤ Kw) (ha : a.length ≤ Kw) (hb : b.length ≤ 900) (I : Heap) (L : Bm) : Fun Tryz.prog 79 [.string (str s), .string (str a), .string (str b)] I L (EL (Iy s a b) L) := by
 refine Ap Af ?_; refine Se rfl (Oa rfl (Oa rfl (Aa (Se rfl (Om rfl ?_))))); refine Ca rfl (Hj s hs _ _) ?_; rintro _ J1 _ e1 ⟨t, cs1, ok1, rfl, hr1, rfl, hp1⟩; obtain ⟨o1, k1, _, rfl, -⟩ := hr1.open; refine Om rfl (Oe rfl rfl (Oe rfl rfl ?_)); refine A3 .free rfl ?_; intro b8; refine Bu rfl rfl rfl rfl .free ?_; refine Oa rfl (Aa (Se rfl (Om rfl ?_))); refine Ca rfl (Hj a ha _ _) ?_; rintro _ J2 _ e2 ⟨x, cs2, ok2, rfl, hr2, rfl, hp2⟩; obtain ⟨o2, k2, _, rfl, -⟩ := hr2.open; refine Om rfl (Oe rfl rfl (Oe rfl rfl ?_)); refine A3 .free rfl ?_; intro b10; refine Bu rfl rfl rfl rfl .free ?_
 refine Oa rfl (Aa (Se rfl (Om rfl ?_))); refine Ca rfl (Hj b (by unfold Kw; omega) _ _) ?_; rintro _ J3 _ e3 ⟨y, cs3, ok3, rfl, hr3, rfl, hp3⟩; obtain ⟨o3, k3, _, rfl, -⟩ := hr3.open
 have q1 := Wo hp1
 have q2 := Wo hp2
 have q3 := Wo hp3
 have hle := (e1.trans e2).trans e3
 refine Om rfl (Oe rfl rfl (Oe rfl rfl ?_)); refine A3 .free rfl ?_; intro b12; refine Bu rfl rfl rfl rfl .free ?_; refine Oa rfl (Aa (Ah (Se rfl (Om rfl ?_)))); refine C6 rfl .free rfl ?_; refine Om rfl ?_
 apply F9 32 35 rfl
 ·intro g4_3 hk
  try simp only [nb] at g4_3
  refine Ow rfl ?_; refine C6 rfl (.met rfl rfl) rfl ?_; refine Of rfl rfl ?_
  exact Av 2 rfl rfl hk
 ·intro _ hk; refine A0 2 rfl ?_; refine Ot rfl rfl ?_
  exact Av 2 rfl rfl hk
 refine Om rfl ?_
 apply F9 36 39 rfl
 ·intro g4_7 hk
  try simp only [nb] at g4_7
  refine Ow rfl ?_; refine C6 rfl (.met rfl rfl) rfl ?_; refine Of rfl rfl ?_
  exact Av 2 rfl rfl hk
 ·intro _ hk; refine A0 2 rfl ?_; refine Ot rfl rfl ?_
  exact Av 2 rfl rfl hk
 refine Om rfl ?_
 apply F9 40 44 rfl
 ·intro g4_11 hk
  try simp only [nb] at g4_11
  refine A2 rfl (.met rfl rfl) rfl ?_; refine A4 rfl (.met rfl rfl) rfl ?_; refine Ck rfl rfl rfl (.met rfl rfl) rfl ?_; refine Of rfl rfl ?_
  exact Av 3 rfl rfl hk
 ·intro _ hk; refine A0 3 rfl ?_; refine Ot rfl rfl ?_
  exact Av 3 rfl rfl hk
 refine Aa ?_; refine Ay rfl ?_ ?_
 ·intro c0
  try simp only [nb] at c0
  refine Se rfl (Oa rfl (Oa rfl (Aa ?_))); refine Ak (.tmp rfl (.tmp rfl .nil)) ?_; refine ⟨J3, L, hle, Bt, ?_, rfl⟩
  have hz : Iy s a b = none := by
   rcases c0 with ((h | h) | h) | h
   ·exact Ht (.inl (q1.1 h))
   ·exact Ht (.inr (.inl (q2.1 h)))
   ·exact Ht (.inr (.inr (q3.1 h)))
   ·cases hh1 : Dn s with
    | none => exact Ht (.inl hh1)
    | some t1 =>
     cases hh2 : Dn a with
     | none => exact Ht (.inr (.inl hh2))
     | some x1 =>
      cases hh3 : Dn b with
      | none => exact Ht (.inr (.inr hh3))
      | some y1 =>
       rw [hh2] at hp2; rw [P0 hh1 hh2 hh3, if_neg (by rw [← hp2.2]; exact fun e => e.1 h)]
  rw [hz]; rfl
 intro c0
 try simp only [nb] at c0
 obtain ⟨⟨⟨h1, h2⟩, h3⟩, h4⟩ := c0
 have p1 := q1.2 h1
 have p2 := q2.2 h2
 have p3 := q3.2 h3
 have f1 := Hm p1
 have f2 := Hm p2
 have f3 := Hm p3
 have l1 := (Pd p1).2
 have l3 : y.len ≤ 900 := by rw [← Tree.text_len, Js p3]; exact hb
 have z1 := M7 p1
 have hrl := t.repl_len a y
 have hmul : t.size * y.len ≤ 12000 * 900 := Nat.mul_le_mul z1 l3
 have hrg := Tree.repl_good (a := a) f1.2.1 f3.2.1
 have ha0 : a ≠ [] := by
  intro e
  have h5 := Js p2
  have h6 := Kv f2.2.1 h4
  cases x with
  | node n ps =>
   simp only [Tree.parts] at h6
   subst h6
   simp only [Tree.text, List.isEmpty_nil, cond_true] at h5
   exact h4 (h5.trans e)
 have hro := P0 p1 p2 p3
 refine Aj (Se rfl ?_); refine A8 rfl .free rfl ?_; refine Om rfl ?_; refine A8 rfl .free rfl ?_; refine Ca rfl (Vh _ (Nat.lt_succ_self _) ((hr1.mono e2).mono e3) f1.2.1 a ha0 hr3 _) ?_; rintro _ J4 _ e4 ⟨cs4, rfl, hr4, rfl⟩; refine Ca rfl (Lw _ (Nat.lt_succ_self _) hr4 hrg Ab _) ?_; rintro _ _ _ _ ⟨rfl, rfl, rfl⟩; refine Oa rfl (Aa (Ah (Se rfl (Om rfl ?_)))); refine Ca rfl (Vg _ (by rw [Tree.text_len]; unfold Kw; omega) _ _) ?_; rintro _ J5 _ e5 ⟨rfl, rfl⟩
 have hle := (hle.trans e4).trans e5
 refine C6 rfl .free rfl ?_; refine Aa ?_; refine Ay rfl ?_ ?_
 ·intro c1
  try simp only [nb] at c1
  refine Se rfl (Oa rfl (Oa rfl (Aa ?_))); refine Ak (.tmp rfl (.tmp rfl .nil)) ?_; refine ⟨J5, L, hle, Bt, ?_, rfl⟩; rw [hro, if_neg (by rintro ⟨-, h⟩; rw [c1] at h; cases h)]; rfl
 intro c1
 try simp only [nb] at c1
 refine Aj (Se rfl (Om rfl (Oa rfl (Oa rfl (Aa ?_))))); refine Ak (.tmp rfl (.tmp rfl .nil)) ?_; refine ⟨J5, L, hle, Bt, ?_, rfl⟩; rw [hro, if_pos ⟨h4, c1⟩]; rfl
theorem Ug (I : Heap) (oa ob : Option Addr) : ScAt I [] [] oa 0 ob 0 := ⟨Ho _ _, Ho _ _, rfl, (fun _ h => by cases h), (fun _ h => by cases h)⟩
theorem Za {I : Heap} {oa : Option Addr} {l : List UInt8} {c : Nat} (h : Bytes I oa l c) (hl : l.length ≤ 2000) (b p : Nat) (hp : p + 7000 ≤ 1099511627776) (L : Bm) :
  Fun Tryz.prog 77 [.pointer (some ⟨b, 0, none⟩)] I (rd b oa l c p :: L) (DT b oa l c p 7000 400000 L) := by
 have hle : HLe I I := .refl _
 have hk2 : kT 2 = 6 := rfl
 have hb2 : bT 2 = 19 := rfl
 refine Ap Af ?_; refine Se rfl (Oa rfl (Aa (Se rfl (Oa rfl (Aa (Ah (Se rfl (Om rfl ?_)))))))); refine Ca rfl (C0 h hl b _ 3 Ab Ad _) ?_; rintro _ _ _ _ ⟨r, rfl, rfl, rfl, hr⟩; refine Oc rfl rfl rfl (Aa ?_); refine Ay rfl ?_ ?_
 ·intro c0
  try simp only [nb] at c0
  refine Al rfl (Om rfl ?_); refine Ca rfl (Ku 2 h hl b _ Ab Ad Ad _) ?_; rintro _ J _ e ⟨w, pw, rfl, hw, hp1, hp2, rfl⟩
  have h := h.mono e
  have hle := hle.trans e
  refine Oa rfl (Aa (Ah ?_))
  try have hw := hw
  refine Al rfl (Om rfl ?_); refine El .free rfl ?_; intro b11; refine El .free rfl ?_; intro b12; refine B6 rfl rfl rfl .free rfl ?_; refine Om rfl (Om rfl ?_); refine En (fun w h => Mem.sub (L' := rd b oa l c _ :: L) Bz h) ?_; refine Ca rfl (C0 h hl b _ 3 Ab Ad _) ?_; rintro _ _ _ _ ⟨r2, rfl, rfl, rfl, hr2⟩
  have hr3 : r2 < 3 := by omega
  have hdd : ∃ d : Nat, (2 : Int) + (r2 : Nat) = (d : Nat) ∧ d ≤ 4 := ⟨2 + r2, by omega, by omega⟩
  obtain ⟨d, hd1, hd2⟩ := hdd; refine Or rfl rfl rfl ?_; refine C9 (t := 17) (v' := .int .i64 (d : Nat)) rfl (by rw [← hd1]) ?_; refine Ca rfl (Mf hd2 h hl b _ Ab (Ug _ _ _) Af _ (by first | omega | (simp; done) | decide) _) ?_; rintro _ J1 _ e1 ⟨s1, p1, rfl, hs1, hp3, hp4, rfl⟩
  have h := h.mono e1
  have hle := hle.trans e1
  refine Oa rfl (Aa (Ah (Se rfl (Om rfl ?_)))); refine Ca rfl (Lu s1 Cu _ _) ?_; rintro _ _ _ _ ⟨rfl, rfl, rfl⟩; refine Aa ?_; refine Ay rfl ?_ ?_
  ·intro c1
   try simp only [nb] at c1
   refine Se rfl (Om rfl (Oa rfl (Aa (Ak (.tmp rfl .nil) ?_))))
   exact ⟨_, _, hle, fun w h => Mem.sub (L' := rd b oa l c _ :: L) Bz h, _, _, rfl, by omega, by omega, by omega, rfl⟩
  intro c1
  try simp only [nb] at c1
  refine Aj (Se rfl (Om rfl ?_)); refine El .free rfl ?_; intro b23; refine El .free rfl ?_; intro b24; refine B6 rfl rfl rfl .free rfl ?_; refine Om rfl ?_; refine En (fun w h => Mem.sub (L' := rd b oa l c _ :: L) Bz h) ?_; refine Ca rfl (Mf (d := 2) Ad h hl b _ Ab (Ug _ _ _) Af _ (by first | omega | (simp; done) | decide) _) ?_; rintro _ J2 _ e2 ⟨s2, p2, rfl, hs2, hp5, hp6, rfl⟩
  have hle := hle.trans e2
  refine Oa rfl (Aa (Ak (.tmp rfl .nil) ?_))
  exact ⟨_, _, hle, fun w h => Mem.sub (L' := rd b oa l c _ :: L) Bz h, _, _, rfl, by omega, by omega, by omega, rfl⟩
 intro c0
 try simp only [nb] at c0
 refine Aj (Ah ?_)
 try have hw := hw
 refine Al rfl (Om rfl ?_); refine El .free rfl ?_; intro b11; refine El .free rfl ?_; intro b12; refine B6 rfl rfl rfl .free rfl ?_; refine Om rfl (Om rfl ?_); refine En (fun w h => Mem.sub (L' := rd b oa l c _ :: L) Bz h) ?_; refine Ca rfl (C0 h hl b _ 3 Ab Ad _) ?_; rintro _ _ _ _ ⟨r2, rfl, rfl, rfl, hr2⟩
 have hr3 : r2 < 3 := by omega
 have hdd : ∃ d : Nat, (2 : Int) + (r2 : Nat) = (d : Nat) ∧ d ≤ 4 := ⟨2 + r2, by omega, by omega⟩
 obtain ⟨d, hd1, hd2⟩ := hdd; refine Or rfl rfl rfl ?_; refine C9 (t := 17) (v' := .int .i64 (d : Nat)) rfl (by rw [← hd1]) ?_; refine Ca rfl (Mf hd2 h hl b _ Ab (Ug _ _ _) Af _ (by first | omega | (simp; done) | decide) _) ?_; rintro _ J1 _ e1 ⟨s1, p1, rfl, hs1, hp3, hp4, rfl⟩
 have h := h.mono e1
 have hle := hle.trans e1
 refine Oa rfl (Aa (Ah (Se rfl (Om rfl ?_)))); refine Ca rfl (Lu s1 Cu _ _) ?_; rintro _ _ _ _ ⟨rfl, rfl, rfl⟩; refine Aa ?_; refine Ay rfl ?_ ?_
 ·intro c1
  try simp only [nb] at c1
  refine Se rfl (Om rfl (Oa rfl (Aa (Ak (.tmp rfl .nil) ?_))))
  exact ⟨_, _, hle, fun w h => Mem.sub (L' := rd b oa l c _ :: L) Bz h, _, _, rfl, by omega, by omega, by omega, rfl⟩
 intro c1
 try simp only [nb] at c1
 refine Aj (Se rfl (Om rfl ?_)); refine El .free rfl ?_; intro b23; refine El .free rfl ?_; intro b24; refine B6 rfl rfl rfl .free rfl ?_; refine Om rfl ?_; refine En (fun w h => Mem.sub (L' := rd b oa l c _ :: L) Bz h) ?_; refine Ca rfl (Mf (d := 2) Ad h hl b _ Ab (Ug _ _ _) Af _ (by first | omega | (simp; done) | decide) _) ?_; rintro _ J2 _ e2 ⟨s2, p2, rfl, hs2, hp5, hp6, rfl⟩
 have hle := hle.trans e2
 refine Oa rfl (Aa (Ak (.tmp rfl .nil) ?_))
 exact ⟨_, _, hle, fun w h => Mem.sub (L' := rd b oa l c _ :: L) Bz h, _, _, rfl, by omega, by omega, by omega, rfl⟩
theorem Wq {s : Au} {l : List Au} (h : Ij s = some l) : l ≠ [] ∧ (∀ x ∈ l, x.length ≤ 12000) ∧ l.length ≤ 12000 := by
 unfold Ij at h
 cases hp : Dn s with
 | none => rw [hp] at h; cases h
 | some t =>
  rw [hp] at h
  simp only [Option.map_some, Option.some.injEq] at h
  subst h
  have h1 := (Pd hp).2
  have h2 := M7 hp
  refine ⟨Ym (Aaa t), fun x hx => ?_, ?_⟩
  ·rcases K2.1 hx with h3 | h3
   ·cases h3
   ·have := t.atom_len x h3; omega
  ·have := Hh [] t.atomL
   rw [t.atomL_len] at this
   simp only [List.length_nil, Nat.zero_add] at this
   exact Nat.le_trans this h2
theorem Aa2 {I : Heap} {oa : Option Addr} {l : List UInt8} {c : Nat} (h : Bytes I oa l c) (hl : l.length ≤ 2000) (b p : Nat) (hp : p + 8000 ≤ 1099511627776) (L : Bm) :
  Fun Tryz.prog 39 [.pointer (some ⟨b, 0, none⟩)] I (rd b oa l c p :: L) (DT b oa l c p 8000 400001 L) := by
 refine Ap Af ?_; refine Se rfl (Oa rfl (Aa (Se rfl (Om rfl ?_)))); refine Ca rfl (Za h hl b _ Ab _) ?_; rintro _ J1 _ e1 ⟨s, p1, rfl, hs, hp1, hp2, rfl⟩
 have h := h.mono e1
 refine Oa rfl (Aa (Ah (Se rfl (Om rfl ?_)))); refine Ca rfl (C0 h hl b _ 4 Ab Ad _) ?_; rintro _ _ _ _ ⟨r, rfl, rfl, rfl, hr⟩; refine Oc rfl rfl rfl (Aa ?_); refine Ay rfl ?_ ?_
 ·intro c0
  try simp only [nb] at c0
  refine Se rfl (Om rfl (Oa rfl (Aa (Ak (.tmp rfl .nil) ?_))))
  exact ⟨J1, _, e1, fun _ h => h, s, _, rfl, by omega, by omega, by omega, rfl⟩
 intro c0
 try simp only [nb] at c0
 refine Aj (Se rfl (Om rfl ?_)); refine Ca rfl (Vf s (by unfold Kw; omega) _ _) ?_; rintro _ J2 _ e2 ⟨o1, k1, rfl, hat, rfl⟩
 have h := h.mono e2
 have hle := e1.trans e2
 refine Om rfl (Oe rfl rfl (Oe rfl rfl (Oa rfl (Oa rfl (Aa (Ah (Se rfl (Om rfl ?_)))))))); refine C6 rfl .free rfl ?_; refine Aa ?_; refine Ay rfl ?_ ?_
 ·intro c1
  try simp only [nb] at c1
  refine Se rfl (Om rfl (Oa rfl (Aa (Ak (.tmp rfl .nil) ?_))))
  exact ⟨J2, _, hle, fun _ h => h, s, _, rfl, by omega, by omega, by omega, rfl⟩
 intro c1
 try simp only [nb] at c1
 obtain ⟨al, hal⟩ : ∃ al, Ij s = some al := Option.isSome_iff_exists.1 c1; rw [hal] at hat ⊢
 simp only [Option.getD_some] at hat ⊢
 obtain ⟨ha1, ha2, ha3⟩ := Wq hal
 have hapos := List.length_pos_iff.2 ha1
 have hanil := hat.nil'
 refine Aj (Ah ?_); refine L3 fun hlr => ?_
 refine Mp 17 rfl rfl ?_; refine Da 0 rfl (Am rfl) ?_; refine Da 1 rfl (Am rfl) ?_; refine Da 2 rfl (Am rfl) ?_; refine Da 3 rfl (Am rfl) ?_; refine Da 4 rfl (Gb rfl) ?_; refine Da 8 rfl (Am rfl) ?_; refine Dj 5 9 Ac ?_ ?_
 ·skip
  refine K9 5 rfl rfl rfl .free rfl (C0 h hl b _ al.length Ab Ab _) ?_; rintro _ _ _ _ ⟨r2, rfl, rfl, rfl, hr2⟩
  have hr3 : r2 < al.length := by omega
  have hst := hat.st r2 hr3
  have hel : (al.getD r2 []).length ≤ 12000 := ha2 _ (by rw [show al.getD r2 [] = al[r2] by simp [hr3]]; exact List.getElem_mem _)
  refine Hx ?_
  first | refine Da 6 rfl (Br rfl rfl _ rfl) ?_ | refine Da 6 rfl (Bs rfl rfl _ rfl) ?_
  refine Dt 7 [17] rfl (P5 rfl) ?_; refine Fy 9 rfl Ac rfl rfl rfl Ae Ae Ae Ad Ad Ae .free rfl (.inr At) ?_; intro b32; refine Ed ?_; intro hz
  have hk := N9 (I := J2) (b := b32) (e := 9) (l := [[97], [120], [49], [112, 97, 105, 114], [99, 97, 108, 108], [102, 115, 116], [105], [43], [40, 102, 115, 116, 32, 49, 41], [98, 55]]) Ad Ad
  have hlr := hlr.trans hz
  have h := h.mono hz
  have hat := hat.mono hz
  try have hst := hst.mono hz
  refine Dc 10 rfl rfl (Ez h hl b _ Ab hk Af _) ?_; rintro _ _ _ _ ⟨y, rfl, hy, rfl, rfl⟩
  have hyl : y.length ≤ 10 := by revert y; decide
  refine Hx ?_; refine Dc 11 rfl rfl (Mz s (al.getD r2 []) y (by unfold Kw; omega) (by unfold Kw; omega) Ab _ _) ?_; rintro _ J3 _ e3 ⟨rfl, rfl⟩
  have h := h.mono e3
  have hlr := hlr.trans e3
  have hol : ((Iy s (al.getD r2 []) y).getD []).length ≤ 12000 := by
   cases ho : Iy s (al.getD r2 []) y with
   | none => decide
   | some o => exact V4 ho
  refine Hx ?_; refine Da 12 rfl (Am rfl) ?_; refine Da 13 rfl (Co rfl rfl) ?_; refine Da 14 rfl (Co rfl rfl) ?_; refine Da 15 rfl (A5 rfl) ?_; refine Da 16 rfl (A5 rfl) ?_; refine Aw Ac ?_; refine Ah (Se rfl (Om rfl (Om rfl ?_)))
  first | refine Gu rfl rfl ?_ ?_ | refine E8 rfl rfl ?_ ?_ | refine Lv rfl rfl ?_ ?_
  ·intro g8_2; refine Ow rfl ?_; refine Cq rfl (.met rfl rfl) rfl (C0 h hl b _ 8 Ab Ad _) ?_; rintro _ _ _ _ ⟨r4, rfl, rfl, rfl, hr4⟩; refine Dq rfl rfl rfl (.met rfl rfl) rfl ?_; refine Ot rfl rfl (Aa ?_); refine Ay rfl ?_ ?_
   ·intro c2
    try simp only [nb] at c2
    refine Se rfl (Om rfl (Oa rfl (Aa (Ak (.tmp rfl .nil) ?_))))
    exact ⟨J3, _, hle.trans hlr, fun _ h => h, _, _, rfl, by omega, by omega, by omega, rfl⟩
   intro c2
   try simp only [nb] at c2
   refine Aj (Se rfl (Om rfl (Om rfl ?_))); refine Ol rfl rfl ?_; intro b46; refine Ei [[], [32], [41]] Ad Ad ?_; intro J5 e5 k5; refine Ca rfl (Ez (h.mono e5) hl b _ Ab k5 Af _) ?_; rintro _ _ _ _ ⟨z, rfl, hz, rfl, rfl⟩
   have hzl : z.length ≤ 1 := by revert z; decide
   refine Ok rfl rfl ?_; refine Oa rfl (Aa (Ak (.tmp rfl .nil) ?_))
   exact ⟨J5, _, (hle.trans hlr).trans e5, fun _ h => h, _, _, rfl, Ep, by omega, by omega, rfl⟩
  intro g8_2
  iterate 3 refine Cl rfl rfl rfl ?_
  refine Of rfl rfl (Aa ?_); refine As rfl ?_; refine Aj (Se rfl (Om rfl (Om rfl ?_))); refine Ol rfl rfl ?_; intro b46; refine Ei [[], [32], [41]] Ad Ad ?_; intro J5 e5 k5; refine Ca rfl (Ez (h.mono e5) hl b _ Ab k5 Af _) ?_; rintro _ _ _ _ ⟨z, rfl, hz, rfl, rfl⟩
  have hzl : z.length ≤ 1 := by revert z; decide
  refine Ok rfl rfl ?_; refine Oa rfl (Aa (Ak (.tmp rfl .nil) ?_))
  exact ⟨J5, _, (hle.trans hlr).trans e5, fun _ h => h, _, _, rfl, Ep, by omega, by omega, rfl⟩
 ·skip
  refine M6 9 rfl rfl rfl rfl Ae Ae Ae Ad Ad Ae .free rfl (.inr At) ?_; intro b32; refine Ed ?_; intro hz
  have hk := N9 (I := J2) (b := b32) (e := 9) (l := [[97], [120], [49], [112, 97, 105, 114], [99, 97, 108, 108], [102, 115, 116], [105], [43], [40, 102, 115, 116, 32, 49, 41], [98, 55]]) Ad Ad
  have hlr := hlr.trans hz
  have h := h.mono hz
  have hat := hat.mono hz
  try have hst := hst.mono hz
  refine Dc 5 rfl rfl (C0 h hl b _ al.length Ab Ab _) ?_; rintro _ _ _ _ ⟨r2, rfl, rfl, rfl, hr2⟩
  have hr3 : r2 < al.length := by omega
  have hst := hat.st r2 hr3
  have hel : (al.getD r2 []).length ≤ 12000 := ha2 _ (by rw [show al.getD r2 [] = al[r2] by simp [hr3]]; exact List.getElem_mem _)
  refine Hx ?_
  first | refine Da 6 rfl (Br rfl rfl _ rfl) ?_ | refine Da 6 rfl (Bs rfl rfl _ rfl) ?_
  refine Dt 7 [17] rfl (P5 rfl) ?_; refine Dc 10 rfl rfl (Ez h hl b _ Ab hk Af _) ?_; rintro _ _ _ _ ⟨y, rfl, hy, rfl, rfl⟩
  have hyl : y.length ≤ 10 := by revert y; decide
  refine Hx ?_; refine Dc 11 rfl rfl (Mz s (al.getD r2 []) y (by unfold Kw; omega) (by unfold Kw; omega) Ab _ _) ?_; rintro _ J3 _ e3 ⟨rfl, rfl⟩
  have h := h.mono e3
  have hlr := hlr.trans e3
  have hol : ((Iy s (al.getD r2 []) y).getD []).length ≤ 12000 := by
   cases ho : Iy s (al.getD r2 []) y with
   | none => decide
   | some o => exact V4 ho
  refine Hx ?_; refine Da 12 rfl (Am rfl) ?_; refine Da 13 rfl (Co rfl rfl) ?_; refine Da 14 rfl (Co rfl rfl) ?_; refine Da 15 rfl (A5 rfl) ?_; refine Da 16 rfl (A5 rfl) ?_; refine Aw Ac ?_; refine Ah (Se rfl (Om rfl (Om rfl ?_)))
  first | refine Gu rfl rfl ?_ ?_ | refine E8 rfl rfl ?_ ?_ | refine Lv rfl rfl ?_ ?_
  ·intro g8_2; refine Ow rfl ?_; refine Cq rfl (.met rfl rfl) rfl (C0 h hl b _ 8 Ab Ad _) ?_; rintro _ _ _ _ ⟨r4, rfl, rfl, rfl, hr4⟩; refine Dq rfl rfl rfl (.met rfl rfl) rfl ?_; refine Ot rfl rfl (Aa ?_); refine Ay rfl ?_ ?_
   ·intro c2
    try simp only [nb] at c2
    refine Se rfl (Om rfl (Oa rfl (Aa (Ak (.tmp rfl .nil) ?_))))
    exact ⟨J3, _, hle.trans hlr, fun _ h => h, _, _, rfl, by omega, by omega, by omega, rfl⟩
   intro c2
   try simp only [nb] at c2
   refine Aj (Se rfl (Om rfl (Om rfl ?_))); refine Ol rfl rfl ?_; intro b46; refine Ei [[], [32], [41]] Ad Ad ?_; intro J5 e5 k5; refine Ca rfl (Ez (h.mono e5) hl b _ Ab k5 Af _) ?_; rintro _ _ _ _ ⟨z, rfl, hz, rfl, rfl⟩
   have hzl : z.length ≤ 1 := by revert z; decide
   refine Ok rfl rfl ?_; refine Oa rfl (Aa (Ak (.tmp rfl .nil) ?_))
   exact ⟨J5, _, (hle.trans hlr).trans e5, fun _ h => h, _, _, rfl, Ep, by omega, by omega, rfl⟩
  intro g8_2
  iterate 3 refine Cl rfl rfl rfl ?_
  refine Of rfl rfl (Aa ?_); refine As rfl ?_; refine Aj (Se rfl (Om rfl (Om rfl ?_))); refine Ol rfl rfl ?_; intro b46; refine Ei [[], [32], [41]] Ad Ad ?_; intro J5 e5 k5; refine Ca rfl (Ez (h.mono e5) hl b _ Ab k5 Af _) ?_; rintro _ _ _ _ ⟨z, rfl, hz, rfl, rfl⟩
  have hzl : z.length ≤ 1 := by revert z; decide
  refine Ok rfl rfl ?_; refine Oa rfl (Aa (Ak (.tmp rfl .nil) ?_))
  exact ⟨J5, _, (hle.trans hlr).trans e5, fun _ h => h, _, _, rfl, Ep, by omega, by omega, rfl⟩
def DX (L : Bm) : C2 := fun v I' L' => ∃ s, v = .string (str s) ∧ List.length s ≤ 400001 ∧ L = L'
def DQ (L : Bm) : C2 := fun v I' L' => ∃ o1 n1 c1 o2 n2 c2 s, v = .tuple #[.slice o1 (List.length n1) c1, .slice o2 (List.length n2) c2, .string (str s)] ∧ Strs I' o1 n1 c1 ∧ Strs I' o2 n2 c2 ∧ n1.length ≤ 16 ∧ n2.length ≤ 16 ∧ (∀ s ∈ n1, s.length ≤ 16) ∧ (∀ s ∈ n2, s.length ≤ 16) ∧ List.length s ≤ 400001 ∧ L = L'
theorem R4 {e : Ex} (h : e.fine = true) : Ff e.tree.text = some e := by
 have hok : e.ok = true := by simp only [Ex.fine, Bool.and_eq_true] at h; exact h.1.1
 rw [Mc hok, if_pos h]
theorem Tn {s : Au} {e : Ex} (h : Ff s = some e) : e.fine = true ∧ e.ok = true ∧ e.size ≤ 120 ∧ e.tree.len ≤ 12000 ∧ s = e.tree.text := by
 obtain ⟨_, h2, h3⟩ := Jc h
 have h4 := h2
 simp only [Ex.fine, Bool.and_eq_true, Tree.fits, decide_eq_true_eq] at h4
 exact ⟨h2, h4.1.1, h4.1.2, h4.2.2, h3⟩
def Ex.many : Ex → Nat
 | .num _ => 1
 | .name _ => 1
 | .bin _ a b => 1 + a.many + b.many
 | .ite a b c => 1 + a.many + b.many + c.many
 | .lt _ a b => 1 + a.many + b.many
 | .fn _ _ _ _ b => 1 + b.many
 | .un _ a => 1 + a.many
theorem Ex.put_id : ∀ {e : Ex} {n : Au} {v : Ex}, n ∉ e.occ [] → e.put n v = e
 | .num _, n, v, h => rfl
 | .name s, n, v, h => by
  simp only [Ex.occ, List.not_mem_nil, if_false, List.mem_singleton] at h
  simp only [Ex.put]; rw [if_neg (fun e => h e.symm)]
 | .bin o a b, n, v, h => by
  simp only [Ex.occ, List.mem_append, not_or] at h
  simp only [Ex.put, Ex.put_id h.1, Ex.put_id h.2]
 | .ite a b c, n, v, h => by
  simp only [Ex.occ, List.mem_append, not_or] at h
  simp only [Ex.put, Ex.put_id h.1.1, Ex.put_id h.1.2, Ex.put_id h.2]
 | .lt x a b, n, v, h => by
  simp only [Ex.occ, List.mem_append, not_or, List.nil_append] at h
  simp only [Ex.put, Ex.put_id h.1]
  by_cases hx : x = n
  ·rw [if_pos hx]
  ·rw [if_neg hx, Ex.put_id]; intro hb; exact h.2 (Ex.occ_mem.2 ⟨hb, by simp only [List.mem_singleton]; exact fun e => hx e.symm⟩)
 | .fn f x s t b, n, v, h => by
  simp only [Ex.occ, List.nil_append] at h
  simp only [Ex.put]
  by_cases hx : f = n ∨ x = n
  ·rw [if_pos hx]
  ·rw [if_neg hx, Ex.put_id]; intro hb; refine h (Ex.occ_mem.2 ⟨hb, ?_⟩)
   simp only [List.mem_cons, List.not_mem_nil, or_false]
   rintro (e | e)
   ·exact hx (.inl e.symm)
   ·exact hx (.inr e.symm)
 | .un o a, n, v, h => by
  simp only [Ex.occ] at h
  simp only [Ex.put, Ex.put_id h]
def Ex.hd : Ex → Au
 | .num _ => [110, 117, 109, 98, 101, 114]
 | .name _ => [110, 97, 109, 101]
 | e => e.tree.head
def Ae2 (s : Au) : Au := match Ff s with
 | some e => e.hd
 | none => []
def Ae6 (s : Au) : Option (List Au) := (Ff s).map fun e => e.sub.map fun a => a.tree.text
def Ae8 (s : Au) : Int := match Ff s with
 | some e => (e.many : Nat)
 | none => -1
def Aex (s : Au) : Int := match Dn s with
 | some t => (t.size : Nat)
 | none => -1
def Abh (s : Au) : Nat := s.foldl (fun a c => 10 * a + (c.toNat - 48)) 0
theorem Abi (s : Au) (c : UInt8) : Abh (s ++ [c]) = 10 * Abh s + (c.toNat - 48) := by simp [Abh]
theorem R1 {d : Nat} (h : d < 10) : (UInt8.ofNat (48 + d)).toNat - 48 = d := by
 have : (UInt8.ofNat (48 + d)).toNat = 48 + d := by simp [UInt8.toNat_ofNat]; omega
 omega
theorem Sl : ∀ n : Nat, Abh (Jy n) = n := by
 intro n
 induction n using Nat.strongRecOn with
 | _ n ih =>
  by_cases h : n < 10
  ·rw [Hi h]
   show 10 * 0 + ((UInt8.ofNat (48 + n)).toNat - 48) = n
   rw [R1 h]; omega
  ·rw [Jk h, Abi, ih (n / 10) Ab, R1 (Nat.mod_lt _ Ab)]
   omega
theorem Aaj {a b : Nat} (h : Jy a = Jy b) : a = b := by
 have := congrArg Abh h
 rwa [Sl, Sl] at this
def nm (c : UInt8) (n : Nat) : Au := c :: Jy n
theorem Ad1 {c : UInt8} {a b : Nat} (h : nm c a = nm c b) : a = b := Aaj (List.cons.inj h).2
def Ae3 (c : UInt8) (av : List Au) (n : Nat) : Nat := ((List.range n).filter fun k => decide (nm c k ∈ av)).length
def frs (c : UInt8) (av : List Au) : Nat → Nat → Nat
 | 0, n => n
 | k + 1, n => if nm c n ∈ av then frs c av k (n + 1) else n
def fr (c : UInt8) (av : List Au) (n : Nat) : Nat := frs c av av.length n
def Ex.pl (av : List Au) : Ex → List Au → List Au → Nat → Ex × Nat
 | .num s, _, _, n => (.num s, n)
 | .name s, f, t, n => (.name (match De f s with | some i => t.getD i [] | none => s), n)
 | .bin o a b, f, t, n => let p := a.pl av f t n; let q := b.pl av f t p.2; (.bin o p.1 q.1, q.2)
 | .ite a b c, f, t, n => let p := a.pl av f t n; let q := b.pl av f t p.2; let r := c.pl av f t q.2; (.ite p.1 q.1 r.1, r.2)
 | .lt x a b, f, t, n => let k := fr 120 av n; let p := a.pl av f t (k + 1); let q := b.pl av (f ++ [x]) (t ++ [nm 120 k]) p.2; (.lt (nm 120 k) p.1 q.1, q.2)
 | .fn g x s u b, f, t, n => let k := fr 120 av n; let j := fr 120 av (k + 1); let p := b.pl av (f ++ [g, x]) (t ++ [nm 120 k, nm 120 j]) (j + 1); (.fn (nm 120 k) (nm 120 j) s u p.1, p.2)
 | .un o a, f, t, n => let p := a.pl av f t n; (.un o p.1, p.2)
def Ex.nb : Ex → Nat
 | .num _ => 0
 | .name _ => 0
 | .bin _ a b => a.nb + b.nb
 | .ite a b c => a.nb + b.nb + c.nb
 | .lt _ a b => 1 + a.nb + b.nb
 | .fn _ _ _ _ b => 2 + b.nb
 | .un _ a => a.nb
def namesL (l : List Au) : Prop := ∀ s ∈ l, Cb s = true
theorem namesL.add {l m : List Au} (h : namesL l) (h' : namesL m) : namesL (l ++ m) := by
 intro s hs
 rcases List.mem_append.1 hs with hs | hs
 ·exact h s hs
 ·exact h' s hs
theorem B5.txt_len (o : B5) : o.txt.length ≤ 4 := by cases o <;> decide
theorem U2.txt_len (o : U2) : o.txt.length ≤ 3 := by cases o <;> decide
theorem Ex.len_size : ∀ {e : Ex}, e.ok = true → e.tree.len + 1 ≤ 8 * e.size
 | .num s, h => by
  have h : Cc s = true := h
  have : s.length ≤ 4 := by
   simp only [Cc, Bool.or_eq_true, Bool.and_eq_true, decide_eq_true_eq] at h
   rcases h with h | h
   ·rw [h]; decide
   ·have h1 := h.1.1.2
    unfold C8 at h1
    split at h1
    ·simp only [List.length_drop] at h1; omega
    ·omega
  simp only [Ex.tree, Tree.len, List.isEmpty_nil, cond_true, Ex.size]; omega
 | .name s, h => by
  have := Fz (show Cb s = true from h)
  simp only [Ex.tree, Tree.len, List.isEmpty_nil, cond_true, Ex.size]; omega
 | .bin o a b, h => by
  simp only [Ex.ok, Bool.and_eq_true] at h
  have h1 := Ex.len_size h.1; have h2 := Ex.len_size h.2; have h3 := o.txt_len
  simp only [Ex.tree, Tree.len, F8, List.isEmpty_nil, List.isEmpty_cons, cond_true, cond_false, Ex.size]; omega
 | .ite a b c, h => by
  simp only [Ex.ok, Bool.and_eq_true] at h
  have h1 := Ex.len_size h.1.1; have h2 := Ex.len_size h.1.2; have h3 := Ex.len_size h.2
  simp only [Ex.tree, Tree.len, F8, List.isEmpty_nil, List.isEmpty_cons, cond_true, cond_false, Ex.size, Gs, List.length_cons, List.length_nil]; omega
 | .lt x a b, h => by
  simp only [Ex.ok, Bool.and_eq_true] at h
  have h1 := Ex.len_size h.1.2; have h2 := Ex.len_size h.2; have h3 := Fz h.1.1
  simp only [Ex.tree, Tree.len, F8, List.isEmpty_nil, List.isEmpty_cons, cond_true, cond_false, Ex.size, D0, List.length_cons, List.length_nil]; omega
 | .fn f x s t b, h => by
  simp only [Ex.ok, Bool.and_eq_true, decide_eq_true_eq] at h
  obtain ⟨⟨⟨⟨⟨h1, h2⟩, h3⟩, h4⟩, h5⟩, h6⟩ := h
  have k1 := Ex.len_size h6; have k2 := Fz h1; have k3 := Fz h2
  have k4 := s.tree_small; have k5 := t.tree_small; have k6 := s.size_pos; have k7 := t.size_pos
  simp only [Ex.tree, Tree.len, F8, List.isEmpty_nil, List.isEmpty_cons, cond_true, cond_false, Ex.size, Dz, List.length_cons, List.length_nil]; omega
 | .un o a, h => by
  have h1 := Ex.len_size (e := a) h; have h3 := o.txt_len
  simp only [Ex.tree, Tree.len, F8, List.isEmpty_nil, List.isEmpty_cons, cond_true, cond_false, Ex.size]; omega
def Ex.plain (e : Ex) : Ex := (e.pl e.free [] [] 0).1
def Aew (s : Au) : Option Au := (Ff s).map fun e => e.plain.tree.text
def Ae7 (l m : List Au) (s : Au) : Au := match De l s with
 | some i => m.getD i []
 | none => s
def rn (b : Nat) (oa : Option Addr) (av : List Au) (c n : Nat) : Nat × Obj := (b, .cells [.slice oa av.length c, .int .i64 (n : Nat)].toArray 179 (0, 0))
end Go.Proofs.YtmfagaajiakgoaaGreatDoor
