/- Types as they are drawn. No conditions. -/
import Derived.Test.YtmfagaajiakgoaaGreatDoorG10

namespace Go.Proofs.YtmfagaajiakgoaaGreatDoor
set_option maxRecDepth 100000
set_option linter.unusedVariables false
set_option linter.unusedSimpArgs false

def DT (b : Nat) (oa : Option Addr) (l : List UInt8) (c p K B : Nat) (L : Bj) : Cv := fun v I' L' => ∃ s p', v = .string (str s) ∧ List.length s ≤ B ∧ p ≤ p' ∧ p' ≤ p + K ∧ L' = rd b oa l c p' :: L
def kT : Nat → Nat
 | 0 => 0
 | d + 1 => 2 + 2 * kT d
def bT : Nat → Nat
 | 0 => 1
 | d + 1 => 5 + 2 * bT d
theorem Agd : ∀ d, 1 ≤ bT d
 | 0 => Nat.le_refl _
 | d + 1 => by simp only [bT]; omega
theorem L3 : ∀ (d : Nat) {I : Heap} {oa : Option Addr} {l : List UInt8} {c : Nat} (_ : Bytes I oa l c) (_ : l.length ≤ 2000) (b p : Nat) (_ : p + kT d ≤ 1099511627776) (_ : bT d ≤ 1000000) (_ : d ≤ 1000) (L : Bj),
  Fun Tryz.prog 134 [.pointer (some ⟨b, 0, none⟩), .int .i64 (d : Nat)] I (rd b oa l c p :: L) (DT b oa l c p (kT d) (bT d) L) := by
 intro d
 induction d with
 | zero =>
  intro I oa l c h hl b p hp hb hd L; refine Ao Ae ?_; refine Se rfl (Oa rfl (Ab (Ah (Se rfl (Om rfl (Oc rfl rfl rfl (Om rfl ?_)))))))
  first | refine Ago rfl rfl Ae ?_ | refine Agn rfl rfl Ae ?_
  iterate 3 refine Cy rfl rfl rfl ?_
  refine Ot rfl rfl (Ab ?_); refine B9 rfl ?_; refine Se rfl (Oa rfl (Ab (Am (.tmp rfl .nil) ?_)))
  exact ⟨I, _, .refl _, fun _ h => h, [105], p, rfl, by decide, Nat.le_refl _, by omega, rfl⟩
 | succ d ihd =>
  intro I oa l c h hl b p hp hb hd L
  simp only [kT, bT] at hp hb ⊢
  have hbp := Agd d
  refine Ao Ae ?_; refine Se rfl (Oa rfl (Ab (Ah (Se rfl (Om rfl (Oc rfl rfl rfl (Om rfl ?_)))))))
  first | refine Agl rfl rfl Aa ?_ | refine Agk rfl rfl Aa ?_
  refine Ow rfl ?_; refine Cx rfl (.met rfl rfl) rfl (D3 h hl b p 2 Aa Ad L) ?_; rintro _ _ _ _ ⟨r, rfl, rfl, rfl, hr⟩; refine D8 rfl rfl rfl (.met rfl rfl) rfl ?_; refine Of rfl rfl (Ab ?_); refine Si rfl ?_ ?_
  ·intro c0; refine Se rfl (Oa rfl (Ab (Am (.tmp rfl .nil) ?_)))
   exact ⟨I, _, .refl _, fun _ h => h, [105], p + 1, rfl, by simp; omega, by omega, by omega, rfl⟩
  intro c0; refine Ak (Se rfl (Om rfl ?_)); refine Ol rfl rfl ?_; intro b13; refine Eb [[62], [42]] Ad Ad ?_; intro J e1 k1; refine Ca rfl (Fc (h.mono e1) hl b (p + 1) Aa k1 Ae L) ?_; rintro _ _ _ _ ⟨s, rfl, hs, rfl, rfl⟩
  have hsl : s.length = 1 := by revert s; decide
  refine Ok rfl rfl ?_; refine Ok rfl rfl ?_; refine Om rfl (Om rfl ?_); refine Or rfl rfl rfl ?_; refine Gl (t := 19) (v' := .int .i64 (d : Nat)) rfl F7 ?_; refine Ca rfl (ihd (h.mono e1) hl b (p + 1 + 1) Aa Aa Aa L) ?_; rintro _ J2 _ e2 ⟨s1, p1, rfl, hs1, hp1, hp2, rfl⟩; refine Ok rfl rfl ?_; refine Ok rfl rfl ?_; refine Om rfl (Om rfl ?_); refine Or rfl rfl rfl ?_; refine Gl (t := 25) (v' := .int .i64 (d : Nat)) rfl F7 ?_; refine Ca rfl (ihd ((h.mono e1).mono e2) hl b p1 Aa Aa Aa L) ?_; rintro _ J3 _ e3 ⟨s2, p2, rfl, hs2, hp3, hp4, rfl⟩; refine Ok rfl rfl ?_; refine Ok rfl rfl ?_
  refine Oa rfl (Ab (Am (.tmp rfl .nil) ?_))
  exact ⟨J3, _, (e1.trans e2).trans e3, fun _ h => h, _, p2, rfl, by simp; omega, by omega, by omega, rfl⟩
def Lg (n : Nat) : As := if n < 10 then [UInt8.ofNat (48 + n)] else Lg (n / 10) ++ [UInt8.ofNat (48 + n % 10)]
theorem G2 {n : Nat} (h : n < 10) : Lg n = [UInt8.ofNat (48 + n)] := by rw [Lg, if_pos h]
theorem I0 {n : Nat} (h : ¬ n < 10) : Lg n = Lg (n / 10) ++ [UInt8.ofNat (48 + n % 10)] := by rw [Lg, if_neg h]
section rules
variable {P : Program} {f : FuncId} {n : Nat} {I₀ : Heap} {Q : Cv} {k : List Item} {E : Hg} {I : Heap} {L : Bj}
variable {ops : Array Oper} {d : Nat} {ty : TypeId} {pos : String} {af : Array Edge} {g : Option (Nat × Bool)} {l : List Oper}
theorem Afx {m : Int} (h : 0 ≤ m ∧ m < 256) : IntKind.u8.wrap m = m := by
 simp [IntKind.wrap, IntKind.bits, IntKind.signed]; omega
theorem Vn {S : World → Prop} {src dst sz bb sz2 bb2 : Nat} {z z2 : List Value} [hs : At P src (.int .i64) sz bb z] [hd : At P dst (.int .u8) sz2 bb2 z2] {x : Operand} {a : Nat} (hx : Ch E x = some (.int .i64 (a : Nat))) (ha : a < 256) :
  Ia P E S ⟨some d, .convert src dst x, ty, pos, af, g⟩ (.int .u8 (a : Nat)) := fun ac w he _ => by
 simp only [execOp, he.eval hx]
 refine Ag (a := .int .u8 (a : Nat)) (w' := w) ?_ |>.trans rfl
 unfold convert
 rw [Ag (A3 hs.und w), Ag (A3 hd.und w)]
 simp only [Conv.intToInt]
 rw [Afx (by omega)]
 rfl
theorem Aby {src dst sz bb sz2 bb2 : Nat} {z z2 : List Value} [hs : At P src (.int .i64) sz bb z] [hd : At P dst (.int .u8) sz2 bb2 z2] {x : Operand} {a : Nat} (hx : Ch E x = some (.int .i64 (a : Nat))) (ha : a < 256) (hg : Wants ops E g) (hdn : Nat.blt d n = true)
  (h : A8 P f n I₀ Q ops l k ((d, .int .u8 (a : Nat)) :: E) I L) : A8 P f n I₀ Q ops (⟨some d, .convert src dst x, ty, pos, af, g⟩ :: l) k E I L := Es (Vn hx ha) hg hdn h
theorem N7 {src dst e sz bb sz2 bb2 sz3 bb3 : Nat} {z z2 z3 : List Value} [hs : At P src (.slice e) sz bb z] [he : At P e (.int .u8) sz3 bb3 z3] [hd : At P dst .string sz2 bb2 z2] {x : Operand} {ad : Addr} {c a : Nat} (hx : Ch E x = some (.slice (some ad) 1 c)) (hr : He I L ad [.int .u8 (a : Nat)]) :
  Ia P E (Mem I L) ⟨some d, .convert src dst x, ty, pos, af, g⟩ (.string (str [UInt8.ofNat a])) := fun ac w he' hm => by
 simp only [execOp, he'.eval hx]
 refine Ag (a := .string (str [UInt8.ofNat a])) (w' := w) ?_ |>.trans rfl
 unfold convert
 rw [Ag (A3 hs.und w), Ag (A3 hd.und w)]
 simp only []
 rw [Ag (A3 he.und w)]
 simp only [Conv.bytesToString]
 have hl : (loadCells ad 1).run P w = .ok [Value.int .u8 (a : Nat)].toArray w := Ln [.int .u8 (a : Nat)] (hr w hm)
 rw [Ag hl]
 rfl
end rules
theorem R1 {n : Nat} (h : n ≤ 1000000000) : (Lg n).length ≤ 12 := by
 have key : ∀ (k m : Nat), m < 10 ^ (k + 1) → (Lg m).length ≤ k + 1 := by
  intro k
  induction k with
  | zero => intro m hm; rw [G2 Aa]; simp
  | succ k ih =>
   intro m hm
   by_cases h1 : m < 10
   ·rw [G2 h1]; simp
   ·rw [I0 h1, List.length_append]
    have := ih (m / 10) (by rw [Nat.pow_succ] at hm; omega)
    simp only [List.length_cons, List.length_nil]; omega
 exact Nat.le_trans (key 10 n Aa) Ad
theorem Wa : ∀ (k n : Nat) (_ : n < k) (_ : n ≤ 1000000000) (I : Heap) (L : Bj), Fun Tryz.prog 101 [.int .i64 (n : Nat)] I L (E2 (.string (str (Lg n))) I L) := by
 intro k
 induction k with
 | zero => intro n h; omega
 | succ k ihk =>
  intro n hlt hn I L; refine Ao Ae ?_; refine Se rfl (Oa rfl (Ab (Ah (Se rfl (Om rfl (Oc rfl rfl rfl (Ab ?_)))))))
  first | refine Sf rfl Aa ?_ | refine A0 Ar ?_
  refine Ak (Ah (Se rfl (Om rfl (Oc rfl rfl rfl (Ab ?_)))))
  first | refine Sf rfl Aa ?_ | refine A0 Ar ?_
  refine Ak (Ah (Se rfl (Om rfl (Oc rfl rfl rfl (Ab ?_))))); refine A6 rfl ?_ ?_
  ·intro c2
   try simp only [nb] at c2
   refine Ah ?_
   have h10 : n < 10 := by omega
   refine Al rfl (Om rfl ?_); refine Or rfl rfl rfl ?_; refine Gl (t := 14) (v' := .int .i64 ((48 + n : Nat))) rfl (by congr 1) ?_; refine Aby rfl Aa .free rfl ?_; refine Ol rfl rfl ?_; intro b16; refine Es (N7 rfl (Bw G7 Ac)) .free rfl ?_; refine Oa rfl (Ab (Am (.tmp rfl .nil) ?_)); refine only rfl ?_; rw [G2 h10]; rfl
  intro c2
  try simp only [nb] at c2
  refine Ak (Ah ?_)
  have h10 : ¬ n < 10 := by omega
  obtain ⟨q, hq, hq2⟩ : ∃ q, q = n / 10 ∧ q < n := ⟨_, rfl, by omega⟩; obtain ⟨r, hr, hr2⟩ : ∃ r, r = n % 10 ∧ r < 10 := ⟨_, rfl, Nat.mod_lt _ Aa⟩
  have hdl := R1 (n := q) Aa
  refine Fh 11 rfl rfl ?_; refine Da 0 rfl (Ai rfl) ?_; refine Da 1 rfl (Aey (b := 10) rfl rfl Aa Aa) ?_; refine G8 (t := 19) (v' := .int .i64 (q : Nat)) rfl (by rw [hq]) ?_; refine Da 3 rfl (Ai rfl) ?_; refine Da 4 rfl (Aax (b := 10) rfl rfl Aa) ?_; refine G8 (t := 22) (v' := .int .i64 (r : Nat)) rfl (by rw [hr]) ?_; refine Da 5 rfl (H2 rfl rfl rfl Aa) ?_; refine G8 (t := 23) (v' := .int .i64 ((48 + r : Nat))) rfl (by congr 1) ?_; refine Da 6 rfl (Vn rfl Aa) ?_; refine Gd 2 7 Af ?_ ?_
  ·skip
   refine Qk 2 rfl rfl rfl .free rfl (ihk q Aa Aa _ _) ?_; rintro _ _ _ _ ⟨rfl, rfl, rfl⟩; refine Hx ?_; refine Fg 7 rfl Af rfl rfl rfl Ac Ac Ac Ad Ad Ac .free rfl (.inr Au) ?_; intro b25; refine Sm 8 rfl Af rfl (N7 rfl (Bw G7 Ac)) .free rfl (.inr Au) ?_; refine Da 9 rfl (Yk rfl rfl) ?_; refine Da 10 rfl (Bk rfl) ?_; refine A5 Af ?_; refine Am (.tmp rfl .nil) ?_; refine only rfl ?_; rw [I0 h10, ← hq, ← hr]; rfl
  ·skip
   refine Ep 7 rfl rfl rfl rfl Ac Ac Ac Ad Ad Ac .free rfl (.inr Au) ?_; intro b25; refine Gd 2 8 Af ?_ ?_
   ·skip
    refine Qk 2 rfl rfl rfl .free rfl (ihk q Aa Aa _ _) ?_; rintro _ _ _ _ ⟨rfl, rfl, rfl⟩; refine Hx ?_; refine Sm 8 rfl Af rfl (N7 rfl (Bw G7 Ac)) .free rfl (.inr Au) ?_; refine Da 9 rfl (Yk rfl rfl) ?_; refine Da 10 rfl (Bk rfl) ?_; refine A5 Af ?_; refine Am (.tmp rfl .nil) ?_; refine only rfl ?_; rw [I0 h10, ← hq, ← hr]; rfl
   ·skip
    refine Ri 8 rfl rfl (N7 rfl (Bw G7 Ac)) .free rfl (.inr Au) ?_; refine Dc 2 rfl rfl (ihk q Aa Aa _ _) ?_; rintro _ _ _ _ ⟨rfl, rfl, rfl⟩; refine Hx ?_; refine Da 9 rfl (Yk rfl rfl) ?_; refine Da 10 rfl (Bk rfl) ?_; refine A5 Af ?_; refine Am (.tmp rfl .nil) ?_; refine only rfl ?_; rw [I0 h10, ← hq, ← hr]; rfl
def Ex.value : Ex → Bool
 | .num _ => true
 | .fn _ _ _ _ _ => true
 | .bin .pair a b => a.value && b.value
 | _ => false
def Ex.print : Ex → Tree
 | .bin .pair a b => .node [] [.node Et [], a.print, b.print]
 | .fn _ _ _ _ _ => .node Dk []
 | e => e.tree
theorem Ab2 (a b : Tree) : (Tree.node [] [.node Et [], a, b]).text = [40, 112, 97, 105, 114, 32] ++ a.text ++ [32] ++ b.text ++ [41] := by
 simp [Tree.text, Gm, Et]
def Wy (s : As) : Option Ex := match Cr s with
 | some e => if e.value = true then some e else none
 | none => none
def Ahy (s : As) : Option As := (Wy s).map fun e => e.print.text
def Ty.sample : Ty → Ex
 | .i => .num [48]
 | .pr a b => .bin .pair a.sample b.sample
 | .fn a b => .fn [102] [120] a b b.sample
theorem Ty.sample_ok : ∀ {t : Ty}, t.size ≤ 16 → t.sample.ok = true
 | .i, _ => by decide
 | .pr a b, h => by
  simp only [Ty.size] at h
  simp only [Ty.sample, Ex.ok, Bool.and_eq_true]
  exact ⟨Ty.sample_ok (by omega), Ty.sample_ok (by omega)⟩
 | .fn a b, h => by
  simp only [Ty.size] at h
  simp only [Ty.sample, Ex.ok, Bool.and_eq_true, decide_eq_true_eq]
  exact ⟨⟨⟨⟨⟨by decide, by decide⟩, by decide⟩, by omega⟩, by omega⟩, Ty.sample_ok (by omega)⟩
theorem Ty.sample_len : ∀ {t : Ty}, t.size ≤ 16 → t.sample.tree.len ≤ 200 * t.size
 | .i, _ => by decide
 | .pr a b, h => by
  simp only [Ty.size] at h ⊢
  have h1 := Ty.sample_len (t := a) (by omega)
  have h2 := Ty.sample_len (t := b) (by omega)
  simp only [Ty.sample, Ex.tree, Tree.len, Gs, List.isEmpty_cons, cond_false, List.isEmpty_nil, cond_true, B5.txt, Et, List.length_cons, List.length_nil]
  omega
 | .fn a b, h => by
  simp only [Ty.size] at h ⊢
  have h2 := Ty.sample_len (t := b) (by omega)
  have h3 := a.tree_small
  have h4 := b.tree_small
  simp only [Ty.sample, Ex.tree, Tree.len, Gs, List.isEmpty_cons, cond_false, List.isEmpty_nil, cond_true, Dk, List.length_cons, List.length_nil]
  omega
theorem Ty.sample_chk : ∀ {t : Ty} {l : List As} {m : List Ty}, t.size ≤ 16 → t.sample.chk l m = .ok t
 | .i, l, m, _ => rfl
 | .pr a b, l, m, h => by
  have h0 := h
  simp only [Ty.size] at h
  simp only [Ty.sample, Ex.chk, Ty.sample_chk (t := a) (l := l) (m := m) (by omega), Ty.sample_chk (t := b) (l := l) (m := m) (by omega), B5.ty, if_pos h0]
 | .fn a b, l, m, h => by
  have h0 := h
  simp only [Ty.size] at h
  simp only [Ty.sample, Ex.chk, if_pos h0, Ty.sample_chk (t := b) (by omega), if_true]
theorem Ty.sample_value : ∀ t : Ty, t.sample.value = true
 | .i => rfl
 | .pr a b => by simp [Ty.sample, Ex.value, a.sample_value, b.sample_value]
 | .fn a b => rfl
def Ex.txt (e : Ex) : As := e.tree.text
theorem Ty.sample_textlen {t : Ty} (h : t.size ≤ 16) : t.sample.tree.text.length ≤ 3200 := by
 have := Ty.sample_len h; rw [Tree.text_len]; omega
theorem Ac9 (f x : As) (s t : Ty) (b : Ex) : (Ex.fn f x s t b).tree.text = [40, 102, 117, 110, 32] ++ f ++ [32] ++ x ++ [32] ++ s.tree.text ++ [32] ++ t.tree.text ++ [32] ++ b.tree.text ++ [41] := by
 simp [Ex.tree, Tree.text, Gm, Dk]
def Ru (s : As) : Option As := match M0 s with
 | some t => if t.sample.fine = true then some t.sample.tree.text else none
 | none => none
theorem Qz {s : As} (h : M0 s = none) : Ru s = none := by unfold Ru; rw [h]
theorem Q0 {s : As} {t : Ty} (h : M0 s = some t) : Ru s = if t.sample.fine = true then some t.sample.tree.text else none := by unfold Ru; rw [h]
theorem Aee {s o : As} (h : Ru s = some o) : ∃ t, M0 s = some t ∧ s = t.tree.text ∧ Fo o = some t.sample ∧ Cr o = some t.sample ∧ tyC o = some t ∧ (Wy o).isSome = true ∧ o.length ≤ 3200 := by
 cases ht : M0 s with
 | none => rw [Qz ht] at h; cases h
 | some t =>
  rw [Q0 ht] at h; obtain ⟨h1, h2, h3⟩ := Vk ht
  split at h
  ·rename_i hf
   cases h
   have hx := Ly (Ty.sample_ok h2)
   rw [if_pos hf] at hx
   have hty : t.sample.ty [] [] = some t := by unfold Ex.ty; rw [Ty.sample_chk h2]
   have hc : Cr t.sample.tree.text = some t.sample := by
    unfold Cr; rw [hx]; simp [Ex.ty_closed hty]
   refine ⟨t, rfl, h3, hx, hc, ?_, ?_, Ty.sample_textlen h2⟩
   ·unfold tyC; rw [hx]; exact hty
   ·unfold Wy; rw [hc]; simp [t.sample_value]
  ·cases h
theorem Adh : ∀ (n : Nat) {I : Heap} {t : Ty} {cs : List Value} (_ : SizeOf.sizeOf t < n) (_ : Rep I t.tree cs) (_ : t.size ≤ 16) (L : Bj), Fun Tryz.prog 206 [.agg cs.toArray] I L (E2 (.string (str t.sample.tree.text)) I L) := by
 intro n
 induction n with
 | zero => intro I t cs h; omega
 | succ n ihn =>
  intro I t cs hlt h hsz L; obtain ⟨oc, cc, oaf, cf, rfl, hf⟩ := h.at'
  have hg := t.tree_good.1
  have hfn := hf.nil
  refine Ao Ae ?_; refine Se rfl ?_; refine Cm rfl rfl .free rfl ?_; intro b1; refine Oa rfl (Ab (Ah (Se rfl (Oh rfl ?_)))); refine Bv rfl .free rfl ?_; refine Od rfl rfl rfl (Ab ?_); refine A6 rfl ?_ ?_
  ·intro c0
   try simp only [nb] at c0
   refine Se rfl (Oa rfl (Ab (Am (.tmp rfl .nil) ?_))); refine only rfl ?_
   cases t with
   | i => rfl
   | fn a b => exact absurd rfl c0
   | pr a b => exact absurd rfl c0
  intro c0
  try simp only [nb] at c0
  have hpl : t.tree.parts.length = 3 := by
   cases t with
   | i => exact absurd c0 Ad
   | fn a b => rfl
   | pr a b => rfl
  have hhd := I7 (t := t.tree) Aa
  refine Ak (Ah (Se rfl (Oh rfl ?_))); refine Bv rfl .free rfl ?_
  first | refine Bs rfl rfl 0 rfl .free rfl ?_ | refine Bt rfl rfl 0 rfl .free rfl ?_
  refine Bh rfl .free rfl ?_; refine Gj rfl .free rfl ?_; refine Od rfl rfl rfl (Ab ?_); refine A6 rfl ?_ ?_
  ·intro c1
   try simp only [nb] at c1
   obtain ⟨a, b, rfl⟩ : ∃ a b, t = .pr a b := by
    cases t with
    | i => exact absurd c0 Ad
    | pr a b => exact ⟨a, b, rfl⟩
    | fn a b => exact absurd (show ([62] : As) = [42] from c1) Ad
   simp only [Ty.pr.sizeOf_spec] at hlt
   simp only [Ty.size] at hsz
   have ha16 : a.size ≤ 16 := by omega
   have hb16 : b.size ≤ 16 := by omega
   have hl1 := Ty.sample_textlen ha16
   have hl2 := Ty.sample_textlen hb16
   refine Ah ?_; refine Fh 15 rfl rfl ?_; refine Da 0 rfl (Aj rfl) ?_; refine Dt 1 [15] rfl (Bo rfl) ?_
   first | refine Da 2 rfl (Bc rfl rfl 1 rfl) ?_ | refine Da 2 rfl (Bd rfl rfl 1 rfl) ?_
   refine Dt 3 [15] rfl (C5 rfl) ?_; refine Da 7 rfl (Aj rfl) ?_; refine Dt 8 [15] rfl (Bo rfl) ?_
   first | refine Da 9 rfl (Bc rfl rfl 2 rfl) ?_ | refine Da 9 rfl (Bd rfl rfl 2 rfl) ?_
   refine Dt 10 [15] rfl (C5 rfl) ?_; refine Dc 4 rfl rfl (ihn (t := a) Aa (hf.as 1 a.tree Aa rfl) ha16 _) ?_; rintro _ _ _ _ ⟨rfl, rfl, rfl⟩; refine Hx ?_; refine Da 5 rfl (Yk rfl rfl) ?_; refine Da 6 rfl (Yk rfl rfl) ?_; refine Dc 11 rfl rfl (ihn (t := b) Aa (hf.as 2 b.tree Aa rfl) hb16 _) ?_; rintro _ _ _ _ ⟨rfl, rfl, rfl⟩; refine Hx ?_; refine Da 12 rfl (Yk rfl rfl) ?_; refine Da 13 rfl (Yk rfl rfl) ?_; refine Da 14 rfl (Bk rfl) ?_; refine A5 Af ?_; refine Am (.tmp rfl .nil) ?_; refine only rfl ?_
   have := Ab2 a.sample.tree b.sample.tree
   rw [show (Ty.pr a b).sample.tree.text = _ from this]; rfl
  intro c1
  try simp only [nb] at c1
  obtain ⟨a, b, rfl⟩ : ∃ a b, t = .fn a b := by
   cases t with
   | i => exact absurd c0 Ad
   | fn a b => exact ⟨a, b, rfl⟩
   | pr a b => exact absurd rfl c1
  simp only [Ty.fn.sizeOf_spec] at hlt
  simp only [Ty.size] at hsz
  have ha16 : a.size ≤ 16 := by omega
  have hb16 : b.size ≤ 16 := by omega
  have hl1 := Ty.text_len ha16
  have hl2 := Ty.text_len hb16
  have hl3 := Ty.sample_textlen hb16
  have hs1 := a.tree_small
  have hs2 := b.tree_small
  refine Ak (Ah ?_); refine Fh 22 rfl rfl ?_; refine Da 0 rfl (Aj rfl) ?_; refine Dt 1 [22] rfl (Bo rfl) ?_
  first | refine Da 2 rfl (Bc rfl rfl 1 rfl) ?_ | refine Da 2 rfl (Bd rfl rfl 1 rfl) ?_
  refine Dt 3 [22] rfl (C5 rfl) ?_; refine Da 7 rfl (Aj rfl) ?_; refine Dt 8 [22] rfl (Bo rfl) ?_
  first | refine Da 9 rfl (Bc rfl rfl 2 rfl) ?_ | refine Da 9 rfl (Bd rfl rfl 2 rfl) ?_
  refine Dt 10 [22] rfl (C5 rfl) ?_; refine Da 14 rfl (Aj rfl) ?_; refine Dt 15 [22] rfl (Bo rfl) ?_
  first | refine Da 16 rfl (Bc rfl rfl 2 rfl) ?_ | refine Da 16 rfl (Bd rfl rfl 2 rfl) ?_
  refine Dt 17 [22] rfl (C5 rfl) ?_; refine Dc 4 rfl rfl (Kq (t := a.tree) _ (Nat.lt_succ_self _) (hf.as 1 a.tree Aa rfl) a.tree_good.1 Aa _) ?_; rintro _ _ _ _ ⟨rfl, rfl, rfl⟩; refine Hx ?_; refine Da 5 rfl (Yk rfl rfl) ?_; refine Da 6 rfl (Yk rfl rfl) ?_; refine Dc 11 rfl rfl (Kq (t := b.tree) _ (Nat.lt_succ_self _) (hf.as 2 b.tree Aa rfl) b.tree_good.1 Aa _) ?_; rintro _ _ _ _ ⟨rfl, rfl, rfl⟩; refine Hx ?_; refine Da 12 rfl (Yk rfl rfl) ?_; refine Da 13 rfl (Yk rfl rfl) ?_; refine Dc 18 rfl rfl (ihn (t := b) Aa (hf.as 2 b.tree Aa rfl) hb16 _) ?_; rintro _ _ _ _ ⟨rfl, rfl, rfl⟩; refine Hx ?_
  refine Da 19 rfl (Yk rfl rfl) ?_; refine Da 20 rfl (Yk rfl rfl) ?_; refine Da 21 rfl (Bk rfl) ?_; refine A5 Af ?_; refine Am (.tmp rfl .nil) ?_; refine only rfl ?_
  have := Ac9 [102] [120] a b b.sample
  rw [show (Ty.fn a b).sample.tree.text = _ from this]; rfl
def smp (t : Tree) : Ex := (t.ty.getD .i).sample
theorem P1 (a : Ty) : smp a.tree = a.sample := by unfold smp; rw [a.tree_ty]; rfl
theorem Afd {I : Heap} {t : Tree} {cs : List Value} (h : Rep I t cs) (ht : ∃ a : Ty, t = a.tree ∧ a.size ≤ 16) (L : Bj) : Fun Tryz.prog 206 [.agg cs.toArray] I L (E2 (.string (str (smp t).tree.text)) I L) := by
 obtain ⟨a, rfl, h1⟩ := ht; rw [P1]
 exact Adh _ (Nat.lt_succ_self _) h h1 L
theorem X0 (s : As) (hs : s.length ≤ Bg) (I : Heap) (L : Bj) : Fun Tryz.prog 195 [.string (str s)] I L (EL (Ru s) L) := by
 refine Ao Ae ?_; refine Se rfl (Oa rfl (Oa rfl (Ab (Se rfl (Om rfl ?_))))); refine Ca rfl (Uy s hs _ _) ?_; rintro _ J _ e1 ⟨t, cs, ok, rfl, hrep, rfl, hpf⟩; obtain ⟨o1, k1, _, rfl, -⟩ := hrep.open
 have hty := Vj hpf
 refine Om rfl (Oe rfl rfl (Oe rfl rfl ?_)); refine A1 .free rfl ?_; intro b4; refine By rfl rfl rfl rfl .free ?_; refine Oa rfl (Ab (Ah (Se rfl (Om rfl ?_)))); refine Ei rfl .free rfl ?_; refine Om rfl ?_
 apply G4 13 17 rfl
 ·intro g2_3 hk
  try simp only [nb] at g2_3
  have hp := Ga (Iy hpf g2_3)
  refine Az rfl (.met rfl rfl) rfl ?_; refine Cx rfl (.met rfl rfl) rfl (Nx hrep hp.1 (Tree.size_maxN hp.2.1) _) ?_; rintro _ _ _ _ ⟨rfl, rfl, rfl⟩; refine Ei rfl (.met rfl rfl) rfl ?_; refine Of rfl rfl ?_
  exact Bb 3 rfl rfl hk
 ·intro _ hk; refine Br 3 rfl ?_; refine Ot rfl rfl ?_
  exact Bb 3 rfl rfl hk
 refine Om rfl ?_
 apply G4 18 23 rfl
 ·intro g2_8 hk
  try simp only [nb] at g2_8
  obtain ⟨a, ha, hta, hsz⟩ := hty.1 g2_8.1 g2_8.2
  have hl : (smp t).tree.text.length ≤ 3200 := by rw [hta, P1]; exact Ty.sample_textlen hsz
  refine Az rfl (.met rfl rfl) rfl ?_; refine Cx rfl (.met rfl rfl) rfl (Afd hrep ⟨a, hta, hsz⟩ _) ?_; rintro _ _ _ _ ⟨rfl, rfl, rfl⟩; refine Cx rfl (.met rfl rfl) rfl (Nc _ C3 _ _) ?_; rintro _ _ _ _ ⟨rfl, rfl, rfl⟩; refine Ei rfl (.met rfl rfl) rfl ?_; refine Of rfl rfl ?_
  exact Bb 4 rfl rfl hk
 ·intro _ hk; refine Br 4 rfl ?_; refine Ot rfl rfl ?_
  exact Bb 4 rfl rfl hk
 refine Ab ?_; refine A6 rfl ?_ ?_
 ·intro c0
  try simp only [nb] at c0
  refine Se rfl (Oa rfl (Oa rfl (Ab ?_))); refine Am (.tmp rfl (.tmp rfl .nil)) ?_; refine ⟨J, L, e1, Cl, ?_, rfl⟩
  have hz : Ru s = none := by
   by_cases h1 : ok = true
   ·by_cases h2 : t.typed = true
    ·obtain ⟨a, ha, hta, hsz⟩ := hty.1 h1 h2
     rcases c0 with (h | h) | h
     ·rw [h1] at h; cases h
     ·rw [h2] at h; cases h
     ·rw [hta, P1, Ly (Ty.sample_ok hsz)] at h; rw [Q0 ha]
      cases hf : a.sample.fine with
      | true => rw [hf] at h; cases h
      | false => rfl
    ·exact Qz (hty.2 (.inr (by simpa using h2)))
   ·exact Qz (hty.2 (.inl (by simpa using h1)))
  rw [hz]; rfl
 intro c0
 try simp only [nb] at c0
 obtain ⟨⟨h1, h2⟩, h3⟩ := c0; obtain ⟨a, ha, rfl, hsz⟩ := hty.1 h1 h2; refine Ak (Se rfl ?_); refine Az rfl .free rfl ?_; refine Ca rfl (Adh _ (Nat.lt_succ_self _) hrep hsz _) ?_; rintro _ _ _ _ ⟨rfl, rfl, rfl⟩; refine Oa rfl (Oa rfl (Ab ?_)); refine Am (.tmp rfl (.tmp rfl .nil)) ?_; refine ⟨J, L, e1, Cl, ?_, rfl⟩; rw [P1, Ly (Ty.sample_ok hsz)] at h3
 cases hf : a.sample.fine with
 | false => rw [hf] at h3; cases h3
 | true => rw [Q0 ha, if_pos hf]; rfl
structure ScAt (I : Heap) (ns ts : List As) (oa : Option Addr) (c : Nat) (ob : Option Addr) (c' : Nat) : Prop where
 names : Strs I oa ns c
 types : Strs I ob ts c'
 len : ns.length = ts.length
 nb : ∀ s ∈ ns, s.length ≤ 4
 tb : ∀ s ∈ ts, s.length ≤ 1000
theorem ScAt.mono {I I' : Heap} (hle : HLe I I') {ns ts : List As} {oa : Option Addr} {c : Nat} {ob : Option Addr} {c' : Nat} (h : ScAt I ns ts oa c ob c') : ScAt I' ns ts oa c ob c' :=
 ⟨h.names.mono hle, h.types.mono hle, h.len, h.nb, h.tb⟩
def RSc (ns ts : List As) (L : Bj) : Cv := fun v I' L' => ∃ oa c ob c', v = .agg [.slice oa (List.length ns) c, .slice ob (List.length ts) c'].toArray ∧ ScAt I' ns ts oa c ob c' ∧ L = L'
theorem L2 {I : Heap} {ns ts : List As} {oa ob : Option Addr} {c c' : Nat} (h : ScAt I ns ts oa c ob c') (x k : As) (hx : x.length ≤ 4) (hk : k.length ≤ 1000) (hn : ns.length ≤ 200) (L : Bj) :
  Fun Tryz.prog 164 [.agg [.slice oa ns.length c, .slice ob ts.length c'].toArray, .string (str x), .string (str k)] I L (RSc (ns ++ [x]) (ts ++ [k]) L) := by
 have hlen := h.len
 have hlr : HLe I I := .refl _
 have hxm : x.length ≤ Bg := by unfold Bg; omega
 have hkm : k.length ≤ Bg := by unfold Bg; omega
 refine Ao Ae ?_; refine Se rfl ?_; refine Cm rfl rfl .free rfl ?_; intro b3; refine A1 .free rfl ?_; intro b6; refine Ab (Ah ?_); refine Fh 12 rfl rfl ?_; refine Da 0 rfl (Aj rfl) ?_; refine Dt 1 [11] rfl (Bo rfl) ?_; refine Da 2 rfl (Ai rfl) ?_; refine Da 5 rfl (Aj rfl) ?_; refine Dt 6 [11] rfl (Bo rfl) ?_; refine Da 7 rfl (Ai rfl) ?_; refine Gd 3 8 Af ?_ ?_
 ·skip
  refine Ep 3 rfl rfl rfl rfl Ac Ac Ac Ad Ad Ac .free rfl (.inr Au) ?_; intro b10; refine E0 ?_; intro hz
  have hlr := hlr.trans hz
  have h := h.mono hz
  have hk1 := Jl hz hxm
  try have hk2 := hk2.mono hz
  refine Gd 4 8 Af ?_ ?_
  ·skip
   refine Qk 4 rfl rfl rfl .free rfl (L0 h.names hk1 Io _) ?_; rintro _ J2 _ e2 ⟨o3, c3', rfl, hn3, rfl⟩
   have hlr := hlr.trans e2
   have h := h.mono e2
   try have hk2 := hk2.mono e2
   refine Hx ?_; refine Fg 8 rfl Af rfl rfl rfl Ac Ac Ac Ad Ad Ac .free rfl (.inr Au) ?_; intro b15; refine E0 ?_; intro hz
   have hlr := hlr.trans hz
   have h := h.mono hz
   have hk2 := Jl hz hkm
   try have hk1 := hk1.mono hz
   try have hn3 := hn3.mono hz
   refine Dc 9 rfl rfl (L0 h.types hk2 Io _) ?_; rintro _ J3 _ e3 ⟨o4, c4', rfl, hn4, rfl⟩
   have hlr := hlr.trans e3
   have hn3 := hn3.mono e3
   refine Hx ?_; refine Da 10 rfl (H9 rfl rfl rfl) ?_; refine Dx 11 rfl rfl rfl rfl ?_; refine A5 Af ?_; refine Am (.c rfl .nil) ?_
   exact ⟨J3, L, hlr, Cl, o3, c3', o4, c4', rfl, ⟨hn3, hn4, by simp [hlen], (fun s hs => by rcases List.mem_append.1 hs with hs | hs; exact h.nb s hs; rw [List.mem_singleton.1 hs]; exact hx), (fun s hs => by rcases List.mem_append.1 hs with hs | hs; exact h.tb s hs; rw [List.mem_singleton.1 hs]; exact hk)⟩, rfl⟩
  ·skip
   refine Ep 8 rfl rfl rfl rfl Ac Ac Ac Ad Ad Ac .free rfl (.inr Au) ?_; intro b15; refine E0 ?_; intro hz
   have hlr := hlr.trans hz
   have h := h.mono hz
   have hk2 := Jl hz hkm
   try have hk1 := hk1.mono hz
   try have hn3 := hn3.mono hz
   refine Dc 4 rfl rfl (L0 h.names hk1 Io _) ?_; rintro _ J2 _ e2 ⟨o3, c3', rfl, hn3, rfl⟩
   have hlr := hlr.trans e2
   have h := h.mono e2
   try have hk2 := hk2.mono e2
   refine Hx ?_; refine Dc 9 rfl rfl (L0 h.types hk2 Io _) ?_; rintro _ J3 _ e3 ⟨o4, c4', rfl, hn4, rfl⟩
   have hlr := hlr.trans e3
   have hn3 := hn3.mono e3
   refine Hx ?_; refine Da 10 rfl (H9 rfl rfl rfl) ?_; refine Dx 11 rfl rfl rfl rfl ?_; refine A5 Af ?_; refine Am (.c rfl .nil) ?_
   exact ⟨J3, L, hlr, Cl, o3, c3', o4, c4', rfl, ⟨hn3, hn4, by simp [hlen], (fun s hs => by rcases List.mem_append.1 hs with hs | hs; exact h.nb s hs; rw [List.mem_singleton.1 hs]; exact hx), (fun s hs => by rcases List.mem_append.1 hs with hs | hs; exact h.tb s hs; rw [List.mem_singleton.1 hs]; exact hk)⟩, rfl⟩
 ·skip
  refine Ep 8 rfl rfl rfl rfl Ac Ac Ac Ad Ad Ac .free rfl (.inr Au) ?_; intro b15; refine E0 ?_; intro hz
  have hlr := hlr.trans hz
  have h := h.mono hz
  have hk2 := Jl hz hkm
  try have hk1 := hk1.mono hz
  try have hn3 := hn3.mono hz
  refine Fg 3 rfl Af rfl rfl rfl Ac Ac Ac Ad Ad Ac .free rfl (.inr Au) ?_; intro b10; refine E0 ?_; intro hz
  have hlr := hlr.trans hz
  have h := h.mono hz
  have hk1 := Jl hz hxm
  try have hk2 := hk2.mono hz
  refine Dc 4 rfl rfl (L0 h.names hk1 Io _) ?_; rintro _ J2 _ e2 ⟨o3, c3', rfl, hn3, rfl⟩
  have hlr := hlr.trans e2
  have h := h.mono e2
  try have hk2 := hk2.mono e2
  refine Hx ?_; refine Dc 9 rfl rfl (L0 h.types hk2 Io _) ?_; rintro _ J3 _ e3 ⟨o4, c4', rfl, hn4, rfl⟩
  have hlr := hlr.trans e3
  have hn3 := hn3.mono e3
  refine Hx ?_; refine Da 10 rfl (H9 rfl rfl rfl) ?_; refine Dx 11 rfl rfl rfl rfl ?_; refine A5 Af ?_; refine Am (.c rfl .nil) ?_
  exact ⟨J3, L, hlr, Cl, o3, c3', o4, c4', rfl, ⟨hn3, hn4, by simp [hlen], (fun s hs => by rcases List.mem_append.1 hs with hs | hs; exact h.nb s hs; rw [List.mem_singleton.1 hs]; exact hx), (fun s hs => by rcases List.mem_append.1 hs with hs | hs; exact h.tb s hs; rw [List.mem_singleton.1 hs]; exact hk)⟩, rfl⟩
theorem Aes (o : Option (Ty × Ty)) (sg s : As) (h : o = Hs sg s) : (t1 o).length ≤ 80 ∧ (t2 o).length ≤ 80 := by
 subst h
 cases h : Hs sg s with
 | none => exact ⟨by decide, by decide⟩
 | some p =>
  obtain ⟨a, b⟩ := p
  unfold Hs at h
  cases ht : M0 s with
  | none => rw [ht] at h; cases h
  | some t =>
   rw [ht] at h
   have h1 := (Vk ht).2.1
   cases t with
   | i => cases h
   | fn x y =>
    simp only at h
    split at h
    ·cases h; simp only [Ty.size] at h1
     exact ⟨Ty.text_len (t := a) Aa, Ty.text_len (t := b) Aa⟩
    ·cases h
   | pr x y =>
    simp only at h
    split at h
    ·cases h; simp only [Ty.size] at h1
     exact ⟨Ty.text_len (t := a) Aa, Ty.text_len (t := b) Aa⟩
    ·cases h
theorem Aef {s o : As} (h : Ru s = some o) : o.length ≤ 3200 := by obtain ⟨_, _, _, _, _, _, _, h⟩ := Aee h; exact h
structure LFs where
 i : Nat
 fs : List As
 b : Nat
 sp : List Value
 c : Nat
theorem Qi {I : Heap} {oa : Option Addr} {l : List UInt8} {c : Nat} (h : Bytes I oa l c) (hl : l.length ≤ 2000) (b p : Nat) (hp : p + 4 ≤ 1099511627776) {ns ts : List As} {o1 o2 : Option Addr} {c1 c2 : Nat} (hs : ScAt I ns ts o1 c1 o2 c2) (hn : ns.length ≤ 100) (want : As) (hw : want.length ≤ 1000) (L : Bj) :
  Fun Tryz.prog 163 [.pointer (some ⟨b, 0, none⟩), .agg [.slice o1 ns.length c1, .slice o2 ts.length c2].toArray, .string (str want)] I (rd b oa l c p :: L) (DT b oa l c p 4 3300 L) := by
 have hlen := hs.len
 have hnl := hs.names
 refine Ao Ae ?_; refine Se rfl ?_; refine Cm rfl rfl .free rfl ?_; intro b4; refine Oa rfl (Ab (Se rfl ?_)); refine Dl .free rfl ?_; intro b11; refine Oa rfl (Ab (Ah (Se rfl (Oa rfl (Ab (Aq ?_))))))
 refine Dn (X := LFs) (fun x => ns.length - x.i) (fun x => [(0, .pointer (some ⟨b, 0, none⟩)), (2, .string (str want)), (4, .pointer (some ⟨b4, 0, none⟩)), (6, .string (str [])), (7, .slice (some ⟨x.b, 0, none⟩) x.fs.length x.c), (8, .int .i64 (x.i : Nat))]) (fun _ => I) (fun x => (x.b, .cells (x.fs.map sv ++ x.sp).toArray 9 (0, 0)) :: (b4, .cells [.slice o1 ns.length c1, .slice o2 ts.length c2].toArray 134 (0, 0)) :: rd b oa l c p :: L) (fun x => x.i ≤ ns.length ∧ x.fs.length ≤ x.i ∧ (∀ s ∈ x.fs, s.length ≤ 4) ∧ Dd 1 x.fs.length x.c (x.fs.map sv) (some (x.b, x.sp))) ⟨0, [], b11, [], 0⟩ ⟨Nat.zero_le _, Nat.zero_le _, (fun _ h => by cases h), ⟨rfl, Nat.le_refl _, rfl⟩⟩ ⟨rfl, rfl, rfl, rfl, rfl, rfl, trivial⟩ (by intro _ h; exact h) ?_
 rintro ⟨i, fs, bb, sp, cb⟩ ⟨hi, hfi, hfs, hB⟩ ih
 simp only at hi hfi hfs hB ih ⊢
 refine Ah (Se rfl (Om rfl (Oh rfl ?_))); refine Bv rfl .free rfl ?_; refine On rfl (Oc rfl rfl rfl (Ab ?_)); refine A6 rfl ?_ ?_
 ·intro c0
  try simp only [nb] at c0
  have hi1 : i < ns.length := by omega
  have hel : (ns.getD i []).length ≤ 4 := hs.nb _ (by rw [show ns.getD i [] = ns[i] by simp [hi1]]; exact List.getElem_mem _)
  have hle0 : HLe I I := .refl _
  refine Ak (Ah (Aq (Ah ?_))); refine Fh 12 rfl rfl ?_; refine Da 0 rfl (Aj rfl) ?_; refine Dt 1 [12] rfl (Bo rfl) ?_; refine Da 2 rfl (Aj rfl) ?_; refine Dt 3 [12] rfl (Bo rfl) ?_; refine Da 4 rfl (Aj rfl) ?_; refine Dt 5 [12] rfl (Bo rfl) ?_; refine Da 6 rfl (Ai rfl) ?_
  first | refine Da 7 rfl (Bc rfl rfl _ rfl) ?_ | refine Da 7 rfl (Bd rfl rfl _ rfl) ?_
  refine Dt 8 [12] rfl (T0 rfl) ?_; refine Da 10 rfl (Ai rfl) ?_; refine Dc 9 rfl rfl (Adg hs.names hs.types hlen _ _) ?_; rintro _ _ _ _ ⟨rfl, rfl, rfl⟩; refine Hx ?_; refine Da 11 rfl (Z8 rfl rfl rfl) ?_; refine A5 Af ?_; refine A6 rfl ?_ ?_
  ·intro c1
   try simp only [nb] at c1
   refine Al rfl (Om rfl (Oh rfl ?_)); refine Bv rfl .free rfl ?_; refine Om rfl ?_
   first | refine Bs rfl rfl _ rfl .free rfl ?_ | refine Bt rfl rfl _ rfl .free rfl ?_
   refine Er rfl .free rfl ?_; refine Ol rfl rfl ?_; intro b37; refine D1 (B := some (bb, sp)) (xs := fs.map sv) (ys := [sv (ns.getD i [])]) (m := fs.length) (c := cb) Av Ac rfl rfl hB (fun _ h => h.f1) Ac (fun a ha => by cases ha; exact Bw G7 Ac) Ae Ac Ad Ad Aa Ad .free rfl ?_; intro bq sp2 c2q hB2; rw [show fs.map sv ++ [sv (ns.getD i [])] = (fs ++ [ns.getD i []]).map sv by simp] at hB2 ⊢; refine Oa rfl (Ab (Ap (Al rfl (Om rfl ?_)))); refine Or rfl rfl rfl ?_; refine Oa rfl (Ab ?_)
   first
    | exact Ed (E' := [(0, .pointer (some ⟨b, 0, none⟩)), (2, .string (str want)), (4, .pointer (some ⟨b4, 0, none⟩)), (6, .string (str [])), (7, .slice (some ⟨bq, 0, none⟩) (fs ++ [ns.getD i []]).length c2q), (8, .int .i64 ((i + 1 : Nat)))]) ⟨rfl, rfl, rfl, rfl, by simp; rfl, rfl, trivial⟩ (Cu (fun w h => Mem.sub (L' := (bq, _) :: (b4, _) :: rd b oa l c p :: L) A7 h) (ih ⟨i + 1, fs ++ [ns.getD i []], bq, sp2, c2q⟩ ⟨by simp only; omega, by simp; omega, (fun s hs => by rcases List.mem_append.1 hs with hs | hs; exact hfs s hs; rw [List.mem_singleton.1 hs]; exact hel), by simpa using hB2⟩ Dq))
    | exact Ed (E' := [(0, .pointer (some ⟨b, 0, none⟩)), (2, .string (str want)), (4, .pointer (some ⟨b4, 0, none⟩)), (6, .string (str [])), (7, .slice (some ⟨bb, 0, none⟩) fs.length cb), (8, .int .i64 ((i + 1 : Nat)))]) ⟨rfl, rfl, rfl, rfl, rfl, rfl, trivial⟩ (ih ⟨i + 1, fs, bb, sp, cb⟩ ⟨by simp only; omega, by simp only; omega, hfs, hB⟩ Dq)
  intro c1
  try simp only [nb] at c1
  refine Ak (Ap (Al rfl (Om rfl ?_))); refine Or rfl rfl rfl ?_; refine Oa rfl (Ab ?_)
  first
   | exact Ed (E' := [(0, .pointer (some ⟨b, 0, none⟩)), (2, .string (str want)), (4, .pointer (some ⟨b4, 0, none⟩)), (6, .string (str [])), (7, .slice (some ⟨bq, 0, none⟩) (fs ++ [ns.getD i []]).length c2q), (8, .int .i64 ((i + 1 : Nat)))]) ⟨rfl, rfl, rfl, rfl, by simp; rfl, rfl, trivial⟩ (Cu (fun w h => Mem.sub (L' := (bq, _) :: (b4, _) :: rd b oa l c p :: L) A7 h) (ih ⟨i + 1, fs ++ [ns.getD i []], bq, sp2, c2q⟩ ⟨by simp only; omega, by simp; omega, (fun s hs => by rcases List.mem_append.1 hs with hs | hs; exact hfs s hs; rw [List.mem_singleton.1 hs]; exact hel), by simpa using hB2⟩ Dq))
   | exact Ed (E' := [(0, .pointer (some ⟨b, 0, none⟩)), (2, .string (str want)), (4, .pointer (some ⟨b4, 0, none⟩)), (6, .string (str [])), (7, .slice (some ⟨bb, 0, none⟩) fs.length cb), (8, .int .i64 ((i + 1 : Nat)))]) ⟨rfl, rfl, rfl, rfl, rfl, rfl, trivial⟩ (ih ⟨i + 1, fs, bb, sp, cb⟩ ⟨by simp only; omega, by simp only; omega, hfs, hB⟩ Dq)
 intro c0
 try simp only [nb] at c0
 refine Cc rfl ?_; refine Ah (Ah ?_); refine Gk (B := some (bb, sp)) hB rfl C3 (fun s hs => by have := hfs s hs; unfold Bg; omega) ?_; intro J oz cz ez hbv hst
 simp only [Bm, Value.slice.injEq] at hbv
 obtain ⟨rfl, -, rfl⟩ := hbv; refine Cu (fun w h => h.f1) ?_
 have h := h.mono ez
 have hz0 := hst.nil'
 have hzl := hst.len
 refine Al rfl (Om rfl (On rfl (Oc rfl rfl rfl (Om rfl ?_))))
 first | refine Ho rfl rfl ?_ ?_ | refine Fp rfl rfl ?_ ?_ | refine Nd rfl rfl ?_ ?_
 ·intro g7_4; refine Ow rfl ?_; refine Cx rfl (.met rfl rfl) rfl (D3 h hl b p 4 Aa Ad _) ?_; rintro _ _ _ _ ⟨r, rfl, rfl, rfl, hr⟩; refine D8 rfl rfl rfl (.met rfl rfl) rfl ?_; refine Ot rfl rfl (Ab ?_); refine A6 rfl ?_ ?_
  ·intro c2
   try simp only [nb] at c2
   have hpos : 0 < fs.length := by omega
   refine Se rfl ?_
   iterate 3 refine Om rfl ?_
   refine On rfl ?_; refine Ca rfl (D3 h hl b _ fs.length Aa Aa _) ?_; rintro _ _ _ _ ⟨r2, rfl, rfl, rfl, hr2⟩
   have hr3 : r2 < fs.length := by omega
   have hfl : (fs.getD r2 []).length ≤ 4 := hfs _ (by rw [show fs.getD r2 [] = fs[r2] by simp [hr3]]; exact List.getElem_mem _)
   first | refine Bs rfl rfl _ rfl .free rfl ?_ | refine Bt rfl rfl _ rfl .free rfl ?_
   refine Er rfl .free rfl ?_; refine Oa rfl (Ab (Am (.tmp rfl .nil) ?_))
   exact ⟨J, _, ez, fun w h => Mem.sub (L' := rd b oa l c _ :: L) A7 h, fs.getD r2 [], _, rfl, by omega, by omega, by omega, rfl⟩
  intro c2
  try simp only [nb] at c2
  refine Ak (Ah (Se rfl (Om rfl (Od rfl rfl rfl (Ab ?_))))); refine A6 rfl ?_ ?_
  ·intro c3
   try simp only [nb] at c3
   refine Se rfl (Om rfl ?_); refine Ol rfl rfl ?_; intro b57; refine Eb [[48], [49], [50], [51], [55], [45, 49], [52, 48, 48], [45, 57, 57, 57]] Ad Ad ?_; intro J2 e2 k2; refine Ca rfl (Fc (h.mono e2) hl b _ Aa k2 Ae _) ?_; rintro _ _ _ _ ⟨s, rfl, hs9, rfl, rfl⟩
   have hs4 : s.length ≤ 4 := by revert s; decide
   refine Oa rfl (Ab (Am (.tmp rfl .nil) ?_))
   exact ⟨J2, _, ez.trans e2, fun w h => Mem.sub (L' := rd b oa l c _ :: L) A7 h, s, _, rfl, by omega, by omega, by omega, rfl⟩
  intro c3
  try simp only [nb] at c3
  refine Ak (Se rfl (Om rfl ?_)); refine Ca rfl (X0 want C3 _ _) ?_; rintro _ J3 _ e3 ⟨rfl, rfl⟩; refine Om rfl (Oe rfl rfl (Oe rfl rfl (Oa rfl (Oa rfl (Ab (Ah (Se rfl (Om rfl ?_)))))))); refine Ei rfl .free rfl ?_; refine Ab ?_; refine A6 rfl ?_ ?_
  ·intro c4
   try simp only [nb] at c4
   refine Se rfl (Oa rfl (Ab (Am (.tmp rfl .nil) ?_)))
   exact ⟨J3, _, ez.trans e3, fun w h => Mem.sub (L' := rd b oa l c _ :: L) A7 h, [48], _, rfl, by decide, by omega, by omega, rfl⟩
  intro c4
  try simp only [nb] at c4
  refine Ak (Se rfl (Om rfl (Oa rfl (Ab (Am (.tmp rfl .nil) ?_))))); refine ⟨J3, _, ez.trans e3, fun w h => Mem.sub (L' := rd b oa l c _ :: L) A7 h, (Ru want).getD [], _, rfl, ?_, by omega, by omega, rfl⟩
  cases ho : Ru want with
  | none => decide
  | some o => have := Aef ho; simp only [Option.getD_some]; omega
 intro g7_4
 iterate 3 refine Cy rfl rfl rfl ?_
 refine Of rfl rfl (Ab ?_); refine A0 rfl ?_; refine Ak (Ah (Se rfl (Om rfl (Od rfl rfl rfl (Ab ?_))))); refine A6 rfl ?_ ?_
 ·intro c3
  try simp only [nb] at c3
  refine Se rfl (Om rfl ?_); refine Ol rfl rfl ?_; intro b57; refine Eb [[48], [49], [50], [51], [55], [45, 49], [52, 48, 48], [45, 57, 57, 57]] Ad Ad ?_; intro J2 e2 k2; refine Ca rfl (Fc (h.mono e2) hl b _ Aa k2 Ae _) ?_; rintro _ _ _ _ ⟨s, rfl, hs9, rfl, rfl⟩
  have hs4 : s.length ≤ 4 := by revert s; decide
  refine Oa rfl (Ab (Am (.tmp rfl .nil) ?_))
  exact ⟨J2, _, ez.trans e2, fun w h => Mem.sub (L' := rd b oa l c _ :: L) A7 h, s, _, rfl, by omega, by omega, by omega, rfl⟩
 intro c3
 try simp only [nb] at c3
 refine Ak (Se rfl (Om rfl ?_)); refine Ca rfl (X0 want C3 _ _) ?_; rintro _ J3 _ e3 ⟨rfl, rfl⟩; refine Om rfl (Oe rfl rfl (Oe rfl rfl (Oa rfl (Oa rfl (Ab (Ah (Se rfl (Om rfl ?_)))))))); refine Ei rfl .free rfl ?_; refine Ab ?_; refine A6 rfl ?_ ?_
 ·intro c4
  try simp only [nb] at c4
  refine Se rfl (Oa rfl (Ab (Am (.tmp rfl .nil) ?_)))
  exact ⟨J3, _, ez.trans e3, fun w h => Mem.sub (L' := rd b oa l c _ :: L) A7 h, [48], _, rfl, by decide, by omega, by omega, rfl⟩
 intro c4
 try simp only [nb] at c4
 refine Ak (Se rfl (Om rfl (Oa rfl (Ab (Am (.tmp rfl .nil) ?_))))); refine ⟨J3, _, ez.trans e3, fun w h => Mem.sub (L' := rd b oa l c _ :: L) A7 h, (Ru want).getD [], _, rfl, ?_, by omega, by omega, rfl⟩
 cases ho : Ru want with
 | none => decide
 | some o => have := Aef ho; simp only [Option.getD_some]; omega
theorem Abl {I : Heap} {oa : Option Addr} {l : List UInt8} {c : Nat} (h : Bytes I oa l c) (hl : l.length ≤ 2000) (b p : Nat) (hp : p + 4 ≤ 1099511627776) (L : Bj) :
  Fun Tryz.prog 165 [.pointer (some ⟨b, 0, none⟩)] I (rd b oa l c p :: L) (DT b oa l c p 4 200 L) := by
 refine Ao Ae ?_; refine Se rfl (Oa rfl (Ab (Se rfl (Om rfl ?_)))); refine Ol rfl rfl ?_; intro b5; refine Eb [[40, 43, 32, 120, 56, 32, 40, 99, 97, 108, 108, 32, 102, 56, 32, 40, 45, 32, 120, 56, 32, 49, 41, 41, 41], [40, 99, 97, 108, 108, 32, 102, 56, 32, 40, 45, 32, 120, 56, 32, 49, 41, 41], [40, 42, 32, 120, 56, 32, 40, 99, 97, 108, 108, 32, 102, 56, 32, 40, 45, 32, 120, 56, 32, 49, 41, 41, 41], [40, 45, 32, 48, 32, 40, 99, 97, 108, 108, 32, 102, 56, 32, 40, 45, 32, 120, 56, 32, 49, 41, 41, 41]] Ad Ad ?_; intro J1 e1 k1; refine Ca rfl (Fc (h.mono e1) hl b _ Aa k1 Ae L) ?_
 rintro _ _ _ _ ⟨s, rfl, hs, rfl, rfl⟩
 have hsl : s.length ≤ 30 := by revert s; decide
 refine Oa rfl (Ab (Se rfl (Om rfl ?_))); refine Ol rfl rfl ?_; intro b8; refine Eb [[48], [49], [53]] Ad Ad ?_; intro J2 e2 k2; refine Ca rfl (Fc ((h.mono e1).mono e2) hl b _ Aa k2 Ae L) ?_; rintro _ _ _ _ ⟨s2, rfl, hs2, rfl, rfl⟩
 have hsl2 : s2.length ≤ 1 := by revert s2; decide
 refine Ok rfl rfl ?_; refine Ok rfl rfl ?_; refine Om rfl ?_; refine Ok rfl rfl ?_; refine Ok rfl rfl ?_; refine Om rfl ?_; refine Ca rfl (D3 ((h.mono e1).mono e2) hl b _ 7 Aa Ad L) ?_; rintro _ _ _ _ ⟨r, rfl, rfl, rfl, hr⟩
 have hdl := R1 (n := r) Aa
 refine Ca rfl (Wa _ r (Nat.lt_succ_self _) Aa _ _) ?_; rintro _ _ _ _ ⟨rfl, rfl, rfl⟩; refine Ok rfl rfl ?_; refine Ok rfl rfl ?_; refine Oa rfl (Ab (Am (.tmp rfl .nil) ?_))
 exact ⟨J2, _, e1.trans e2, fun _ h => h, _, _, rfl, E5, by omega, by omega, rfl⟩
def kE : Nat → Nat
 | 0 => 4
 | d + 1 => 3 * kE d + 60
def eT : Nat → Nat
 | 0 => 3300
 | d + 1 => 3 * eT d + 3000
theorem Ac1 : ∀ d, 3300 ≤ eT d
 | 0 => Nat.le_refl _
 | d + 1 => by have := Ac1 d; simp only [eT]; omega
def W8 (d : Nat) : Prop := ∀ {I : Heap} {oa : Option Addr} {l : List UInt8} {c : Nat} (_ : Bytes I oa l c) (_ : l.length ≤ 2000) (b p : Nat) (_ : p + kE d ≤ 1099511627776) {ns ts : List As} {o1 o2 : Option Addr} {c1 c2 : Nat} (_ : ScAt I ns ts o1 c1 o2 c2) (_ : ns.length + 4 * d ≤ 100) (want : As) (_ : want.length + 20 * d ≤ 1000) (L : Bj),
  Fun Tryz.prog 119 [.pointer (some ⟨b, 0, none⟩), .agg [.slice o1 ns.length c1, .slice o2 ts.length c2].toArray, .string (str want), .int .i64 (d : Nat)] I (rd b oa l c p :: L) (DT b oa l c p (kE d) (eT d) L)
theorem Sg {d : Nat} (ih : W8 d) (hd : d ≤ 20) (ht : eT (d + 1) ≤ 1000000000) {I : Heap} {oa : Option Addr} {l : List UInt8} {c : Nat} (h : Bytes I oa l c) (hl : l.length ≤ 2000) (b p : Nat) (hp : p + (3 * kE d + 40) ≤ 1099511627776) {ns ts : List As} {o1 o2 : Option Addr} {c1 c2 : Nat} (hs : ScAt I ns ts o1 c1 o2 c2) (hn : ns.length + 4 * (d + 1) ≤ 100) (want : As) (hw : want.length + 20 * (d + 1) ≤ 1000) (L : Bj) :
  Fun Tryz.prog 166 [.pointer (some ⟨b, 0, none⟩), .agg [.slice o1 ns.length c1, .slice o2 ts.length c2].toArray, .string (str want), .int .i64 ((d + 1 : Nat))] I (rd b oa l c p :: L) (DT b oa l c p (3 * kE d + 40) (3 * eT d + 3000) L) := by
 simp only [eT] at ht
 have hge := Ac1 d
 obtain ⟨q1, q2⟩ := Aes (Hs [42] want) [42] want rfl; obtain ⟨q3, q4⟩ := Aes (Hs [62] want) [62] want rfl
 have hle : HLe I I := .refl _
 have hlr : HLe I I := .refl _
 refine Ao Ae ?_; refine Se rfl ?_; refine Cm rfl rfl .free rfl ?_; intro b5; refine Oa rfl (Ab (Ah ?_)); refine Cu (fun w h => h.f1) ?_; refine Al rfl (Om rfl ?_); refine Ca rfl (Zl want C3 _ _) ?_; rintro _ J _ e ⟨rfl, rfl⟩
 have h := h.mono e
 have hs := hs.mono e
 have hle := hle.trans e
 have hlr := hlr.trans e
 refine Om rfl ?_
 iterate 3 refine Oe rfl rfl ?_
 iterate 3 refine Oa rfl ?_
 refine Ab (Se rfl (Om rfl ?_)); refine Ca rfl (Abg want C3 _ _) ?_; rintro _ J _ e ⟨rfl, rfl⟩
 have h := h.mono e
 have hs := hs.mono e
 have hle := hle.trans e
 have hlr := hlr.trans e
 refine Om rfl ?_
 iterate 3 refine Oe rfl rfl ?_
 iterate 3 refine Oa rfl ?_
 refine Ab (Se rfl (Om rfl ?_)); refine Or rfl rfl rfl ?_; refine Oa rfl (Ab (Ah (Aq (Ah ?_)))); refine Jv (t := 15) (v' := .int .i64 (d : Nat)) rfl F7 ?_; refine Al rfl (Om rfl (Oa rfl (Ab ?_))); refine A6 rfl ?_ ?_
 ·intro c0
  try simp only [nb] at c0
  refine Ah ?_; refine C9 fun hlr => ?_
  refine Hl 15 rfl rfl ?_; refine Da 0 rfl (Ai rfl) ?_; refine Dt 1 [15] rfl (Ea rfl) ?_; refine Da 2 rfl (Ai rfl) ?_; refine Da 3 rfl (Ai rfl) ?_; refine Da 7 rfl (Ai rfl) ?_; refine Dt 8 [15] rfl (Ea rfl) ?_; refine Da 9 rfl (Ai rfl) ?_; refine Da 10 rfl (Ai rfl) ?_; refine Dc 4 rfl rfl (ih h hl b _ Aa hs Aa _ Cq _) ?_; rintro _ J _ e ⟨s1, p1, rfl, hs1, hp1, hp2, rfl⟩
  have h := h.mono e
  have hs := hs.mono e
  have hle := hle.trans e
  have hlr := hlr.trans e
  refine Hx ?_; refine Da 5 rfl (Yk rfl rfl) ?_; refine Da 6 rfl (Yk rfl rfl) ?_; refine Dc 11 rfl rfl (ih h hl b _ Aa hs Aa _ Cq _) ?_; rintro _ J _ e ⟨s1, p1, rfl, hs1, hp1, hp2, rfl⟩
  have h := h.mono e
  have hs := hs.mono e
  have hle := hle.trans e
  have hlr := hlr.trans e
  refine Hx ?_; refine Da 12 rfl (Yk rfl rfl) ?_; refine Da 13 rfl (Yk rfl rfl) ?_; refine Da 14 rfl (Bk rfl) ?_; refine A5 Af ?_; refine Am (.tmp rfl .nil) ?_
  exact ⟨_, _, hle, fun w h => Mem.sub (L' := rd b oa l c _ :: L) A7 h, _, _, rfl, E5, by omega, by omega, rfl⟩
 intro c0
 try simp only [nb] at c0
 refine Se rfl (Om rfl (Oa rfl (Ab ?_))); refine A6 rfl ?_ ?_
 ·intro c1
  try simp only [nb] at c1
  refine Se rfl (Om rfl ?_); refine Ol rfl rfl ?_; intro b52; refine Eb [[102], [103], [102, 49]] Ad Ad ?_; intro J1 e1 k1
  have h := h.mono e1
  have hs := hs.mono e1
  have hle := hle.trans e1
  refine Ca rfl (Fc h hl b _ Aa k1 Ae _) ?_; rintro _ _ _ _ ⟨nf, rfl, hnf, rfl, rfl⟩
  have hnfl : nf.length ≤ 2 := by revert nf; decide
  refine Oa rfl (Ab (Se rfl (Om rfl ?_))); refine Ol rfl rfl ?_; intro b55; refine Eb [[120], [122], [120, 50]] Ad Ad ?_; intro J1 e1 k1
  have h := h.mono e1
  have hs := hs.mono e1
  have hle := hle.trans e1
  refine Ca rfl (Fc h hl b _ Aa k1 Ae _) ?_; rintro _ _ _ _ ⟨nx, rfl, hnx, rfl, rfl⟩
  have hnxl : nx.length ≤ 2 := by revert nx; decide
  refine Oa rfl (Ab (Se rfl ?_)); refine Az rfl .free rfl ?_; refine Om rfl (Om rfl ?_); refine Ca rfl (L2 hs nx (t1 (Hs [62] want)) Aa Aa Aa _) ?_; rintro _ J2 _ e2 ⟨o3, c3, o4, c4, rfl, hs2, rfl⟩
  have h := h.mono e2
  have hs := hs.mono e2
  have hle := hle.trans e2
  refine A1 .free rfl ?_; intro b18; refine By rfl rfl rfl rfl .free ?_; refine C4 (fun w h => h.f1) ?_; refine Ab (Ah (Se rfl (Om rfl ?_))); refine Ca rfl (D3 h hl b _ 6 Aa Ad _) ?_; rintro _ _ _ _ ⟨r, rfl, rfl, rfl, hr⟩; refine Oc rfl rfl rfl (Ab ?_); refine A6 rfl ?_ ?_
  ·intro c2
   try simp only [nb] at c2
   refine Al rfl ?_; refine Az rfl .free rfl ?_; refine Om rfl (Om rfl ?_); refine Ca rfl (L2 hs nf want Aa Aa Aa _) ?_; rintro _ J3 _ e3 ⟨o5, c5, o6, c6, rfl, hs3, rfl⟩
   have h := h.mono e3
   have hle := hle.trans e3
   refine Om rfl (Om rfl ?_); refine Ca rfl (L2 hs3 nx (t1 (Hs [62] want)) Aa Aa Dr _) ?_; rintro _ J4 _ e4 ⟨o7, c7, o8, c8, rfl, hs4, rfl⟩
   have h := h.mono e4
   have hle := hle.trans e4
   refine By rfl rfl rfl rfl .free ?_; refine Ab (Se rfl (Om rfl ?_)); refine Ok rfl rfl ?_; refine Ok rfl rfl ?_; refine Om rfl ?_; refine Ok rfl rfl ?_; refine Ok rfl rfl ?_; refine Om rfl ?_; refine Ok rfl rfl ?_; refine Ok rfl rfl ?_; refine Om rfl ?_; refine Ok rfl rfl ?_; refine Ok rfl rfl ?_; refine Om rfl ?_; refine Az rfl .free rfl ?_; refine Om rfl (Om rfl ?_); refine Ca rfl (by first | exact ih h hl b _ Aa hs4 Dr _ Aa _ | exact ih h hl b _ Aa hs2 Dr _ Aa _) ?_; rintro _ J _ e ⟨s1, p1, rfl, hs1, hp1, hp2, rfl⟩
   have h := h.mono e
   have hle := hle.trans e
   refine Ok rfl rfl ?_; refine Ok rfl rfl ?_; refine Oa rfl (Ab (Am (.tmp rfl .nil) ?_))
   exact ⟨_, _, hle, fun w h => Mem.sub (L' := rd b oa l c _ :: L) A7 h, _, _, rfl, E5, by omega, by omega, rfl⟩
  intro c2
  try simp only [nb] at c2
  refine Ak (Se rfl (Om rfl ?_)); refine Ok rfl rfl ?_; refine Ok rfl rfl ?_; refine Om rfl ?_; refine Ok rfl rfl ?_; refine Ok rfl rfl ?_; refine Om rfl ?_; refine Ok rfl rfl ?_; refine Ok rfl rfl ?_; refine Om rfl ?_; refine Ok rfl rfl ?_; refine Ok rfl rfl ?_; refine Om rfl ?_; refine Az rfl .free rfl ?_; refine Om rfl (Om rfl ?_); refine Ca rfl (by first | exact ih h hl b _ Aa hs4 Dr _ Aa _ | exact ih h hl b _ Aa hs2 Dr _ Aa _) ?_; rintro _ J _ e ⟨s1, p1, rfl, hs1, hp1, hp2, rfl⟩
  have h := h.mono e
  have hle := hle.trans e
  refine Ok rfl rfl ?_; refine Ok rfl rfl ?_; refine Oa rfl (Ab (Am (.tmp rfl .nil) ?_))
  exact ⟨_, _, hle, fun w h => Mem.sub (L' := rd b oa l c _ :: L) A7 h, _, _, rfl, E5, by omega, by omega, rfl⟩
 intro c1
 try simp only [nb] at c1
 refine Se rfl (Om rfl (Od rfl rfl rfl (Om rfl ?_)))
 first | refine Ho rfl rfl ?_ ?_ | refine Fp rfl rfl ?_ ?_ | refine Nd rfl rfl ?_ ?_
 ·intro g13_3; refine Ow rfl ?_; refine Cx rfl (.met rfl rfl) rfl (D3 h hl b _ 3 Aa Ad _) ?_; rintro _ _ _ _ ⟨r, rfl, rfl, rfl, hr⟩; refine D8 rfl rfl rfl (.met rfl rfl) rfl ?_; refine Ot rfl rfl (Oa rfl (Ab ?_)); refine A6 rfl ?_ ?_
  ·intro c3
   try simp only [nb] at c3
   refine Ah ?_; refine C9 fun hlr => ?_
   refine Hl 18 rfl rfl ?_; refine Da 0 rfl (Ai rfl) ?_; refine Da 5 rfl (Ai rfl) ?_; refine Dt 6 [18] rfl (Ea rfl) ?_; refine Da 7 rfl (Ai rfl) ?_; refine Da 11 rfl (Ai rfl) ?_; refine Dt 12 [18] rfl (Ea rfl) ?_; refine Da 13 rfl (Ai rfl) ?_; refine Fg 1 rfl Af rfl rfl rfl Ac Ac Ac Ad Ad Ac .free rfl (.inr Au) ?_; intro b99; refine E0 ?_; intro hz
   have hk := P2 (l := [[43], [45], [42]]) (b := b99) (I := J) (e := 9) Ad Ad
   have h := h.mono hz
   have hs := hs.mono hz
   have hle := hle.trans hz
   have hlr := hlr.trans hz
   refine Dc 2 rfl rfl (Fc h hl b _ Aa hk Ae _) ?_; rintro _ _ _ _ ⟨op, rfl, hop, rfl, rfl⟩
   have hopl : op.length ≤ 1 := by revert op; decide
   refine Hx ?_; refine Da 3 rfl (Yk rfl rfl) ?_; refine Da 4 rfl (Yk rfl rfl) ?_; refine Dc 8 rfl rfl (ih h hl b _ Aa hs Aa _ Cq _) ?_; rintro _ J _ e ⟨s1, p1, rfl, hs1, hp1, hp2, rfl⟩
   have h := h.mono e
   have hs := hs.mono e
   have hle := hle.trans e
   have hlr := hlr.trans e
   refine Hx ?_; refine Da 9 rfl (Yk rfl rfl) ?_; refine Da 10 rfl (Yk rfl rfl) ?_; refine Dc 14 rfl rfl (ih h hl b _ Aa hs Aa _ Cq _) ?_; rintro _ J _ e ⟨s1, p1, rfl, hs1, hp1, hp2, rfl⟩
   have h := h.mono e
   have hs := hs.mono e
   have hle := hle.trans e
   have hlr := hlr.trans e
   refine Hx ?_; refine Da 15 rfl (Yk rfl rfl) ?_; refine Da 16 rfl (Yk rfl rfl) ?_; refine Da 17 rfl (Bk rfl) ?_; refine A5 Af ?_; refine Am (.tmp rfl .nil) ?_
   exact ⟨_, _, hle, fun w h => Mem.sub (L' := rd b oa l c _ :: L) A7 h, _, _, rfl, E5, by omega, by omega, rfl⟩
  intro c3
  try simp only [nb] at c3
  refine Ak (Ap (Se rfl (Om rfl ?_))); refine Az rfl .free rfl ?_; refine Om rfl ?_; refine Ca rfl (Qi h hl b _ Aa hs Aa want Aa _) ?_; rintro _ J _ e ⟨s1, p1, rfl, hs1, hp1, hp2, rfl⟩
  have hle := hle.trans e
  refine Oa rfl (Ab (Am (.tmp rfl .nil) ?_))
  exact ⟨_, _, hle, fun w h => Mem.sub (L' := rd b oa l c _ :: L) A7 h, _, _, rfl, by omega, by omega, by omega, rfl⟩
 intro g13_3
 iterate 3 refine Cy rfl rfl rfl ?_
 refine Of rfl rfl (Oa rfl (Ab ?_)); refine A0 rfl ?_; refine Ak (Ap (Se rfl (Om rfl ?_))); refine Az rfl .free rfl ?_; refine Om rfl ?_; refine Ca rfl (Qi h hl b _ Aa hs Aa want Aa _) ?_; rintro _ J _ e ⟨s1, p1, rfl, hs1, hp1, hp2, rfl⟩
 have hle := hle.trans e
 refine Oa rfl (Ab (Am (.tmp rfl .nil) ?_))
 exact ⟨_, _, hle, fun w h => Mem.sub (L' := rd b oa l c _ :: L) A7 h, _, _, rfl, by omega, by omega, by omega, rfl⟩
theorem Abb : W8 0 := by
 intro I oa l c h hl b p hp ns ts o1 o2 c1 c2 hs hn want hw L; refine Ao Ae ?_; refine Se rfl ?_; refine Cm rfl rfl .free rfl ?_; intro b5; refine Oa rfl (Ab (Ah (Ah ?_))); refine Cu (fun w h => h.f1) ?_; refine Al rfl (Om rfl (Oc rfl rfl rfl (Ab ?_)))
 first | refine K3 rfl Ac ?_ | refine K2 rfl Ac ?_ | refine B9 Ar ?_
 refine Se rfl (Om rfl ?_); refine Az rfl .free rfl ?_; refine Om rfl ?_; refine Ca rfl (Qi h hl b _ hp hs Aa want Aa _) ?_; rintro _ J _ e ⟨s1, p1, rfl, hs1, hp1, hp2, rfl⟩; refine Oa rfl (Ab (Am (.tmp rfl .nil) ?_))
 exact ⟨J, _, e, fun w h => Mem.sub (L' := rd b oa l c _ :: L) A7 h, _, _, rfl, hs1, hp1, hp2, rfl⟩
set_option maxHeartbeats 1000000 in
theorem Aba {d : Nat} (ih : W8 d) (hd : d ≤ 20) (ht : eT (d + 1) ≤ 1000000000) : W8 (d + 1) := by
 intro I oa l c h hl b p hp ns ts o1 o2 c1 c2 hs hn want hw L
 have ht0 := ht
 simp only [eT, kE] at ht hp ⊢
 have hge := Ac1 d
 have hle : HLe I I := .refl _
 have hlr : HLe I I := .refl _
 have hb1 : bT 1 = 7 := rfl
 have hk1 : kT 1 = 2 := rfl
 refine Ao Ae ?_; refine Se rfl ?_; refine Cm rfl rfl .free rfl ?_; intro b5; refine Oa rfl (Ab (Ah (Ah ?_))); refine Cu (fun w h => h.f1) ?_; refine Al rfl (Om rfl (Oc rfl rfl rfl (Ab ?_)))
 first | refine Sf rfl Aa ?_ | refine A0 Ar ?_
 refine Ak (Se rfl (Om rfl ?_)); refine Or rfl rfl rfl ?_; refine Oa rfl (Ab (Ah (Ah ?_))); refine Jv (t := 9) (v' := .int .i64 (d : Nat)) rfl F7 ?_; refine Al rfl (Om rfl ?_); refine Ca rfl (D3 h hl b _ 12 Aa Ad _) ?_; rintro _ _ _ _ ⟨r, rfl, rfl, rfl, hr⟩; refine Ab (Aq (Se rfl (Oc rfl rfl rfl (Oa rfl (Ab ?_))))); refine A6 rfl ?_ ?_
 ·intro c1
  try simp only [nb] at c1
  refine Ah ?_; refine C9 fun hlr => ?_
  refine Hl 21 rfl rfl ?_; refine Da 0 rfl (Ai rfl) ?_; refine Dt 1 [21] rfl (Ea rfl) ?_; refine Da 2 rfl (Ai rfl) ?_; refine Da 6 rfl (Ai rfl) ?_; refine Dt 7 [21] rfl (Ea rfl) ?_; refine Da 8 rfl (Ai rfl) ?_; refine Da 9 rfl (Ai rfl) ?_; refine Da 13 rfl (Ai rfl) ?_; refine Dt 14 [21] rfl (Ea rfl) ?_; refine Da 15 rfl (Ai rfl) ?_; refine Da 16 rfl (Ai rfl) ?_; refine Dc 3 rfl rfl (ih h hl b _ Aa hs Aa _ Cq _) ?_; rintro _ J _ e ⟨s1, p1, rfl, hs1, hp1, hp2, rfl⟩
  have h := h.mono e
  have hs := hs.mono e
  have hle := hle.trans e
  have hlr := hlr.trans e
  refine Hx ?_; refine Da 4 rfl (Yk rfl rfl) ?_; refine Da 5 rfl (Yk rfl rfl) ?_; refine Dc 10 rfl rfl (ih h hl b _ Aa hs Aa _ Cq _) ?_; rintro _ J _ e ⟨s1, p1, rfl, hs1, hp1, hp2, rfl⟩
  have h := h.mono e
  have hs := hs.mono e
  have hle := hle.trans e
  have hlr := hlr.trans e
  refine Hx ?_; refine Da 11 rfl (Yk rfl rfl) ?_; refine Da 12 rfl (Yk rfl rfl) ?_; refine Dc 17 rfl rfl (ih h hl b _ Aa hs Aa _ Cq _) ?_; rintro _ J _ e ⟨s1, p1, rfl, hs1, hp1, hp2, rfl⟩
  have h := h.mono e
  have hs := hs.mono e
  have hle := hle.trans e
  have hlr := hlr.trans e
  refine Hx ?_; refine Da 18 rfl (Yk rfl rfl) ?_; refine Da 19 rfl (Yk rfl rfl) ?_; refine Da 20 rfl (Bk rfl) ?_; refine A5 Af ?_; refine Am (.tmp rfl .nil) ?_
  exact ⟨_, _, hle, fun w h => Mem.sub (L' := rd b oa l c _ :: L) A7 h, _, _, rfl, E5, by omega, by omega, rfl⟩
 intro c1
 try simp only [nb] at c1
 refine Ah (Se rfl (Oc rfl rfl rfl (Oa rfl (Ab ?_)))); refine A6 rfl ?_ ?_
 ·intro c2
  try simp only [nb] at c2
  refine Ak ?_
  first | refine St rfl (by first | assumption | omega) ?_ | refine B9 Ar ?_
  refine Se rfl (Om rfl ?_); refine Ca rfl (L3 1 h hl b _ Aa Ad Ad _) ?_; rintro _ J _ e ⟨kd, pk, rfl, hkd, hpk1, hpk2, rfl⟩
  have h := h.mono e
  have hs := hs.mono e
  have hle := hle.trans e
  have hlr := hlr.trans e
  refine Oa rfl (Ab (Se rfl (Om rfl ?_))); refine Ol rfl rfl ?_; intro b51; refine Eb [[97], [98], [99], [120, 49], [121, 48]] Ad Ad ?_; intro J1 e1 k1
  have h := h.mono e1
  have hs := hs.mono e1
  have hle := hle.trans e1
  refine Ca rfl (Fc h hl b _ Aa k1 Ae _) ?_; rintro _ _ _ _ ⟨nx, rfl, hnx, rfl, rfl⟩
  have hnxl : nx.length ≤ 2 := by revert nx; decide
  refine Oa rfl (Ab (Ah ?_)); refine C9 fun hlr => ?_
  refine Hl 21 rfl rfl ?_; refine Da 0 rfl (Ai rfl) ?_; refine Da 1 rfl (Yk rfl rfl) ?_; refine Da 2 rfl (Yk rfl rfl) ?_; refine Da 3 rfl (Ai rfl) ?_; refine Dt 4 [21] rfl (Ea rfl) ?_; refine Da 5 rfl (Ai rfl) ?_; refine Da 6 rfl (Ai rfl) ?_; refine Da 10 rfl (Ai rfl) ?_; refine Dt 11 [21] rfl (Ea rfl) ?_; refine Da 12 rfl (Ai rfl) ?_; refine Da 13 rfl (Ai rfl) ?_; refine Da 15 rfl (Ai rfl) ?_; refine Da 16 rfl (Ai rfl) ?_; refine Dc 7 rfl rfl (ih h hl b _ Aa hs Aa _ Cq _) ?_; rintro _ J _ e ⟨s1, p1, rfl, hs1, hp1, hp2, rfl⟩
  have h := h.mono e
  have hs := hs.mono e
  have hle := hle.trans e
  have hlr := hlr.trans e
  refine Hx ?_; refine Da 8 rfl (Yk rfl rfl) ?_; refine Da 9 rfl (Yk rfl rfl) ?_; refine Dc 14 rfl rfl (L2 hs nx kd Aa Aa Aa _) ?_; rintro _ J2 _ e2 ⟨o3, c3, o4, c4, rfl, hs2, rfl⟩
  have h := h.mono e2
  have hle := hle.trans e2
  have hlr := hlr.trans e2
  refine Hx ?_; refine Dc 17 rfl rfl (ih h hl b _ Aa hs2 Dr _ Aa _) ?_; rintro _ J _ e ⟨s1, p1, rfl, hs1, hp1, hp2, rfl⟩
  have hle := hle.trans e
  have hlr := hlr.trans e
  refine Hx ?_; refine Da 18 rfl (Yk rfl rfl) ?_; refine Da 19 rfl (Yk rfl rfl) ?_; refine Da 20 rfl (Bk rfl) ?_; refine A5 Af ?_; refine Am (.tmp rfl .nil) ?_
  exact ⟨_, _, hle, fun w h => Mem.sub (L' := rd b oa l c _ :: L) A7 h, _, _, rfl, E5, by omega, by omega, rfl⟩
 intro c2
 try simp only [nb] at c2
 refine Al rfl (Oc rfl rfl rfl (Oa rfl (Ab ?_))); refine A6 rfl ?_ ?_
 ·intro c3
  try simp only [nb] at c3
  refine Se rfl (Om rfl ?_); refine Ca rfl (L3 1 h hl b _ Aa Ad Ad _) ?_; rintro _ J _ e ⟨kd, pk, rfl, hkd, hpk1, hpk2, rfl⟩
  have h := h.mono e
  have hs := hs.mono e
  have hle := hle.trans e
  have hlr := hlr.trans e
  refine Oa rfl (Ab (Se rfl (Om rfl ?_))); refine Ol rfl rfl ?_; intro b51; refine Eb [[97], [98], [99], [120, 49], [121, 48]] Ad Ad ?_; intro J1 e1 k1
  have h := h.mono e1
  have hs := hs.mono e1
  have hle := hle.trans e1
  refine Ca rfl (Fc h hl b _ Aa k1 Ae _) ?_; rintro _ _ _ _ ⟨nx, rfl, hnx, rfl, rfl⟩
  have hnxl : nx.length ≤ 2 := by revert nx; decide
  refine Oa rfl (Ab (Ah ?_)); refine C9 fun hlr => ?_
  refine Hl 21 rfl rfl ?_; refine Da 0 rfl (Ai rfl) ?_; refine Da 1 rfl (Yk rfl rfl) ?_; refine Da 2 rfl (Yk rfl rfl) ?_; refine Da 3 rfl (Ai rfl) ?_; refine Dt 4 [21] rfl (Ea rfl) ?_; refine Da 5 rfl (Ai rfl) ?_; refine Da 6 rfl (Ai rfl) ?_; refine Da 10 rfl (Ai rfl) ?_; refine Dt 11 [21] rfl (Ea rfl) ?_; refine Da 12 rfl (Ai rfl) ?_; refine Da 13 rfl (Ai rfl) ?_; refine Da 15 rfl (Ai rfl) ?_; refine Da 16 rfl (Ai rfl) ?_; refine Dc 7 rfl rfl (ih h hl b _ Aa hs Aa _ Cq _) ?_; rintro _ J _ e ⟨s1, p1, rfl, hs1, hp1, hp2, rfl⟩
  have h := h.mono e
  have hs := hs.mono e
  have hle := hle.trans e
  have hlr := hlr.trans e
  refine Hx ?_; refine Da 8 rfl (Yk rfl rfl) ?_; refine Da 9 rfl (Yk rfl rfl) ?_; refine Dc 14 rfl rfl (L2 hs nx kd Aa Aa Aa _) ?_; rintro _ J2 _ e2 ⟨o3, c3, o4, c4, rfl, hs2, rfl⟩
  have h := h.mono e2
  have hle := hle.trans e2
  have hlr := hlr.trans e2
  refine Hx ?_; refine Dc 17 rfl rfl (ih h hl b _ Aa hs2 Dr _ Aa _) ?_; rintro _ J _ e ⟨s1, p1, rfl, hs1, hp1, hp2, rfl⟩
  have hle := hle.trans e
  have hlr := hlr.trans e
  refine Hx ?_; refine Da 18 rfl (Yk rfl rfl) ?_; refine Da 19 rfl (Yk rfl rfl) ?_; refine Da 20 rfl (Bk rfl) ?_; refine A5 Af ?_; refine Am (.tmp rfl .nil) ?_
  exact ⟨_, _, hle, fun w h => Mem.sub (L' := rd b oa l c _ :: L) A7 h, _, _, rfl, E5, by omega, by omega, rfl⟩
 intro c3
 try simp only [nb] at c3
 refine Ah (Se rfl (Oc rfl rfl rfl (Oa rfl (Ab ?_)))); refine A6 rfl ?_ ?_
 ·intro c4
  try simp only [nb] at c4
  refine Ak ?_
  first | refine St rfl (by first | assumption | omega) ?_ | refine B9 Ar ?_
  refine Se rfl (Om rfl ?_); refine Ca rfl (L3 1 h hl b _ Aa Ad Ad _) ?_; rintro _ J _ e ⟨kd, pk, rfl, hkd, hpk1, hpk2, rfl⟩
  have h := h.mono e
  have hs := hs.mono e
  have hle := hle.trans e
  have hlr := hlr.trans e
  refine Oa rfl (Ab (Ah ?_)); refine C9 fun hlr => ?_
  refine Hl 20 rfl rfl ?_; refine Da 0 rfl (Ai rfl) ?_; refine Dt 1 [20] rfl (Ea rfl) ?_; refine Da 2 rfl (Ai rfl) ?_; refine Da 3 rfl (Yk rfl rfl) ?_; refine Da 4 rfl (Yk rfl rfl) ?_; refine Da 5 rfl (Ai rfl) ?_; refine Da 6 rfl (Yk rfl rfl) ?_; refine Da 7 rfl (Yk rfl rfl) ?_; refine Da 8 rfl (Ai rfl) ?_; refine Da 12 rfl (Ai rfl) ?_; refine Dt 13 [20] rfl (Ea rfl) ?_; refine Da 14 rfl (Ai rfl) ?_; refine Da 15 rfl (Ai rfl) ?_; refine Dc 9 rfl rfl (ih h hl b _ Aa hs Aa _ Cq _) ?_; rintro _ J _ e ⟨s1, p1, rfl, hs1, hp1, hp2, rfl⟩
  have h := h.mono e
  have hs := hs.mono e
  have hle := hle.trans e
  have hlr := hlr.trans e
  refine Hx ?_; refine Da 10 rfl (Yk rfl rfl) ?_; refine Da 11 rfl (Yk rfl rfl) ?_; refine Dc 16 rfl rfl (ih h hl b _ Aa hs Aa _ Cq _) ?_; rintro _ J _ e ⟨s1, p1, rfl, hs1, hp1, hp2, rfl⟩
  have h := h.mono e
  have hs := hs.mono e
  have hle := hle.trans e
  have hlr := hlr.trans e
  refine Hx ?_; refine Da 17 rfl (Yk rfl rfl) ?_; refine Da 18 rfl (Yk rfl rfl) ?_; refine Da 19 rfl (Bk rfl) ?_; refine A5 Af ?_; refine Am (.tmp rfl .nil) ?_
  exact ⟨_, _, hle, fun w h => Mem.sub (L' := rd b oa l c _ :: L) A7 h, _, _, rfl, E5, by omega, by omega, rfl⟩
 intro c4
 try simp only [nb] at c4
 refine Al rfl (Oc rfl rfl rfl (Oa rfl (Ab ?_))); refine A6 rfl ?_ ?_
 ·intro c5
  try simp only [nb] at c5
  refine Se rfl (Om rfl ?_); refine Ca rfl (L3 1 h hl b _ Aa Ad Ad _) ?_; rintro _ J _ e ⟨kd, pk, rfl, hkd, hpk1, hpk2, rfl⟩
  have h := h.mono e
  have hs := hs.mono e
  have hle := hle.trans e
  have hlr := hlr.trans e
  refine Oa rfl (Ab (Ah ?_)); refine C9 fun hlr => ?_
  refine Hl 20 rfl rfl ?_; refine Da 0 rfl (Ai rfl) ?_; refine Dt 1 [20] rfl (Ea rfl) ?_; refine Da 2 rfl (Ai rfl) ?_; refine Da 3 rfl (Yk rfl rfl) ?_; refine Da 4 rfl (Yk rfl rfl) ?_; refine Da 5 rfl (Ai rfl) ?_; refine Da 6 rfl (Yk rfl rfl) ?_; refine Da 7 rfl (Yk rfl rfl) ?_; refine Da 8 rfl (Ai rfl) ?_; refine Da 12 rfl (Ai rfl) ?_; refine Dt 13 [20] rfl (Ea rfl) ?_; refine Da 14 rfl (Ai rfl) ?_; refine Da 15 rfl (Ai rfl) ?_; refine Dc 9 rfl rfl (ih h hl b _ Aa hs Aa _ Cq _) ?_; rintro _ J _ e ⟨s1, p1, rfl, hs1, hp1, hp2, rfl⟩
  have h := h.mono e
  have hs := hs.mono e
  have hle := hle.trans e
  have hlr := hlr.trans e
  refine Hx ?_; refine Da 10 rfl (Yk rfl rfl) ?_; refine Da 11 rfl (Yk rfl rfl) ?_; refine Dc 16 rfl rfl (ih h hl b _ Aa hs Aa _ Cq _) ?_; rintro _ J _ e ⟨s1, p1, rfl, hs1, hp1, hp2, rfl⟩
  have h := h.mono e
  have hs := hs.mono e
  have hle := hle.trans e
  have hlr := hlr.trans e
  refine Hx ?_; refine Da 17 rfl (Yk rfl rfl) ?_; refine Da 18 rfl (Yk rfl rfl) ?_; refine Da 19 rfl (Bk rfl) ?_; refine A5 Af ?_; refine Am (.tmp rfl .nil) ?_
  exact ⟨_, _, hle, fun w h => Mem.sub (L' := rd b oa l c _ :: L) A7 h, _, _, rfl, E5, by omega, by omega, rfl⟩
 intro c5
 try simp only [nb] at c5
 refine Se rfl (Oc rfl rfl rfl (Oa rfl (Ab ?_))); refine A6 rfl ?_ ?_
 ·intro c6
  try simp only [nb] at c6
  refine Se rfl (Om rfl ?_); refine Az rfl .free rfl ?_; refine Om rfl ?_; refine Ok rfl rfl ?_; refine Ok rfl rfl ?_; refine Om rfl ?_; refine Ca rfl (ih h hl b _ Aa hs Aa _ Cq _) ?_; rintro _ J _ e ⟨s1, p1, rfl, hs1, hp1, hp2, rfl⟩
  have h := h.mono e
  have hs := hs.mono e
  have hle := hle.trans e
  have hlr := hlr.trans e
  refine Ok rfl rfl ?_; refine Ok rfl rfl ?_; refine Oa rfl (Ab (Am (.tmp rfl .nil) ?_))
  exact ⟨_, _, hle, fun w h => Mem.sub (L' := rd b oa l c _ :: L) A7 h, _, _, rfl, E5, by omega, by omega, rfl⟩
 intro c6
 try simp only [nb] at c6
 refine Se rfl (Oc rfl rfl rfl (Oa rfl (Ab ?_))); refine A6 rfl ?_ ?_
 ·intro c7
  try simp only [nb] at c7
  refine Se rfl (Om rfl ?_); refine Az rfl .free rfl ?_; refine Om rfl ?_; refine Ok rfl rfl ?_; refine Ok rfl rfl ?_; refine Om rfl ?_; refine Ca rfl (ih h hl b _ Aa hs Aa _ Cq _) ?_; rintro _ J _ e ⟨s1, p1, rfl, hs1, hp1, hp2, rfl⟩
  have h := h.mono e
  have hs := hs.mono e
  have hle := hle.trans e
  have hlr := hlr.trans e
  refine Ok rfl rfl ?_; refine Ok rfl rfl ?_; refine Oa rfl (Ab (Am (.tmp rfl .nil) ?_))
  exact ⟨_, _, hle, fun w h => Mem.sub (L' := rd b oa l c _ :: L) A7 h, _, _, rfl, E5, by omega, by omega, rfl⟩
 intro c7
 try simp only [nb] at c7
 refine Se rfl (Oc rfl rfl rfl (Oa rfl (Ab ?_))); refine A6 rfl ?_ ?_
 ·intro c8
  try simp only [nb] at c8
  refine Se rfl (Om rfl (Od rfl rfl rfl (Ab ?_))); refine A6 rfl ?_ ?_
  ·intro c9
   try simp only [nb] at c9
   refine Se rfl (Om rfl ?_); refine Ca rfl (Abl h hl b _ Aa _) ?_; rintro _ J _ e ⟨s1, p1, rfl, hs1, hp1, hp2, rfl⟩
   have hle := hle.trans e
   refine Oa rfl (Ab (Am (.tmp rfl .nil) ?_))
   exact ⟨_, _, hle, fun w h => Mem.sub (L' := rd b oa l c _ :: L) A7 h, _, _, rfl, E5, by omega, by omega, rfl⟩
  intro c9
  try simp only [nb] at c9
  refine Ak (Ap (Se rfl (Om rfl ?_))); refine Az rfl .free rfl ?_; refine Om rfl (Om rfl ?_); refine Ca rfl (Sg ih hd ht0 h hl b _ Aa hs Aa want Aa _) ?_; rintro _ J _ e ⟨s1, p1, rfl, hs1, hp1, hp2, rfl⟩
  have hle := hle.trans e
  refine Oa rfl (Ab (Am (.tmp rfl .nil) ?_))
  exact ⟨_, _, hle, fun w h => Mem.sub (L' := rd b oa l c _ :: L) A7 h, _, _, rfl, E5, by omega, by omega, rfl⟩
 intro c8
 try simp only [nb] at c8
 refine Ak (Ap (Se rfl (Om rfl ?_))); refine Az rfl .free rfl ?_; refine Om rfl (Om rfl ?_); refine Ca rfl (Sg ih hd ht0 h hl b _ Aa hs Aa want Aa _) ?_; rintro _ J _ e ⟨s1, p1, rfl, hs1, hp1, hp2, rfl⟩
 have hle := hle.trans e
 refine Oa rfl (Ab (Am (.tmp rfl .nil) ?_))
 exact ⟨_, _, hle, fun w h => Mem.sub (L' := rd b oa l c _ :: L) A7 h, _, _, rfl, E5, by omega, by omega, rfl⟩
theorem Xm : ∀ d, d ≤ 4 → W8 d
 | 0, _ => Abb
 | d + 1, h => Aba (Xm d (by omega)) (by omega) (by
   have : ∀ d, d ≤ 4 → eT d ≤ 1000000000 := by decide
   exact this _ h)
theorem L1 {d : Nat} (hd : d ≤ 4) {I : Heap} {oa : Option Addr} {l : List UInt8} {c : Nat} (h : Bytes I oa l c) (hl : l.length ≤ 2000) (b p : Nat) (hp : p + 3000 ≤ 1099511627776) {ns ts : List As} {o1 o2 : Option Addr} {c1 c2 : Nat} (hs : ScAt I ns ts o1 c1 o2 c2) (hn : ns.length ≤ 80) (want : As) (hw : want.length ≤ 900) (L : Bj) :
  Fun Tryz.prog 119 [.pointer (some ⟨b, 0, none⟩), .agg [.slice o1 ns.length c1, .slice o2 ts.length c2].toArray, .string (str want), .int .i64 (d : Nat)] I (rd b oa l c p :: L) (DT b oa l c p 3000 400000 L) := by
 have hk : ∀ d, d ≤ 4 → kE d ≤ 3000 ∧ eT d ≤ 400000 := by decide
 obtain ⟨h1, h2⟩ := hk d hd; refine (Xm d hd h hl b p Aa hs Aa want Aa L).mono ?_; rintro v I' L' _ ⟨s, p', rfl, h3, h4, h5, rfl⟩
 exact ⟨s, p', rfl, by omega, h4, by omega, rfl⟩
mutual
def Tree.atomL : Tree → List As
 | .node a [] => [a]
 | .node _ (p :: ps) => p.atomL ++ Do ps
def Do : List Tree → List As
 | [] => []
 | t :: ts => t.atomL ++ Do ts
end
mutual
def Tree.repl : Tree → As → Tree → Tree
 | .node x [], a, b => if x = a then b else .node x []
 | .node x (p :: ps), a, b => .node x (p.repl a b :: Jt ps a b)
def Jt : List Tree → As → Tree → List Tree
 | [], _, _ => []
 | t :: ts, a, b => t.repl a b :: Jt ts a b
end
theorem Um (t : Tree) (h : t.parts ≠ []) : t.atomL = Do t.parts := by
 cases t with
 | node a ps => cases ps with
  | nil => exact absurd rfl h
  | cons p ps => rfl
theorem Sd (t : Tree) (h : t.parts = []) : t.atomL = [t.atom] := by
 cases t with
 | node a ps => simp [Tree.parts] at h; subst h; rfl
theorem N8 : ∀ (a b : List Tree), Do (a ++ b) = Do a ++ Do b
 | [], b => rfl
 | t :: a, b => by simp only [List.cons_append, Do, N8 a b, List.append_assoc]
theorem M7 (ps : List Tree) (i : Nat) (hi : i < ps.length) : Do (ps.take (i + 1)) = Do (ps.take i) ++ ps[i].atomL := by
 rw [List.take_succ_eq_append_getElem hi, N8]; simp [Do]
mutual
theorem Tree.atomL_len : ∀ t : Tree, t.atomL.length = t.size
 | .node a [] => rfl
 | .node a (p :: ps) => by
  have h1 := p.atomL_len; have h2 := If ps
  simp only [Tree.atomL, List.length_append, h1, h2, Tree.size, Eu, List.isEmpty_cons, cond_false]
theorem If : ∀ ts : List Tree, (Do ts).length = Eu ts
 | [] => rfl
 | t :: ts => by have h1 := t.atomL_len; have h2 := If ts; simp only [Do, List.length_append, h1, h2, Eu]
end
theorem Aeo (t : Tree) (a : As) (b : Tree) (h : t.parts ≠ []) : t.repl a b = .node t.atom (Jt t.parts a b) := by
 cases t with
 | node x ps => cases ps with
  | nil => exact absurd rfl h
  | cons p ps => rfl
theorem Ve (t : Tree) (a : As) (b : Tree) (h : t.parts = []) : t.repl a b = if t.atom = a then b else t := by
 cases t with
 | node x ps => simp [Tree.parts] at h; subst h; rfl
theorem Py : ∀ (p q : List Tree) (a : As) (b : Tree), Jt (p ++ q) a b = Jt p a b ++ Jt q a b
 | [], q, a, b => rfl
 | t :: p, q, a, b => by simp only [List.cons_append, Jt, Py p q]
theorem Mu : ∀ (ps : List Tree) (a : As) (b : Tree), (Jt ps a b).length = ps.length
 | [], _, _ => rfl
 | t :: ps, a, b => by simp only [Jt, List.length_cons, Mu ps]
theorem Zz (ps : List Tree) (a : As) (b : Tree) (i : Nat) (hi : i < ps.length) : Jt (ps.take (i + 1)) a b = Jt (ps.take i) a b ++ [ps[i].repl a b] := by
 rw [List.take_succ_eq_append_getElem hi, Py]; rfl
mutual
theorem Tree.repl_good : ∀ {t : Tree} {a : As} {b : Tree}, t.good = true → b.good = true → (t.repl a b).good = true
 | .node x [], a, b, h, hb => by simp only [Tree.repl]; split; exact hb; exact h
 | .node x (p :: ps), a, b, h, hb => by
  obtain ⟨h1, h2, h3⟩ := Jd h; subst h1
  simp [Tree.repl, Tree.good, F2, Tree.repl_good h2 hb, Tm h3 hb]
theorem Tm : ∀ {ps : List Tree} {a : As} {b : Tree}, F2 ps = true → b.good = true → F2 (Jt ps a b) = true
 | [], a, b, h, hb => rfl
 | t :: ps, a, b, h, hb => by
  simp [F2] at h
  simp [Jt, F2, Tree.repl_good h.1 hb, Tm h.2 hb]
end
mutual
theorem Tree.repl_len : ∀ (t : Tree) (a : As) (b : Tree), (t.repl a b).len ≤ t.len + t.size * b.len
 | .node x [], a, b => by simp only [Tree.repl, Tree.size, List.isEmpty_nil, cond_true, Nat.one_mul]; split <;> omega
 | .node x (p :: ps), a, b => by
  have h1 := p.repl_len a b; have h2 := Vd ps a b
  simp only [Tree.repl, Tree.len, Tree.size, Gs, Eu, List.isEmpty_cons, cond_false, Nat.add_mul]; omega
theorem Vd : ∀ (ps : List Tree) (a : As) (b : Tree), Gs (Jt ps a b) ≤ Gs ps + Eu ps * b.len
 | [], a, b => by simp [Jt, Gs, Eu]
 | t :: ps, a, b => by
  have h1 := t.repl_len a b; have h2 := Vd ps a b
  simp only [Jt, Gs, Eu, Nat.add_mul]; omega
end
theorem Aa1 {l : List As} (h : l ≠ []) : C8 [] l ≠ [] := fun e => h (Sa.1 e)
theorem Tree.size_one : ∀ t : Tree, 1 ≤ t.size
 | .node a [] => Nat.le_refl _
 | .node a (p :: ps) => by
  have := Tree.size_one p
  simp only [Tree.size, Eu, List.isEmpty_cons, cond_false]; omega
theorem Acp (t : Tree) : t.atomL ≠ [] := by
 have h1 := t.atomL_len
 have h2 := t.size_one
 intro e; rw [e] at h1; simp at h1; omega
mutual
theorem Tree.atom_len : ∀ (t : Tree) (x : As), x ∈ t.atomL → x.length ≤ t.len
 | .node a [], x, h => by
  simp only [Tree.atomL, List.mem_singleton] at h
  subst h; simp [Tree.len]
 | .node a (p :: ps), x, h => by
  simp only [Tree.atomL, List.mem_append] at h
  simp only [Tree.len, Gs, List.isEmpty_cons, cond_false]
  rcases h with h | h
  ·have := p.atom_len x h; omega
  ·have := M6 ps x h; omega
theorem M6 : ∀ (ts : List Tree) (x : As), x ∈ Do ts → x.length ≤ Gs ts
 | [], x, h => by cases h
 | t :: ts, x, h => by
  simp only [Do, List.mem_append] at h
  simp only [Gs]
  rcases h with h | h
  ·have := t.atom_len x h; omega
  ·have := M6 ts x h; omega
end
theorem Un {t : Tree} (h : t.len ≤ 12000000) : ∀ s ∈ C8 [] t.atomL, s.length ≤ Bg := by
 intro s hs
 rcases Hh.1 hs with h1 | h1
 ·cases h1
 ·have := t.atom_len s h1; unfold Bg; omega
def Jm (s : As) : Option (List As) := (D4 s).map fun t => C8 [] t.atomL
def Jz (s a b : As) : Option As := match D4 s, D4 a, D4 b with
 | some t, some x, some y => if x.atom ≠ [] ∧ (D4 (t.repl a y).text).isSome = true then some (t.repl a y).text else none
 | _, _, _ => none
theorem X2 (s : As) (hs : s.length ≤ Mk) (I : Heap) (L : Bj) : Fun Tryz.prog 136 [.string (str s)] I L (fun v I' L' => v = .bool (D4 s).isSome ∧ L = L') := by
 refine Ao Ae ?_; refine Se rfl (Oa rfl (Ab (Se rfl (Om rfl ?_)))); refine Ca rfl (Ig s hs _ _) ?_; rintro _ J _ e1 ⟨t, cs, ok, rfl, hrep, rfl, hpf⟩; obtain ⟨o1, k1, _, rfl, -⟩ := hrep.open; refine Om rfl (Oe rfl rfl (Oe rfl rfl ?_)); refine A1 .free rfl ?_; intro b3; refine By rfl rfl rfl rfl .free ?_; refine Oa rfl (Ab (Se rfl (Om rfl (Oa rfl (Ab (Am (.tmp rfl .nil) ?_)))))); refine ⟨J, L, e1, Cl, ?_, rfl⟩
 cases hp : D4 s with
 | none => rw [hp] at hpf; rw [hpf]; rfl
 | some t0 => rw [hp] at hpf; rw [hpf.1]; rfl
structure GA where
 i : Nat
 l : List As
 B : Kg
 c : Nat
theorem Ux : ∀ (n : Nat) {I : Heap} {t : Tree} {cs : List Value} (_ : SizeOf.sizeOf t < n) (_ : Rep I t cs) (_ : t.good = true) (l : List As) (B : Kg) (c : Nat) (_ : l.length + t.size ≤ 4294967295) (_ : Dd 1 l.length c (l.map sv) B) (L : Bj),
  Fun Tryz.prog 124 [.agg cs.toArray, Bm l.length c B] I (A2 9 (l.map sv) B ++ L) (fun v I' L' => I = I' ∧ LP (C8 l t.atomL) L v I' L') := by
 intro n
 induction n with
 | zero => intro I t cs h; omega
 | succ n ihn =>
  intro I t cs hlt h hg l B c hl hB L; obtain ⟨oa, cc, oaf, cf, rfl, hf⟩ := h.at'
  have ha := hf.alen
  have hnil := hf.nil
  have hp := hf.len
  unfold Bg at hp
  have hs1 := t.size_one
  have hlN : l.length ≤ Bg := by unfold Bg; omega
  refine Ao Ae ?_; refine Se rfl ?_; refine Cm rfl rfl .free rfl ?_; intro b2; refine Oa rfl (Ab (Ah (Se rfl (Oh rfl ?_)))); refine Bv rfl .free rfl ?_; refine Od rfl rfl rfl (Ab ?_); refine A6 rfl ?_ ?_
  ·intro c0
   try simp only [nb] at c0
   have hat := Sd t (L4 hg c0)
   refine Ah (Se rfl (Om rfl (Oh rfl ?_))); refine Bv rfl .free rfl ?_; refine Ca rfl (Aal hB hlN _ _ _ _) ?_; rintro _ _ _ _ ⟨rfl, rfl, rfl⟩; refine Ab ?_; refine A6 rfl ?_ ?_
   ·intro c1
    try simp only [nb] at c1
    refine Se rfl (Om rfl (Oa rfl (Ab (Am (.tmp rfl .nil) ?_))))
    have hoc : C8 l t.atomL = l := by rw [hat]; exact Ul c1
    exact ⟨I, _, .refl _, fun w h => h.drop, rfl, B, c, by rw [hoc]; rfl, by rw [hoc]; exact hB, by rw [hoc]⟩
   intro c1
   try simp only [nb] at c1
   refine Ak (Se rfl (Om rfl (Oh rfl ?_))); refine Bv rfl .free rfl ?_; refine Ol rfl rfl ?_; intro b17; refine D1 (B := B) (xs := l.map sv) (ys := [sv t.atom]) (m := l.length) (c := c) Av Ac rfl rfl hB (fun _ h => h.u2) Ac (fun a ha => by cases ha; exact Bw (.head _) Ac) Ae Ac Ad Ad Aa Ad .free rfl ?_; intro bb sp c2 hB'; refine Oa rfl (Ab (Am (.tmp rfl .nil) ?_))
   have hoc : C8 l t.atomL = l ++ [t.atom] := by rw [hat]; exact Sb c1
   exact ⟨I, _, .refl _, Ms (L' := (bb, _) :: L), rfl, some (bb, sp), c2, by rw [hoc]; simp [C2, Bm], by rw [hoc]; simpa using hB', by rw [hoc]; simp [A2]⟩
  intro c0
  try simp only [nb] at c0
  have hne := Mg hg Fv
  have hat := Um t hne.1
  have hsz : t.size = Eu t.parts := by
   cases t with
   | node a ps => cases ps with
    | nil => exact absurd rfl hne.1
    | cons p ps => rfl
  refine Ak (Ah (Se rfl (Oa rfl (Ab (Aq ?_))))); refine Dn (X := GA) (fun x => t.parts.length - x.i) (fun x => [(1, Bm x.l.length x.c x.B), (2, .pointer (some ⟨b2, 0, none⟩)), (4, .slice none 0 0), (5, .int .i64 (x.i : Nat))]) (fun _ => I) (fun x => (b2, .cells [.string (str t.atom), .slice oa t.parts.length cc].toArray 68 (0, 0)) :: (A2 9 (x.l.map sv) x.B ++ L)) (fun x => x.i ≤ t.parts.length ∧ x.l = C8 l (Do (t.parts.take x.i)) ∧ Dd 1 x.l.length x.c (x.l.map sv) x.B) ⟨0, l, B, c⟩ ⟨Nat.zero_le _, rfl, hB⟩ ⟨rfl, rfl, rfl, rfl, trivial⟩ (by intro _ h; exact h) ?_
  rintro ⟨i, l1, B1, c1⟩ ⟨hi, hl1, hB1⟩ ih
  simp only at hi hl1 hB1 ih ⊢
  have hll := Ie l (Do (t.parts.take i))
  rw [← hl1, If] at hll; refine Ah (Se rfl (Om rfl (Oh rfl ?_))); refine Bv rfl .free rfl ?_; refine On rfl (Oc rfl rfl rfl (Ab ?_)); refine A6 rfl ?_ ?_
  ·intro c2
   try simp only [nb] at c2
   have hi1 : i < t.parts.length := by omega
   have hsl : Eu (t.parts.take i) + (t.pt i).size ≤ Eu t.parts := by
    rw [Tree.pt_at hi1]
    have h1 := H1 (t.parts.take i) (t.parts.drop i)
    rw [List.take_append_drop, List.drop_eq_getElem_cons hi1] at h1
    simp only [Eu] at h1; omega
   have hpg := Tree.pt_good hg i hi1
   refine Ak (Ah (Aq (Al rfl (Oh rfl ?_)))); refine Bv rfl .free rfl ?_; refine Om rfl ?_
   first | refine Bs rfl rfl _ rfl .free rfl ?_ | refine Bt rfl rfl _ rfl .free rfl ?_
   refine Gv rfl .free rfl ?_; refine Om rfl ?_; refine C4 (fun w h => h.u1) ?_; refine Ca rfl (ihn (t := t.pt i) (by have := t.pt_lt i hi1; omega) (hf.rp i hi1) hpg l1 B1 c1 Aa hB1 _) ?_; rintro _ _ _ _ ⟨rfl, B2, c2, rfl, hB2, rfl⟩; refine C4 (fun w h => h.w1) ?_; refine Oa rfl (Ab (Ap (Al rfl (Om rfl ?_)))); refine Or rfl rfl rfl ?_; refine Oa rfl (Ab ?_)
   exact Ed (E' := [(1, Bm (C8 l1 (t.pt i).atomL).length c2 B2), (2, .pointer (some ⟨b2, 0, none⟩)), (4, .slice none 0 0), (5, .int .i64 ((i + 1 : Nat)))]) ⟨rfl, rfl, rfl, rfl, trivial⟩ (ih ⟨i + 1, C8 l1 (t.pt i).atomL, B2, c2⟩ ⟨by simp only; omega, by simp only; rw [hl1, ← Cs, M7 _ _ hi1, Tree.pt_at hi1], hB2⟩ Dq)
  intro c2
  try simp only [nb] at c2
  refine Cc rfl ?_; refine Se rfl (Om rfl (Oa rfl (Ab (Am (.tmp rfl .nil) ?_))))
  have hl2 : l1 = C8 l t.atomL := by
   rw [hl1, hat, show i = t.parts.length by omega, List.take_length]
  subst hl2
  exact ⟨I, _, .refl _, fun w h => h.drop, rfl, B1, c1, rfl, hB1, rfl⟩
theorem X1 (s : As) (hs : s.length ≤ Mk) (I : Heap) (L : Bj) : Fun Tryz.prog 78 [.string (str s)] I L (EF (Jm s) L) := by
 refine Ao Ae ?_; refine Se rfl (Oa rfl (Oa rfl (Ab (Se rfl (Om rfl ?_))))); refine Ca rfl (Ig s hs _ _) ?_; rintro _ J _ e1 ⟨t, cs, ok, rfl, hrep, rfl, hpf⟩; obtain ⟨o1, k1, _, rfl, -⟩ := hrep.open; refine Om rfl (Oe rfl rfl (Oe rfl rfl ?_)); refine A1 .free rfl ?_; intro b4; refine By rfl rfl rfl rfl .free ?_; refine Oa rfl (Ab (Ah (Se rfl (Om rfl ?_)))); refine Ei rfl .free rfl ?_; refine Ab ?_; refine A6 rfl ?_ ?_
 ·intro c0
  try simp only [nb] at c0
  refine Se rfl ?_; refine Dl .free rfl ?_; intro b13; refine Oa rfl (Oa rfl (Ab ?_)); refine Am (.tmp rfl (.tmp rfl .nil)) ?_; refine ⟨J, L, e1, Cl, some ⟨b13, 0, none⟩, 0, ?_, ?_, rfl⟩
  ·have : Jm s = none := by
    unfold Jm
    cases hp : D4 s with
    | none => rfl
    | some t0 => rw [hp] at hpf; rw [hpf.1] at c0; cases c0
   rw [this]; rfl
  ·have : Jm s = none := by
    unfold Jm
    cases hp : D4 s with
    | none => rfl
    | some t0 => rw [hp] at hpf; rw [hpf.1] at c0; cases c0
   rw [this]; exact Ik _ _
 intro c0
 try simp only [nb] at c0
 have hps := Iy hpf c0
 have hpg := Ga hps
 have hpz := O4 hps
 have hat : Jm s = some (C8 [] t.atomL) := by unfold Jm; rw [hps]; rfl
 refine Ak (Se rfl ?_); refine Az rfl .free rfl ?_; refine Dl .free rfl ?_; intro b15; refine C4 (L' := A2 9 (([] : List As).map sv) (some (b15, [])) ++ _) (fun w h => h) ?_; refine Ca rfl (Ux _ (Nat.lt_succ_self _) hrep hpg.1 [] (some (b15, [])) 0 Dr ⟨rfl, Nat.le_refl _, rfl⟩ _) ?_; rintro _ _ _ _ ⟨rfl, B2, c2, rfl, hB2, rfl⟩; refine Oa rfl (Oa rfl (Ab ?_))
 have hll := Ie [] t.atomL
 rw [Tree.atomL_len] at hll
 simp only [List.length_nil, Nat.zero_add] at hll
 refine Gk hB2 rfl C3 (Un hpg.2.1) ?_; intro J2 oz cz ez hbv hst; refine Jv (t := 2) rfl hbv ?_; refine Am (.tmp rfl (.tmp rfl .nil)) ?_
 exact ⟨J2, L, e1.trans ez, Cl, oz, cz, by rw [hat]; rfl, by rw [hat]; exact hst, rfl⟩
structure GP where
 J : Heap
 i : Nat
 xs : List Value
 B : Kg
 c : Nat
theorem X3 : ∀ (n : Nat) {I : Heap} {t : Tree} {cs : List Value} (_ : SizeOf.sizeOf t < n) (_ : Rep I t cs) (_ : t.good = true) (a : As) (_ : a ≠ []) {y : Tree} {ds : List Value} (_ : Rep I y ds) (L : Bj),
  Fun Tryz.prog 135 [.agg cs.toArray, .string (str a), .agg ds.toArray] I L (RP (t.repl a y) L) := by
 intro n
 induction n with
 | zero => intro I t cs h; omega
 | succ n ihn =>
  intro I t cs hlt h hg a ha0 y ds hy L; obtain ⟨oa, cc, oaf, cf, rfl, hf⟩ := h.at'; obtain ⟨oy, ky, _, rfl, -⟩ := hy.open
  have hp := hf.len
  unfold Bg at hp
  have hnil := hf.nil
  refine Ao Ae ?_; refine Se rfl ?_; refine Cm rfl rfl .free rfl ?_; intro b3; refine Cm rfl rfl .free rfl ?_; intro b5; refine A1 .free rfl ?_; intro b6; refine Ab (Ah (Se rfl (Oh rfl ?_))); refine Bv rfl .free rfl ?_; refine Om rfl (Od rfl rfl rfl (Om rfl ?_))
  apply Fr 13 16 rfl
  ·intro g1_5 hk
   try simp only [nb] at g1_5
   refine Ow rfl ?_; refine F9 rfl rfl rfl (.met rfl rfl) rfl ?_; refine Ot rfl rfl ?_
   exact Bb 2 rfl rfl hk
  ·intro _ hk; refine Br 2 rfl ?_; refine Of rfl rfl ?_
   exact Bb 2 rfl rfl hk
  refine Ab ?_; refine A6 rfl ?_ ?_
  ·intro c0
   try simp only [nb] at c0
   refine Se rfl ?_; refine Az rfl .free rfl ?_; refine By rfl rfl rfl rfl .free ?_; refine Ab ?_; refine Am (.c rfl .nil) ?_
   have e : t.repl a y = y := by rw [Ve t a y (L4 hg (by rw [c0.1]; exact ha0)), if_pos c0.1]
   exact ⟨I, L, .refl _, Cl, _, rfl, by rw [e]; exact hy, rfl⟩
  intro c0
  try simp only [nb] at c0
  refine Ak (Ah (Se rfl (Oh rfl ?_))); refine Bv rfl .free rfl ?_; refine Od rfl rfl rfl (Ab ?_); refine A6 rfl ?_ ?_
  ·intro c1
   try simp only [nb] at c1
   refine Se rfl ?_; refine Az rfl .free rfl ?_; refine By rfl rfl rfl rfl .free ?_; refine Ab ?_; refine Am (.c rfl .nil) ?_
   have e : t.repl a y = t := by rw [Ve t a y (L4 hg c1), if_neg (fun e => by rcases c0 with h | h; exact h e; exact ha0 h)]
   exact ⟨I, L, .refl _, Cl, _, rfl, by rw [e]; exact hf.rep, rfl⟩
  intro c1
  try simp only [nb] at c1
  have hat : t.atom = [] := by simpa using c1
  have hne := Mg hg hat
  have hre := Aeo t a y hne.1
  refine Ak (Se rfl ?_); refine Cd rfl rfl rfl .free rfl ?_; refine A1 .free rfl ?_; intro b7; refine By rfl rfl rfl rfl .free ?_; refine Ab (Ah (Se rfl (Oa rfl (Ab (Aq ?_)))))
  refine Dn (X := GP) (fun x => t.parts.length - x.i) (fun x => [(1, .string (str a)), (3, .pointer (some ⟨b3, 0, none⟩)), (5, .pointer (some ⟨b5, 0, none⟩)), (6, .pointer (some ⟨b6, 0, none⟩)), (7, .pointer (some ⟨b7, 0, none⟩)), (8, .int .i64 (x.i : Nat))]) (fun x => x.J) (fun x => (b7, .cells [.string (str []), Bm x.i x.c x.B].toArray 68 (0, 0)) :: (A2 68 x.xs x.B ++ ((b6, .cells [.string (str []), .slice none 0 0].toArray 68 (0, 0)) :: (b5, .cells [.string (str y.atom), .slice oy y.parts.length ky].toArray 68 (0, 0)) :: (b3, .cells [.string (str t.atom), .slice oa t.parts.length cc].toArray 68 (0, 0)) :: L))) (fun x => HLe I x.J ∧ x.i ≤ t.parts.length ∧ RepL x.J (Jt (t.parts.take x.i) a y) x.xs ∧ Dd 2 x.i x.c x.xs x.B) ⟨I, 0, [], none, 0⟩ ⟨.refl _, Nat.zero_le _, .nil, ⟨rfl, rfl, rfl⟩⟩ ⟨rfl, rfl, rfl, rfl, rfl, rfl, trivial⟩ (by intro _ h; exact h) ?_
  rintro ⟨J, i, xs, B, cb⟩ ⟨ez, hi, hl, hB⟩ ih
  simp only at ez hi hl hB ih ⊢
  have hf := hf.mono ez
  have hy := hy.mono ez
  refine Ah (Se rfl (Om rfl (Oh rfl ?_))); refine Bv rfl .free rfl ?_; refine On rfl (Oc rfl rfl rfl (Ab ?_)); refine A6 rfl ?_ ?_
  ·intro c2
   try simp only [nb] at c2
   have hi1 : i < t.parts.length := by omega
   have hpg := Tree.pt_good hg i hi1
   have hlt1 := t.pt_lt i hi1
   refine Ak (Ah (Aq ?_)); refine Vz 14 rfl rfl ?_; refine Da 0 rfl (Aj rfl) ?_; refine Dt 1 [13] rfl (Bo rfl) ?_; refine Da 2 rfl (Aj rfl) ?_; refine Dt 3 [13] rfl (Bo rfl) ?_; refine Da 4 rfl (Ai rfl) ?_
   first | refine Da 5 rfl (Bc rfl rfl _ rfl) ?_ | refine Da 5 rfl (Bd rfl rfl _ rfl) ?_
   refine Dt 6 [13] rfl (C5 rfl) ?_; refine Da 7 rfl (Ai rfl) ?_; refine Dt 8 [13] rfl (Ea rfl) ?_; refine Dc 9 rfl rfl (ihn (t := t.pt i) Aa (hf.rp i hi1) hpg a ha0 hy _) ?_; rintro _ J1 _ e1 ⟨cs1, rfl, h1, rfl⟩; obtain ⟨o1, k1, _, rfl, -⟩ := h1.open; refine Hx ?_; refine Fg 10 rfl Af rfl rfl rfl Ac Ac Ac Ad Ad Ac .free rfl (.inr Au) ?_; intro b40
   refine Cg 11 (B := B) (xs := xs) (ys := [.string (str ((t.pt i).repl a y).atom), .slice o1 ((t.pt i).repl a y).parts.length k1]) (m := i) (c := cb) rfl Af rfl Av Ac rfl rfl hB (fun _ h => h.u2) Ac (fun a ha => by cases ha; exact Bw G7 Ac) Ae Ac Ad Aa Ad .free rfl (fun _ => .inr Au) ?_; intro B2 c2 hB2; refine Bn (fun w h => Mem.w1 (Mem.sub (List.Sublist.append_left (.cons _ (.refl _)) _) h)) ?_; refine Da 12 rfl (Aj rfl) ?_; refine Agh 13 rfl Af rfl rfl rfl P5 rfl .free (.inl Af) ?_; refine A5 Af ?_; refine Ap (Al rfl (Om rfl ?_)); refine Or rfl rfl rfl ?_; refine Oa rfl (Ab ?_)
   refine Ed (E' := [(1, .string (str a)), (3, .pointer (some ⟨b3, 0, none⟩)), (5, .pointer (some ⟨b5, 0, none⟩)), (6, .pointer (some ⟨b6, 0, none⟩)), (7, .pointer (some ⟨b7, 0, none⟩)), (8, .int .i64 ((i + 1 : Nat)))]) ⟨rfl, rfl, rfl, rfl, rfl, rfl, trivial⟩ (ih ⟨J1, i + 1, xs ++ [.string (str ((t.pt i).repl a y).atom), .slice o1 ((t.pt i).repl a y).parts.length k1], B2, c2⟩ ⟨ez.trans e1, by simp only; omega, ?_, hB2⟩ Dq); rw [Zz _ _ _ _ hi1, ← Tree.pt_at hi1]
   exact (hl.mono e1).append (.one h1)
  intro c2
  try simp only [nb] at c2
  refine Cc rfl ?_; refine Ah ?_
  have hie : i = t.parts.length := by omega
  rw [hie, List.take_length] at hl; refine Cu (fun w h => h.u1) (Ui hl hB (by rw [Mu, hie]) (by rw [Mu]; unfold Bg; omega) ?_); intro J2 oz cz ez2 hbv hst; rw [hbv]; refine Al rfl ?_; refine Az rfl .free rfl ?_; refine By rfl rfl rfl rfl .free ?_; refine Ab ?_; refine Am (.c rfl .nil) ?_
  exact ⟨J2, L, ez.trans ez2, Cl, _, rfl, by rw [hre, hat]; exact hst.form [] Ad, rfl⟩
theorem Ro {s a b : As} {t x y : Tree} (h1 : D4 s = some t) (h2 : D4 a = some x) (h3 : D4 b = some y) : Jz s a b = if x.atom ≠ [] ∧ (D4 (t.repl a y).text).isSome = true then some (t.repl a y).text else none := by
 unfold Jz; rw [h1, h2, h3]
theorem Iw {s a b : As} (h : D4 s = none ∨ D4 a = none ∨ D4 b = none) : Jz s a b = none := by
 unfold Jz
 rcases h with h | h | h
 ·rw [h]
 ·rw [h]; cases D4 s <;> rfl
 ·rw [h]; cases D4 s <;> cases D4 a <;> rfl
theorem Zb {p : Option Tree} {t : Tree} {ok : Bool} (hpf : match p with | some t0 => ok = true ∧ t = t0 | none => ok = false) : (ok = false → p = none) ∧ (ok = true → p = some t) := by
 cases p with
 | none => exact ⟨fun _ => rfl, fun h => (by rw [hpf] at h; cases h)⟩
 | some t0 => exact ⟨fun h => (by rw [hpf.1] at h; cases h), fun _ => (by rw [hpf.2])⟩
theorem Q1 {s : As} {t : Tree} (h : D4 s = some t) : s.length ≤ 12000 ∧ t.len ≤ 12000 := by
 have h1 := (Ii h).1
 simp only [Tree.fits, Bool.and_eq_true, decide_eq_true_eq] at h1
 exact ⟨by rw [← Ku h, Tree.text_len]; exact h1.2, h1.2⟩
theorem Yu {s a b o : As} (h : Jz s a b = some o) : o.length ≤ 12000 := by
 unfold Jz at h
 cases h1 : D4 s with
 | none => rw [h1] at h; cases h
 | some t =>
  cases h2 : D4 a with
  | none => rw [h1, h2] at h; cases h
  | some x =>
   cases h3 : D4 b with
   | none => rw [h1, h2, h3] at h; cases h
   | some y =>
    rw [h1, h2, h3] at h
    simp only at h
    split at h
    ·rename_i hh
     cases h
     obtain ⟨z, hz⟩ := Option.isSome_iff_exists.1 hh.2
     exact (Q1 hz).1
    ·cases h
theorem Oq (s a b : As) (hs : s.length ≤ Mk) (ha : a.length ≤ Mk) (hb : b.length ≤ 900) (I : Heap) (L : Bj) : Fun Tryz.prog 79 [.string (str s), .string (str a), .string (str b)] I L (EL (Jz s a b) L) := by
 refine Ao Ae ?_; refine Se rfl (Oa rfl (Oa rfl (Ab (Se rfl (Om rfl ?_))))); refine Ca rfl (Ig s hs _ _) ?_; rintro _ J1 _ e1 ⟨t, cs1, ok1, rfl, hr1, rfl, hp1⟩; obtain ⟨o1, k1, _, rfl, -⟩ := hr1.open; refine Om rfl (Oe rfl rfl (Oe rfl rfl ?_)); refine A1 .free rfl ?_; intro b8; refine By rfl rfl rfl rfl .free ?_; refine Oa rfl (Ab (Se rfl (Om rfl ?_))); refine Ca rfl (Ig a ha _ _) ?_; rintro _ J2 _ e2 ⟨x, cs2, ok2, rfl, hr2, rfl, hp2⟩; obtain ⟨o2, k2, _, rfl, -⟩ := hr2.open; refine Om rfl (Oe rfl rfl (Oe rfl rfl ?_)); refine A1 .free rfl ?_; intro b10; refine By rfl rfl rfl rfl .free ?_
 refine Oa rfl (Ab (Se rfl (Om rfl ?_))); refine Ca rfl (Ig b (by unfold Mk; omega) _ _) ?_; rintro _ J3 _ e3 ⟨y, cs3, ok3, rfl, hr3, rfl, hp3⟩; obtain ⟨o3, k3, _, rfl, -⟩ := hr3.open
 have q1 := Zb hp1
 have q2 := Zb hp2
 have q3 := Zb hp3
 have hle := (e1.trans e2).trans e3
 refine Om rfl (Oe rfl rfl (Oe rfl rfl ?_)); refine A1 .free rfl ?_; intro b12; refine By rfl rfl rfl rfl .free ?_; refine Oa rfl (Ab (Ah (Se rfl (Om rfl ?_)))); refine Ei rfl .free rfl ?_; refine Om rfl ?_
 apply G4 32 35 rfl
 ·intro g4_3 hk
  try simp only [nb] at g4_3
  refine Ow rfl ?_; refine Ei rfl (.met rfl rfl) rfl ?_; refine Of rfl rfl ?_
  exact Bb 2 rfl rfl hk
 ·intro _ hk; refine Br 2 rfl ?_; refine Ot rfl rfl ?_
  exact Bb 2 rfl rfl hk
 refine Om rfl ?_
 apply G4 36 39 rfl
 ·intro g4_7 hk
  try simp only [nb] at g4_7
  refine Ow rfl ?_; refine Ei rfl (.met rfl rfl) rfl ?_; refine Of rfl rfl ?_
  exact Bb 2 rfl rfl hk
 ·intro _ hk; refine Br 2 rfl ?_; refine Ot rfl rfl ?_
  exact Bb 2 rfl rfl hk
 refine Om rfl ?_
 apply G4 40 44 rfl
 ·intro g4_11 hk
  try simp only [nb] at g4_11
  refine Cj rfl (.met rfl rfl) rfl ?_; refine Bv rfl (.met rfl rfl) rfl ?_; refine F9 rfl rfl rfl (.met rfl rfl) rfl ?_; refine Of rfl rfl ?_
  exact Bb 3 rfl rfl hk
 ·intro _ hk; refine Br 3 rfl ?_; refine Ot rfl rfl ?_
  exact Bb 3 rfl rfl hk
 refine Ab ?_; refine A6 rfl ?_ ?_
 ·intro c0
  try simp only [nb] at c0
  refine Se rfl (Oa rfl (Oa rfl (Ab ?_))); refine Am (.tmp rfl (.tmp rfl .nil)) ?_; refine ⟨J3, L, hle, Cl, ?_, rfl⟩
  have hz : Jz s a b = none := by
   rcases c0 with ((h | h) | h) | h
   ·exact Iw (.inl (q1.1 h))
   ·exact Iw (.inr (.inl (q2.1 h)))
   ·exact Iw (.inr (.inr (q3.1 h)))
   ·cases hh1 : D4 s with
    | none => exact Iw (.inl hh1)
    | some t1 =>
     cases hh2 : D4 a with
     | none => exact Iw (.inr (.inl hh2))
     | some x1 =>
      cases hh3 : D4 b with
      | none => exact Iw (.inr (.inr hh3))
      | some y1 =>
       rw [hh2] at hp2; rw [Ro hh1 hh2 hh3, if_neg (by rw [← hp2.2]; exact fun e => e.1 h)]
  rw [hz]; rfl
 intro c0
 try simp only [nb] at c0
 obtain ⟨⟨⟨h1, h2⟩, h3⟩, h4⟩ := c0
 have p1 := q1.2 h1
 have p2 := q2.2 h2
 have p3 := q3.2 h3
 have f1 := Ii p1
 have f2 := Ii p2
 have f3 := Ii p3
 have l1 := (Q1 p1).2
 have l3 : y.len ≤ 900 := by rw [← Tree.text_len, Ku p3]; exact hb
 have z1 := O4 p1
 have hrl := t.repl_len a y
 have hmul : t.size * y.len ≤ 12000 * 900 := Nat.mul_le_mul z1 l3
 have hrg := Tree.repl_good (a := a) f1.2.1 f3.2.1
 have ha0 : a ≠ [] := by
  intro e
  have h5 := Ku p2
  have h6 := L4 f2.2.1 h4
  cases x with
  | node n ps =>
   simp only [Tree.parts] at h6
   subst h6
   simp only [Tree.text, List.isEmpty_nil, cond_true] at h5
   exact h4 (h5.trans e)
 have hro := Ro p1 p2 p3
 refine Ak (Se rfl ?_); refine Az rfl .free rfl ?_; refine Om rfl ?_; refine Az rfl .free rfl ?_; refine Ca rfl (X3 _ (Nat.lt_succ_self _) ((hr1.mono e2).mono e3) f1.2.1 a ha0 hr3 _) ?_; rintro _ J4 _ e4 ⟨cs4, rfl, hr4, rfl⟩; refine Ca rfl (Kq _ (Nat.lt_succ_self _) hr4 hrg Aa _) ?_; rintro _ _ _ _ ⟨rfl, rfl, rfl⟩; refine Oa rfl (Ab (Ah (Se rfl (Om rfl ?_)))); refine Ca rfl (X2 _ (by rw [Tree.text_len]; unfold Mk; omega) _ _) ?_; rintro _ J5 _ e5 ⟨rfl, rfl⟩
 have hle := (hle.trans e4).trans e5
 refine Ei rfl .free rfl ?_; refine Ab ?_; refine A6 rfl ?_ ?_
 ·intro c1
  try simp only [nb] at c1
  refine Se rfl (Oa rfl (Oa rfl (Ab ?_))); refine Am (.tmp rfl (.tmp rfl .nil)) ?_; refine ⟨J5, L, hle, Cl, ?_, rfl⟩; rw [hro, if_neg (by rintro ⟨-, h⟩; rw [c1] at h; cases h)]; rfl
 intro c1
 try simp only [nb] at c1
 refine Ak (Se rfl (Om rfl (Oa rfl (Oa rfl (Ab ?_))))); refine Am (.tmp rfl (.tmp rfl .nil)) ?_; refine ⟨J5, L, hle, Cl, ?_, rfl⟩; rw [hro, if_pos ⟨h4, c1⟩]; rfl
theorem Wu (I : Heap) (oa ob : Option Addr) : ScAt I [] [] oa 0 ob 0 := ⟨Ik _ _, Ik _ _, rfl, (fun _ h => by cases h), (fun _ h => by cases h)⟩
theorem Abk {I : Heap} {oa : Option Addr} {l : List UInt8} {c : Nat} (h : Bytes I oa l c) (hl : l.length ≤ 2000) (b p : Nat) (hp : p + 7000 ≤ 1099511627776) (L : Bj) :
  Fun Tryz.prog 77 [.pointer (some ⟨b, 0, none⟩)] I (rd b oa l c p :: L) (DT b oa l c p 7000 400000 L) := by
 have hle : HLe I I := .refl _
 have hk2 : kT 2 = 6 := rfl
 have hb2 : bT 2 = 19 := rfl
 refine Ao Ae ?_; refine Se rfl (Oa rfl (Ab (Se rfl (Oa rfl (Ab (Ah (Se rfl (Om rfl ?_)))))))); refine Ca rfl (D3 h hl b _ 3 Aa Ad _) ?_; rintro _ _ _ _ ⟨r, rfl, rfl, rfl, hr⟩; refine Oc rfl rfl rfl (Ab ?_); refine A6 rfl ?_ ?_
 ·intro c0
  try simp only [nb] at c0
  refine Al rfl (Om rfl ?_); refine Ca rfl (L3 2 h hl b _ Aa Ad Ad _) ?_; rintro _ J _ e ⟨w, pw, rfl, hw, hp1, hp2, rfl⟩
  have h := h.mono e
  have hle := hle.trans e
  refine Oa rfl (Ab (Ah ?_))
  try have hw := hw
  refine Al rfl (Om rfl ?_); refine Dl .free rfl ?_; intro b11; refine Dl .free rfl ?_; intro b12; refine Cd rfl rfl rfl .free rfl ?_; refine Om rfl (Om rfl ?_); refine C4 (fun w h => Mem.sub (L' := rd b oa l c _ :: L) A7 h) ?_; refine Ca rfl (D3 h hl b _ 3 Aa Ad _) ?_; rintro _ _ _ _ ⟨r2, rfl, rfl, rfl, hr2⟩
  have hr3 : r2 < 3 := by omega
  have hdd : ∃ d : Nat, (2 : Int) + (r2 : Nat) = (d : Nat) ∧ d ≤ 4 := ⟨2 + r2, by omega, by omega⟩
  obtain ⟨d, hd1, hd2⟩ := hdd; refine Or rfl rfl rfl ?_; refine Gl (t := 17) (v' := .int .i64 (d : Nat)) rfl (by rw [← hd1]) ?_; refine Ca rfl (L1 hd2 h hl b _ Aa (Wu _ _ _) Ae _ (by first | omega | (simp; done) | decide) _) ?_; rintro _ J1 _ e1 ⟨s1, p1, rfl, hs1, hp3, hp4, rfl⟩
  have h := h.mono e1
  have hle := hle.trans e1
  refine Oa rfl (Ab (Ah (Se rfl (Om rfl ?_)))); refine Ca rfl (Nc s1 C3 _ _) ?_; rintro _ _ _ _ ⟨rfl, rfl, rfl⟩; refine Ab ?_; refine A6 rfl ?_ ?_
  ·intro c1
   try simp only [nb] at c1
   refine Se rfl (Om rfl (Oa rfl (Ab (Am (.tmp rfl .nil) ?_))))
   exact ⟨_, _, hle, fun w h => Mem.sub (L' := rd b oa l c _ :: L) A7 h, _, _, rfl, by omega, by omega, by omega, rfl⟩
  intro c1
  try simp only [nb] at c1
  refine Ak (Se rfl (Om rfl ?_)); refine Dl .free rfl ?_; intro b23; refine Dl .free rfl ?_; intro b24; refine Cd rfl rfl rfl .free rfl ?_; refine Om rfl ?_; refine C4 (fun w h => Mem.sub (L' := rd b oa l c _ :: L) A7 h) ?_; refine Ca rfl (L1 (d := 2) Ad h hl b _ Aa (Wu _ _ _) Ae _ (by first | omega | (simp; done) | decide) _) ?_; rintro _ J2 _ e2 ⟨s2, p2, rfl, hs2, hp5, hp6, rfl⟩
  have hle := hle.trans e2
  refine Oa rfl (Ab (Am (.tmp rfl .nil) ?_))
  exact ⟨_, _, hle, fun w h => Mem.sub (L' := rd b oa l c _ :: L) A7 h, _, _, rfl, by omega, by omega, by omega, rfl⟩
 intro c0
 try simp only [nb] at c0
 refine Ak (Ah ?_)
 try have hw := hw
 refine Al rfl (Om rfl ?_); refine Dl .free rfl ?_; intro b11; refine Dl .free rfl ?_; intro b12; refine Cd rfl rfl rfl .free rfl ?_; refine Om rfl (Om rfl ?_); refine C4 (fun w h => Mem.sub (L' := rd b oa l c _ :: L) A7 h) ?_; refine Ca rfl (D3 h hl b _ 3 Aa Ad _) ?_; rintro _ _ _ _ ⟨r2, rfl, rfl, rfl, hr2⟩
 have hr3 : r2 < 3 := by omega
 have hdd : ∃ d : Nat, (2 : Int) + (r2 : Nat) = (d : Nat) ∧ d ≤ 4 := ⟨2 + r2, by omega, by omega⟩
 obtain ⟨d, hd1, hd2⟩ := hdd; refine Or rfl rfl rfl ?_; refine Gl (t := 17) (v' := .int .i64 (d : Nat)) rfl (by rw [← hd1]) ?_; refine Ca rfl (L1 hd2 h hl b _ Aa (Wu _ _ _) Ae _ (by first | omega | (simp; done) | decide) _) ?_; rintro _ J1 _ e1 ⟨s1, p1, rfl, hs1, hp3, hp4, rfl⟩
 have h := h.mono e1
 have hle := hle.trans e1
 refine Oa rfl (Ab (Ah (Se rfl (Om rfl ?_)))); refine Ca rfl (Nc s1 C3 _ _) ?_; rintro _ _ _ _ ⟨rfl, rfl, rfl⟩; refine Ab ?_; refine A6 rfl ?_ ?_
 ·intro c1
  try simp only [nb] at c1
  refine Se rfl (Om rfl (Oa rfl (Ab (Am (.tmp rfl .nil) ?_))))
  exact ⟨_, _, hle, fun w h => Mem.sub (L' := rd b oa l c _ :: L) A7 h, _, _, rfl, by omega, by omega, by omega, rfl⟩
 intro c1
 try simp only [nb] at c1
 refine Ak (Se rfl (Om rfl ?_)); refine Dl .free rfl ?_; intro b23; refine Dl .free rfl ?_; intro b24; refine Cd rfl rfl rfl .free rfl ?_; refine Om rfl ?_; refine C4 (fun w h => Mem.sub (L' := rd b oa l c _ :: L) A7 h) ?_; refine Ca rfl (L1 (d := 2) Ad h hl b _ Aa (Wu _ _ _) Ae _ (by first | omega | (simp; done) | decide) _) ?_; rintro _ J2 _ e2 ⟨s2, p2, rfl, hs2, hp5, hp6, rfl⟩
 have hle := hle.trans e2
 refine Oa rfl (Ab (Am (.tmp rfl .nil) ?_))
 exact ⟨_, _, hle, fun w h => Mem.sub (L' := rd b oa l c _ :: L) A7 h, _, _, rfl, by omega, by omega, by omega, rfl⟩
theorem Zc {s : As} {l : List As} (h : Jm s = some l) : l ≠ [] ∧ (∀ x ∈ l, x.length ≤ 12000) ∧ l.length ≤ 12000 := by
 unfold Jm at h
 cases hp : D4 s with
 | none => rw [hp] at h; cases h
 | some t =>
  rw [hp] at h
  simp only [Option.map_some, Option.some.injEq] at h
  subst h
  have h1 := (Q1 hp).2
  have h2 := O4 hp
  refine ⟨Aa1 (Acp t), fun x hx => ?_, ?_⟩
  ·rcases Hh.1 hx with h3 | h3
   ·cases h3
   ·have := t.atom_len x h3; omega
  ·have := Ie [] t.atomL
   rw [t.atomL_len] at this
   simp only [List.length_nil, Nat.zero_add] at this
   exact Nat.le_trans this h2
theorem Adj {I : Heap} {oa : Option Addr} {l : List UInt8} {c : Nat} (h : Bytes I oa l c) (hl : l.length ≤ 2000) (b p : Nat) (hp : p + 8000 ≤ 1099511627776) (L : Bj) :
  Fun Tryz.prog 39 [.pointer (some ⟨b, 0, none⟩)] I (rd b oa l c p :: L) (DT b oa l c p 8000 400001 L) := by
 refine Ao Ae ?_; refine Se rfl (Oa rfl (Ab (Se rfl (Om rfl ?_)))); refine Ca rfl (Abk h hl b _ Aa _) ?_; rintro _ J1 _ e1 ⟨s, p1, rfl, hs, hp1, hp2, rfl⟩
 have h := h.mono e1
 refine Oa rfl (Ab (Ah (Se rfl (Om rfl ?_)))); refine Ca rfl (D3 h hl b _ 4 Aa Ad _) ?_; rintro _ _ _ _ ⟨r, rfl, rfl, rfl, hr⟩; refine Oc rfl rfl rfl (Ab ?_); refine A6 rfl ?_ ?_
 ·intro c0
  try simp only [nb] at c0
  refine Se rfl (Om rfl (Oa rfl (Ab (Am (.tmp rfl .nil) ?_))))
  exact ⟨J1, _, e1, fun _ h => h, s, _, rfl, by omega, by omega, by omega, rfl⟩
 intro c0
 try simp only [nb] at c0
 refine Ak (Se rfl (Om rfl ?_)); refine Ca rfl (X1 s (by unfold Mk; omega) _ _) ?_; rintro _ J2 _ e2 ⟨o1, k1, rfl, hat, rfl⟩
 have h := h.mono e2
 have hle := e1.trans e2
 refine Om rfl (Oe rfl rfl (Oe rfl rfl (Oa rfl (Oa rfl (Ab (Ah (Se rfl (Om rfl ?_)))))))); refine Ei rfl .free rfl ?_; refine Ab ?_; refine A6 rfl ?_ ?_
 ·intro c1
  try simp only [nb] at c1
  refine Se rfl (Om rfl (Oa rfl (Ab (Am (.tmp rfl .nil) ?_))))
  exact ⟨J2, _, hle, fun _ h => h, s, _, rfl, by omega, by omega, by omega, rfl⟩
 intro c1
 try simp only [nb] at c1
 obtain ⟨al, hal⟩ : ∃ al, Jm s = some al := Option.isSome_iff_exists.1 c1; rw [hal] at hat ⊢
 simp only [Option.getD_some] at hat ⊢
 obtain ⟨ha1, ha2, ha3⟩ := Zc hal
 have hapos := List.length_pos_iff.2 ha1
 have hanil := hat.nil'
 refine Ak (Ah ?_); refine C9 fun hlr => ?_
 refine Hl 17 rfl rfl ?_; refine Da 0 rfl (Ai rfl) ?_; refine Da 1 rfl (Ai rfl) ?_; refine Da 2 rfl (Ai rfl) ?_; refine Da 3 rfl (Ai rfl) ?_; refine Da 4 rfl (Fd rfl) ?_; refine Da 8 rfl (Ai rfl) ?_; refine Gd 5 9 Af ?_ ?_
 ·skip
  refine Qk 5 rfl rfl rfl .free rfl (D3 h hl b _ al.length Aa Aa _) ?_; rintro _ _ _ _ ⟨r2, rfl, rfl, rfl, hr2⟩
  have hr3 : r2 < al.length := by omega
  have hst := hat.st r2 hr3
  have hel : (al.getD r2 []).length ≤ 12000 := ha2 _ (by rw [show al.getD r2 [] = al[r2] by simp [hr3]]; exact List.getElem_mem _)
  refine Hx ?_
  first | refine Da 6 rfl (Bc rfl rfl _ rfl) ?_ | refine Da 6 rfl (Bd rfl rfl _ rfl) ?_
  refine Dt 7 [17] rfl (T0 rfl) ?_; refine Fg 9 rfl Af rfl rfl rfl Ac Ac Ac Ad Ad Ac .free rfl (.inr Au) ?_; intro b32; refine E0 ?_; intro hz
  have hk := P2 (I := J2) (b := b32) (e := 9) (l := [[97], [120], [49], [112, 97, 105, 114], [99, 97, 108, 108], [102, 115, 116], [105], [43], [40, 102, 115, 116, 32, 49, 41], [98, 55]]) Ad Ad
  have hlr := hlr.trans hz
  have h := h.mono hz
  have hat := hat.mono hz
  try have hst := hst.mono hz
  refine Dc 10 rfl rfl (Fc h hl b _ Aa hk Ae _) ?_; rintro _ _ _ _ ⟨y, rfl, hy, rfl, rfl⟩
  have hyl : y.length ≤ 10 := by revert y; decide
  refine Hx ?_; refine Dc 11 rfl rfl (Oq s (al.getD r2 []) y (by unfold Mk; omega) (by unfold Mk; omega) Aa _ _) ?_; rintro _ J3 _ e3 ⟨rfl, rfl⟩
  have h := h.mono e3
  have hlr := hlr.trans e3
  have hol : ((Jz s (al.getD r2 []) y).getD []).length ≤ 12000 := by
   cases ho : Jz s (al.getD r2 []) y with
   | none => decide
   | some o => exact Yu ho
  refine Hx ?_; refine Da 12 rfl (Ai rfl) ?_; refine Da 13 rfl (Mb rfl rfl) ?_; refine Da 14 rfl (Mb rfl rfl) ?_; refine Da 15 rfl (Bk rfl) ?_; refine Da 16 rfl (Bk rfl) ?_; refine A5 Af ?_; refine Ah (Se rfl (Om rfl (Om rfl ?_)))
  first | refine Ho rfl rfl ?_ ?_ | refine Fp rfl rfl ?_ ?_ | refine Nd rfl rfl ?_ ?_
  ·intro g8_2; refine Ow rfl ?_; refine Cx rfl (.met rfl rfl) rfl (D3 h hl b _ 8 Aa Ad _) ?_; rintro _ _ _ _ ⟨r4, rfl, rfl, rfl, hr4⟩; refine D8 rfl rfl rfl (.met rfl rfl) rfl ?_; refine Ot rfl rfl (Ab ?_); refine A6 rfl ?_ ?_
   ·intro c2
    try simp only [nb] at c2
    refine Se rfl (Om rfl (Oa rfl (Ab (Am (.tmp rfl .nil) ?_))))
    exact ⟨J3, _, hle.trans hlr, fun _ h => h, _, _, rfl, by omega, by omega, by omega, rfl⟩
   intro c2
   try simp only [nb] at c2
   refine Ak (Se rfl (Om rfl (Om rfl ?_))); refine Ol rfl rfl ?_; intro b46; refine Eb [[], [32], [41]] Ad Ad ?_; intro J5 e5 k5; refine Ca rfl (Fc (h.mono e5) hl b _ Aa k5 Ae _) ?_; rintro _ _ _ _ ⟨z, rfl, hz, rfl, rfl⟩
   have hzl : z.length ≤ 1 := by revert z; decide
   refine Ok rfl rfl ?_; refine Oa rfl (Ab (Am (.tmp rfl .nil) ?_))
   exact ⟨J5, _, (hle.trans hlr).trans e5, fun _ h => h, _, _, rfl, E5, by omega, by omega, rfl⟩
  intro g8_2
  iterate 3 refine Cy rfl rfl rfl ?_
  refine Of rfl rfl (Ab ?_); refine A0 rfl ?_; refine Ak (Se rfl (Om rfl (Om rfl ?_))); refine Ol rfl rfl ?_; intro b46; refine Eb [[], [32], [41]] Ad Ad ?_; intro J5 e5 k5; refine Ca rfl (Fc (h.mono e5) hl b _ Aa k5 Ae _) ?_; rintro _ _ _ _ ⟨z, rfl, hz, rfl, rfl⟩
  have hzl : z.length ≤ 1 := by revert z; decide
  refine Ok rfl rfl ?_; refine Oa rfl (Ab (Am (.tmp rfl .nil) ?_))
  exact ⟨J5, _, (hle.trans hlr).trans e5, fun _ h => h, _, _, rfl, E5, by omega, by omega, rfl⟩
 ·skip
  refine Ep 9 rfl rfl rfl rfl Ac Ac Ac Ad Ad Ac .free rfl (.inr Au) ?_; intro b32; refine E0 ?_; intro hz
  have hk := P2 (I := J2) (b := b32) (e := 9) (l := [[97], [120], [49], [112, 97, 105, 114], [99, 97, 108, 108], [102, 115, 116], [105], [43], [40, 102, 115, 116, 32, 49, 41], [98, 55]]) Ad Ad
  have hlr := hlr.trans hz
  have h := h.mono hz
  have hat := hat.mono hz
  try have hst := hst.mono hz
  refine Dc 5 rfl rfl (D3 h hl b _ al.length Aa Aa _) ?_; rintro _ _ _ _ ⟨r2, rfl, rfl, rfl, hr2⟩
  have hr3 : r2 < al.length := by omega
  have hst := hat.st r2 hr3
  have hel : (al.getD r2 []).length ≤ 12000 := ha2 _ (by rw [show al.getD r2 [] = al[r2] by simp [hr3]]; exact List.getElem_mem _)
  refine Hx ?_
  first | refine Da 6 rfl (Bc rfl rfl _ rfl) ?_ | refine Da 6 rfl (Bd rfl rfl _ rfl) ?_
  refine Dt 7 [17] rfl (T0 rfl) ?_; refine Dc 10 rfl rfl (Fc h hl b _ Aa hk Ae _) ?_; rintro _ _ _ _ ⟨y, rfl, hy, rfl, rfl⟩
  have hyl : y.length ≤ 10 := by revert y; decide
  refine Hx ?_; refine Dc 11 rfl rfl (Oq s (al.getD r2 []) y (by unfold Mk; omega) (by unfold Mk; omega) Aa _ _) ?_; rintro _ J3 _ e3 ⟨rfl, rfl⟩
  have h := h.mono e3
  have hlr := hlr.trans e3
  have hol : ((Jz s (al.getD r2 []) y).getD []).length ≤ 12000 := by
   cases ho : Jz s (al.getD r2 []) y with
   | none => decide
   | some o => exact Yu ho
  refine Hx ?_; refine Da 12 rfl (Ai rfl) ?_; refine Da 13 rfl (Mb rfl rfl) ?_; refine Da 14 rfl (Mb rfl rfl) ?_; refine Da 15 rfl (Bk rfl) ?_; refine Da 16 rfl (Bk rfl) ?_; refine A5 Af ?_; refine Ah (Se rfl (Om rfl (Om rfl ?_)))
  first | refine Ho rfl rfl ?_ ?_ | refine Fp rfl rfl ?_ ?_ | refine Nd rfl rfl ?_ ?_
  ·intro g8_2; refine Ow rfl ?_; refine Cx rfl (.met rfl rfl) rfl (D3 h hl b _ 8 Aa Ad _) ?_; rintro _ _ _ _ ⟨r4, rfl, rfl, rfl, hr4⟩; refine D8 rfl rfl rfl (.met rfl rfl) rfl ?_; refine Ot rfl rfl (Ab ?_); refine A6 rfl ?_ ?_
   ·intro c2
    try simp only [nb] at c2
    refine Se rfl (Om rfl (Oa rfl (Ab (Am (.tmp rfl .nil) ?_))))
    exact ⟨J3, _, hle.trans hlr, fun _ h => h, _, _, rfl, by omega, by omega, by omega, rfl⟩
   intro c2
   try simp only [nb] at c2
   refine Ak (Se rfl (Om rfl (Om rfl ?_))); refine Ol rfl rfl ?_; intro b46; refine Eb [[], [32], [41]] Ad Ad ?_; intro J5 e5 k5; refine Ca rfl (Fc (h.mono e5) hl b _ Aa k5 Ae _) ?_; rintro _ _ _ _ ⟨z, rfl, hz, rfl, rfl⟩
   have hzl : z.length ≤ 1 := by revert z; decide
   refine Ok rfl rfl ?_; refine Oa rfl (Ab (Am (.tmp rfl .nil) ?_))
   exact ⟨J5, _, (hle.trans hlr).trans e5, fun _ h => h, _, _, rfl, E5, by omega, by omega, rfl⟩
  intro g8_2
  iterate 3 refine Cy rfl rfl rfl ?_
  refine Of rfl rfl (Ab ?_); refine A0 rfl ?_; refine Ak (Se rfl (Om rfl (Om rfl ?_))); refine Ol rfl rfl ?_; intro b46; refine Eb [[], [32], [41]] Ad Ad ?_; intro J5 e5 k5; refine Ca rfl (Fc (h.mono e5) hl b _ Aa k5 Ae _) ?_; rintro _ _ _ _ ⟨z, rfl, hz, rfl, rfl⟩
  have hzl : z.length ≤ 1 := by revert z; decide
  refine Ok rfl rfl ?_; refine Oa rfl (Ab (Am (.tmp rfl .nil) ?_))
  exact ⟨J5, _, (hle.trans hlr).trans e5, fun _ h => h, _, _, rfl, E5, by omega, by omega, rfl⟩
def DX (L : Bj) : Cv := fun v I' L' => ∃ s, v = .string (str s) ∧ List.length s ≤ 400001 ∧ L = L'
theorem Abm {I : Heap} {oa : Option Addr} {l : List UInt8} {c : Nat} (h : Bytes I oa l c) (hl : l.length ≤ 2000) (b p : Nat) (hp : p + 4000 ≤ 1099511627776) (L : Bj) :
  Fun Tryz.prog 69 [.pointer (some ⟨b, 0, none⟩)] I (rd b oa l c p :: L) (DT b oa l c p 4000 400000 L) := by
 refine Ao Ae ?_; refine Se rfl (Oa rfl (Ab (Se rfl ?_))); refine Ol rfl rfl ?_; intro b4; refine Eb [[97], [98], [120, 48]] Ad Ad ?_; intro J1 e1 k1
 have h := h.mono e1
 refine Ol rfl rfl ?_; intro b5; refine Eb [[105], [40, 42, 32, 105, 32, 105, 41], [105]] Ad Ad ?_; intro J2 e2 k2
 have h := h.mono e2
 have k1 := k1.mono e2
 have hle := e1.trans e2
 have hsc : ScAt J2 [[97], [98], [120, 48]] [[105], [40, 42, 32, 105, 32, 105, 41], [105]] (some ⟨b4, 0, none⟩) 3 (some ⟨b5, 0, none⟩) 3 := ⟨k1, k2, rfl, by decide, by decide⟩
 refine Cd rfl rfl rfl .free rfl ?_; refine A1 .free rfl ?_; intro b3; refine By rfl rfl rfl rfl .free ?_; refine Ab (Ah ?_); refine Cu (fun w h => h.perm2) ?_; refine C9 fun hlr => ?_
 refine Hl 7 rfl rfl ?_; refine Da 0 rfl (Ai rfl) ?_; refine Dt 1 [7] rfl (Ea rfl) ?_; refine Da 2 rfl (Ai rfl) ?_; refine Dc 3 rfl rfl (D3 h hl b _ 2 Aa Ad _) ?_; rintro _ _ _ _ ⟨r, rfl, rfl, rfl, hr⟩; refine Hx ?_; refine Da 4 rfl (H2 rfl rfl rfl Aa) ?_; refine Dc 5 rfl rfl (L1 (d := 2 + r) Aa h hl b _ Aa hsc Ae [105] Ad _) ?_; rintro _ J3 _ e3 ⟨s, p1, rfl, hs, hp1, hp2, rfl⟩
 have hlr := hlr.trans e3
 refine Hx ?_; refine Da 6 rfl (Bk rfl) ?_; refine A5 Af ?_; refine Am (.tmp rfl .nil) ?_
 exact ⟨_, _, hle.trans e3, fun w h => Mem.sub (L' := rd b oa l c _ :: L) A7 h, _, _, rfl, hs, by omega, by omega, rfl⟩
def DQ (L : Bj) : Cv := fun v I' L' => ∃ o1 n1 c1 o2 n2 c2 s, v = .tuple #[.slice o1 (List.length n1) c1, .slice o2 (List.length n2) c2, .string (str s)] ∧ Strs I' o1 n1 c1 ∧ Strs I' o2 n2 c2 ∧ n1.length ≤ 16 ∧ n2.length ≤ 16 ∧ (∀ s ∈ n1, s.length ≤ 16) ∧ (∀ s ∈ n2, s.length ≤ 16) ∧ List.length s ≤ 400001 ∧ L = L'
theorem Qd {e : Ex} (h : e.fine = true) : Fo e.tree.text = some e := by
 have hok : e.ok = true := by simp only [Ex.fine, Bool.and_eq_true] at h; exact h.1.1
 rw [Ly hok, if_pos h]
theorem R2 {s : As} {e : Ex} (h : Fo s = some e) : e.fine = true ∧ e.ok = true ∧ e.size ≤ 120 ∧ e.tree.len ≤ 12000 ∧ s = e.tree.text := by
 obtain ⟨_, h2, h3⟩ := Nw h
 have h4 := h2
 simp only [Ex.fine, Bool.and_eq_true, Tree.fits, decide_eq_true_eq] at h4
 exact ⟨h2, h4.1.1, h4.1.2, h4.2.2, h3⟩
def Ex.many : Ex → Nat
 | .num _ => 1
 | .name _ => 1
 | .bin _ a b => 1 + a.many + b.many
 | .ite a b c => 1 + a.many + b.many + c.many
 | .lt _ a b => 1 + a.many + b.many
 | .fn _ _ _ _ b => 1 + b.many
 | .un _ a => 1 + a.many
theorem Ex.put_id : ∀ {e : Ex} {n : As} {v : Ex}, n ∉ e.occ [] → e.put n v = e
 | .num _, n, v, h => rfl
 | .name s, n, v, h => by
  simp only [Ex.occ, List.not_mem_nil, if_false, List.mem_singleton] at h
  simp only [Ex.put]; rw [if_neg (fun e => h e.symm)]
 | .bin o a b, n, v, h => by
  simp only [Ex.occ, List.mem_append, not_or] at h
  simp only [Ex.put, Ex.put_id h.1, Ex.put_id h.2]
 | .ite a b c, n, v, h => by
  simp only [Ex.occ, List.mem_append, not_or] at h
  simp only [Ex.put, Ex.put_id h.1.1, Ex.put_id h.1.2, Ex.put_id h.2]
 | .lt x a b, n, v, h => by
  simp only [Ex.occ, List.mem_append, not_or, List.nil_append] at h
  simp only [Ex.put, Ex.put_id h.1]
  by_cases hx : x = n
  ·rw [if_pos hx]
  ·rw [if_neg hx, Ex.put_id]; intro hb; exact h.2 (Ex.occ_mem.2 ⟨hb, by simp only [List.mem_singleton]; exact fun e => hx e.symm⟩)
 | .fn f x s t b, n, v, h => by
  simp only [Ex.occ, List.nil_append] at h
  simp only [Ex.put]
  by_cases hx : f = n ∨ x = n
  ·rw [if_pos hx]
  ·rw [if_neg hx, Ex.put_id]; intro hb; refine h (Ex.occ_mem.2 ⟨hb, ?_⟩)
   simp only [List.mem_cons, List.not_mem_nil, or_false]
   rintro (e | e)
   ·exact hx (.inl e.symm)
   ·exact hx (.inr e.symm)
 | .un o a, n, v, h => by
  simp only [Ex.occ] at h
  simp only [Ex.put, Ex.put_id h]
def Ex.hd : Ex → As
 | .num _ => [110, 117, 109, 98, 101, 114]
 | .name _ => [110, 97, 109, 101]
 | e => e.tree.head
def Ah4 (s : As) : As := match Fo s with
 | some e => e.hd
 | none => []
def Ah6 (s : As) : Option (List As) := (Fo s).map fun e => e.sub.map fun a => a.tree.text
def Ah7 (s : As) : Int := match Fo s with
 | some e => (e.many : Nat)
 | none => -1
def Ahz (s : As) : Int := match D4 s with
 | some t => (t.size : Nat)
 | none => -1
def Adz (s : As) : Nat := s.foldl (fun a c => 10 * a + (c.toNat - 48)) 0
theorem Ad0 (s : As) (c : UInt8) : Adz (s ++ [c]) = 10 * Adz s + (c.toNat - 48) := by simp [Adz]
theorem Up {d : Nat} (h : d < 10) : (UInt8.ofNat (48 + d)).toNat - 48 = d := by
 have : (UInt8.ofNat (48 + d)).toNat = 48 + d := by simp [UInt8.toNat_ofNat]; omega
 omega
theorem U6 : ∀ n : Nat, Adz (Lg n) = n := by
 intro n
 induction n using Nat.strongRecOn with
 | _ n ih =>
  by_cases h : n < 10
  ·rw [G2 h]
   show 10 * 0 + ((UInt8.ofNat (48 + n)).toNat - 48) = n
   rw [Up h]; omega
  ·rw [I0 h, Ad0, ih (n / 10) Aa, Up (Nat.mod_lt _ Aa)]
   omega
theorem Ac0 {a b : Nat} (h : Lg a = Lg b) : a = b := by
 have := congrArg Adz h
 rwa [U6, U6] at this
def nm (c : UInt8) (n : Nat) : As := c :: Lg n
theorem Tc {c : UInt8} {a b : Nat} (h : nm c a = nm c b) : a = b := Ac0 (List.cons.inj h).2
def E3 (c : UInt8) (av : List As) (n : Nat) : Nat := ((List.range n).filter fun k => decide (nm c k ∈ av)).length
theorem Je (c : UInt8) (av : List As) (n : Nat) : E3 c av (n + 1) = E3 c av n + (if nm c n ∈ av then 1 else 0) := by
 unfold E3
 rw [List.range_succ, List.filter_append]
 by_cases h : nm c n ∈ av <;> simp [h]
theorem Ts : ∀ {l m : List As}, l.Nodup → (∀ x ∈ l, x ∈ m) → l.length ≤ m.length
 | [], m, _, _ => Nat.zero_le _
 | x :: l, m, hn, hs => by
  obtain ⟨h1, h2⟩ := List.nodup_cons.1 hn
  have hx := hs x (.head _)
  have := Ts (l := l) (m := m.erase x) h2 fun y hy => by
   have hne : y ≠ x := by rintro rfl; exact h1 hy
   exact (List.mem_erase_of_ne hne).2 (hs y (.tail _ hy))
  rw [List.length_erase_of_mem hx] at this
  have := List.length_pos_of_mem hx
  simp only [List.length_cons]; omega
theorem Bp (c : UInt8) (av : List As) (n : Nat) : E3 c av n ≤ av.length := by
 unfold E3
 rw [← List.length_map (f := nm c)]; refine Ts ?_ ?_
 ·have h1 : ((List.range n).filter fun k => decide (nm c k ∈ av)).Nodup := List.nodup_range.filter _
  unfold List.Nodup at h1 ⊢
  rw [List.pairwise_map]
  exact h1.imp fun h e => h (Tc e)
 ·intro x hx; obtain ⟨k, hk, rfl⟩ := List.mem_map.1 hx
  simpa using (List.mem_filter.1 hk).2
def frs (c : UInt8) (av : List As) : Nat → Nat → Nat
 | 0, n => n
 | k + 1, n => if nm c n ∈ av then frs c av k (n + 1) else n
theorem Xy {c : UInt8} {av : List As} : ∀ {k n : Nat}, av.length ≤ E3 c av n + k → nm c (frs c av k n) ∉ av ∧ n ≤ frs c av k n ∧ frs c av k n + E3 c av n = n + E3 c av (frs c av k n)
 | 0, n, h => by
  have h1 := Bp c av (n + 1)
  rw [Je] at h1; refine ⟨fun hm => ?_, Nat.le_refl _, rfl⟩
  simp only [frs] at hm
  rw [if_pos hm] at h1; omega
 | k + 1, n, h => by
  simp only [frs]
  by_cases hm : nm c n ∈ av
  ·rw [if_pos hm]
   have h2 := Je c av n
   rw [if_pos hm] at h2; obtain ⟨h3, h4, h5⟩ := Xy (c := c) (av := av) (k := k) (n := n + 1) (by omega)
   exact ⟨h3, by omega, by omega⟩
  ·rw [if_neg hm]; exact ⟨hm, Nat.le_refl _, rfl⟩
def fr (c : UInt8) (av : List As) (n : Nat) : Nat := frs c av av.length n
theorem Dv (c : UInt8) (av : List As) (n : Nat) : nm c (fr c av n) ∉ av ∧ n ≤ fr c av n ∧ fr c av n + E3 c av n = n + E3 c av (fr c av n) := Xy (by omega)
theorem Eo (c : UInt8) (av : List As) (n : Nat) : fr c av n + 1 + E3 c av n = n + 1 + E3 c av (fr c av n + 1) := by
 obtain ⟨h1, h2, h3⟩ := Dv c av n
 have := Je c av (fr c av n)
 rw [if_neg h1] at this; omega
theorem Xz {c : UInt8} {av : List As} : ∀ {k n m : Nat}, (∀ j, n ≤ j → j < m → nm c j ∈ av) → n ≤ m → m ≤ n + k → nm c m ∉ av → frs c av k n = m
 | 0, n, m, _, h1, h2, _ => by simp only [frs]; omega
 | k + 1, n, m, h, h1, h2, h3 => by
  simp only [frs]
  by_cases hm : nm c n ∈ av
  ·rw [if_pos hm]
   have : n ≠ m := by rintro rfl; exact h3 hm
   exact Xz (fun j a b => h j (by omega) b) (by omega) (by omega) h3
  ·rw [if_neg hm]
   by_cases he : n = m
   ·exact he
   ·exact absurd (h n (Nat.le_refl _) (by omega)) hm
theorem R3 {c : UInt8} {av : List As} {n m : Nat} (h : ∀ j, n ≤ j → j < m → nm c j ∈ av) (h1 : n ≤ m) (h3 : nm c m ∉ av) : fr c av n = m := by
 obtain ⟨g1, g2, g3⟩ := Dv c av n
 by_cases hlt : fr c av n < m
 ·exact absurd (h _ g2 hlt) g1
 ·have hmm : m ≤ fr c av n := by omega
  have key : ∀ d, E3 c av (n + d) ≤ E3 c av n + d := by
   intro d
   induction d with
   | zero => exact Nat.le_refl _
   | succ d ih => rw [← Nat.add_assoc, Je]; split <;> omega
  have h5 : m ≤ n + av.length := by
   have e1 : ∀ d, n + d ≤ m → E3 c av (n + d) = E3 c av n + d := by
    intro d hd
    induction d with
    | zero => rfl
    | succ d ih =>
     rw [← Nat.add_assoc, Je, if_pos (h (n + d) Aa Aa), ih Aa]; omega
   have e2 := e1 (m - n) Aa
   have e3 := Bp c av (n + (m - n))
   omega
  exact Xz h h1 h5 h3

def Ex.pl (av : List As) : Ex → List As → List As → Nat → Ex × Nat
 | .num s, _, _, n => (.num s, n)
 | .name s, f, t, n => (.name (match B7 f s with | some i => t.getD i [] | none => s), n)
 | .bin o a b, f, t, n => let p := a.pl av f t n; let q := b.pl av f t p.2; (.bin o p.1 q.1, q.2)
 | .ite a b c, f, t, n => let p := a.pl av f t n; let q := b.pl av f t p.2; let r := c.pl av f t q.2; (.ite p.1 q.1 r.1, r.2)
 | .lt x a b, f, t, n => let k := fr 120 av n; let p := a.pl av f t (k + 1); let q := b.pl av (f ++ [x]) (t ++ [nm 120 k]) p.2; (.lt (nm 120 k) p.1 q.1, q.2)
 | .fn g x s u b, f, t, n => let k := fr 120 av n; let j := fr 120 av (k + 1); let p := b.pl av (f ++ [g, x]) (t ++ [nm 120 k, nm 120 j]) (j + 1); (.fn (nm 120 k) (nm 120 j) s u p.1, p.2)
 | .un o a, f, t, n => let p := a.pl av f t n; (.un o p.1, p.2)
def Ex.nb : Ex → Nat
 | .num _ => 0
 | .name _ => 0
 | .bin _ a b => a.nb + b.nb
 | .ite a b c => a.nb + b.nb + c.nb
 | .lt _ a b => 1 + a.nb + b.nb
 | .fn _ _ _ _ b => 2 + b.nb
 | .un _ a => a.nb
theorem Ex.pl_hits (av : List As) : ∀ (e : Ex) (f t : List As) (n : Nat), n ≤ (e.pl av f t n).2 ∧ (e.pl av f t n).2 + E3 120 av n = n + e.nb + E3 120 av (e.pl av f t n).2
 | .num s, f, t, n => ⟨Nat.le_refl _, by simp [Ex.pl, Ex.nb]⟩
 | .name s, f, t, n => ⟨Nat.le_refl _, by simp [Ex.pl, Ex.nb]⟩
 | .bin o a b, f, t, n => by
  have h1 := a.pl_hits av f t n
  have h2 := b.pl_hits av f t (a.pl av f t n).2
  simp only [Ex.pl, Ex.nb]; omega
 | .ite a b c, f, t, n => by
  have h1 := a.pl_hits av f t n
  have h2 := b.pl_hits av f t (a.pl av f t n).2
  have h3 := c.pl_hits av f t (b.pl av f t (a.pl av f t n).2).2
  simp only [Ex.pl, Ex.nb]; omega
 | .lt x a b, f, t, n => by
  have h0 := Eo 120 av n
  have h00 := (Dv 120 av n).2.1
  have h1 := a.pl_hits av f t (fr 120 av n + 1)
  have h2 := b.pl_hits av (f ++ [x]) (t ++ [nm 120 (fr 120 av n)]) (a.pl av f t (fr 120 av n + 1)).2
  simp only [Ex.pl, Ex.nb]; omega
 | .fn g x s u b, f, t, n => by
  have h0 := Eo 120 av n
  have h00 := (Dv 120 av n).2.1
  have h1 := Eo 120 av (fr 120 av n + 1)
  have h11 := (Dv 120 av (fr 120 av n + 1)).2.1
  have h2 := b.pl_hits av (f ++ [g, x]) (t ++ [nm 120 (fr 120 av n), nm 120 (fr 120 av (fr 120 av n + 1))]) (fr 120 av (fr 120 av n + 1) + 1)
  simp only [Ex.pl, Ex.nb]; omega
 | .un o a, f, t, n => by
  have h1 := a.pl_hits av f t n
  simp only [Ex.pl, Ex.nb]; omega
theorem Ex.pl_size (av : List As) : ∀ (e : Ex) (f t : List As) (n : Nat), (e.pl av f t n).1.size = e.size ∧ (e.pl av f t n).1.tree.depth = e.tree.depth ∧ (e.pl av f t n).1.many = e.many
 | .num s, f, t, n => ⟨rfl, rfl, rfl⟩
 | .name s, f, t, n => ⟨rfl, rfl, rfl⟩
 | .bin o a b, f, t, n => by
  obtain ⟨h1, h2, h3⟩ := a.pl_size av f t n; obtain ⟨g1, g2, g3⟩ := b.pl_size av f t (a.pl av f t n).2
  simp only [Ex.pl, Ex.size, Ex.many, Ex.tree, Tree.depth, Ec, List.isEmpty_cons, cond_false, h1, h2, h3, g1, g2, g3, and_self]
 | .ite a b c, f, t, n => by
  obtain ⟨h1, h2, h3⟩ := a.pl_size av f t n; obtain ⟨g1, g2, g3⟩ := b.pl_size av f t (a.pl av f t n).2; obtain ⟨k1, k2, k3⟩ := c.pl_size av f t (b.pl av f t (a.pl av f t n).2).2
  simp only [Ex.pl, Ex.size, Ex.many, Ex.tree, Tree.depth, Ec, List.isEmpty_cons, cond_false, h1, h2, h3, g1, g2, g3, k1, k2, k3, and_self]
 | .lt x a b, f, t, n => by
  obtain ⟨h1, h2, h3⟩ := a.pl_size av f t (fr 120 av n + 1); obtain ⟨g1, g2, g3⟩ := b.pl_size av (f ++ [x]) (t ++ [nm 120 (fr 120 av n)]) (a.pl av f t (fr 120 av n + 1)).2
  simp only [Ex.pl, Ex.size, Ex.many, Ex.tree, Tree.depth, Ec, List.isEmpty_cons, List.isEmpty_nil, cond_true, cond_false, h1, h2, h3, g1, g2, g3, and_self]
 | .fn g x s u b, f, t, n => by
  obtain ⟨g1, g2, g3⟩ := b.pl_size av (f ++ [g, x]) (t ++ [nm 120 (fr 120 av n), nm 120 (fr 120 av (fr 120 av n + 1))]) (fr 120 av (fr 120 av n + 1) + 1)
  simp only [Ex.pl, Ex.size, Ex.many, Ex.tree, Tree.depth, Ec, List.isEmpty_cons, List.isEmpty_nil, cond_true, cond_false, g1, g2, g3, and_self]
 | .un o a, f, t, n => by
  obtain ⟨h1, h2, h3⟩ := a.pl_size av f t n
  simp only [Ex.pl, Ex.size, Ex.many, Ex.tree, Tree.depth, Ec, List.isEmpty_cons, cond_false, h1, h2, h3, and_self]
theorem Ex.nb_occ : ∀ (e : Ex) (bd : List As), 3 * (e.nb + (e.occ bd).length) ≤ 2 * e.size + 1
 | .num s, bd => by simp [Ex.nb, Ex.occ, Ex.size]
 | .name s, bd => by simp only [Ex.nb, Ex.occ, Ex.size]; split <;> simp
 | .bin o a b, bd => by have := a.nb_occ bd; have := b.nb_occ bd; simp only [Ex.nb, Ex.occ, Ex.size, List.length_append]; omega
 | .ite a b c, bd => by have := a.nb_occ bd; have := b.nb_occ bd; have := c.nb_occ bd; simp only [Ex.nb, Ex.occ, Ex.size, List.length_append]; omega
 | .lt x a b, bd => by have := a.nb_occ bd; have := b.nb_occ (bd ++ [x]); simp only [Ex.nb, Ex.occ, Ex.size, List.length_append]; omega
 | .fn f x s t b, bd => by have := b.nb_occ (bd ++ [f, x]); have := s.size_pos; have := t.size_pos; simp only [Ex.nb, Ex.occ, Ex.size]; omega
 | .un o a, bd => by have := a.nb_occ bd; simp only [Ex.nb, Ex.occ, Ex.size]; omega
theorem Xi {d : Nat} (h : d < 10) : E6 (UInt8.ofNat (48 + d)) = true := by
 have : (UInt8.ofNat (48 + d)).toNat = 48 + d := by simp [UInt8.toNat_ofNat]; omega
 simp only [E6, this, Bool.and_eq_true, decide_eq_true_eq]; omega
theorem Xg : ∀ n : Nat, (Lg n).all E6 = true := by
 intro n
 induction n using Nat.strongRecOn with
 | _ n ih =>
  by_cases h : n < 10
  ·rw [G2 h]; simp only [List.all_cons, List.all_nil, Bool.and_true]; exact Xi h
  ·rw [I0 h, List.all_append, ih (n / 10) Aa]
   simp only [List.all_cons, List.all_nil, Bool.and_true, Bool.true_and]; exact Xi (Nat.mod_lt n Aa)
theorem Sn {n : Nat} (h : n < 1000) : (Lg n).length ≤ 3 := by
 by_cases h1 : n < 10
 ·rw [G2 h1]; simp
 ·rw [I0 h1, List.length_append]
  by_cases h2 : n / 10 < 10
  ·rw [G2 h2]; simp
  ·rw [I0 h2, List.length_append, G2 (show n / 10 / 10 < 10 by omega)]; simp
theorem Mm {c : UInt8} {n : Nat} (hc : Ps c = true) (h : n < 1000) : B0 (nm c n) = true := by
 have := Sn h
 simp [nm, B0, hc, Xg n, this]
def namesL (l : List As) : Prop := ∀ s ∈ l, B0 s = true
theorem namesL.add {l m : List As} (h : namesL l) (h' : namesL m) : namesL (l ++ m) := by
 intro s hs
 rcases List.mem_append.1 hs with hs | hs
 ·exact h s hs
 ·exact h' s hs
theorem Ex.pl_ok {av : List As} : ∀ {e : Ex} {f t : List As} {n : Nat}, e.ok = true → namesL t → f.length = t.length → n + e.nb + av.length ≤ 900 + E3 120 av n → (e.pl av f t n).1.ok = true
 | .num s, f, t, n, h, _, _, _ => h
 | .name s, f, t, n, h, ht, hl, _ => by
  simp only [Ex.pl, Ex.ok]
  cases hi : B7 f s with
  | none => exact h
  | some i =>
   have h1 := (Ki (show Fz f s f.length = some i from hi)).1
   have h2 : i < t.length := by omega
   show B0 (t.getD i []) = true
   rw [show t.getD i [] = t[i] by simp [h2]]
   exact ht _ (List.getElem_mem h2)
 | .bin o a b, f, t, n, h, ht, hl, hn => by
  simp only [Ex.ok, Bool.and_eq_true] at h
  simp only [Ex.nb] at hn
  have h1 := a.pl_hits av f t n
  have h2 := Bp 120 av (a.pl av f t n).2
  simp only [Ex.pl, Ex.ok, Bool.and_eq_true]
  exact ⟨Ex.pl_ok h.1 ht hl (by omega), Ex.pl_ok h.2 ht hl (by omega)⟩
 | .ite a b c, f, t, n, h, ht, hl, hn => by
  simp only [Ex.ok, Bool.and_eq_true] at h
  simp only [Ex.nb] at hn
  have h1 := a.pl_hits av f t n
  have h2 := b.pl_hits av f t (a.pl av f t n).2
  have h3 := Bp 120 av (a.pl av f t n).2
  have h4 := Bp 120 av (b.pl av f t (a.pl av f t n).2).2
  simp only [Ex.pl, Ex.ok, Bool.and_eq_true]
  exact ⟨⟨Ex.pl_ok h.1.1 ht hl (by omega), Ex.pl_ok h.1.2 ht hl (by omega)⟩, Ex.pl_ok h.2 ht hl (by omega)⟩
 | .lt x a b, f, t, n, h, ht, hl, hn => by
  simp only [Ex.ok, Bool.and_eq_true] at h
  simp only [Ex.nb] at hn
  have h0 := Eo 120 av n
  have h1 := a.pl_hits av f t (fr 120 av n + 1)
  have h2 := Bp 120 av (fr 120 av n + 1)
  have h3 := Bp 120 av (a.pl av f t (fr 120 av n + 1)).2
  have h4 := Bp 120 av n
  have hz : B0 (nm 120 (fr 120 av n)) = true := Mm (by decide) (by omega)
  simp only [Ex.pl, Ex.ok, Bool.and_eq_true]
  exact ⟨⟨hz, Ex.pl_ok h.1.2 ht hl (by omega)⟩, Ex.pl_ok h.2 (ht.add fun s hs => by rw [List.mem_singleton.1 hs]; exact hz) (by simp [hl]) (by omega)⟩
 | .fn g x s u b, f, t, n, h, ht, hl, hn => by
  simp only [Ex.ok, Bool.and_eq_true, decide_eq_true_eq] at h
  obtain ⟨⟨⟨⟨⟨h1, h2⟩, h3⟩, h4⟩, h5⟩, h6⟩ := h
  simp only [Ex.nb] at hn
  have k0 := Eo 120 av n
  have k1 := Eo 120 av (fr 120 av n + 1)
  have k2 := Bp 120 av (fr 120 av n + 1)
  have k3 := Bp 120 av (fr 120 av (fr 120 av n + 1) + 1)
  have k5 := Bp 120 av n
  have k4 := (Dv 120 av (fr 120 av n + 1)).2.1
  have hz1 : B0 (nm 120 (fr 120 av n)) = true := Mm (by decide) (by omega)
  have hz2 : B0 (nm 120 (fr 120 av (fr 120 av n + 1))) = true := Mm (by decide) (by omega)
  simp only [Ex.pl, Ex.ok, Bool.and_eq_true, decide_eq_true_eq]
  refine ⟨⟨⟨⟨⟨hz1, hz2⟩, fun e => ?_⟩, h4⟩, h5⟩, Ex.pl_ok h6 (ht.add fun s hs => ?_) (by simp [hl]) (by omega)⟩
  ·have := Tc e; omega
  ·simp only [List.mem_cons, List.not_mem_nil, or_false] at hs
   rcases hs with rfl | rfl
   ·exact hz1
   ·exact hz2
 | .un o a, f, t, n, h, ht, hl, hn => by
  simp only [Ex.pl, Ex.ok]
  exact Ex.pl_ok (e := a) h ht hl (by simpa [Ex.nb] using hn)
theorem B5.txt_len (o : B5) : o.txt.length ≤ 4 := by cases o <;> decide
theorem U2.txt_len (o : U2) : o.txt.length ≤ 3 := by cases o <;> decide
theorem Ex.len_size : ∀ {e : Ex}, e.ok = true → e.tree.len + 1 ≤ 8 * e.size
 | .num s, h => by
  have h : Ci s = true := h
  have : s.length ≤ 4 := by
   simp only [Ci, Bool.or_eq_true, Bool.and_eq_true, decide_eq_true_eq] at h
   rcases h with h | h
   ·rw [h]; decide
   ·have h1 := h.1.1.2
    unfold Ef at h1
    split at h1
    ·simp only [List.length_drop] at h1; omega
    ·omega
  simp only [Ex.tree, Tree.len, List.isEmpty_nil, cond_true, Ex.size]; omega
 | .name s, h => by
  have := Jf (show B0 s = true from h)
  simp only [Ex.tree, Tree.len, List.isEmpty_nil, cond_true, Ex.size]; omega
 | .bin o a b, h => by
  simp only [Ex.ok, Bool.and_eq_true] at h
  have h1 := Ex.len_size h.1; have h2 := Ex.len_size h.2; have h3 := o.txt_len
  simp only [Ex.tree, Tree.len, Gs, List.isEmpty_nil, List.isEmpty_cons, cond_true, cond_false, Ex.size]; omega
 | .ite a b c, h => by
  simp only [Ex.ok, Bool.and_eq_true] at h
  have h1 := Ex.len_size h.1.1; have h2 := Ex.len_size h.1.2; have h3 := Ex.len_size h.2
  simp only [Ex.tree, Tree.len, Gs, List.isEmpty_nil, List.isEmpty_cons, cond_true, cond_false, Ex.size, Gy, List.length_cons, List.length_nil]; omega
 | .lt x a b, h => by
  simp only [Ex.ok, Bool.and_eq_true] at h
  have h1 := Ex.len_size h.1.2; have h2 := Ex.len_size h.2; have h3 := Jf h.1.1
  simp only [Ex.tree, Tree.len, Gs, List.isEmpty_nil, List.isEmpty_cons, cond_true, cond_false, Ex.size, Dz, List.length_cons, List.length_nil]; omega
 | .fn f x s t b, h => by
  simp only [Ex.ok, Bool.and_eq_true, decide_eq_true_eq] at h
  obtain ⟨⟨⟨⟨⟨h1, h2⟩, h3⟩, h4⟩, h5⟩, h6⟩ := h
  have k1 := Ex.len_size h6; have k2 := Jf h1; have k3 := Jf h2
  have k4 := s.tree_small; have k5 := t.tree_small; have k6 := s.size_pos; have k7 := t.size_pos
  simp only [Ex.tree, Tree.len, Gs, List.isEmpty_nil, List.isEmpty_cons, cond_true, cond_false, Ex.size, Dk, List.length_cons, List.length_nil]; omega
 | .un o a, h => by
  have h1 := Ex.len_size (e := a) h; have h3 := o.txt_len
  simp only [Ex.tree, Tree.len, Gs, List.isEmpty_nil, List.isEmpty_cons, cond_true, cond_false, Ex.size]; omega
def Ex.plain (e : Ex) : Ex := (e.pl e.free [] [] 0).1
theorem Rc (l m : List As) : (C8 l m).length ≤ l.length + m.length := by
 induction m generalizing l with
 | nil => exact Nat.le_refl _
 | cons s m ih =>
  have h1 : (Fj l s).length ≤ l.length + 1 := by unfold Fj; split <;> simp
  have h2 := ih (Fj l s)
  simp only [C8, List.foldl_cons, List.length_cons] at *
  omega
theorem O6 {e : Ex} (h : e.size ≤ 120) : e.nb + e.free.length ≤ 80 := by
 have h1 := e.nb_occ []
 have h2 := Rc [] (e.occ [])
 simp only [List.length_nil, Nat.zero_add] at h2
 have h3 : e.free.length ≤ (e.occ []).length := h2
 omega
theorem G5 {e : Ex} (h : e.fine = true) : e.plain.fine = true := by
 simp only [Ex.fine, Bool.and_eq_true, decide_eq_true_eq, Tree.fits] at h
 obtain ⟨h1, h2, h3⟩ := e.pl_size e.free [] [] 0
 have hr := O6 h.1.2
 have hok : e.plain.ok = true := Ex.pl_ok h.1.1 (fun s hs => by cases hs) rfl Aa
 have hl := Ex.len_size hok
 have h4 : e.plain.size = e.size := h1
 have h5 : e.plain.tree.depth = e.tree.depth := h2
 simp only [Ex.fine, Bool.and_eq_true, decide_eq_true_eq, Tree.fits]
 exact ⟨⟨hok, by omega⟩, by omega, by omega⟩
def Ahx (s : As) : Option As := (Fo s).map fun e => e.plain.tree.text
def Wf (l m : List As) (s : As) : As := match B7 l s with
 | some i => m.getD i []
 | none => s
theorem Adf {I : Heap} {oa ob : Option Addr} {l m : List As} {c c' : Nat} (h : Strs I oa l c) (h' : Strs I ob m c') (hlm : l.length = m.length) (s : As) (L : Bj) :
  Fun Tryz.prog 199 [.slice oa l.length c, .slice ob m.length c', .string (str s)] I L (E2 (.string (str (Wf l m s))) I L) := by
 have hlen := h.len
 unfold Bg at hlen
 refine Ao Ae ?_; refine Se rfl (Oa rfl (Ab (Ah (Se rfl (Om rfl (On rfl ?_)))))); refine Or rfl rfl rfl ?_; refine Oa rfl (Ab (Aq ?_)); refine Dn (X := Nat) (fun n => n) (fun n => [(0, .slice oa l.length c), (1, .slice ob m.length c'), (2, .string (str s)), (7, .int .i64 ((n : Int) - 1))]) (fun _ => I) (fun _ => L) (fun n => n ≤ l.length ∧ B7 l s = Fz l s n) l.length ⟨Nat.le_refl _, rfl⟩ ⟨rfl, rfl, rfl, rfl, trivial⟩ Cl ?_; rintro n ⟨hn, hl⟩ ih; refine Ah (Se rfl (Om rfl (Oc rfl rfl rfl (Ab ?_)))); refine Si rfl ?_ ?_
 ·intro c0; obtain ⟨k, rfl⟩ : ∃ k, n = k + 1 := ⟨n - 1, by omega⟩; obtain ⟨x, hx, hst⟩ := h.at k Aa; obtain ⟨y, hy, hst'⟩ := h'.at k Aa; refine Jv (t := 7) (v' := .int .i64 (k : Nat)) rfl F7 ?_
  simp only [Fz, List.getD_eq_getElem?_getD, List.getElem?_eq_getElem (show k < l.length by omega), Option.getD_some] at hl
  refine Ak (Ah (Aq (Se rfl (Om rfl (Om rfl ?_))))); refine Ck rfl rfl _ rfl Bx Dp .free rfl ?_; refine C1 rfl .free rfl ?_; refine Om rfl (Od rfl rfl rfl (Ab ?_)); refine Si rfl ?_ ?_
  ·intro c1; refine Se rfl (Om rfl (Om rfl ?_)); refine Ck rfl rfl _ rfl Bx Dp .free rfl ?_; refine C1 rfl .free rfl ?_; refine Oa rfl (Ab (Am (.tmp rfl .nil) ?_)); refine only rfl ?_; rw [if_pos Df] at hl
   simp only [Wf, hl]; simp [C2, show k < m.length by omega]
  intro c1; refine Ak (Ap (Al rfl (Om rfl ?_))); refine Or rfl rfl rfl ?_; refine Oa rfl (Ab ?_); refine Ed (E' := [(0, .slice oa l.length c), (1, .slice ob m.length c'), (2, .string (str s)), (7, .int .i64 ((k : Int) - 1))]) ⟨rfl, rfl, rfl, rfl, trivial⟩ (ih k ⟨by omega, ?_⟩ Aa); rw [hl, if_neg Df]
 intro c0; refine Cc rfl ?_; refine Se rfl (Om rfl (Oa rfl (Ab (Am (.tmp rfl .nil) ?_)))); refine only rfl ?_; obtain rfl : n = 0 := by omega
 simp only [Wf, hl, Fz]; rfl
theorem H6 (s : As) (I : Heap) (L : Bj) : Fun Tryz.prog 160 [.string (str s)] I L (E2 (.agg [.string (str s), .slice none 0 0].toArray) I L) := by
 refine Ao Ae ?_; refine Se rfl ?_; refine A1 .free rfl ?_; intro b2; refine Ab (Se rfl (Om rfl ?_)); refine Cd rfl rfl rfl .free rfl ?_; refine By rfl rfl rfl rfl .free ?_; refine Ab ?_; refine Am (.c rfl .nil) ?_; refine only rfl ?_
 rfl
theorem Ahc (c : UInt8) (av : List As) (n : Nat) : fr c av n ≤ n + av.length := by
 have h1 := (Dv c av n).2.2
 have h2 := Bp c av (fr c av n)
 omega
def rn (b : Nat) (oa : Option Addr) (av : List As) (c n : Nat) : Nat × Obj := (b, .cells [.slice oa av.length c, .int .i64 (n : Nat)].toArray 179 (0, 0))
theorem Qh {I : Heap} {oa : Option Addr} {av : List As} {c : Nat} (hav : Strs I oa av c) (b n : Nat) (hn : n + av.length ≤ 900) (L : Bj) :
  Fun Tryz.prog 200 [.pointer (some ⟨b, 0, none⟩)] I (rn b oa av c n :: L) (fun v I' L' => v = .string (str (nm 120 (fr 120 av n))) ∧ I = I' ∧ L' = rn b oa av c (fr 120 av n + 1) :: L) := by
 obtain ⟨f1, f2, f3⟩ := Dv 120 av n
 have f4 := Ahc 120 av n
 refine Ao Ae ?_; refine Se rfl (Oa rfl (Ab (Aq ?_))); refine Dn (X := Nat) (fun m => fr 120 av n + 1 - m) (fun m => [(0, .pointer (some ⟨b, 0, none⟩))]) (fun _ => I) (fun m => rn b oa av c m :: L) (fun m => n ≤ m ∧ m ≤ fr 120 av n ∧ ∀ j, n ≤ j → j < m → nm 120 j ∈ av) n ⟨Nat.le_refl _, f2, fun j h1 h2 => absurd h2 Aa⟩ ⟨rfl, trivial⟩ (fun _ h => h) ?_; rintro m ⟨hm1, hm2, hm3⟩ ih
 unfold rn
 have hdl := Sn (n := m) Aa
 refine Aq (Se rfl (Om rfl ?_)); refine Aw rfl .free rfl ?_
 first | refine Oh rfl ?_ | refine Oj rfl ?_
 refine L8 rfl .free rfl ?_; refine Ca rfl (Wa _ m (Nat.lt_succ_self _) Aa _ _) ?_; rintro _ _ _ _ ⟨rfl, rfl, rfl⟩; refine Ok rfl rfl ?_; refine Oa rfl (Ab (Se rfl (Om rfl (Om rfl ?_)))); refine Aw rfl .free rfl ?_
 first | refine Oh rfl ?_ | refine Oj rfl ?_
 refine L8 rfl .free rfl ?_; refine Or rfl rfl rfl ?_; refine Aw rfl .free rfl ?_
 first | refine Oh rfl ?_ | refine Oj rfl ?_
 refine By rfl rfl rfl rfl .free ?_; refine Ab (Se rfl (Om rfl ?_)); refine Aw rfl .free rfl ?_
 first | refine Oh rfl ?_ | refine Oj rfl ?_
 refine L8 rfl .free rfl ?_; refine Om rfl ?_; refine Ca rfl (R4 (hav.rd _) c (nm 120 m)) ?_; rintro _ _ _ _ ⟨rfl, rfl, rfl⟩; refine Ei rfl .free rfl ?_; refine Ab ?_; refine A6 rfl ?_ ?_
 ·intro c0
  try simp only [nb] at c0
  refine Se rfl (Om rfl (Oa rfl (Ab (Am (.tmp rfl .nil) ?_))))
  have hfm : fr 120 av n = m := R3 hm3 hm1 c0
  exact ⟨I, _, .refl _, fun _ h => h, by rw [hfm]; rfl, rfl, by rw [hfm]; rfl⟩
 intro c0
 try simp only [nb] at c0
 refine Ak (Ap ?_)
 have hne : m ≠ fr 120 av n := fun e => f1 (e ▸ c0)
 refine Ed (E' := [(0, .pointer (some ⟨b, 0, none⟩))]) ⟨rfl, trivial⟩ (ih (m + 1) ⟨by omega, by omega, fun j h1 h2 => ?_⟩ Aa)
 by_cases hj : j = m
 ·subst hj; exact c0
 ·exact hm3 j h1 Aa
theorem Qu {n : Nat} (h : n < 1000) : (nm 120 n).length ≤ Bg := Ex.name_len (Mm (by decide) h)
theorem Eg {P : Program} {f : FuncId} {n : Nat} {I₀ : Heap} {Q : Cv} {k : List Item} {E : Hg} {I : Heap} {L : Bj} {ops : Array Oper} {S : World → Prop} {fuel : Nat} {listed : Array Bool} {X : Type} (fu : Nat) (ls : Array Bool) (E' : X → Hg) (L' : X → Bj → Bj) (R : X → Prop)
  (hk : ∀ x, R x → C0 P f n I₀ Q ops S fu ls k (E' x ++ E) I (L' x L)) (h : (∀ x, R x → C0 P f n I₀ Q ops S fu ls k (E' x ++ E) I (L' x L)) → C0 P f n I₀ Q ops S fuel listed k E I L) : C0 P f n I₀ Q ops S fuel listed k E I L := h hk
section
variable {I : Heap} {A B C D L : Bj} {w : World}
theorem Mem.seg2 (h : Mem I (A ++ (B ++ L)) w) : Mem I (B ++ (A ++ L)) w := h.perm (List.perm_append_comm_assoc _ _ _)
theorem Mem.seg3 (h : Mem I (A ++ (B ++ (C ++ L))) w) : Mem I (C ++ (A ++ (B ++ L))) w := h.perm ((List.Perm.append_left A (List.perm_append_comm_assoc _ _ _)).trans (List.perm_append_comm_assoc _ _ _))
theorem Mem.ins3 (h : Mem I (A ++ (B ++ (C ++ L))) w) : Mem I (B ++ (C ++ (A ++ L))) w := h.perm ((List.perm_append_comm_assoc _ _ _).trans (List.Perm.append_left B (List.perm_append_comm_assoc _ _ _)))
theorem Mem.ins4 (h : Mem I (A ++ (B ++ (C ++ (D ++ L)))) w) : Mem I (B ++ (C ++ (D ++ (A ++ L)))) w := h.perm (((List.perm_append_comm_assoc _ _ _).trans (List.Perm.append_left B (List.perm_append_comm_assoc _ _ _))).trans (List.Perm.append_left B (List.Perm.append_left C (List.perm_append_comm_assoc _ _ _))))
end
end Go.Proofs.YtmfagaajiakgoaaGreatDoor
