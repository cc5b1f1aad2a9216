/- Types as they are drawn. No conditions. -/
import Derived.Test.YtmfagaajiakgoaaGreatDoorG10
import Derived.Laws.Small
import Derived.Shelf.Strconv.Itoa3
import Derived.Test.YtmfagaajiakgoaaGreatDoorProg

namespace Go.Proofs.YtmfagaajiakgoaaGreatDoor
set_option maxRecDepth 100000
set_option linter.unusedVariables false
set_option linter.unusedSimpArgs false

def DT (b : Nat) (oa : Option Addr) (l : List UInt8) (c p K B : Nat) (L : Bl) : Cx := fun v I' L' => ∃ s p', v = .string (str s) ∧ List.length s ≤ B ∧ p ≤ p' ∧ p' ≤ p + K ∧ L' = rd b oa l c p' :: L
def kT : Nat → Nat
 | 0 => 0
 | d + 1 => 2 + 2 * kT d
def bT : Nat → Nat
 | 0 => 1
 | d + 1 => 5 + 2 * bT d
theorem Adn : ∀ d, 1 ≤ bT d
 | 0 => Nat.le_refl _
 | d + 1 => by simp only [bT]; omega
theorem K1 : ∀ (d : Nat) {I : Heap} {oa : Option Addr} {l : List UInt8} {c : Nat} (_ : Bytes I oa l c) (_ : l.length ≤ 2000) (b p : Nat) (_ : p + kT d ≤ 1099511627776) (_ : bT d ≤ 1000000) (_ : d ≤ 1000) (L : Bl),
  Fun Tryz.prog 134 [.pointer (some ⟨b, 0, none⟩), .int .i64 (d : Nat)] I (rd b oa l c p :: L) (DT b oa l c p (kT d) (bT d) L) := by
 intro d
 induction d with
 | zero =>
  intro I oa l c h hl b p hp hb hd L; refine Ao Ad ?_; refine Se rfl (Oa rfl (Ab (Ah (Se rfl (Om rfl (Oc rfl rfl rfl (Om rfl ?_)))))))
  first | refine Ady rfl rfl Ad ?_ | refine Adx rfl rfl Ad ?_
  iterate 3 refine Ce rfl rfl rfl ?_
  refine Ot rfl rfl (Ab ?_); refine Br rfl ?_; refine Se rfl (Oa rfl (Ab (Al (.tmp rfl .nil) ?_)))
  exact ⟨I, _, .refl _, fun _ h => h, [105], p, rfl, by decide, Nat.le_refl _, by omega, rfl⟩
 | succ d ihd =>
  intro I oa l c h hl b p hp hb hd L
  simp only [kT, bT] at hp hb ⊢
  have hbp := Adn d
  refine Ao Ad ?_; refine Se rfl (Oa rfl (Ab (Ah (Se rfl (Om rfl (Oc rfl rfl rfl (Om rfl ?_)))))))
  first | refine Adw rfl rfl Aa ?_ | refine Adv rfl rfl Aa ?_
  refine Ow rfl ?_; refine C1 rfl (.met rfl rfl) rfl (Du h hl b p 2 Aa Ac L) ?_; rintro _ _ _ _ ⟨r, rfl, rfl, rfl, hr⟩; refine Dj rfl rfl rfl (.met rfl rfl) rfl ?_; refine Of rfl rfl (Ab ?_); refine Si rfl ?_ ?_
  ·intro c0; refine Se rfl (Oa rfl (Ab (Al (.tmp rfl .nil) ?_)))
   exact ⟨I, _, .refl _, fun _ h => h, [105], p + 1, rfl, by simp; omega, by omega, by omega, rfl⟩
  intro c0; refine Aj (Se rfl (Om rfl ?_)); refine Ol rfl rfl ?_; intro b13; refine D4 [[62], [42]] Ac Ac ?_; intro J e1 k1; refine Ca rfl (Es (h.mono e1) hl b (p + 1) Aa k1 Ad L) ?_; rintro _ _ _ _ ⟨s, rfl, hs, rfl, rfl⟩
  have hsl : s.length = 1 := by revert s; decide
  refine Ok rfl rfl ?_; refine Ok rfl rfl ?_; refine Om rfl (Om rfl ?_); refine Or rfl rfl rfl ?_; refine C5 (t := 19) (v' := .int .i64 (d : Nat)) rfl Eb ?_; refine Ca rfl (ihd (h.mono e1) hl b (p + 1 + 1) Aa Aa Aa L) ?_; rintro _ J2 _ e2 ⟨s1, p1, rfl, hs1, hp1, hp2, rfl⟩; refine Ok rfl rfl ?_; refine Ok rfl rfl ?_; refine Om rfl (Om rfl ?_); refine Or rfl rfl rfl ?_; refine C5 (t := 25) (v' := .int .i64 (d : Nat)) rfl Eb ?_; refine Ca rfl (ihd ((h.mono e1).mono e2) hl b p1 Aa Aa Aa L) ?_; rintro _ J3 _ e3 ⟨s2, p2, rfl, hs2, hp3, hp4, rfl⟩; refine Ok rfl rfl ?_; refine Ok rfl rfl ?_
  refine Oa rfl (Ab (Al (.tmp rfl .nil) ?_))
  exact ⟨J3, _, (e1.trans e2).trans e3, fun _ h => h, _, p2, rfl, by simp; omega, by omega, by omega, rfl⟩
def Is (n : Nat) : As := if n < 10 then [UInt8.ofNat (48 + n)] else Is (n / 10) ++ [UInt8.ofNat (48 + n % 10)]
theorem Fk {n : Nat} (h : n < 10) : Is n = [UInt8.ofNat (48 + n)] := by rw [Is, if_pos h]
theorem Hc {n : Nat} (h : ¬ n < 10) : Is n = Is (n / 10) ++ [UInt8.ofNat (48 + n % 10)] := by rw [Is, if_neg h]
section rules
variable {P : Program} {f : FuncId} {n : Nat} {I₀ : Heap} {Q : Cx} {k : List Item} {E : Hi} {I : Heap} {L : Bl}
variable {ops : Array Oper} {d : Nat} {ty : TypeId} {pos : String} {af : Array Edge} {g : Option (Nat × Bool)} {l : List Oper}
theorem Ac7 {m : Int} (h : 0 ≤ m ∧ m < 256) : IntKind.u8.wrap m = m := by
 simp [IntKind.wrap, IntKind.bits, IntKind.signed]; omega
theorem S5 {S : World → Prop} {src dst sz bb sz2 bb2 : Nat} {z z2 : List Value} [hs : Av P src (.int .i64) sz bb z] [hd : Av P dst (.int .u8) sz2 bb2 z2] {x : Operand} {a : Nat} (hx : B8 E x = some (.int .i64 (a : Nat))) (ha : a < 256) :
  Hj P E S ⟨some d, .convert src dst x, ty, pos, af, g⟩ (.int .u8 (a : Nat)) := fun ac w he _ => by
 simp only [execOp, he.eval hx]
 refine Ag (a := .int .u8 (a : Nat)) (w' := w) ?_ |>.trans rfl
 unfold convert
 rw [Ag (A6 hs.und w), Ag (A6 hd.und w)]
 simp only [Conv.intToInt]
 rw [Ac7 (by omega)]
 rfl
theorem Zt {src dst sz bb sz2 bb2 : Nat} {z z2 : List Value} [hs : Av P src (.int .i64) sz bb z] [hd : Av P dst (.int .u8) sz2 bb2 z2] {x : Operand} {a : Nat} (hx : B8 E x = some (.int .i64 (a : Nat))) (ha : a < 256) (hg : Wants ops E g) (hdn : Nat.blt d n = true)
  (h : A3 P f n I₀ Q ops l k ((d, .int .u8 (a : Nat)) :: E) I L) : A3 P f n I₀ Q ops (⟨some d, .convert src dst x, ty, pos, af, g⟩ :: l) k E I L := D8 (S5 hx ha) hg hdn h
theorem Mp {src dst e sz bb sz2 bb2 sz3 bb3 : Nat} {z z2 z3 : List Value} [hs : Av P src (.slice e) sz bb z] [he : Av P e (.int .u8) sz3 bb3 z3] [hd : Av P dst .string sz2 bb2 z2] {x : Operand} {ad : Addr} {c a : Nat} (hx : B8 E x = some (.slice (some ad) 1 c)) (hr : Gc I L ad [.int .u8 (a : Nat)]) :
  Hj P E (Mem I L) ⟨some d, .convert src dst x, ty, pos, af, g⟩ (.string (str [UInt8.ofNat a])) := fun ac w he' hm => by
 simp only [execOp, he'.eval hx]
 refine Ag (a := .string (str [UInt8.ofNat a])) (w' := w) ?_ |>.trans rfl
 unfold convert
 rw [Ag (A6 hs.und w), Ag (A6 hd.und w)]
 simp only []
 rw [Ag (A6 he.und w)]
 simp only [Conv.bytesToString]
 have hl : (loadCells ad 1).run P w = .ok [Value.int .u8 (a : Nat)].toArray w := Kt [.int .u8 (a : Nat)] (hr w hm)
 rw [Ag hl]
 rfl
end rules
theorem Tj {n : Nat} (h : n ≤ 1000000000) : (Is n).length ≤ 12 := by
 have key : ∀ (k m : Nat), m < 10 ^ (k + 1) → (Is m).length ≤ k + 1 := by
  intro k
  induction k with
  | zero => intro m hm; rw [Fk Aa]; simp
  | succ k ih =>
   intro m hm
   by_cases h1 : m < 10
   ·rw [Fk h1]; simp
   ·rw [Hc h1, List.length_append]
    have := ih (m / 10) (by rw [Nat.pow_succ] at hm; omega)
    simp only [List.length_cons, List.length_nil]; omega
 exact Nat.le_trans (key 10 n Aa) Ac
theorem Tv : ∀ (k n : Nat) (_ : n < k) (_ : n ≤ 1000000000) (I : Heap) (L : Bl), Fun Tryz.prog 101 [.int .i64 (n : Nat)] I L (Ed (.string (str (Is n))) I L) := by
 intro k
 induction k with
 | zero => intro n h; omega
 | succ k ihk =>
  intro n hlt hn I L; refine Ao Ad ?_; refine Se rfl (Oa rfl (Ab (Ah (Se rfl (Om rfl (Oc rfl rfl rfl (Ab ?_)))))))
  first | refine Sf rfl Aa ?_ | refine At Ak ?_
  refine Aj (Ah (Se rfl (Om rfl (Oc rfl rfl rfl (Ab ?_)))))
  first | refine Sf rfl Aa ?_ | refine At Ak ?_
  refine Aj (Ah (Se rfl (Om rfl (Oc rfl rfl rfl (Ab ?_))))); refine Az rfl ?_ ?_
  ·intro c2
   try simp only [nb] at c2
   refine Ah ?_
   have h10 : n < 10 := by omega
   refine Am rfl (Om rfl ?_); refine Or rfl rfl rfl ?_; refine C5 (t := 14) (v' := .int .i64 ((48 + n : Nat))) rfl (by congr 1) ?_; refine Zt rfl Aa .free rfl ?_; refine Ol rfl rfl ?_; intro b16; refine D8 (Mp rfl (Cc Hz Ae)) .free rfl ?_; refine Oa rfl (Ab (Al (.tmp rfl .nil) ?_)); refine only rfl ?_; rw [Fk h10]; rfl
  intro c2
  try simp only [nb] at c2
  refine Aj (Ah ?_)
  have h10 : ¬ n < 10 := by omega
  obtain ⟨q, hq, hq2⟩ : ∃ q, q = n / 10 ∧ q < n := ⟨_, rfl, by omega⟩; obtain ⟨r, hr, hr2⟩ : ∃ r, r = n % 10 ∧ r < 10 := ⟨_, rfl, Nat.mod_lt _ Aa⟩
  have hdl := Tj (n := q) Aa
  refine Fj 11 rfl rfl ?_; refine Da 0 rfl (Ai rfl) ?_; refine Da 1 rfl (Aca (b := 10) rfl rfl Aa Aa) ?_; refine I7 (t := 19) (v' := .int .i64 (q : Nat)) rfl (by rw [hq]) ?_; refine Da 3 rfl (Ai rfl) ?_; refine Da 4 rfl (Yo (b := 10) rfl rfl Aa) ?_; refine I7 (t := 22) (v' := .int .i64 (r : Nat)) rfl (by rw [hr]) ?_; refine Da 5 rfl (G7 rfl rfl rfl Aa) ?_; refine I7 (t := 23) (v' := .int .i64 ((48 + r : Nat))) rfl (by congr 1) ?_; refine Da 6 rfl (S5 rfl Aa) ?_; refine Jo 2 7 Af ?_ ?_
  ·skip
   refine Jv 2 rfl rfl rfl .free rfl (ihk q Aa Aa _ _) ?_; rintro _ _ _ _ ⟨rfl, rfl, rfl⟩; refine Hx ?_; refine Fz 7 rfl Af rfl rfl rfl Ae Ae Ae Ac Ac Ae .free rfl (.inr Bb) ?_; intro b25; refine Aaq 8 rfl Af rfl (Mp rfl (Cc Hz Ae)) .free rfl (.inr Bb) ?_; refine Da 9 rfl (Yk rfl rfl) ?_; refine Da 10 rfl (A2 rfl) ?_; refine Bg Af ?_; refine Al (.tmp rfl .nil) ?_; refine only rfl ?_; rw [Hc h10, ← hq, ← hr]; rfl
  ·skip
   refine M4 7 rfl rfl rfl rfl Ae Ae Ae Ac Ac Ae .free rfl (.inr Bb) ?_; intro b25; refine Jo 2 8 Af ?_ ?_
   ·skip
    refine Jv 2 rfl rfl rfl .free rfl (ihk q Aa Aa _ _) ?_; rintro _ _ _ _ ⟨rfl, rfl, rfl⟩; refine Hx ?_; refine Aaq 8 rfl Af rfl (Mp rfl (Cc Hz Ae)) .free rfl (.inr Bb) ?_; refine Da 9 rfl (Yk rfl rfl) ?_; refine Da 10 rfl (A2 rfl) ?_; refine Bg Af ?_; refine Al (.tmp rfl .nil) ?_; refine only rfl ?_; rw [Hc h10, ← hq, ← hr]; rfl
   ·skip
    refine Yf 8 rfl rfl (Mp rfl (Cc Hz Ae)) .free rfl (.inr Bb) ?_; refine Dc 2 rfl rfl (ihk q Aa Aa _ _) ?_; rintro _ _ _ _ ⟨rfl, rfl, rfl⟩; refine Hx ?_; refine Da 9 rfl (Yk rfl rfl) ?_; refine Da 10 rfl (A2 rfl) ?_; refine Bg Af ?_; refine Al (.tmp rfl .nil) ?_; refine only rfl ?_; rw [Hc h10, ← hq, ← hr]; rfl
def Ex.value : Ex → Bool
 | .num _ => true
 | .fn _ _ _ _ _ => true
 | .bin .pair a b => a.value && b.value
 | _ => false
def Ex.print : Ex → Tree
 | .bin .pair a b => .node [] [.node Ea [], a.print, b.print]
 | .fn _ _ _ _ _ => .node D0 []
 | e => e.tree
theorem Zw (a b : Tree) : (Tree.node [] [.node Ea [], a, b]).text = [40, 112, 97, 105, 114, 32] ++ a.text ++ [32] ++ b.text ++ [41] := by
 simp [Tree.text, Fv, Ea]
def Ul (s : As) : Option Ex := match Cu s with
 | some e => if e.value = true then some e else none
 | none => none
def Ae3 (s : As) : Option As := (Ul s).map fun e => e.print.text
def Ty.sample : Ty → Ex
 | .i => .num [48]
 | .pr a b => .bin .pair a.sample b.sample
 | .fn a b => .fn [102] [120] a b b.sample
theorem Ty.sample_ok : ∀ {t : Ty}, t.size ≤ 16 → t.sample.ok = true
 | .i, _ => by decide
 | .pr a b, h => by
  simp only [Ty.size] at h
  simp only [Ty.sample, Ex.ok, Bool.and_eq_true]
  exact ⟨Ty.sample_ok (by omega), Ty.sample_ok (by omega)⟩
 | .fn a b, h => by
  simp only [Ty.size] at h
  simp only [Ty.sample, Ex.ok, Bool.and_eq_true, decide_eq_true_eq]
  exact ⟨⟨⟨⟨⟨by decide, by decide⟩, by decide⟩, by omega⟩, by omega⟩, Ty.sample_ok (by omega)⟩
theorem Ty.sample_len : ∀ {t : Ty}, t.size ≤ 16 → t.sample.tree.len ≤ 200 * t.size
 | .i, _ => by decide
 | .pr a b, h => by
  simp only [Ty.size] at h ⊢
  have h1 := Ty.sample_len (t := a) (by omega)
  have h2 := Ty.sample_len (t := b) (by omega)
  simp only [Ty.sample, Ex.tree, Tree.len, Ga, List.isEmpty_cons, cond_false, List.isEmpty_nil, cond_true, B5.txt, Ea, List.length_cons, List.length_nil]
  omega
 | .fn a b, h => by
  simp only [Ty.size] at h ⊢
  have h2 := Ty.sample_len (t := b) (by omega)
  have h3 := a.tree_small
  have h4 := b.tree_small
  simp only [Ty.sample, Ex.tree, Tree.len, Ga, List.isEmpty_cons, cond_false, List.isEmpty_nil, cond_true, D0, List.length_cons, List.length_nil]
  omega
theorem Ty.sample_chk : ∀ {t : Ty} {l : List As} {m : List Ty}, t.size ≤ 16 → t.sample.chk l m = .ok t
 | .i, l, m, _ => rfl
 | .pr a b, l, m, h => by
  have h0 := h
  simp only [Ty.size] at h
  simp only [Ty.sample, Ex.chk, Ty.sample_chk (t := a) (l := l) (m := m) (by omega), Ty.sample_chk (t := b) (l := l) (m := m) (by omega), B5.ty, if_pos h0]
 | .fn a b, l, m, h => by
  have h0 := h
  simp only [Ty.size] at h
  simp only [Ty.sample, Ex.chk, if_pos h0, Ty.sample_chk (t := b) (by omega), if_true]
theorem Ty.sample_value : ∀ t : Ty, t.sample.value = true
 | .i => rfl
 | .pr a b => by simp [Ty.sample, Ex.value, a.sample_value, b.sample_value]
 | .fn a b => rfl
def Ex.txt (e : Ex) : As := e.tree.text
theorem Ty.sample_textlen {t : Ty} (h : t.size ≤ 16) : t.sample.tree.text.length ≤ 3200 := by
 have := Ty.sample_len h; rw [Tree.text_len]; omega
theorem Aax (f x : As) (s t : Ty) (b : Ex) : (Ex.fn f x s t b).tree.text = [40, 102, 117, 110, 32] ++ f ++ [32] ++ x ++ [32] ++ s.tree.text ++ [32] ++ t.tree.text ++ [32] ++ b.tree.text ++ [41] := by
 simp [Ex.tree, Tree.text, Fv, D0]
def Px (s : As) : Option As := match Ln s with
 | some t => if t.sample.fine = true then some t.sample.tree.text else none
 | none => none
theorem O7 {s : As} (h : Ln s = none) : Px s = none := by unfold Px; rw [h]
theorem O8 {s : As} {t : Ty} (h : Ln s = some t) : Px s = if t.sample.fine = true then some t.sample.tree.text else none := by unfold Px; rw [h]
theorem Abv {s o : As} (h : Px s = some o) : ∃ t, Ln s = some t ∧ s = t.tree.text ∧ E2 o = some t.sample ∧ Cu o = some t.sample ∧ tyC o = some t ∧ (Ul o).isSome = true ∧ o.length ≤ 3200 := by
 cases ht : Ln s with
 | none => rw [O7 ht] at h; cases h
 | some t =>
  rw [O8 ht] at h; obtain ⟨h1, h2, h3⟩ := S2 ht
  split at h
  ·rename_i hf
   cases h
   have hx := Md (Ty.sample_ok h2)
   rw [if_pos hf] at hx
   have hty : t.sample.ty [] [] = some t := by unfold Ex.ty; rw [Ty.sample_chk h2]
   have hc : Cu t.sample.tree.text = some t.sample := by
    unfold Cu; rw [hx]; simp [Ex.ty_closed hty]
   refine ⟨t, rfl, h3, hx, hc, ?_, ?_, Ty.sample_textlen h2⟩
   ·unfold tyC; rw [hx]; exact hty
   ·unfold Ul; rw [hc]; simp [t.sample_value]
  ·cases h
theorem Aa3 : ∀ (n : Nat) {I : Heap} {t : Ty} {cs : List Value} (_ : SizeOf.sizeOf t < n) (_ : Rep I t.tree cs) (_ : t.size ≤ 16) (L : Bl), Fun Tryz.prog 206 [.agg cs.toArray] I L (Ed (.string (str t.sample.tree.text)) I L) := by
 intro n
 induction n with
 | zero => intro I t cs h; omega
 | succ n ihn =>
  intro I t cs hlt h hsz L; obtain ⟨oc, cc, oaf, cf, rfl, hf⟩ := h.at'
  have hg := t.tree_good.1
  have hfn := hf.nil
  refine Ao Ad ?_; refine Se rfl ?_; refine Cg rfl rfl .free rfl ?_; intro b1; refine Oa rfl (Ab (Ah (Se rfl (Oh rfl ?_)))); refine A9 rfl .free rfl ?_; refine Od rfl rfl rfl (Ab ?_); refine Az rfl ?_ ?_
  ·intro c0
   try simp only [nb] at c0
   refine Se rfl (Oa rfl (Ab (Al (.tmp rfl .nil) ?_))); refine only rfl ?_
   cases t with
   | i => rfl
   | fn a b => exact absurd rfl c0
   | pr a b => exact absurd rfl c0
  intro c0
  try simp only [nb] at c0
  have hpl : t.tree.parts.length = 3 := by
   cases t with
   | i => exact absurd c0 Ac
   | fn a b => rfl
   | pr a b => rfl
  have hhd := Mh (t := t.tree) Aa
  refine Aj (Ah (Se rfl (Oh rfl ?_))); refine A9 rfl .free rfl ?_
  first | refine Bh rfl rfl 0 rfl .free rfl ?_ | refine Bi rfl rfl 0 rfl .free rfl ?_
  refine Be rfl .free rfl ?_; refine Gf rfl .free rfl ?_; refine Od rfl rfl rfl (Ab ?_); refine Az rfl ?_ ?_
  ·intro c1
   try simp only [nb] at c1
   obtain ⟨a, b, rfl⟩ : ∃ a b, t = .pr a b := by
    cases t with
    | i => exact absurd c0 Ac
    | pr a b => exact ⟨a, b, rfl⟩
    | fn a b => exact absurd (show ([62] : As) = [42] from c1) Ac
   simp only [Ty.pr.sizeOf_spec] at hlt
   simp only [Ty.size] at hsz
   have ha16 : a.size ≤ 16 := by omega
   have hb16 : b.size ≤ 16 := by omega
   have hl1 := Ty.sample_textlen ha16
   have hl2 := Ty.sample_textlen hb16
   refine Ah ?_; refine Fj 15 rfl rfl ?_; refine Da 0 rfl (Ap rfl) ?_; refine Dt 1 [15] rfl (Bx rfl) ?_
   first | refine Da 2 rfl (Bp rfl rfl 1 rfl) ?_ | refine Da 2 rfl (Bq rfl rfl 1 rfl) ?_
   refine Dt 3 [15] rfl (Dz rfl) ?_; refine Da 7 rfl (Ap rfl) ?_; refine Dt 8 [15] rfl (Bx rfl) ?_
   first | refine Da 9 rfl (Bp rfl rfl 2 rfl) ?_ | refine Da 9 rfl (Bq rfl rfl 2 rfl) ?_
   refine Dt 10 [15] rfl (Dz rfl) ?_; refine Dc 4 rfl rfl (ihn (t := a) Aa (hf.as 1 a.tree Aa rfl) ha16 _) ?_; rintro _ _ _ _ ⟨rfl, rfl, rfl⟩; refine Hx ?_; refine Da 5 rfl (Yk rfl rfl) ?_; refine Da 6 rfl (Yk rfl rfl) ?_; refine Dc 11 rfl rfl (ihn (t := b) Aa (hf.as 2 b.tree Aa rfl) hb16 _) ?_; rintro _ _ _ _ ⟨rfl, rfl, rfl⟩; refine Hx ?_; refine Da 12 rfl (Yk rfl rfl) ?_; refine Da 13 rfl (Yk rfl rfl) ?_; refine Da 14 rfl (A2 rfl) ?_; refine Bg Af ?_; refine Al (.tmp rfl .nil) ?_; refine only rfl ?_
   have := Zw a.sample.tree b.sample.tree
   rw [show (Ty.pr a b).sample.tree.text = _ from this]; rfl
  intro c1
  try simp only [nb] at c1
  obtain ⟨a, b, rfl⟩ : ∃ a b, t = .fn a b := by
   cases t with
   | i => exact absurd c0 Ac
   | fn a b => exact ⟨a, b, rfl⟩
   | pr a b => exact absurd rfl c1
  simp only [Ty.fn.sizeOf_spec] at hlt
  simp only [Ty.size] at hsz
  have ha16 : a.size ≤ 16 := by omega
  have hb16 : b.size ≤ 16 := by omega
  have hl1 := Ty.text_len ha16
  have hl2 := Ty.text_len hb16
  have hl3 := Ty.sample_textlen hb16
  have hs1 := a.tree_small
  have hs2 := b.tree_small
  refine Aj (Ah ?_); refine Fj 22 rfl rfl ?_; refine Da 0 rfl (Ap rfl) ?_; refine Dt 1 [22] rfl (Bx rfl) ?_
  first | refine Da 2 rfl (Bp rfl rfl 1 rfl) ?_ | refine Da 2 rfl (Bq rfl rfl 1 rfl) ?_
  refine Dt 3 [22] rfl (Dz rfl) ?_; refine Da 7 rfl (Ap rfl) ?_; refine Dt 8 [22] rfl (Bx rfl) ?_
  first | refine Da 9 rfl (Bp rfl rfl 2 rfl) ?_ | refine Da 9 rfl (Bq rfl rfl 2 rfl) ?_
  refine Dt 10 [22] rfl (Dz rfl) ?_; refine Da 14 rfl (Ap rfl) ?_; refine Dt 15 [22] rfl (Bx rfl) ?_
  first | refine Da 16 rfl (Bp rfl rfl 2 rfl) ?_ | refine Da 16 rfl (Bq rfl rfl 2 rfl) ?_
  refine Dt 17 [22] rfl (Dz rfl) ?_; refine Dc 4 rfl rfl (Ly (t := a.tree) _ (Nat.lt_succ_self _) (hf.as 1 a.tree Aa rfl) a.tree_good.1 Aa _) ?_; rintro _ _ _ _ ⟨rfl, rfl, rfl⟩; refine Hx ?_; refine Da 5 rfl (Yk rfl rfl) ?_; refine Da 6 rfl (Yk rfl rfl) ?_; refine Dc 11 rfl rfl (Ly (t := b.tree) _ (Nat.lt_succ_self _) (hf.as 2 b.tree Aa rfl) b.tree_good.1 Aa _) ?_; rintro _ _ _ _ ⟨rfl, rfl, rfl⟩; refine Hx ?_; refine Da 12 rfl (Yk rfl rfl) ?_; refine Da 13 rfl (Yk rfl rfl) ?_; refine Dc 18 rfl rfl (ihn (t := b) Aa (hf.as 2 b.tree Aa rfl) hb16 _) ?_; rintro _ _ _ _ ⟨rfl, rfl, rfl⟩; refine Hx ?_
  refine Da 19 rfl (Yk rfl rfl) ?_; refine Da 20 rfl (Yk rfl rfl) ?_; refine Da 21 rfl (A2 rfl) ?_; refine Bg Af ?_; refine Al (.tmp rfl .nil) ?_; refine only rfl ?_
  have := Aax [102] [120] a b b.sample
  rw [show (Ty.fn a b).sample.tree.text = _ from this]; rfl
def smp (t : Tree) : Ex := (t.ty.getD .i).sample
theorem N7 (a : Ty) : smp a.tree = a.sample := by unfold smp; rw [a.tree_ty]; rfl
theorem Acn {I : Heap} {t : Tree} {cs : List Value} (h : Rep I t cs) (ht : ∃ a : Ty, t = a.tree ∧ a.size ≤ 16) (L : Bl) : Fun Tryz.prog 206 [.agg cs.toArray] I L (Ed (.string (str (smp t).tree.text)) I L) := by
 obtain ⟨a, rfl, h1⟩ := ht; rw [N7]
 exact Aa3 _ (Nat.lt_succ_self _) h h1 L
theorem Vo (s : As) (hs : s.length ≤ Bd) (I : Heap) (L : Bl) : Fun Tryz.prog 195 [.string (str s)] I L (EL (Px s) L) := by
 refine Ao Ad ?_; refine Se rfl (Oa rfl (Oa rfl (Ab (Se rfl (Om rfl ?_))))); refine Ca rfl (Sg s hs _ _) ?_; rintro _ J _ e1 ⟨t, cs, ok, rfl, hrep, rfl, hpf⟩; obtain ⟨o1, k1, _, rfl, -⟩ := hrep.open
 have hty := S1 hpf
 refine Om rfl (Oe rfl rfl (Oe rfl rfl ?_)); refine A5 .free rfl ?_; intro b4; refine By rfl rfl rfl rfl .free ?_; refine Oa rfl (Ab (Ah (Se rfl (Om rfl ?_)))); refine Dv rfl .free rfl ?_; refine Om rfl ?_
 apply Gk 13 17 rfl
 ·intro g2_3 hk
  try simp only [nb] at g2_3
  have hp := Fl (H0 hpf g2_3)
  refine Bj rfl (.met rfl rfl) rfl ?_; refine C1 rfl (.met rfl rfl) rfl (Me hrep hp.1 (Tree.size_maxN hp.2.1) _) ?_; rintro _ _ _ _ ⟨rfl, rfl, rfl⟩; refine Dv rfl (.met rfl rfl) rfl ?_; refine Of rfl rfl ?_
  exact Aw 3 rfl rfl hk
 ·intro _ hk; refine A0 3 rfl ?_; refine Ot rfl rfl ?_
  exact Aw 3 rfl rfl hk
 refine Om rfl ?_
 apply Gk 18 23 rfl
 ·intro g2_8 hk
  try simp only [nb] at g2_8
  obtain ⟨a, ha, hta, hsz⟩ := hty.1 g2_8.1 g2_8.2
  have hl : (smp t).tree.text.length ≤ 3200 := by rw [hta, N7]; exact Ty.sample_textlen hsz
  refine Bj rfl (.met rfl rfl) rfl ?_; refine C1 rfl (.met rfl rfl) rfl (Acn hrep ⟨a, hta, hsz⟩ _) ?_; rintro _ _ _ _ ⟨rfl, rfl, rfl⟩; refine C1 rfl (.met rfl rfl) rfl (Lv _ Cv _ _) ?_; rintro _ _ _ _ ⟨rfl, rfl, rfl⟩; refine Dv rfl (.met rfl rfl) rfl ?_; refine Of rfl rfl ?_
  exact Aw 4 rfl rfl hk
 ·intro _ hk; refine A0 4 rfl ?_; refine Ot rfl rfl ?_
  exact Aw 4 rfl rfl hk
 refine Ab ?_; refine Az rfl ?_ ?_
 ·intro c0
  try simp only [nb] at c0
  refine Se rfl (Oa rfl (Oa rfl (Ab ?_))); refine Al (.tmp rfl (.tmp rfl .nil)) ?_; refine ⟨J, L, e1, Cb, ?_, rfl⟩
  have hz : Px s = none := by
   by_cases h1 : ok = true
   ·by_cases h2 : t.typed = true
    ·obtain ⟨a, ha, hta, hsz⟩ := hty.1 h1 h2
     rcases c0 with (h | h) | h
     ·rw [h1] at h; cases h
     ·rw [h2] at h; cases h
     ·rw [hta, N7, Md (Ty.sample_ok hsz)] at h; rw [O8 ha]
      cases hf : a.sample.fine with
      | true => rw [hf] at h; cases h
      | false => rfl
    ·exact O7 (hty.2 (.inr (by simpa using h2)))
   ·exact O7 (hty.2 (.inl (by simpa using h1)))
  rw [hz]; rfl
 intro c0
 try simp only [nb] at c0
 obtain ⟨⟨h1, h2⟩, h3⟩ := c0; obtain ⟨a, ha, rfl, hsz⟩ := hty.1 h1 h2; refine Aj (Se rfl ?_); refine Bj rfl .free rfl ?_; refine Ca rfl (Aa3 _ (Nat.lt_succ_self _) hrep hsz _) ?_; rintro _ _ _ _ ⟨rfl, rfl, rfl⟩; refine Oa rfl (Oa rfl (Ab ?_)); refine Al (.tmp rfl (.tmp rfl .nil)) ?_; refine ⟨J, L, e1, Cb, ?_, rfl⟩; rw [N7, Md (Ty.sample_ok hsz)] at h3
 cases hf : a.sample.fine with
 | false => rw [hf] at h3; cases h3
 | true => rw [O8 ha, if_pos hf]; rfl
structure ScAt (I : Heap) (ns ts : List As) (oa : Option Addr) (c : Nat) (ob : Option Addr) (c' : Nat) : Prop where
 names : Strs I oa ns c
 types : Strs I ob ts c'
 len : ns.length = ts.length
 nb : ∀ s ∈ ns, s.length ≤ 4
 tb : ∀ s ∈ ts, s.length ≤ 1000
theorem ScAt.mono {I I' : Heap} (hle : HLe I I') {ns ts : List As} {oa : Option Addr} {c : Nat} {ob : Option Addr} {c' : Nat} (h : ScAt I ns ts oa c ob c') : ScAt I' ns ts oa c ob c' :=
 ⟨h.names.mono hle, h.types.mono hle, h.len, h.nb, h.tb⟩
def RSc (ns ts : List As) (L : Bl) : Cx := fun v I' L' => ∃ oa c ob c', v = .agg [.slice oa (List.length ns) c, .slice ob (List.length ts) c'].toArray ∧ ScAt I' ns ts oa c ob c' ∧ L = L'
theorem K0 {I : Heap} {ns ts : List As} {oa ob : Option Addr} {c c' : Nat} (h : ScAt I ns ts oa c ob c') (x k : As) (hx : x.length ≤ 4) (hk : k.length ≤ 1000) (hn : ns.length ≤ 200) (L : Bl) :
  Fun Tryz.prog 164 [.agg [.slice oa ns.length c, .slice ob ts.length c'].toArray, .string (str x), .string (str k)] I L (RSc (ns ++ [x]) (ts ++ [k]) L) := by
 have hlen := h.len
 have hlr : HLe I I := .refl _
 have hxm : x.length ≤ Bd := by unfold Bd; omega
 have hkm : k.length ≤ Bd := by unfold Bd; omega
 refine Ao Ad ?_; refine Se rfl ?_; refine Cg rfl rfl .free rfl ?_; intro b3; refine A5 .free rfl ?_; intro b6; refine Ab (Ah ?_); refine Fj 12 rfl rfl ?_; refine Da 0 rfl (Ap rfl) ?_; refine Dt 1 [11] rfl (Bx rfl) ?_; refine Da 2 rfl (Ai rfl) ?_; refine Da 5 rfl (Ap rfl) ?_; refine Dt 6 [11] rfl (Bx rfl) ?_; refine Da 7 rfl (Ai rfl) ?_; refine Jo 3 8 Af ?_ ?_
 ·skip
  refine M4 3 rfl rfl rfl rfl Ae Ae Ae Ac Ac Ae .free rfl (.inr Bb) ?_; intro b10; refine Ee ?_; intro hz
  have hlr := hlr.trans hz
  have h := h.mono hz
  have hk1 := Hy hz hxm
  try have hk2 := hk2.mono hz
  refine Jo 4 8 Af ?_ ?_
  ·skip
   refine Jv 4 rfl rfl rfl .free rfl (It h.names hk1 Gy _) ?_; rintro _ J2 _ e2 ⟨o3, c3', rfl, hn3, rfl⟩
   have hlr := hlr.trans e2
   have h := h.mono e2
   try have hk2 := hk2.mono e2
   refine Hx ?_; refine Fz 8 rfl Af rfl rfl rfl Ae Ae Ae Ac Ac Ae .free rfl (.inr Bb) ?_; intro b15; refine Ee ?_; intro hz
   have hlr := hlr.trans hz
   have h := h.mono hz
   have hk2 := Hy hz hkm
   try have hk1 := hk1.mono hz
   try have hn3 := hn3.mono hz
   refine Dc 9 rfl rfl (It h.types hk2 Gy _) ?_; rintro _ J3 _ e3 ⟨o4, c4', rfl, hn4, rfl⟩
   have hlr := hlr.trans e3
   have hn3 := hn3.mono e3
   refine Hx ?_; refine Da 10 rfl (I1 rfl rfl rfl) ?_; refine Dx 11 rfl rfl rfl rfl ?_; refine Bg Af ?_; refine Al (.c rfl .nil) ?_
   exact ⟨J3, L, hlr, Cb, o3, c3', o4, c4', rfl, ⟨hn3, hn4, by simp [hlen], (fun s hs => by rcases List.mem_append.1 hs with hs | hs; exact h.nb s hs; rw [List.mem_singleton.1 hs]; exact hx), (fun s hs => by rcases List.mem_append.1 hs with hs | hs; exact h.tb s hs; rw [List.mem_singleton.1 hs]; exact hk)⟩, rfl⟩
  ·skip
   refine M4 8 rfl rfl rfl rfl Ae Ae Ae Ac Ac Ae .free rfl (.inr Bb) ?_; intro b15; refine Ee ?_; intro hz
   have hlr := hlr.trans hz
   have h := h.mono hz
   have hk2 := Hy hz hkm
   try have hk1 := hk1.mono hz
   try have hn3 := hn3.mono hz
   refine Dc 4 rfl rfl (It h.names hk1 Gy _) ?_; rintro _ J2 _ e2 ⟨o3, c3', rfl, hn3, rfl⟩
   have hlr := hlr.trans e2
   have h := h.mono e2
   try have hk2 := hk2.mono e2
   refine Hx ?_; refine Dc 9 rfl rfl (It h.types hk2 Gy _) ?_; rintro _ J3 _ e3 ⟨o4, c4', rfl, hn4, rfl⟩
   have hlr := hlr.trans e3
   have hn3 := hn3.mono e3
   refine Hx ?_; refine Da 10 rfl (I1 rfl rfl rfl) ?_; refine Dx 11 rfl rfl rfl rfl ?_; refine Bg Af ?_; refine Al (.c rfl .nil) ?_
   exact ⟨J3, L, hlr, Cb, o3, c3', o4, c4', rfl, ⟨hn3, hn4, by simp [hlen], (fun s hs => by rcases List.mem_append.1 hs with hs | hs; exact h.nb s hs; rw [List.mem_singleton.1 hs]; exact hx), (fun s hs => by rcases List.mem_append.1 hs with hs | hs; exact h.tb s hs; rw [List.mem_singleton.1 hs]; exact hk)⟩, rfl⟩
 ·skip
  refine M4 8 rfl rfl rfl rfl Ae Ae Ae Ac Ac Ae .free rfl (.inr Bb) ?_; intro b15; refine Ee ?_; intro hz
  have hlr := hlr.trans hz
  have h := h.mono hz
  have hk2 := Hy hz hkm
  try have hk1 := hk1.mono hz
  try have hn3 := hn3.mono hz
  refine Fz 3 rfl Af rfl rfl rfl Ae Ae Ae Ac Ac Ae .free rfl (.inr Bb) ?_; intro b10; refine Ee ?_; intro hz
  have hlr := hlr.trans hz
  have h := h.mono hz
  have hk1 := Hy hz hxm
  try have hk2 := hk2.mono hz
  refine Dc 4 rfl rfl (It h.names hk1 Gy _) ?_; rintro _ J2 _ e2 ⟨o3, c3', rfl, hn3, rfl⟩
  have hlr := hlr.trans e2
  have h := h.mono e2
  try have hk2 := hk2.mono e2
  refine Hx ?_; refine Dc 9 rfl rfl (It h.types hk2 Gy _) ?_; rintro _ J3 _ e3 ⟨o4, c4', rfl, hn4, rfl⟩
  have hlr := hlr.trans e3
  have hn3 := hn3.mono e3
  refine Hx ?_; refine Da 10 rfl (I1 rfl rfl rfl) ?_; refine Dx 11 rfl rfl rfl rfl ?_; refine Bg Af ?_; refine Al (.c rfl .nil) ?_
  exact ⟨J3, L, hlr, Cb, o3, c3', o4, c4', rfl, ⟨hn3, hn4, by simp [hlen], (fun s hs => by rcases List.mem_append.1 hs with hs | hs; exact h.nb s hs; rw [List.mem_singleton.1 hs]; exact hx), (fun s hs => by rcases List.mem_append.1 hs with hs | hs; exact h.tb s hs; rw [List.mem_singleton.1 hs]; exact hk)⟩, rfl⟩
theorem Ab4 (o : Option (Ty × Ty)) (sg s : As) (h : o = Gw sg s) : (t1 o).length ≤ 80 ∧ (t2 o).length ≤ 80 := by
 subst h
 cases h : Gw sg s with
 | none => exact ⟨by decide, by decide⟩
 | some p =>
  obtain ⟨a, b⟩ := p
  unfold Gw at h
  cases ht : Ln s with
  | none => rw [ht] at h; cases h
  | some t =>
   rw [ht] at h
   have h1 := (S2 ht).2.1
   cases t with
   | i => cases h
   | fn x y =>
    simp only at h
    split at h
    ·cases h; simp only [Ty.size] at h1
     exact ⟨Ty.text_len (t := a) Aa, Ty.text_len (t := b) Aa⟩
    ·cases h
   | pr x y =>
    simp only at h
    split at h
    ·cases h; simp only [Ty.size] at h1
     exact ⟨Ty.text_len (t := a) Aa, Ty.text_len (t := b) Aa⟩
    ·cases h
theorem Abw {s o : As} (h : Px s = some o) : o.length ≤ 3200 := by obtain ⟨_, _, _, _, _, _, _, h⟩ := Abv h; exact h
structure LFs where
 i : Nat
 fs : List As
 b : Nat
 sp : List Value
 c : Nat
theorem Oy {I : Heap} {oa : Option Addr} {l : List UInt8} {c : Nat} (h : Bytes I oa l c) (hl : l.length ≤ 2000) (b p : Nat) (hp : p + 4 ≤ 1099511627776) {ns ts : List As} {o1 o2 : Option Addr} {c1 c2 : Nat} (hs : ScAt I ns ts o1 c1 o2 c2) (hn : ns.length ≤ 100) (want : As) (hw : want.length ≤ 1000) (L : Bl) :
  Fun Tryz.prog 163 [.pointer (some ⟨b, 0, none⟩), .agg [.slice o1 ns.length c1, .slice o2 ts.length c2].toArray, .string (str want)] I (rd b oa l c p :: L) (DT b oa l c p 4 3300 L) := by
 have hlen := hs.len
 have hnl := hs.names
 refine Ao Ad ?_; refine Se rfl ?_; refine Cg rfl rfl .free rfl ?_; intro b4; refine Oa rfl (Ab (Se rfl ?_)); refine Eh .free rfl ?_; intro b11; refine Oa rfl (Ab (Ah (Se rfl (Oa rfl (Ab (Ar ?_))))))
 refine Dy (X := LFs) (fun x => ns.length - x.i) (fun x => [(0, .pointer (some ⟨b, 0, none⟩)), (2, .string (str want)), (4, .pointer (some ⟨b4, 0, none⟩)), (6, .string (str [])), (7, .slice (some ⟨x.b, 0, none⟩) x.fs.length x.c), (8, .int .i64 (x.i : Nat))]) (fun _ => I) (fun x => (x.b, .cells (x.fs.map sv ++ x.sp).toArray 9 (0, 0)) :: (b4, .cells [.slice o1 ns.length c1, .slice o2 ts.length c2].toArray 134 (0, 0)) :: rd b oa l c p :: L) (fun x => x.i ≤ ns.length ∧ x.fs.length ≤ x.i ∧ (∀ s ∈ x.fs, s.length ≤ 4) ∧ E0 1 x.fs.length x.c (x.fs.map sv) (some (x.b, x.sp))) ⟨0, [], b11, [], 0⟩ ⟨Nat.zero_le _, Nat.zero_le _, (fun _ h => by cases h), ⟨rfl, Nat.le_refl _, rfl⟩⟩ ⟨rfl, rfl, rfl, rfl, rfl, rfl, trivial⟩ (by intro _ h; exact h) ?_
 rintro ⟨i, fs, bb, sp, cb⟩ ⟨hi, hfi, hfs, hB⟩ ih
 simp only at hi hfi hfs hB ih ⊢
 refine Ah (Se rfl (Om rfl (Oh rfl ?_))); refine A9 rfl .free rfl ?_; refine On rfl (Oc rfl rfl rfl (Ab ?_)); refine Az rfl ?_ ?_
 ·intro c0
  try simp only [nb] at c0
  have hi1 : i < ns.length := by omega
  have hel : (ns.getD i []).length ≤ 4 := hs.nb _ (by rw [show ns.getD i [] = ns[i] by simp [hi1]]; exact List.getElem_mem _)
  have hle0 : HLe I I := .refl _
  refine Aj (Ah (Ar (Ah ?_))); refine Fj 12 rfl rfl ?_; refine Da 0 rfl (Ap rfl) ?_; refine Dt 1 [12] rfl (Bx rfl) ?_; refine Da 2 rfl (Ap rfl) ?_; refine Dt 3 [12] rfl (Bx rfl) ?_; refine Da 4 rfl (Ap rfl) ?_; refine Dt 5 [12] rfl (Bx rfl) ?_; refine Da 6 rfl (Ai rfl) ?_
  first | refine Da 7 rfl (Bp rfl rfl _ rfl) ?_ | refine Da 7 rfl (Bq rfl rfl _ rfl) ?_
  refine Dt 8 [12] rfl (L5 rfl) ?_; refine Da 10 rfl (Ai rfl) ?_; refine Dc 9 rfl rfl (Aa2 hs.names hs.types hlen _ _) ?_; rintro _ _ _ _ ⟨rfl, rfl, rfl⟩; refine Hx ?_; refine Da 11 rfl (Uq rfl rfl rfl) ?_; refine Bg Af ?_; refine Az rfl ?_ ?_
  ·intro c1
   try simp only [nb] at c1
   refine Am rfl (Om rfl (Oh rfl ?_)); refine A9 rfl .free rfl ?_; refine Om rfl ?_
   first | refine Bh rfl rfl _ rfl .free rfl ?_ | refine Bi rfl rfl _ rfl .free rfl ?_
   refine Et rfl .free rfl ?_; refine Ol rfl rfl ?_; intro b37; refine D7 (B := some (bb, sp)) (xs := fs.map sv) (ys := [sv (ns.getD i [])]) (m := fs.length) (c := cb) Bk Ae rfl rfl hB (fun _ h => h.f1) Ae (fun a ha => by cases ha; exact Cc Hz Ae) Ad Ae Ac Ac Aa Ac .free rfl ?_; intro bq sp2 c2q hB2; rw [show fs.map sv ++ [sv (ns.getD i [])] = (fs ++ [ns.getD i []]).map sv by simp] at hB2 ⊢; refine Oa rfl (Ab (Aq (Am rfl (Om rfl ?_)))); refine Or rfl rfl rfl ?_; refine Oa rfl (Ab ?_)
   first
    | exact Dl (E' := [(0, .pointer (some ⟨b, 0, none⟩)), (2, .string (str want)), (4, .pointer (some ⟨b4, 0, none⟩)), (6, .string (str [])), (7, .slice (some ⟨bq, 0, none⟩) (fs ++ [ns.getD i []]).length c2q), (8, .int .i64 ((i + 1 : Nat)))]) ⟨rfl, rfl, rfl, rfl, by simp; rfl, rfl, trivial⟩ (Cq (fun w h => Mem.sub (L' := (bq, _) :: (b4, _) :: rd b oa l c p :: L) Bf h) (ih ⟨i + 1, fs ++ [ns.getD i []], bq, sp2, c2q⟩ ⟨by simp only; omega, by simp; omega, (fun s hs => by rcases List.mem_append.1 hs with hs | hs; exact hfs s hs; rw [List.mem_singleton.1 hs]; exact hel), by simpa using hB2⟩ D1))
    | exact Dl (E' := [(0, .pointer (some ⟨b, 0, none⟩)), (2, .string (str want)), (4, .pointer (some ⟨b4, 0, none⟩)), (6, .string (str [])), (7, .slice (some ⟨bb, 0, none⟩) fs.length cb), (8, .int .i64 ((i + 1 : Nat)))]) ⟨rfl, rfl, rfl, rfl, rfl, rfl, trivial⟩ (ih ⟨i + 1, fs, bb, sp, cb⟩ ⟨by simp only; omega, by simp only; omega, hfs, hB⟩ D1)
  intro c1
  try simp only [nb] at c1
  refine Aj (Aq (Am rfl (Om rfl ?_))); refine Or rfl rfl rfl ?_; refine Oa rfl (Ab ?_)
  first
   | exact Dl (E' := [(0, .pointer (some ⟨b, 0, none⟩)), (2, .string (str want)), (4, .pointer (some ⟨b4, 0, none⟩)), (6, .string (str [])), (7, .slice (some ⟨bq, 0, none⟩) (fs ++ [ns.getD i []]).length c2q), (8, .int .i64 ((i + 1 : Nat)))]) ⟨rfl, rfl, rfl, rfl, by simp; rfl, rfl, trivial⟩ (Cq (fun w h => Mem.sub (L' := (bq, _) :: (b4, _) :: rd b oa l c p :: L) Bf h) (ih ⟨i + 1, fs ++ [ns.getD i []], bq, sp2, c2q⟩ ⟨by simp only; omega, by simp; omega, (fun s hs => by rcases List.mem_append.1 hs with hs | hs; exact hfs s hs; rw [List.mem_singleton.1 hs]; exact hel), by simpa using hB2⟩ D1))
   | exact Dl (E' := [(0, .pointer (some ⟨b, 0, none⟩)), (2, .string (str want)), (4, .pointer (some ⟨b4, 0, none⟩)), (6, .string (str [])), (7, .slice (some ⟨bb, 0, none⟩) fs.length cb), (8, .int .i64 ((i + 1 : Nat)))]) ⟨rfl, rfl, rfl, rfl, rfl, rfl, trivial⟩ (ih ⟨i + 1, fs, bb, sp, cb⟩ ⟨by simp only; omega, by simp only; omega, hfs, hB⟩ D1)
 intro c0
 try simp only [nb] at c0
 refine Cd rfl ?_; refine Ah (Ah ?_); refine G6 (B := some (bb, sp)) hB rfl Cv (fun s hs => by have := hfs s hs; unfold Bd; omega) ?_; intro J oz cz ez hbv hst
 simp only [B6, Value.slice.injEq] at hbv
 obtain ⟨rfl, -, rfl⟩ := hbv; refine Cq (fun w h => h.f1) ?_
 have h := h.mono ez
 have hz0 := hst.nil'
 have hzl := hst.len
 refine Am rfl (Om rfl (On rfl (Oc rfl rfl rfl (Om rfl ?_))))
 first | refine Gr rfl rfl ?_ ?_ | refine E3 rfl rfl ?_ ?_ | refine Lw rfl rfl ?_ ?_
 ·intro g7_4; refine Ow rfl ?_; refine C1 rfl (.met rfl rfl) rfl (Du h hl b p 4 Aa Ac _) ?_; rintro _ _ _ _ ⟨r, rfl, rfl, rfl, hr⟩; refine Dj rfl rfl rfl (.met rfl rfl) rfl ?_; refine Ot rfl rfl (Ab ?_); refine Az rfl ?_ ?_
  ·intro c2
   try simp only [nb] at c2
   have hpos : 0 < fs.length := by omega
   refine Se rfl ?_
   iterate 3 refine Om rfl ?_
   refine On rfl ?_; refine Ca rfl (Du h hl b _ fs.length Aa Aa _) ?_; rintro _ _ _ _ ⟨r2, rfl, rfl, rfl, hr2⟩
   have hr3 : r2 < fs.length := by omega
   have hfl : (fs.getD r2 []).length ≤ 4 := hfs _ (by rw [show fs.getD r2 [] = fs[r2] by simp [hr3]]; exact List.getElem_mem _)
   first | refine Bh rfl rfl _ rfl .free rfl ?_ | refine Bi rfl rfl _ rfl .free rfl ?_
   refine Et rfl .free rfl ?_; refine Oa rfl (Ab (Al (.tmp rfl .nil) ?_))
   exact ⟨J, _, ez, fun w h => Mem.sub (L' := rd b oa l c _ :: L) Bf h, fs.getD r2 [], _, rfl, by omega, by omega, by omega, rfl⟩
  intro c2
  try simp only [nb] at c2
  refine Aj (Ah (Se rfl (Om rfl (Od rfl rfl rfl (Ab ?_))))); refine Az rfl ?_ ?_
  ·intro c3
   try simp only [nb] at c3
   refine Se rfl (Om rfl ?_); refine Ol rfl rfl ?_; intro b57; refine D4 [[48], [49], [50], [51], [55], [45, 49], [52, 48, 48], [45, 57, 57, 57]] Ac Ac ?_; intro J2 e2 k2; refine Ca rfl (Es (h.mono e2) hl b _ Aa k2 Ad _) ?_; rintro _ _ _ _ ⟨s, rfl, hs9, rfl, rfl⟩
   have hs4 : s.length ≤ 4 := by revert s; decide
   refine Oa rfl (Ab (Al (.tmp rfl .nil) ?_))
   exact ⟨J2, _, ez.trans e2, fun w h => Mem.sub (L' := rd b oa l c _ :: L) Bf h, s, _, rfl, by omega, by omega, by omega, rfl⟩
  intro c3
  try simp only [nb] at c3
  refine Aj (Se rfl (Om rfl ?_)); refine Ca rfl (Vo want Cv _ _) ?_; rintro _ J3 _ e3 ⟨rfl, rfl⟩; refine Om rfl (Oe rfl rfl (Oe rfl rfl (Oa rfl (Oa rfl (Ab (Ah (Se rfl (Om rfl ?_)))))))); refine Dv rfl .free rfl ?_; refine Ab ?_; refine Az rfl ?_ ?_
  ·intro c4
   try simp only [nb] at c4
   refine Se rfl (Oa rfl (Ab (Al (.tmp rfl .nil) ?_)))
   exact ⟨J3, _, ez.trans e3, fun w h => Mem.sub (L' := rd b oa l c _ :: L) Bf h, [48], _, rfl, by decide, by omega, by omega, rfl⟩
  intro c4
  try simp only [nb] at c4
  refine Aj (Se rfl (Om rfl (Oa rfl (Ab (Al (.tmp rfl .nil) ?_))))); refine ⟨J3, _, ez.trans e3, fun w h => Mem.sub (L' := rd b oa l c _ :: L) Bf h, (Px want).getD [], _, rfl, ?_, by omega, by omega, rfl⟩
  cases ho : Px want with
  | none => decide
  | some o => have := Abw ho; simp only [Option.getD_some]; omega
 intro g7_4
 iterate 3 refine Ce rfl rfl rfl ?_
 refine Of rfl rfl (Ab ?_); refine At rfl ?_; refine Aj (Ah (Se rfl (Om rfl (Od rfl rfl rfl (Ab ?_))))); refine Az rfl ?_ ?_
 ·intro c3
  try simp only [nb] at c3
  refine Se rfl (Om rfl ?_); refine Ol rfl rfl ?_; intro b57; refine D4 [[48], [49], [50], [51], [55], [45, 49], [52, 48, 48], [45, 57, 57, 57]] Ac Ac ?_; intro J2 e2 k2; refine Ca rfl (Es (h.mono e2) hl b _ Aa k2 Ad _) ?_; rintro _ _ _ _ ⟨s, rfl, hs9, rfl, rfl⟩
  have hs4 : s.length ≤ 4 := by revert s; decide
  refine Oa rfl (Ab (Al (.tmp rfl .nil) ?_))
  exact ⟨J2, _, ez.trans e2, fun w h => Mem.sub (L' := rd b oa l c _ :: L) Bf h, s, _, rfl, by omega, by omega, by omega, rfl⟩
 intro c3
 try simp only [nb] at c3
 refine Aj (Se rfl (Om rfl ?_)); refine Ca rfl (Vo want Cv _ _) ?_; rintro _ J3 _ e3 ⟨rfl, rfl⟩; refine Om rfl (Oe rfl rfl (Oe rfl rfl (Oa rfl (Oa rfl (Ab (Ah (Se rfl (Om rfl ?_)))))))); refine Dv rfl .free rfl ?_; refine Ab ?_; refine Az rfl ?_ ?_
 ·intro c4
  try simp only [nb] at c4
  refine Se rfl (Oa rfl (Ab (Al (.tmp rfl .nil) ?_)))
  exact ⟨J3, _, ez.trans e3, fun w h => Mem.sub (L' := rd b oa l c _ :: L) Bf h, [48], _, rfl, by decide, by omega, by omega, rfl⟩
 intro c4
 try simp only [nb] at c4
 refine Aj (Se rfl (Om rfl (Oa rfl (Ab (Al (.tmp rfl .nil) ?_))))); refine ⟨J3, _, ez.trans e3, fun w h => Mem.sub (L' := rd b oa l c _ :: L) Bf h, (Px want).getD [], _, rfl, ?_, by omega, by omega, rfl⟩
 cases ho : Px want with
 | none => decide
 | some o => have := Abw ho; simp only [Option.getD_some]; omega
theorem Zg {I : Heap} {oa : Option Addr} {l : List UInt8} {c : Nat} (h : Bytes I oa l c) (hl : l.length ≤ 2000) (b p : Nat) (hp : p + 4 ≤ 1099511627776) (L : Bl) :
  Fun Tryz.prog 165 [.pointer (some ⟨b, 0, none⟩)] I (rd b oa l c p :: L) (DT b oa l c p 4 200 L) := by
 refine Ao Ad ?_; refine Se rfl (Oa rfl (Ab (Se rfl (Om rfl ?_)))); refine Ol rfl rfl ?_; intro b5; refine D4 [[40, 43, 32, 120, 56, 32, 40, 99, 97, 108, 108, 32, 102, 56, 32, 40, 45, 32, 120, 56, 32, 49, 41, 41, 41], [40, 99, 97, 108, 108, 32, 102, 56, 32, 40, 45, 32, 120, 56, 32, 49, 41, 41], [40, 42, 32, 120, 56, 32, 40, 99, 97, 108, 108, 32, 102, 56, 32, 40, 45, 32, 120, 56, 32, 49, 41, 41, 41], [40, 45, 32, 48, 32, 40, 99, 97, 108, 108, 32, 102, 56, 32, 40, 45, 32, 120, 56, 32, 49, 41, 41, 41]] Ac Ac ?_; intro J1 e1 k1; refine Ca rfl (Es (h.mono e1) hl b _ Aa k1 Ad L) ?_
 rintro _ _ _ _ ⟨s, rfl, hs, rfl, rfl⟩
 have hsl : s.length ≤ 30 := by revert s; decide
 refine Oa rfl (Ab (Se rfl (Om rfl ?_))); refine Ol rfl rfl ?_; intro b8; refine D4 [[48], [49], [53]] Ac Ac ?_; intro J2 e2 k2; refine Ca rfl (Es ((h.mono e1).mono e2) hl b _ Aa k2 Ad L) ?_; rintro _ _ _ _ ⟨s2, rfl, hs2, rfl, rfl⟩
 have hsl2 : s2.length ≤ 1 := by revert s2; decide
 refine Ok rfl rfl ?_; refine Ok rfl rfl ?_; refine Om rfl ?_; refine Ok rfl rfl ?_; refine Ok rfl rfl ?_; refine Om rfl ?_; refine Ca rfl (Du ((h.mono e1).mono e2) hl b _ 7 Aa Ac L) ?_; rintro _ _ _ _ ⟨r, rfl, rfl, rfl, hr⟩
 have hdl := Tj (n := r) Aa
 refine Ca rfl (Tv _ r (Nat.lt_succ_self _) Aa _ _) ?_; rintro _ _ _ _ ⟨rfl, rfl, rfl⟩; refine Ok rfl rfl ?_; refine Ok rfl rfl ?_; refine Oa rfl (Ab (Al (.tmp rfl .nil) ?_))
 exact ⟨J2, _, e1.trans e2, fun _ h => h, _, _, rfl, Em, by omega, by omega, rfl⟩
def kE : Nat → Nat
 | 0 => 4
 | d + 1 => 3 * kE d + 60
def eT : Nat → Nat
 | 0 => 3300
 | d + 1 => 3 * eT d + 3000
theorem Aas : ∀ d, 3300 ≤ eT d
 | 0 => Nat.le_refl _
 | d + 1 => by have := Aas d; simp only [eT]; omega
def Ut (d : Nat) : Prop := ∀ {I : Heap} {oa : Option Addr} {l : List UInt8} {c : Nat} (_ : Bytes I oa l c) (_ : l.length ≤ 2000) (b p : Nat) (_ : p + kE d ≤ 1099511627776) {ns ts : List As} {o1 o2 : Option Addr} {c1 c2 : Nat} (_ : ScAt I ns ts o1 c1 o2 c2) (_ : ns.length + 4 * d ≤ 100) (want : As) (_ : want.length + 20 * d ≤ 1000) (L : Bl),
  Fun Tryz.prog 119 [.pointer (some ⟨b, 0, none⟩), .agg [.slice o1 ns.length c1, .slice o2 ts.length c2].toArray, .string (str want), .int .i64 (d : Nat)] I (rd b oa l c p :: L) (DT b oa l c p (kE d) (eT d) L)
theorem Qc {d : Nat} (ih : Ut d) (hd : d ≤ 20) (ht : eT (d + 1) ≤ 1000000000) {I : Heap} {oa : Option Addr} {l : List UInt8} {c : Nat} (h : Bytes I oa l c) (hl : l.length ≤ 2000) (b p : Nat) (hp : p + (3 * kE d + 40) ≤ 1099511627776) {ns ts : List As} {o1 o2 : Option Addr} {c1 c2 : Nat} (hs : ScAt I ns ts o1 c1 o2 c2) (hn : ns.length + 4 * (d + 1) ≤ 100) (want : As) (hw : want.length + 20 * (d + 1) ≤ 1000) (L : Bl) :
  Fun Tryz.prog 166 [.pointer (some ⟨b, 0, none⟩), .agg [.slice o1 ns.length c1, .slice o2 ts.length c2].toArray, .string (str want), .int .i64 ((d + 1 : Nat))] I (rd b oa l c p :: L) (DT b oa l c p (3 * kE d + 40) (3 * eT d + 3000) L) := by
 simp only [eT] at ht
 have hge := Aas d
 obtain ⟨q1, q2⟩ := Ab4 (Gw [42] want) [42] want rfl; obtain ⟨q3, q4⟩ := Ab4 (Gw [62] want) [62] want rfl
 have hle : HLe I I := .refl _
 have hlr : HLe I I := .refl _
 refine Ao Ad ?_; refine Se rfl ?_; refine Cg rfl rfl .free rfl ?_; intro b5; refine Oa rfl (Ab (Ah ?_)); refine Cq (fun w h => h.f1) ?_; refine Am rfl (Om rfl ?_); refine Ca rfl (Xd want Cv _ _) ?_; rintro _ J _ e ⟨rfl, rfl⟩
 have h := h.mono e
 have hs := hs.mono e
 have hle := hle.trans e
 have hlr := hlr.trans e
 refine Om rfl ?_
 iterate 3 refine Oe rfl rfl ?_
 iterate 3 refine Oa rfl ?_
 refine Ab (Se rfl (Om rfl ?_)); refine Ca rfl (Zb want Cv _ _) ?_; rintro _ J _ e ⟨rfl, rfl⟩
 have h := h.mono e
 have hs := hs.mono e
 have hle := hle.trans e
 have hlr := hlr.trans e
 refine Om rfl ?_
 iterate 3 refine Oe rfl rfl ?_
 iterate 3 refine Oa rfl ?_
 refine Ab (Se rfl (Om rfl ?_)); refine Or rfl rfl rfl ?_; refine Oa rfl (Ab (Ah (Ar (Ah ?_)))); refine K6 (t := 15) (v' := .int .i64 (d : Nat)) rfl Eb ?_; refine Am rfl (Om rfl (Oa rfl (Ab ?_))); refine Az rfl ?_ ?_
 ·intro c0
  try simp only [nb] at c0
  refine Ah ?_; refine F3 fun hlr => ?_
  refine H5 15 rfl rfl ?_; refine Da 0 rfl (Ai rfl) ?_; refine Dt 1 [15] rfl (D2 rfl) ?_; refine Da 2 rfl (Ai rfl) ?_; refine Da 3 rfl (Ai rfl) ?_; refine Da 7 rfl (Ai rfl) ?_; refine Dt 8 [15] rfl (D2 rfl) ?_; refine Da 9 rfl (Ai rfl) ?_; refine Da 10 rfl (Ai rfl) ?_; refine Dc 4 rfl rfl (ih h hl b _ Aa hs Aa _ Dh _) ?_; rintro _ J _ e ⟨s1, p1, rfl, hs1, hp1, hp2, rfl⟩
  have h := h.mono e
  have hs := hs.mono e
  have hle := hle.trans e
  have hlr := hlr.trans e
  refine Hx ?_; refine Da 5 rfl (Yk rfl rfl) ?_; refine Da 6 rfl (Yk rfl rfl) ?_; refine Dc 11 rfl rfl (ih h hl b _ Aa hs Aa _ Dh _) ?_; rintro _ J _ e ⟨s1, p1, rfl, hs1, hp1, hp2, rfl⟩
  have h := h.mono e
  have hs := hs.mono e
  have hle := hle.trans e
  have hlr := hlr.trans e
  refine Hx ?_; refine Da 12 rfl (Yk rfl rfl) ?_; refine Da 13 rfl (Yk rfl rfl) ?_; refine Da 14 rfl (A2 rfl) ?_; refine Bg Af ?_; refine Al (.tmp rfl .nil) ?_
  exact ⟨_, _, hle, fun w h => Mem.sub (L' := rd b oa l c _ :: L) Bf h, _, _, rfl, Em, by omega, by omega, rfl⟩
 intro c0
 try simp only [nb] at c0
 refine Se rfl (Om rfl (Oa rfl (Ab ?_))); refine Az rfl ?_ ?_
 ·intro c1
  try simp only [nb] at c1
  refine Se rfl (Om rfl ?_); refine Ol rfl rfl ?_; intro b52; refine D4 [[102], [103], [102, 49]] Ac Ac ?_; intro J1 e1 k1
  have h := h.mono e1
  have hs := hs.mono e1
  have hle := hle.trans e1
  refine Ca rfl (Es h hl b _ Aa k1 Ad _) ?_; rintro _ _ _ _ ⟨nf, rfl, hnf, rfl, rfl⟩
  have hnfl : nf.length ≤ 2 := by revert nf; decide
  refine Oa rfl (Ab (Se rfl (Om rfl ?_))); refine Ol rfl rfl ?_; intro b55; refine D4 [[120], [122], [120, 50]] Ac Ac ?_; intro J1 e1 k1
  have h := h.mono e1
  have hs := hs.mono e1
  have hle := hle.trans e1
  refine Ca rfl (Es h hl b _ Aa k1 Ad _) ?_; rintro _ _ _ _ ⟨nx, rfl, hnx, rfl, rfl⟩
  have hnxl : nx.length ≤ 2 := by revert nx; decide
  refine Oa rfl (Ab (Se rfl ?_)); refine Bj rfl .free rfl ?_; refine Om rfl (Om rfl ?_); refine Ca rfl (K0 hs nx (t1 (Gw [62] want)) Aa Aa Aa _) ?_; rintro _ J2 _ e2 ⟨o3, c3, o4, c4, rfl, hs2, rfl⟩
  have h := h.mono e2
  have hs := hs.mono e2
  have hle := hle.trans e2
  refine A5 .free rfl ?_; intro b18; refine By rfl rfl rfl rfl .free ?_; refine Fc (fun w h => h.f1) ?_; refine Ab (Ah (Se rfl (Om rfl ?_))); refine Ca rfl (Du h hl b _ 6 Aa Ac _) ?_; rintro _ _ _ _ ⟨r, rfl, rfl, rfl, hr⟩; refine Oc rfl rfl rfl (Ab ?_); refine Az rfl ?_ ?_
  ·intro c2
   try simp only [nb] at c2
   refine Am rfl ?_; refine Bj rfl .free rfl ?_; refine Om rfl (Om rfl ?_); refine Ca rfl (K0 hs nf want Aa Aa Aa _) ?_; rintro _ J3 _ e3 ⟨o5, c5, o6, c6, rfl, hs3, rfl⟩
   have h := h.mono e3
   have hle := hle.trans e3
   refine Om rfl (Om rfl ?_); refine Ca rfl (K0 hs3 nx (t1 (Gw [62] want)) Aa Aa Dq _) ?_; rintro _ J4 _ e4 ⟨o7, c7, o8, c8, rfl, hs4, rfl⟩
   have h := h.mono e4
   have hle := hle.trans e4
   refine By rfl rfl rfl rfl .free ?_; refine Ab (Se rfl (Om rfl ?_)); refine Ok rfl rfl ?_; refine Ok rfl rfl ?_; refine Om rfl ?_; refine Ok rfl rfl ?_; refine Ok rfl rfl ?_; refine Om rfl ?_; refine Ok rfl rfl ?_; refine Ok rfl rfl ?_; refine Om rfl ?_; refine Ok rfl rfl ?_; refine Ok rfl rfl ?_; refine Om rfl ?_; refine Bj rfl .free rfl ?_; refine Om rfl (Om rfl ?_); refine Ca rfl (by first | exact ih h hl b _ Aa hs4 Dq _ Aa _ | exact ih h hl b _ Aa hs2 Dq _ Aa _) ?_; rintro _ J _ e ⟨s1, p1, rfl, hs1, hp1, hp2, rfl⟩
   have h := h.mono e
   have hle := hle.trans e
   refine Ok rfl rfl ?_; refine Ok rfl rfl ?_; refine Oa rfl (Ab (Al (.tmp rfl .nil) ?_))
   exact ⟨_, _, hle, fun w h => Mem.sub (L' := rd b oa l c _ :: L) Bf h, _, _, rfl, Em, by omega, by omega, rfl⟩
  intro c2
  try simp only [nb] at c2
  refine Aj (Se rfl (Om rfl ?_)); refine Ok rfl rfl ?_; refine Ok rfl rfl ?_; refine Om rfl ?_; refine Ok rfl rfl ?_; refine Ok rfl rfl ?_; refine Om rfl ?_; refine Ok rfl rfl ?_; refine Ok rfl rfl ?_; refine Om rfl ?_; refine Ok rfl rfl ?_; refine Ok rfl rfl ?_; refine Om rfl ?_; refine Bj rfl .free rfl ?_; refine Om rfl (Om rfl ?_); refine Ca rfl (by first | exact ih h hl b _ Aa hs4 Dq _ Aa _ | exact ih h hl b _ Aa hs2 Dq _ Aa _) ?_; rintro _ J _ e ⟨s1, p1, rfl, hs1, hp1, hp2, rfl⟩
  have h := h.mono e
  have hle := hle.trans e
  refine Ok rfl rfl ?_; refine Ok rfl rfl ?_; refine Oa rfl (Ab (Al (.tmp rfl .nil) ?_))
  exact ⟨_, _, hle, fun w h => Mem.sub (L' := rd b oa l c _ :: L) Bf h, _, _, rfl, Em, by omega, by omega, rfl⟩
 intro c1
 try simp only [nb] at c1
 refine Se rfl (Om rfl (Od rfl rfl rfl (Om rfl ?_)))
 first | refine Gr rfl rfl ?_ ?_ | refine E3 rfl rfl ?_ ?_ | refine Lw rfl rfl ?_ ?_
 ·intro g13_3; refine Ow rfl ?_; refine C1 rfl (.met rfl rfl) rfl (Du h hl b _ 3 Aa Ac _) ?_; rintro _ _ _ _ ⟨r, rfl, rfl, rfl, hr⟩; refine Dj rfl rfl rfl (.met rfl rfl) rfl ?_; refine Ot rfl rfl (Oa rfl (Ab ?_)); refine Az rfl ?_ ?_
  ·intro c3
   try simp only [nb] at c3
   refine Ah ?_; refine F3 fun hlr => ?_
   refine H5 18 rfl rfl ?_; refine Da 0 rfl (Ai rfl) ?_; refine Da 5 rfl (Ai rfl) ?_; refine Dt 6 [18] rfl (D2 rfl) ?_; refine Da 7 rfl (Ai rfl) ?_; refine Da 11 rfl (Ai rfl) ?_; refine Dt 12 [18] rfl (D2 rfl) ?_; refine Da 13 rfl (Ai rfl) ?_; refine Fz 1 rfl Af rfl rfl rfl Ae Ae Ae Ac Ac Ae .free rfl (.inr Bb) ?_; intro b99; refine Ee ?_; intro hz
   have hk := N8 (l := [[43], [45], [42]]) (b := b99) (I := J) (e := 9) Ac Ac
   have h := h.mono hz
   have hs := hs.mono hz
   have hle := hle.trans hz
   have hlr := hlr.trans hz
   refine Dc 2 rfl rfl (Es h hl b _ Aa hk Ad _) ?_; rintro _ _ _ _ ⟨op, rfl, hop, rfl, rfl⟩
   have hopl : op.length ≤ 1 := by revert op; decide
   refine Hx ?_; refine Da 3 rfl (Yk rfl rfl) ?_; refine Da 4 rfl (Yk rfl rfl) ?_; refine Dc 8 rfl rfl (ih h hl b _ Aa hs Aa _ Dh _) ?_; rintro _ J _ e ⟨s1, p1, rfl, hs1, hp1, hp2, rfl⟩
   have h := h.mono e
   have hs := hs.mono e
   have hle := hle.trans e
   have hlr := hlr.trans e
   refine Hx ?_; refine Da 9 rfl (Yk rfl rfl) ?_; refine Da 10 rfl (Yk rfl rfl) ?_; refine Dc 14 rfl rfl (ih h hl b _ Aa hs Aa _ Dh _) ?_; rintro _ J _ e ⟨s1, p1, rfl, hs1, hp1, hp2, rfl⟩
   have h := h.mono e
   have hs := hs.mono e
   have hle := hle.trans e
   have hlr := hlr.trans e
   refine Hx ?_; refine Da 15 rfl (Yk rfl rfl) ?_; refine Da 16 rfl (Yk rfl rfl) ?_; refine Da 17 rfl (A2 rfl) ?_; refine Bg Af ?_; refine Al (.tmp rfl .nil) ?_
   exact ⟨_, _, hle, fun w h => Mem.sub (L' := rd b oa l c _ :: L) Bf h, _, _, rfl, Em, by omega, by omega, rfl⟩
  intro c3
  try simp only [nb] at c3
  refine Aj (Aq (Se rfl (Om rfl ?_))); refine Bj rfl .free rfl ?_; refine Om rfl ?_; refine Ca rfl (Oy h hl b _ Aa hs Aa want Aa _) ?_; rintro _ J _ e ⟨s1, p1, rfl, hs1, hp1, hp2, rfl⟩
  have hle := hle.trans e
  refine Oa rfl (Ab (Al (.tmp rfl .nil) ?_))
  exact ⟨_, _, hle, fun w h => Mem.sub (L' := rd b oa l c _ :: L) Bf h, _, _, rfl, by omega, by omega, by omega, rfl⟩
 intro g13_3
 iterate 3 refine Ce rfl rfl rfl ?_
 refine Of rfl rfl (Oa rfl (Ab ?_)); refine At rfl ?_; refine Aj (Aq (Se rfl (Om rfl ?_))); refine Bj rfl .free rfl ?_; refine Om rfl ?_; refine Ca rfl (Oy h hl b _ Aa hs Aa want Aa _) ?_; rintro _ J _ e ⟨s1, p1, rfl, hs1, hp1, hp2, rfl⟩
 have hle := hle.trans e
 refine Oa rfl (Ab (Al (.tmp rfl .nil) ?_))
 exact ⟨_, _, hle, fun w h => Mem.sub (L' := rd b oa l c _ :: L) Bf h, _, _, rfl, by omega, by omega, by omega, rfl⟩
theorem Y4 : Ut 0 := by
 intro I oa l c h hl b p hp ns ts o1 o2 c1 c2 hs hn want hw L; refine Ao Ad ?_; refine Se rfl ?_; refine Cg rfl rfl .free rfl ?_; intro b5; refine Oa rfl (Ab (Ah (Ah ?_))); refine Cq (fun w h => h.f1) ?_; refine Am rfl (Om rfl (Oc rfl rfl rfl (Ab ?_)))
 first | refine L4 rfl Ae ?_ | refine L3 rfl Ae ?_ | refine Br Ak ?_
 refine Se rfl (Om rfl ?_); refine Bj rfl .free rfl ?_; refine Om rfl ?_; refine Ca rfl (Oy h hl b _ hp hs Aa want Aa _) ?_; rintro _ J _ e ⟨s1, p1, rfl, hs1, hp1, hp2, rfl⟩; refine Oa rfl (Ab (Al (.tmp rfl .nil) ?_))
 exact ⟨J, _, e, fun w h => Mem.sub (L' := rd b oa l c _ :: L) Bf h, _, _, rfl, hs1, hp1, hp2, rfl⟩
set_option maxHeartbeats 1000000 in
theorem Y3 {d : Nat} (ih : Ut d) (hd : d ≤ 20) (ht : eT (d + 1) ≤ 1000000000) : Ut (d + 1) := by
 intro I oa l c h hl b p hp ns ts o1 o2 c1 c2 hs hn want hw L
 have ht0 := ht
 simp only [eT, kE] at ht hp ⊢
 have hge := Aas d
 have hle : HLe I I := .refl _
 have hlr : HLe I I := .refl _
 have hb1 : bT 1 = 7 := rfl
 have hk1 : kT 1 = 2 := rfl
 refine Ao Ad ?_; refine Se rfl ?_; refine Cg rfl rfl .free rfl ?_; intro b5; refine Oa rfl (Ab (Ah (Ah ?_))); refine Cq (fun w h => h.f1) ?_; refine Am rfl (Om rfl (Oc rfl rfl rfl (Ab ?_)))
 first | refine Sf rfl Aa ?_ | refine At Ak ?_
 refine Aj (Se rfl (Om rfl ?_)); refine Or rfl rfl rfl ?_; refine Oa rfl (Ab (Ah (Ah ?_))); refine K6 (t := 9) (v' := .int .i64 (d : Nat)) rfl Eb ?_; refine Am rfl (Om rfl ?_); refine Ca rfl (Du h hl b _ 12 Aa Ac _) ?_; rintro _ _ _ _ ⟨r, rfl, rfl, rfl, hr⟩; refine Ab (Ar (Se rfl (Oc rfl rfl rfl (Oa rfl (Ab ?_))))); refine Az rfl ?_ ?_
 ·intro c1
  try simp only [nb] at c1
  refine Ah ?_; refine F3 fun hlr => ?_
  refine H5 21 rfl rfl ?_; refine Da 0 rfl (Ai rfl) ?_; refine Dt 1 [21] rfl (D2 rfl) ?_; refine Da 2 rfl (Ai rfl) ?_; refine Da 6 rfl (Ai rfl) ?_; refine Dt 7 [21] rfl (D2 rfl) ?_; refine Da 8 rfl (Ai rfl) ?_; refine Da 9 rfl (Ai rfl) ?_; refine Da 13 rfl (Ai rfl) ?_; refine Dt 14 [21] rfl (D2 rfl) ?_; refine Da 15 rfl (Ai rfl) ?_; refine Da 16 rfl (Ai rfl) ?_; refine Dc 3 rfl rfl (ih h hl b _ Aa hs Aa _ Dh _) ?_; rintro _ J _ e ⟨s1, p1, rfl, hs1, hp1, hp2, rfl⟩
  have h := h.mono e
  have hs := hs.mono e
  have hle := hle.trans e
  have hlr := hlr.trans e
  refine Hx ?_; refine Da 4 rfl (Yk rfl rfl) ?_; refine Da 5 rfl (Yk rfl rfl) ?_; refine Dc 10 rfl rfl (ih h hl b _ Aa hs Aa _ Dh _) ?_; rintro _ J _ e ⟨s1, p1, rfl, hs1, hp1, hp2, rfl⟩
  have h := h.mono e
  have hs := hs.mono e
  have hle := hle.trans e
  have hlr := hlr.trans e
  refine Hx ?_; refine Da 11 rfl (Yk rfl rfl) ?_; refine Da 12 rfl (Yk rfl rfl) ?_; refine Dc 17 rfl rfl (ih h hl b _ Aa hs Aa _ Dh _) ?_; rintro _ J _ e ⟨s1, p1, rfl, hs1, hp1, hp2, rfl⟩
  have h := h.mono e
  have hs := hs.mono e
  have hle := hle.trans e
  have hlr := hlr.trans e
  refine Hx ?_; refine Da 18 rfl (Yk rfl rfl) ?_; refine Da 19 rfl (Yk rfl rfl) ?_; refine Da 20 rfl (A2 rfl) ?_; refine Bg Af ?_; refine Al (.tmp rfl .nil) ?_
  exact ⟨_, _, hle, fun w h => Mem.sub (L' := rd b oa l c _ :: L) Bf h, _, _, rfl, Em, by omega, by omega, rfl⟩
 intro c1
 try simp only [nb] at c1
 refine Ah (Se rfl (Oc rfl rfl rfl (Oa rfl (Ab ?_)))); refine Az rfl ?_ ?_
 ·intro c2
  try simp only [nb] at c2
  refine Aj ?_
  first | refine St rfl (by first | assumption | omega) ?_ | refine Br Ak ?_
  refine Se rfl (Om rfl ?_); refine Ca rfl (K1 1 h hl b _ Aa Ac Ac _) ?_; rintro _ J _ e ⟨kd, pk, rfl, hkd, hpk1, hpk2, rfl⟩
  have h := h.mono e
  have hs := hs.mono e
  have hle := hle.trans e
  have hlr := hlr.trans e
  refine Oa rfl (Ab (Se rfl (Om rfl ?_))); refine Ol rfl rfl ?_; intro b51; refine D4 [[97], [98], [99], [120, 49], [121, 48]] Ac Ac ?_; intro J1 e1 k1
  have h := h.mono e1
  have hs := hs.mono e1
  have hle := hle.trans e1
  refine Ca rfl (Es h hl b _ Aa k1 Ad _) ?_; rintro _ _ _ _ ⟨nx, rfl, hnx, rfl, rfl⟩
  have hnxl : nx.length ≤ 2 := by revert nx; decide
  refine Oa rfl (Ab (Ah ?_)); refine F3 fun hlr => ?_
  refine H5 21 rfl rfl ?_; refine Da 0 rfl (Ai rfl) ?_; refine Da 1 rfl (Yk rfl rfl) ?_; refine Da 2 rfl (Yk rfl rfl) ?_; refine Da 3 rfl (Ai rfl) ?_; refine Dt 4 [21] rfl (D2 rfl) ?_; refine Da 5 rfl (Ai rfl) ?_; refine Da 6 rfl (Ai rfl) ?_; refine Da 10 rfl (Ai rfl) ?_; refine Dt 11 [21] rfl (D2 rfl) ?_; refine Da 12 rfl (Ai rfl) ?_; refine Da 13 rfl (Ai rfl) ?_; refine Da 15 rfl (Ai rfl) ?_; refine Da 16 rfl (Ai rfl) ?_; refine Dc 7 rfl rfl (ih h hl b _ Aa hs Aa _ Dh _) ?_; rintro _ J _ e ⟨s1, p1, rfl, hs1, hp1, hp2, rfl⟩
  have h := h.mono e
  have hs := hs.mono e
  have hle := hle.trans e
  have hlr := hlr.trans e
  refine Hx ?_; refine Da 8 rfl (Yk rfl rfl) ?_; refine Da 9 rfl (Yk rfl rfl) ?_; refine Dc 14 rfl rfl (K0 hs nx kd Aa Aa Aa _) ?_; rintro _ J2 _ e2 ⟨o3, c3, o4, c4, rfl, hs2, rfl⟩
  have h := h.mono e2
  have hle := hle.trans e2
  have hlr := hlr.trans e2
  refine Hx ?_; refine Dc 17 rfl rfl (ih h hl b _ Aa hs2 Dq _ Aa _) ?_; rintro _ J _ e ⟨s1, p1, rfl, hs1, hp1, hp2, rfl⟩
  have hle := hle.trans e
  have hlr := hlr.trans e
  refine Hx ?_; refine Da 18 rfl (Yk rfl rfl) ?_; refine Da 19 rfl (Yk rfl rfl) ?_; refine Da 20 rfl (A2 rfl) ?_; refine Bg Af ?_; refine Al (.tmp rfl .nil) ?_
  exact ⟨_, _, hle, fun w h => Mem.sub (L' := rd b oa l c _ :: L) Bf h, _, _, rfl, Em, by omega, by omega, rfl⟩
 intro c2
 try simp only [nb] at c2
 refine Am rfl (Oc rfl rfl rfl (Oa rfl (Ab ?_))); refine Az rfl ?_ ?_
 ·intro c3
  try simp only [nb] at c3
  refine Se rfl (Om rfl ?_); refine Ca rfl (K1 1 h hl b _ Aa Ac Ac _) ?_; rintro _ J _ e ⟨kd, pk, rfl, hkd, hpk1, hpk2, rfl⟩
  have h := h.mono e
  have hs := hs.mono e
  have hle := hle.trans e
  have hlr := hlr.trans e
  refine Oa rfl (Ab (Se rfl (Om rfl ?_))); refine Ol rfl rfl ?_; intro b51; refine D4 [[97], [98], [99], [120, 49], [121, 48]] Ac Ac ?_; intro J1 e1 k1
  have h := h.mono e1
  have hs := hs.mono e1
  have hle := hle.trans e1
  refine Ca rfl (Es h hl b _ Aa k1 Ad _) ?_; rintro _ _ _ _ ⟨nx, rfl, hnx, rfl, rfl⟩
  have hnxl : nx.length ≤ 2 := by revert nx; decide
  refine Oa rfl (Ab (Ah ?_)); refine F3 fun hlr => ?_
  refine H5 21 rfl rfl ?_; refine Da 0 rfl (Ai rfl) ?_; refine Da 1 rfl (Yk rfl rfl) ?_; refine Da 2 rfl (Yk rfl rfl) ?_; refine Da 3 rfl (Ai rfl) ?_; refine Dt 4 [21] rfl (D2 rfl) ?_; refine Da 5 rfl (Ai rfl) ?_; refine Da 6 rfl (Ai rfl) ?_; refine Da 10 rfl (Ai rfl) ?_; refine Dt 11 [21] rfl (D2 rfl) ?_; refine Da 12 rfl (Ai rfl) ?_; refine Da 13 rfl (Ai rfl) ?_; refine Da 15 rfl (Ai rfl) ?_; refine Da 16 rfl (Ai rfl) ?_; refine Dc 7 rfl rfl (ih h hl b _ Aa hs Aa _ Dh _) ?_; rintro _ J _ e ⟨s1, p1, rfl, hs1, hp1, hp2, rfl⟩
  have h := h.mono e
  have hs := hs.mono e
  have hle := hle.trans e
  have hlr := hlr.trans e
  refine Hx ?_; refine Da 8 rfl (Yk rfl rfl) ?_; refine Da 9 rfl (Yk rfl rfl) ?_; refine Dc 14 rfl rfl (K0 hs nx kd Aa Aa Aa _) ?_; rintro _ J2 _ e2 ⟨o3, c3, o4, c4, rfl, hs2, rfl⟩
  have h := h.mono e2
  have hle := hle.trans e2
  have hlr := hlr.trans e2
  refine Hx ?_; refine Dc 17 rfl rfl (ih h hl b _ Aa hs2 Dq _ Aa _) ?_; rintro _ J _ e ⟨s1, p1, rfl, hs1, hp1, hp2, rfl⟩
  have hle := hle.trans e
  have hlr := hlr.trans e
  refine Hx ?_; refine Da 18 rfl (Yk rfl rfl) ?_; refine Da 19 rfl (Yk rfl rfl) ?_; refine Da 20 rfl (A2 rfl) ?_; refine Bg Af ?_; refine Al (.tmp rfl .nil) ?_
  exact ⟨_, _, hle, fun w h => Mem.sub (L' := rd b oa l c _ :: L) Bf h, _, _, rfl, Em, by omega, by omega, rfl⟩
 intro c3
 try simp only [nb] at c3
 refine Ah (Se rfl (Oc rfl rfl rfl (Oa rfl (Ab ?_)))); refine Az rfl ?_ ?_
 ·intro c4
  try simp only [nb] at c4
  refine Aj ?_
  first | refine St rfl (by first | assumption | omega) ?_ | refine Br Ak ?_
  refine Se rfl (Om rfl ?_); refine Ca rfl (K1 1 h hl b _ Aa Ac Ac _) ?_; rintro _ J _ e ⟨kd, pk, rfl, hkd, hpk1, hpk2, rfl⟩
  have h := h.mono e
  have hs := hs.mono e
  have hle := hle.trans e
  have hlr := hlr.trans e
  refine Oa rfl (Ab (Ah ?_)); refine F3 fun hlr => ?_
  refine H5 20 rfl rfl ?_; refine Da 0 rfl (Ai rfl) ?_; refine Dt 1 [20] rfl (D2 rfl) ?_; refine Da 2 rfl (Ai rfl) ?_; refine Da 3 rfl (Yk rfl rfl) ?_; refine Da 4 rfl (Yk rfl rfl) ?_; refine Da 5 rfl (Ai rfl) ?_; refine Da 6 rfl (Yk rfl rfl) ?_; refine Da 7 rfl (Yk rfl rfl) ?_; refine Da 8 rfl (Ai rfl) ?_; refine Da 12 rfl (Ai rfl) ?_; refine Dt 13 [20] rfl (D2 rfl) ?_; refine Da 14 rfl (Ai rfl) ?_; refine Da 15 rfl (Ai rfl) ?_; refine Dc 9 rfl rfl (ih h hl b _ Aa hs Aa _ Dh _) ?_; rintro _ J _ e ⟨s1, p1, rfl, hs1, hp1, hp2, rfl⟩
  have h := h.mono e
  have hs := hs.mono e
  have hle := hle.trans e
  have hlr := hlr.trans e
  refine Hx ?_; refine Da 10 rfl (Yk rfl rfl) ?_; refine Da 11 rfl (Yk rfl rfl) ?_; refine Dc 16 rfl rfl (ih h hl b _ Aa hs Aa _ Dh _) ?_; rintro _ J _ e ⟨s1, p1, rfl, hs1, hp1, hp2, rfl⟩
  have h := h.mono e
  have hs := hs.mono e
  have hle := hle.trans e
  have hlr := hlr.trans e
  refine Hx ?_; refine Da 17 rfl (Yk rfl rfl) ?_; refine Da 18 rfl (Yk rfl rfl) ?_; refine Da 19 rfl (A2 rfl) ?_; refine Bg Af ?_; refine Al (.tmp rfl .nil) ?_
  exact ⟨_, _, hle, fun w h => Mem.sub (L' := rd b oa l c _ :: L) Bf h, _, _, rfl, Em, by omega, by omega, rfl⟩
 intro c4
 try simp only [nb] at c4
 refine Am rfl (Oc rfl rfl rfl (Oa rfl (Ab ?_))); refine Az rfl ?_ ?_
 ·intro c5
  try simp only [nb] at c5
  refine Se rfl (Om rfl ?_); refine Ca rfl (K1 1 h hl b _ Aa Ac Ac _) ?_; rintro _ J _ e ⟨kd, pk, rfl, hkd, hpk1, hpk2, rfl⟩
  have h := h.mono e
  have hs := hs.mono e
  have hle := hle.trans e
  have hlr := hlr.trans e
  refine Oa rfl (Ab (Ah ?_)); refine F3 fun hlr => ?_
  refine H5 20 rfl rfl ?_; refine Da 0 rfl (Ai rfl) ?_; refine Dt 1 [20] rfl (D2 rfl) ?_; refine Da 2 rfl (Ai rfl) ?_; refine Da 3 rfl (Yk rfl rfl) ?_; refine Da 4 rfl (Yk rfl rfl) ?_; refine Da 5 rfl (Ai rfl) ?_; refine Da 6 rfl (Yk rfl rfl) ?_; refine Da 7 rfl (Yk rfl rfl) ?_; refine Da 8 rfl (Ai rfl) ?_; refine Da 12 rfl (Ai rfl) ?_; refine Dt 13 [20] rfl (D2 rfl) ?_; refine Da 14 rfl (Ai rfl) ?_; refine Da 15 rfl (Ai rfl) ?_; refine Dc 9 rfl rfl (ih h hl b _ Aa hs Aa _ Dh _) ?_; rintro _ J _ e ⟨s1, p1, rfl, hs1, hp1, hp2, rfl⟩
  have h := h.mono e
  have hs := hs.mono e
  have hle := hle.trans e
  have hlr := hlr.trans e
  refine Hx ?_; refine Da 10 rfl (Yk rfl rfl) ?_; refine Da 11 rfl (Yk rfl rfl) ?_; refine Dc 16 rfl rfl (ih h hl b _ Aa hs Aa _ Dh _) ?_; rintro _ J _ e ⟨s1, p1, rfl, hs1, hp1, hp2, rfl⟩
  have h := h.mono e
  have hs := hs.mono e
  have hle := hle.trans e
  have hlr := hlr.trans e
  refine Hx ?_; refine Da 17 rfl (Yk rfl rfl) ?_; refine Da 18 rfl (Yk rfl rfl) ?_; refine Da 19 rfl (A2 rfl) ?_; refine Bg Af ?_; refine Al (.tmp rfl .nil) ?_
  exact ⟨_, _, hle, fun w h => Mem.sub (L' := rd b oa l c _ :: L) Bf h, _, _, rfl, Em, by omega, by omega, rfl⟩
 intro c5
 try simp only [nb] at c5
 refine Se rfl (Oc rfl rfl rfl (Oa rfl (Ab ?_))); refine Az rfl ?_ ?_
 ·intro c6
  try simp only [nb] at c6
  refine Se rfl (Om rfl ?_); refine Bj rfl .free rfl ?_; refine Om rfl ?_; refine Ok rfl rfl ?_; refine Ok rfl rfl ?_; refine Om rfl ?_; refine Ca rfl (ih h hl b _ Aa hs Aa _ Dh _) ?_; rintro _ J _ e ⟨s1, p1, rfl, hs1, hp1, hp2, rfl⟩
  have h := h.mono e
  have hs := hs.mono e
  have hle := hle.trans e
  have hlr := hlr.trans e
  refine Ok rfl rfl ?_; refine Ok rfl rfl ?_; refine Oa rfl (Ab (Al (.tmp rfl .nil) ?_))
  exact ⟨_, _, hle, fun w h => Mem.sub (L' := rd b oa l c _ :: L) Bf h, _, _, rfl, Em, by omega, by omega, rfl⟩
 intro c6
 try simp only [nb] at c6
 refine Se rfl (Oc rfl rfl rfl (Oa rfl (Ab ?_))); refine Az rfl ?_ ?_
 ·intro c7
  try simp only [nb] at c7
  refine Se rfl (Om rfl ?_); refine Bj rfl .free rfl ?_; refine Om rfl ?_; refine Ok rfl rfl ?_; refine Ok rfl rfl ?_; refine Om rfl ?_; refine Ca rfl (ih h hl b _ Aa hs Aa _ Dh _) ?_; rintro _ J _ e ⟨s1, p1, rfl, hs1, hp1, hp2, rfl⟩
  have h := h.mono e
  have hs := hs.mono e
  have hle := hle.trans e
  have hlr := hlr.trans e
  refine Ok rfl rfl ?_; refine Ok rfl rfl ?_; refine Oa rfl (Ab (Al (.tmp rfl .nil) ?_))
  exact ⟨_, _, hle, fun w h => Mem.sub (L' := rd b oa l c _ :: L) Bf h, _, _, rfl, Em, by omega, by omega, rfl⟩
 intro c7
 try simp only [nb] at c7
 refine Se rfl (Oc rfl rfl rfl (Oa rfl (Ab ?_))); refine Az rfl ?_ ?_
 ·intro c8
  try simp only [nb] at c8
  refine Se rfl (Om rfl (Od rfl rfl rfl (Ab ?_))); refine Az rfl ?_ ?_
  ·intro c9
   try simp only [nb] at c9
   refine Se rfl (Om rfl ?_); refine Ca rfl (Zg h hl b _ Aa _) ?_; rintro _ J _ e ⟨s1, p1, rfl, hs1, hp1, hp2, rfl⟩
   have hle := hle.trans e
   refine Oa rfl (Ab (Al (.tmp rfl .nil) ?_))
   exact ⟨_, _, hle, fun w h => Mem.sub (L' := rd b oa l c _ :: L) Bf h, _, _, rfl, Em, by omega, by omega, rfl⟩
  intro c9
  try simp only [nb] at c9
  refine Aj (Aq (Se rfl (Om rfl ?_))); refine Bj rfl .free rfl ?_; refine Om rfl (Om rfl ?_); refine Ca rfl (Qc ih hd ht0 h hl b _ Aa hs Aa want Aa _) ?_; rintro _ J _ e ⟨s1, p1, rfl, hs1, hp1, hp2, rfl⟩
  have hle := hle.trans e
  refine Oa rfl (Ab (Al (.tmp rfl .nil) ?_))
  exact ⟨_, _, hle, fun w h => Mem.sub (L' := rd b oa l c _ :: L) Bf h, _, _, rfl, Em, by omega, by omega, rfl⟩
 intro c8
 try simp only [nb] at c8
 refine Aj (Aq (Se rfl (Om rfl ?_))); refine Bj rfl .free rfl ?_; refine Om rfl (Om rfl ?_); refine Ca rfl (Qc ih hd ht0 h hl b _ Aa hs Aa want Aa _) ?_; rintro _ J _ e ⟨s1, p1, rfl, hs1, hp1, hp2, rfl⟩
 have hle := hle.trans e
 refine Oa rfl (Ab (Al (.tmp rfl .nil) ?_))
 exact ⟨_, _, hle, fun w h => Mem.sub (L' := rd b oa l c _ :: L) Bf h, _, _, rfl, Em, by omega, by omega, rfl⟩
theorem Vb : ∀ d, d ≤ 4 → Ut d
 | 0, _ => Y4
 | d + 1, h => Y3 (Vb d (by omega)) (by omega) (by
   have : ∀ d, d ≤ 4 → eT d ≤ 1000000000 := by decide
   exact this _ h)
theorem Mg {d : Nat} (hd : d ≤ 4) {I : Heap} {oa : Option Addr} {l : List UInt8} {c : Nat} (h : Bytes I oa l c) (hl : l.length ≤ 2000) (b p : Nat) (hp : p + 3000 ≤ 1099511627776) {ns ts : List As} {o1 o2 : Option Addr} {c1 c2 : Nat} (hs : ScAt I ns ts o1 c1 o2 c2) (hn : ns.length ≤ 80) (want : As) (hw : want.length ≤ 900) (L : Bl) :
  Fun Tryz.prog 119 [.pointer (some ⟨b, 0, none⟩), .agg [.slice o1 ns.length c1, .slice o2 ts.length c2].toArray, .string (str want), .int .i64 (d : Nat)] I (rd b oa l c p :: L) (DT b oa l c p 3000 400000 L) := by
 have hk : ∀ d, d ≤ 4 → kE d ≤ 3000 ∧ eT d ≤ 400000 := by decide
 obtain ⟨h1, h2⟩ := hk d hd; refine (Vb d hd h hl b p Aa hs Aa want Aa L).mono ?_; rintro v I' L' _ ⟨s, p', rfl, h3, h4, h5, rfl⟩
 exact ⟨s, p', rfl, by omega, h4, by omega, rfl⟩
mutual
def Tree.atomL : Tree → List As
 | .node a [] => [a]
 | .node _ (p :: ps) => p.atomL ++ Ha ps
def Ha : List Tree → List As
 | [] => []
 | t :: ts => t.atomL ++ Ha ts
end
mutual
def Tree.repl : Tree → As → Tree → Tree
 | .node x [], a, b => if x = a then b else .node x []
 | .node x (p :: ps), a, b => .node x (p.repl a b :: Iw ps a b)
def Iw : List Tree → As → Tree → List Tree
 | [], _, _ => []
 | t :: ts, a, b => t.repl a b :: Iw ts a b
end
theorem Yu (t : Tree) (h : t.parts ≠ []) : t.atomL = Ha t.parts := by
 cases t with
 | node a ps => cases ps with
  | nil => exact absurd rfl h
  | cons p ps => rfl
theorem Wy (t : Tree) (h : t.parts = []) : t.atomL = [t.atom] := by
 cases t with
 | node a ps => simp [Tree.parts] at h; subst h; rfl
theorem Mq : ∀ (a b : List Tree), Ha (a ++ b) = Ha a ++ Ha b
 | [], b => rfl
 | t :: a, b => by simp only [List.cons_append, Ha, Mq a b, List.append_assoc]
theorem Ux (ps : List Tree) (i : Nat) (hi : i < ps.length) : Ha (ps.take (i + 1)) = Ha (ps.take i) ++ ps[i].atomL := by
 rw [List.take_succ_eq_append_getElem hi, Mq]; simp [Ha]
mutual
theorem Tree.atomL_len : ∀ t : Tree, t.atomL.length = t.size
 | .node a [] => rfl
 | .node a (p :: ps) => by
  have h1 := p.atomL_len; have h2 := M0 ps
  simp only [Tree.atomL, List.length_append, h1, h2, Tree.size, Ef, List.isEmpty_cons, cond_false]
theorem M0 : ∀ ts : List Tree, (Ha ts).length = Ef ts
 | [] => rfl
 | t :: ts => by have h1 := t.atomL_len; have h2 := M0 ts; simp only [Ha, List.length_append, h1, h2, Ef]
end
theorem Ab1 (t : Tree) (a : As) (b : Tree) (h : t.parts ≠ []) : t.repl a b = .node t.atom (Iw t.parts a b) := by
 cases t with
 | node x ps => cases ps with
  | nil => exact absurd rfl h
  | cons p ps => rfl
theorem Sw (t : Tree) (a : As) (b : Tree) (h : t.parts = []) : t.repl a b = if t.atom = a then b else t := by
 cases t with
 | node x ps => simp [Tree.parts] at h; subst h; rfl
theorem N4 : ∀ (p q : List Tree) (a : As) (b : Tree), Iw (p ++ q) a b = Iw p a b ++ Iw q a b
 | [], q, a, b => rfl
 | t :: p, q, a, b => by simp only [List.cons_append, Iw, N4 p q]
theorem Li : ∀ (ps : List Tree) (a : As) (b : Tree), (Iw ps a b).length = ps.length
 | [], _, _ => rfl
 | t :: ps, a, b => by simp only [Iw, List.length_cons, Li ps]
theorem Xw (ps : List Tree) (a : As) (b : Tree) (i : Nat) (hi : i < ps.length) : Iw (ps.take (i + 1)) a b = Iw (ps.take i) a b ++ [ps[i].repl a b] := by
 rw [List.take_succ_eq_append_getElem hi, N4]; rfl
mutual
theorem Tree.repl_good : ∀ {t : Tree} {a : As} {b : Tree}, t.good = true → b.good = true → (t.repl a b).good = true
 | .node x [], a, b, h, hb => by simp only [Tree.repl]; split; exact hb; exact h
 | .node x (p :: ps), a, b, h, hb => by
  obtain ⟨h1, h2, h3⟩ := Ig h; subst h1
  simp [Tree.repl, Tree.good, Fa, Tree.repl_good h2 hb, Rd h3 hb]
theorem Rd : ∀ {ps : List Tree} {a : As} {b : Tree}, Fa ps = true → b.good = true → Fa (Iw ps a b) = true
 | [], a, b, h, hb => rfl
 | t :: ps, a, b, h, hb => by
  simp [Fa] at h
  simp [Iw, Fa, Tree.repl_good h.1 hb, Rd h.2 hb]
end
mutual
theorem Tree.repl_len : ∀ (t : Tree) (a : As) (b : Tree), (t.repl a b).len ≤ t.len + t.size * b.len
 | .node x [], a, b => by simp only [Tree.repl, Tree.size, List.isEmpty_nil, cond_true, Nat.one_mul]; split <;> omega
 | .node x (p :: ps), a, b => by
  have h1 := p.repl_len a b; have h2 := Sv ps a b
  simp only [Tree.repl, Tree.len, Tree.size, Ga, Ef, List.isEmpty_cons, cond_false, Nat.add_mul]; omega
theorem Sv : ∀ (ps : List Tree) (a : As) (b : Tree), Ga (Iw ps a b) ≤ Ga ps + Ef ps * b.len
 | [], a, b => by simp [Iw, Ga, Ef]
 | t :: ps, a, b => by
  have h1 := t.repl_len a b; have h2 := Sv ps a b
  simp only [Iw, Ga, Ef, Nat.add_mul]; omega
end
theorem Yt {l : List As} (h : l ≠ []) : Dd [] l ≠ [] := fun e => h (P9.1 e)
theorem Tree.size_one : ∀ t : Tree, 1 ≤ t.size
 | .node a [] => Nat.le_refl _
 | .node a (p :: ps) => by
  have := Tree.size_one p
  simp only [Tree.size, Ef, List.isEmpty_cons, cond_false]; omega
theorem Aah (t : Tree) : t.atomL ≠ [] := by
 have h1 := t.atomL_len
 have h2 := t.size_one
 intro e; rw [e] at h1; simp at h1; omega
mutual
theorem Tree.atom_len : ∀ (t : Tree) (x : As), x ∈ t.atomL → x.length ≤ t.len
 | .node a [], x, h => by
  simp only [Tree.atomL, List.mem_singleton] at h
  subst h; simp [Tree.len]
 | .node a (p :: ps), x, h => by
  simp only [Tree.atomL, List.mem_append] at h
  simp only [Tree.len, Ga, List.isEmpty_cons, cond_false]
  rcases h with h | h
  ·have := p.atom_len x h; omega
  ·have := Ls ps x h; omega
theorem Ls : ∀ (ts : List Tree) (x : As), x ∈ Ha ts → x.length ≤ Ga ts
 | [], x, h => by cases h
 | t :: ts, x, h => by
  simp only [Ha, List.mem_append] at h
  simp only [Ga]
  rcases h with h | h
  ·have := t.atom_len x h; omega
  ·have := Ls ts x h; omega
end
theorem Yv {t : Tree} (h : t.len ≤ 12000000) : ∀ s ∈ Dd [] t.atomL, s.length ≤ Bd := by
 intro s hs
 rcases Jk.1 hs with h1 | h1
 ·cases h1
 ·have := t.atom_len s h1; unfold Bd; omega
def In (s : As) : Option (List As) := (Df s).map fun t => Dd [] t.atomL
def I4 (s a b : As) : Option As := match Df s, Df a, Df b with
 | some t, some x, some y => if x.atom ≠ [] ∧ (Df (t.repl a y).text).isSome = true then some (t.repl a y).text else none
 | _, _, _ => none
theorem Vq (s : As) (hs : s.length ≤ Kr) (I : Heap) (L : Bl) : Fun Tryz.prog 136 [.string (str s)] I L (fun v I' L' => v = .bool (Df s).isSome ∧ L = L') := by
 refine Ao Ad ?_; refine Se rfl (Oa rfl (Ab (Se rfl (Om rfl ?_)))); refine Ca rfl (Hl s hs _ _) ?_; rintro _ J _ e1 ⟨t, cs, ok, rfl, hrep, rfl, hpf⟩; obtain ⟨o1, k1, _, rfl, -⟩ := hrep.open; refine Om rfl (Oe rfl rfl (Oe rfl rfl ?_)); refine A5 .free rfl ?_; intro b3; refine By rfl rfl rfl rfl .free ?_; refine Oa rfl (Ab (Se rfl (Om rfl (Oa rfl (Ab (Al (.tmp rfl .nil) ?_)))))); refine ⟨J, L, e1, Cb, ?_, rfl⟩
 cases hp : Df s with
 | none => rw [hp] at hpf; rw [hpf]; rfl
 | some t0 => rw [hp] at hpf; rw [hpf.1]; rfl
structure GA where
 i : Nat
 l : List As
 B : K8
 c : Nat
theorem Zc : ∀ (n : Nat) {I : Heap} {t : Tree} {cs : List Value} (_ : SizeOf.sizeOf t < n) (_ : Rep I t cs) (_ : t.good = true) (l : List As) (B : K8) (c : Nat) (_ : l.length + t.size ≤ 4294967295) (_ : E0 1 l.length c (l.map sv) B) (L : Bl),
  Fun Tryz.prog 124 [.agg cs.toArray, B6 l.length c B] I (Ch 9 (l.map sv) B ++ L) (fun v I' L' => I = I' ∧ LP (Dd l t.atomL) L v I' L') := by
 intro n
 induction n with
 | zero => intro I t cs h; omega
 | succ n ihn =>
  intro I t cs hlt h hg l B c hl hB L; obtain ⟨oa, cc, oaf, cf, rfl, hf⟩ := h.at'
  have ha := hf.alen
  have hnil := hf.nil
  have hp := hf.len
  unfold Bd at hp
  have hs1 := t.size_one
  have hlN : l.length ≤ Bd := by unfold Bd; omega
  refine Ao Ad ?_; refine Se rfl ?_; refine Cg rfl rfl .free rfl ?_; intro b2; refine Oa rfl (Ab (Ah (Se rfl (Oh rfl ?_)))); refine A9 rfl .free rfl ?_; refine Od rfl rfl rfl (Ab ?_); refine Az rfl ?_ ?_
  ·intro c0
   try simp only [nb] at c0
   have hat := Wy t (K2 hg c0)
   refine Ah (Se rfl (Om rfl (Oh rfl ?_))); refine A9 rfl .free rfl ?_; refine Ca rfl (Ye hB hlN _ _ _ _) ?_; rintro _ _ _ _ ⟨rfl, rfl, rfl⟩; refine Ab ?_; refine Az rfl ?_ ?_
   ·intro c1
    try simp only [nb] at c1
    refine Se rfl (Om rfl (Oa rfl (Ab (Al (.tmp rfl .nil) ?_))))
    have hoc : Dd l t.atomL = l := by rw [hat]; exact R0 c1
    exact ⟨I, _, .refl _, fun w h => h.drop, rfl, B, c, by rw [hoc]; rfl, by rw [hoc]; exact hB, by rw [hoc]⟩
   intro c1
   try simp only [nb] at c1
   refine Aj (Se rfl (Om rfl (Oh rfl ?_))); refine A9 rfl .free rfl ?_; refine Ol rfl rfl ?_; intro b17; refine D7 (B := B) (xs := l.map sv) (ys := [sv t.atom]) (m := l.length) (c := c) Bk Ae rfl rfl hB (fun _ h => h.u2) Ae (fun a ha => by cases ha; exact Cc (.head _) Ae) Ad Ae Ac Ac Aa Ac .free rfl ?_; intro bb sp c2 hB'; refine Oa rfl (Ab (Al (.tmp rfl .nil) ?_))
   have hoc : Dd l t.atomL = l ++ [t.atom] := by rw [hat]; exact Qa c1
   exact ⟨I, _, .refl _, Ms (L' := (bb, _) :: L), rfl, some (bb, sp), c2, by rw [hoc]; simp [C6, B6], by rw [hoc]; simpa using hB', by rw [hoc]; simp [Ch]⟩
  intro c0
  try simp only [nb] at c0
  have hne := Lc hg Ev
  have hat := Yu t hne.1
  have hsz : t.size = Ef t.parts := by
   cases t with
   | node a ps => cases ps with
    | nil => exact absurd rfl hne.1
    | cons p ps => rfl
  refine Aj (Ah (Se rfl (Oa rfl (Ab (Ar ?_))))); refine Dy (X := GA) (fun x => t.parts.length - x.i) (fun x => [(1, B6 x.l.length x.c x.B), (2, .pointer (some ⟨b2, 0, none⟩)), (4, .slice none 0 0), (5, .int .i64 (x.i : Nat))]) (fun _ => I) (fun x => (b2, .cells [.string (str t.atom), .slice oa t.parts.length cc].toArray 68 (0, 0)) :: (Ch 9 (x.l.map sv) x.B ++ L)) (fun x => x.i ≤ t.parts.length ∧ x.l = Dd l (Ha (t.parts.take x.i)) ∧ E0 1 x.l.length x.c (x.l.map sv) x.B) ⟨0, l, B, c⟩ ⟨Nat.zero_le _, rfl, hB⟩ ⟨rfl, rfl, rfl, rfl, trivial⟩ (by intro _ h; exact h) ?_
  rintro ⟨i, l1, B1, c1⟩ ⟨hi, hl1, hB1⟩ ih
  simp only at hi hl1 hB1 ih ⊢
  have hll := Hk l (Ha (t.parts.take i))
  rw [← hl1, M0] at hll; refine Ah (Se rfl (Om rfl (Oh rfl ?_))); refine A9 rfl .free rfl ?_; refine On rfl (Oc rfl rfl rfl (Ab ?_)); refine Az rfl ?_ ?_
  ·intro c2
   try simp only [nb] at c2
   have hi1 : i < t.parts.length := by omega
   have hsl : Ef (t.parts.take i) + (t.pt i).size ≤ Ef t.parts := by
    rw [Tree.pt_at hi1]
    have h1 := Je (t.parts.take i) (t.parts.drop i)
    rw [List.take_append_drop, List.drop_eq_getElem_cons hi1] at h1
    simp only [Ef] at h1; omega
   have hpg := Tree.pt_good hg i hi1
   refine Aj (Ah (Ar (Am rfl (Oh rfl ?_)))); refine A9 rfl .free rfl ?_; refine Om rfl ?_
   first | refine Bh rfl rfl _ rfl .free rfl ?_ | refine Bi rfl rfl _ rfl .free rfl ?_
   refine Ia rfl .free rfl ?_; refine Om rfl ?_; refine Fc (fun w h => h.u1) ?_; refine Ca rfl (ihn (t := t.pt i) (by have := t.pt_lt i hi1; omega) (hf.rp i hi1) hpg l1 B1 c1 Aa hB1 _) ?_; rintro _ _ _ _ ⟨rfl, B2, c2, rfl, hB2, rfl⟩; refine Fc (fun w h => h.w1) ?_; refine Oa rfl (Ab (Aq (Am rfl (Om rfl ?_)))); refine Or rfl rfl rfl ?_; refine Oa rfl (Ab ?_)
   exact Dl (E' := [(1, B6 (Dd l1 (t.pt i).atomL).length c2 B2), (2, .pointer (some ⟨b2, 0, none⟩)), (4, .slice none 0 0), (5, .int .i64 ((i + 1 : Nat)))]) ⟨rfl, rfl, rfl, rfl, trivial⟩ (ih ⟨i + 1, Dd l1 (t.pt i).atomL, B2, c2⟩ ⟨by simp only; omega, by simp only; rw [hl1, ← Cr, Ux _ _ hi1, Tree.pt_at hi1], hB2⟩ D1)
  intro c2
  try simp only [nb] at c2
  refine Cd rfl ?_; refine Se rfl (Om rfl (Oa rfl (Ab (Al (.tmp rfl .nil) ?_))))
  have hl2 : l1 = Dd l t.atomL := by
   rw [hl1, hat, show i = t.parts.length by omega, List.take_length]
  subst hl2
  exact ⟨I, _, .refl _, fun w h => h.drop, rfl, B1, c1, rfl, hB1, rfl⟩
theorem Vp (s : As) (hs : s.length ≤ Kr) (I : Heap) (L : Bl) : Fun Tryz.prog 78 [.string (str s)] I L (EF (In s) L) := by
 refine Ao Ad ?_; refine Se rfl (Oa rfl (Oa rfl (Ab (Se rfl (Om rfl ?_))))); refine Ca rfl (Hl s hs _ _) ?_; rintro _ J _ e1 ⟨t, cs, ok, rfl, hrep, rfl, hpf⟩; obtain ⟨o1, k1, _, rfl, -⟩ := hrep.open; refine Om rfl (Oe rfl rfl (Oe rfl rfl ?_)); refine A5 .free rfl ?_; intro b4; refine By rfl rfl rfl rfl .free ?_; refine Oa rfl (Ab (Ah (Se rfl (Om rfl ?_)))); refine Dv rfl .free rfl ?_; refine Ab ?_; refine Az rfl ?_ ?_
 ·intro c0
  try simp only [nb] at c0
  refine Se rfl ?_; refine Eh .free rfl ?_; intro b13; refine Oa rfl (Oa rfl (Ab ?_)); refine Al (.tmp rfl (.tmp rfl .nil)) ?_; refine ⟨J, L, e1, Cb, some ⟨b13, 0, none⟩, 0, ?_, ?_, rfl⟩
  ·have : In s = none := by
    unfold In
    cases hp : Df s with
    | none => rfl
    | some t0 => rw [hp] at hpf; rw [hpf.1] at c0; cases c0
   rw [this]; rfl
  ·have : In s = none := by
    unfold In
    cases hp : Df s with
    | none => rfl
    | some t0 => rw [hp] at hpf; rw [hpf.1] at c0; cases c0
   rw [this]; exact Hp _ _
 intro c0
 try simp only [nb] at c0
 have hps := H0 hpf c0
 have hpg := Fl hps
 have hpz := M5 hps
 have hat : In s = some (Dd [] t.atomL) := by unfold In; rw [hps]; rfl
 refine Aj (Se rfl ?_); refine Bj rfl .free rfl ?_; refine Eh .free rfl ?_; intro b15; refine Fc (L' := Ch 9 (([] : List As).map sv) (some (b15, [])) ++ _) (fun w h => h) ?_; refine Ca rfl (Zc _ (Nat.lt_succ_self _) hrep hpg.1 [] (some (b15, [])) 0 Dq ⟨rfl, Nat.le_refl _, rfl⟩ _) ?_; rintro _ _ _ _ ⟨rfl, B2, c2, rfl, hB2, rfl⟩; refine Oa rfl (Oa rfl (Ab ?_))
 have hll := Hk [] t.atomL
 rw [Tree.atomL_len] at hll
 simp only [List.length_nil, Nat.zero_add] at hll
 refine G6 hB2 rfl Cv (Yv hpg.2.1) ?_; intro J2 oz cz ez hbv hst; refine K6 (t := 2) rfl hbv ?_; refine Al (.tmp rfl (.tmp rfl .nil)) ?_
 exact ⟨J2, L, e1.trans ez, Cb, oz, cz, by rw [hat]; rfl, by rw [hat]; exact hst, rfl⟩
structure GP where
 J : Heap
 i : Nat
 xs : List Value
 B : K8
 c : Nat
theorem Vr : ∀ (n : Nat) {I : Heap} {t : Tree} {cs : List Value} (_ : SizeOf.sizeOf t < n) (_ : Rep I t cs) (_ : t.good = true) (a : As) (_ : a ≠ []) {y : Tree} {ds : List Value} (_ : Rep I y ds) (L : Bl),
  Fun Tryz.prog 135 [.agg cs.toArray, .string (str a), .agg ds.toArray] I L (RP (t.repl a y) L) := by
 intro n
 induction n with
 | zero => intro I t cs h; omega
 | succ n ihn =>
  intro I t cs hlt h hg a ha0 y ds hy L; obtain ⟨oa, cc, oaf, cf, rfl, hf⟩ := h.at'; obtain ⟨oy, ky, _, rfl, -⟩ := hy.open
  have hp := hf.len
  unfold Bd at hp
  have hnil := hf.nil
  refine Ao Ad ?_; refine Se rfl ?_; refine Cg rfl rfl .free rfl ?_; intro b3; refine Cg rfl rfl .free rfl ?_; intro b5; refine A5 .free rfl ?_; intro b6; refine Ab (Ah (Se rfl (Oh rfl ?_))); refine A9 rfl .free rfl ?_; refine Om rfl (Od rfl rfl rfl (Om rfl ?_))
  apply C0 13 16 rfl
  ·intro g1_5 hk
   try simp only [nb] at g1_5
   refine Ow rfl ?_; refine Ci rfl rfl rfl (.met rfl rfl) rfl ?_; refine Ot rfl rfl ?_
   exact Aw 2 rfl rfl hk
  ·intro _ hk; refine A0 2 rfl ?_; refine Of rfl rfl ?_
   exact Aw 2 rfl rfl hk
  refine Ab ?_; refine Az rfl ?_ ?_
  ·intro c0
   try simp only [nb] at c0
   refine Se rfl ?_; refine Bj rfl .free rfl ?_; refine By rfl rfl rfl rfl .free ?_; refine Ab ?_; refine Al (.c rfl .nil) ?_
   have e : t.repl a y = y := by rw [Sw t a y (K2 hg (by rw [c0.1]; exact ha0)), if_pos c0.1]
   exact ⟨I, L, .refl _, Cb, _, rfl, by rw [e]; exact hy, rfl⟩
  intro c0
  try simp only [nb] at c0
  refine Aj (Ah (Se rfl (Oh rfl ?_))); refine A9 rfl .free rfl ?_; refine Od rfl rfl rfl (Ab ?_); refine Az rfl ?_ ?_
  ·intro c1
   try simp only [nb] at c1
   refine Se rfl ?_; refine Bj rfl .free rfl ?_; refine By rfl rfl rfl rfl .free ?_; refine Ab ?_; refine Al (.c rfl .nil) ?_
   have e : t.repl a y = t := by rw [Sw t a y (K2 hg c1), if_neg (fun e => by rcases c0 with h | h; exact h e; exact ha0 h)]
   exact ⟨I, L, .refl _, Cb, _, rfl, by rw [e]; exact hf.rep, rfl⟩
  intro c1
  try simp only [nb] at c1
  have hat : t.atom = [] := by simpa using c1
  have hne := Lc hg hat
  have hre := Ab1 t a y hne.1
  refine Aj (Se rfl ?_); refine Cp rfl rfl rfl .free rfl ?_; refine A5 .free rfl ?_; intro b7; refine By rfl rfl rfl rfl .free ?_; refine Ab (Ah (Se rfl (Oa rfl (Ab (Ar ?_)))))
  refine Dy (X := GP) (fun x => t.parts.length - x.i) (fun x => [(1, .string (str a)), (3, .pointer (some ⟨b3, 0, none⟩)), (5, .pointer (some ⟨b5, 0, none⟩)), (6, .pointer (some ⟨b6, 0, none⟩)), (7, .pointer (some ⟨b7, 0, none⟩)), (8, .int .i64 (x.i : Nat))]) (fun x => x.J) (fun x => (b7, .cells [.string (str []), B6 x.i x.c x.B].toArray 68 (0, 0)) :: (Ch 68 x.xs x.B ++ ((b6, .cells [.string (str []), .slice none 0 0].toArray 68 (0, 0)) :: (b5, .cells [.string (str y.atom), .slice oy y.parts.length ky].toArray 68 (0, 0)) :: (b3, .cells [.string (str t.atom), .slice oa t.parts.length cc].toArray 68 (0, 0)) :: L))) (fun x => HLe I x.J ∧ x.i ≤ t.parts.length ∧ RepL x.J (Iw (t.parts.take x.i) a y) x.xs ∧ E0 2 x.i x.c x.xs x.B) ⟨I, 0, [], none, 0⟩ ⟨.refl _, Nat.zero_le _, .nil, ⟨rfl, rfl, rfl⟩⟩ ⟨rfl, rfl, rfl, rfl, rfl, rfl, trivial⟩ (by intro _ h; exact h) ?_
  rintro ⟨J, i, xs, B, cb⟩ ⟨ez, hi, hl, hB⟩ ih
  simp only at ez hi hl hB ih ⊢
  have hf := hf.mono ez
  have hy := hy.mono ez
  refine Ah (Se rfl (Om rfl (Oh rfl ?_))); refine A9 rfl .free rfl ?_; refine On rfl (Oc rfl rfl rfl (Ab ?_)); refine Az rfl ?_ ?_
  ·intro c2
   try simp only [nb] at c2
   have hi1 : i < t.parts.length := by omega
   have hpg := Tree.pt_good hg i hi1
   have hlt1 := t.pt_lt i hi1
   refine Aj (Ah (Ar ?_)); refine Th 14 rfl rfl ?_; refine Da 0 rfl (Ap rfl) ?_; refine Dt 1 [13] rfl (Bx rfl) ?_; refine Da 2 rfl (Ap rfl) ?_; refine Dt 3 [13] rfl (Bx rfl) ?_; refine Da 4 rfl (Ai rfl) ?_
   first | refine Da 5 rfl (Bp rfl rfl _ rfl) ?_ | refine Da 5 rfl (Bq rfl rfl _ rfl) ?_
   refine Dt 6 [13] rfl (Dz rfl) ?_; refine Da 7 rfl (Ai rfl) ?_; refine Dt 8 [13] rfl (D2 rfl) ?_; refine Dc 9 rfl rfl (ihn (t := t.pt i) Aa (hf.rp i hi1) hpg a ha0 hy _) ?_; rintro _ J1 _ e1 ⟨cs1, rfl, h1, rfl⟩; obtain ⟨o1, k1, _, rfl, -⟩ := h1.open; refine Hx ?_; refine Fz 10 rfl Af rfl rfl rfl Ae Ae Ae Ac Ac Ae .free rfl (.inr Bb) ?_; intro b40
   refine C9 11 (B := B) (xs := xs) (ys := [.string (str ((t.pt i).repl a y).atom), .slice o1 ((t.pt i).repl a y).parts.length k1]) (m := i) (c := cb) rfl Af rfl Bk Ae rfl rfl hB (fun _ h => h.u2) Ae (fun a ha => by cases ha; exact Cc Hz Ae) Ad Ae Ac Aa Ac .free rfl (fun _ => .inr Bb) ?_; intro B2 c2 hB2; refine C4 (fun w h => Mem.w1 (Mem.sub (List.Sublist.append_left (.cons _ (.refl _)) _) h)) ?_; refine Da 12 rfl (Ap rfl) ?_; refine Ae8 13 rfl Af rfl rfl rfl Og rfl .free (.inl Af) ?_; refine Bg Af ?_; refine Aq (Am rfl (Om rfl ?_)); refine Or rfl rfl rfl ?_; refine Oa rfl (Ab ?_)
   refine Dl (E' := [(1, .string (str a)), (3, .pointer (some ⟨b3, 0, none⟩)), (5, .pointer (some ⟨b5, 0, none⟩)), (6, .pointer (some ⟨b6, 0, none⟩)), (7, .pointer (some ⟨b7, 0, none⟩)), (8, .int .i64 ((i + 1 : Nat)))]) ⟨rfl, rfl, rfl, rfl, rfl, rfl, trivial⟩ (ih ⟨J1, i + 1, xs ++ [.string (str ((t.pt i).repl a y).atom), .slice o1 ((t.pt i).repl a y).parts.length k1], B2, c2⟩ ⟨ez.trans e1, by simp only; omega, ?_, hB2⟩ D1); rw [Xw _ _ _ _ hi1, ← Tree.pt_at hi1]
   exact (hl.mono e1).append (.one h1)
  intro c2
  try simp only [nb] at c2
  refine Cd rfl ?_; refine Ah ?_
  have hie : i = t.parts.length := by omega
  rw [hie, List.take_length] at hl; refine Cq (fun w h => h.u1) (Rx hl hB (by rw [Li, hie]) (by rw [Li]; unfold Bd; omega) ?_); intro J2 oz cz ez2 hbv hst; rw [hbv]; refine Am rfl ?_; refine Bj rfl .free rfl ?_; refine By rfl rfl rfl rfl .free ?_; refine Ab ?_; refine Al (.c rfl .nil) ?_
  exact ⟨J2, L, ez.trans ez2, Cb, _, rfl, by rw [hre, hat]; exact hst.form [] Ac, rfl⟩
theorem Pt {s a b : As} {t x y : Tree} (h1 : Df s = some t) (h2 : Df a = some x) (h3 : Df b = some y) : I4 s a b = if x.atom ≠ [] ∧ (Df (t.repl a y).text).isSome = true then some (t.repl a y).text else none := by
 unfold I4; rw [h1, h2, h3]
theorem Hw {s a b : As} (h : Df s = none ∨ Df a = none ∨ Df b = none) : I4 s a b = none := by
 unfold I4
 rcases h with h | h | h
 ·rw [h]
 ·rw [h]; cases Df s <;> rfl
 ·rw [h]; cases Df s <;> cases Df a <;> rfl
theorem Wx {p : Option Tree} {t : Tree} {ok : Bool} (hpf : match p with | some t0 => ok = true ∧ t = t0 | none => ok = false) : (ok = false → p = none) ∧ (ok = true → p = some t) := by
 cases p with
 | none => exact ⟨fun _ => rfl, fun h => (by rw [hpf] at h; cases h)⟩
 | some t0 => exact ⟨fun h => (by rw [hpf.1] at h; cases h), fun _ => (by rw [hpf.2])⟩
theorem O9 {s : As} {t : Tree} (h : Df s = some t) : s.length ≤ 12000 ∧ t.len ≤ 12000 := by
 have h1 := (Hn h).1
 simp only [Tree.fits, Bool.and_eq_true, decide_eq_true_eq] at h1
 exact ⟨by rw [← Jx h, Tree.text_len]; exact h1.2, h1.2⟩
theorem Wf {s a b o : As} (h : I4 s a b = some o) : o.length ≤ 12000 := by
 unfold I4 at h
 cases h1 : Df s with
 | none => rw [h1] at h; cases h
 | some t =>
  cases h2 : Df a with
  | none => rw [h1, h2] at h; cases h
  | some x =>
   cases h3 : Df b with
   | none => rw [h1, h2, h3] at h; cases h
   | some y =>
    rw [h1, h2, h3] at h
    simp only at h
    split at h
    ·rename_i hh
     cases h
     obtain ⟨z, hz⟩ := Option.isSome_iff_exists.1 hh.2
     exact (O9 hz).1
    ·cases h
theorem Mx (s a b : As) (hs : s.length ≤ Kr) (ha : a.length ≤ Kr) (hb : b.length ≤ 900) (I : Heap) (L : Bl) : Fun Tryz.prog 79 [.string (str s), .string (str a), .string (str b)] I L (EL (I4 s a b) L) := by
 refine Ao Ad ?_; refine Se rfl (Oa rfl (Oa rfl (Ab (Se rfl (Om rfl ?_))))); refine Ca rfl (Hl s hs _ _) ?_; rintro _ J1 _ e1 ⟨t, cs1, ok1, rfl, hr1, rfl, hp1⟩; obtain ⟨o1, k1, _, rfl, -⟩ := hr1.open; refine Om rfl (Oe rfl rfl (Oe rfl rfl ?_)); refine A5 .free rfl ?_; intro b8; refine By rfl rfl rfl rfl .free ?_; refine Oa rfl (Ab (Se rfl (Om rfl ?_))); refine Ca rfl (Hl a ha _ _) ?_; rintro _ J2 _ e2 ⟨x, cs2, ok2, rfl, hr2, rfl, hp2⟩; obtain ⟨o2, k2, _, rfl, -⟩ := hr2.open; refine Om rfl (Oe rfl rfl (Oe rfl rfl ?_)); refine A5 .free rfl ?_; intro b10; refine By rfl rfl rfl rfl .free ?_
 refine Oa rfl (Ab (Se rfl (Om rfl ?_))); refine Ca rfl (Hl b (by unfold Kr; omega) _ _) ?_; rintro _ J3 _ e3 ⟨y, cs3, ok3, rfl, hr3, rfl, hp3⟩; obtain ⟨o3, k3, _, rfl, -⟩ := hr3.open
 have q1 := Wx hp1
 have q2 := Wx hp2
 have q3 := Wx hp3
 have hle := (e1.trans e2).trans e3
 refine Om rfl (Oe rfl rfl (Oe rfl rfl ?_)); refine A5 .free rfl ?_; intro b12; refine By rfl rfl rfl rfl .free ?_; refine Oa rfl (Ab (Ah (Se rfl (Om rfl ?_)))); refine Dv rfl .free rfl ?_; refine Om rfl ?_
 apply Gk 32 35 rfl
 ·intro g4_3 hk
  try simp only [nb] at g4_3
  refine Ow rfl ?_; refine Dv rfl (.met rfl rfl) rfl ?_; refine Of rfl rfl ?_
  exact Aw 2 rfl rfl hk
 ·intro _ hk; refine A0 2 rfl ?_; refine Ot rfl rfl ?_
  exact Aw 2 rfl rfl hk
 refine Om rfl ?_
 apply Gk 36 39 rfl
 ·intro g4_7 hk
  try simp only [nb] at g4_7
  refine Ow rfl ?_; refine Dv rfl (.met rfl rfl) rfl ?_; refine Of rfl rfl ?_
  exact Aw 2 rfl rfl hk
 ·intro _ hk; refine A0 2 rfl ?_; refine Ot rfl rfl ?_
  exact Aw 2 rfl rfl hk
 refine Om rfl ?_
 apply Gk 40 44 rfl
 ·intro g4_11 hk
  try simp only [nb] at g4_11
  refine Ay rfl (.met rfl rfl) rfl ?_; refine A9 rfl (.met rfl rfl) rfl ?_; refine Ci rfl rfl rfl (.met rfl rfl) rfl ?_; refine Of rfl rfl ?_
  exact Aw 3 rfl rfl hk
 ·intro _ hk; refine A0 3 rfl ?_; refine Ot rfl rfl ?_
  exact Aw 3 rfl rfl hk
 refine Ab ?_; refine Az rfl ?_ ?_
 ·intro c0
  try simp only [nb] at c0
  refine Se rfl (Oa rfl (Oa rfl (Ab ?_))); refine Al (.tmp rfl (.tmp rfl .nil)) ?_; refine ⟨J3, L, hle, Cb, ?_, rfl⟩
  have hz : I4 s a b = none := by
   rcases c0 with ((h | h) | h) | h
   ·exact Hw (.inl (q1.1 h))
   ·exact Hw (.inr (.inl (q2.1 h)))
   ·exact Hw (.inr (.inr (q3.1 h)))
   ·cases hh1 : Df s with
    | none => exact Hw (.inl hh1)
    | some t1 =>
     cases hh2 : Df a with
     | none => exact Hw (.inr (.inl hh2))
     | some x1 =>
      cases hh3 : Df b with
      | none => exact Hw (.inr (.inr hh3))
      | some y1 =>
       rw [hh2] at hp2; rw [Pt hh1 hh2 hh3, if_neg (by rw [← hp2.2]; exact fun e => e.1 h)]
  rw [hz]; rfl
 intro c0
 try simp only [nb] at c0
 obtain ⟨⟨⟨h1, h2⟩, h3⟩, h4⟩ := c0
 have p1 := q1.2 h1
 have p2 := q2.2 h2
 have p3 := q3.2 h3
 have f1 := Hn p1
 have f2 := Hn p2
 have f3 := Hn p3
 have l1 := (O9 p1).2
 have l3 : y.len ≤ 900 := by rw [← Tree.text_len, Jx p3]; exact hb
 have z1 := M5 p1
 have hrl := t.repl_len a y
 have hmul : t.size * y.len ≤ 12000 * 900 := Nat.mul_le_mul z1 l3
 have hrg := Tree.repl_good (a := a) f1.2.1 f3.2.1
 have ha0 : a ≠ [] := by
  intro e
  have h5 := Jx p2
  have h6 := K2 f2.2.1 h4
  cases x with
  | node n ps =>
   simp only [Tree.parts] at h6
   subst h6
   simp only [Tree.text, List.isEmpty_nil, cond_true] at h5
   exact h4 (h5.trans e)
 have hro := Pt p1 p2 p3
 refine Aj (Se rfl ?_); refine Bj rfl .free rfl ?_; refine Om rfl ?_; refine Bj rfl .free rfl ?_; refine Ca rfl (Vr _ (Nat.lt_succ_self _) ((hr1.mono e2).mono e3) f1.2.1 a ha0 hr3 _) ?_; rintro _ J4 _ e4 ⟨cs4, rfl, hr4, rfl⟩; refine Ca rfl (Ly _ (Nat.lt_succ_self _) hr4 hrg Aa _) ?_; rintro _ _ _ _ ⟨rfl, rfl, rfl⟩; refine Oa rfl (Ab (Ah (Se rfl (Om rfl ?_)))); refine Ca rfl (Vq _ (by rw [Tree.text_len]; unfold Kr; omega) _ _) ?_; rintro _ J5 _ e5 ⟨rfl, rfl⟩
 have hle := (hle.trans e4).trans e5
 refine Dv rfl .free rfl ?_; refine Ab ?_; refine Az rfl ?_ ?_
 ·intro c1
  try simp only [nb] at c1
  refine Se rfl (Oa rfl (Oa rfl (Ab ?_))); refine Al (.tmp rfl (.tmp rfl .nil)) ?_; refine ⟨J5, L, hle, Cb, ?_, rfl⟩; rw [hro, if_neg (by rintro ⟨-, h⟩; rw [c1] at h; cases h)]; rfl
 intro c1
 try simp only [nb] at c1
 refine Aj (Se rfl (Om rfl (Oa rfl (Oa rfl (Ab ?_))))); refine Al (.tmp rfl (.tmp rfl .nil)) ?_; refine ⟨J5, L, hle, Cb, ?_, rfl⟩; rw [hro, if_pos ⟨h4, c1⟩]; rfl
theorem Uh (I : Heap) (oa ob : Option Addr) : ScAt I [] [] oa 0 ob 0 := ⟨Hp _ _, Hp _ _, rfl, (fun _ h => by cases h), (fun _ h => by cases h)⟩
theorem Zf {I : Heap} {oa : Option Addr} {l : List UInt8} {c : Nat} (h : Bytes I oa l c) (hl : l.length ≤ 2000) (b p : Nat) (hp : p + 7000 ≤ 1099511627776) (L : Bl) :
  Fun Tryz.prog 77 [.pointer (some ⟨b, 0, none⟩)] I (rd b oa l c p :: L) (DT b oa l c p 7000 400000 L) := by
 have hle : HLe I I := .refl _
 have hk2 : kT 2 = 6 := rfl
 have hb2 : bT 2 = 19 := rfl
 refine Ao Ad ?_; refine Se rfl (Oa rfl (Ab (Se rfl (Oa rfl (Ab (Ah (Se rfl (Om rfl ?_)))))))); refine Ca rfl (Du h hl b _ 3 Aa Ac _) ?_; rintro _ _ _ _ ⟨r, rfl, rfl, rfl, hr⟩; refine Oc rfl rfl rfl (Ab ?_); refine Az rfl ?_ ?_
 ·intro c0
  try simp only [nb] at c0
  refine Am rfl (Om rfl ?_); refine Ca rfl (K1 2 h hl b _ Aa Ac Ac _) ?_; rintro _ J _ e ⟨w, pw, rfl, hw, hp1, hp2, rfl⟩
  have h := h.mono e
  have hle := hle.trans e
  refine Oa rfl (Ab (Ah ?_))
  try have hw := hw
  refine Am rfl (Om rfl ?_); refine Eh .free rfl ?_; intro b11; refine Eh .free rfl ?_; intro b12; refine Cp rfl rfl rfl .free rfl ?_; refine Om rfl (Om rfl ?_); refine Fc (fun w h => Mem.sub (L' := rd b oa l c _ :: L) Bf h) ?_; refine Ca rfl (Du h hl b _ 3 Aa Ac _) ?_; rintro _ _ _ _ ⟨r2, rfl, rfl, rfl, hr2⟩
  have hr3 : r2 < 3 := by omega
  have hdd : ∃ d : Nat, (2 : Int) + (r2 : Nat) = (d : Nat) ∧ d ≤ 4 := ⟨2 + r2, by omega, by omega⟩
  obtain ⟨d, hd1, hd2⟩ := hdd; refine Or rfl rfl rfl ?_; refine C5 (t := 17) (v' := .int .i64 (d : Nat)) rfl (by rw [← hd1]) ?_; refine Ca rfl (Mg hd2 h hl b _ Aa (Uh _ _ _) Ad _ (by first | omega | (simp; done) | decide) _) ?_; rintro _ J1 _ e1 ⟨s1, p1, rfl, hs1, hp3, hp4, rfl⟩
  have h := h.mono e1
  have hle := hle.trans e1
  refine Oa rfl (Ab (Ah (Se rfl (Om rfl ?_)))); refine Ca rfl (Lv s1 Cv _ _) ?_; rintro _ _ _ _ ⟨rfl, rfl, rfl⟩; refine Ab ?_; refine Az rfl ?_ ?_
  ·intro c1
   try simp only [nb] at c1
   refine Se rfl (Om rfl (Oa rfl (Ab (Al (.tmp rfl .nil) ?_))))
   exact ⟨_, _, hle, fun w h => Mem.sub (L' := rd b oa l c _ :: L) Bf h, _, _, rfl, by omega, by omega, by omega, rfl⟩
  intro c1
  try simp only [nb] at c1
  refine Aj (Se rfl (Om rfl ?_)); refine Eh .free rfl ?_; intro b23; refine Eh .free rfl ?_; intro b24; refine Cp rfl rfl rfl .free rfl ?_; refine Om rfl ?_; refine Fc (fun w h => Mem.sub (L' := rd b oa l c _ :: L) Bf h) ?_; refine Ca rfl (Mg (d := 2) Ac h hl b _ Aa (Uh _ _ _) Ad _ (by first | omega | (simp; done) | decide) _) ?_; rintro _ J2 _ e2 ⟨s2, p2, rfl, hs2, hp5, hp6, rfl⟩
  have hle := hle.trans e2
  refine Oa rfl (Ab (Al (.tmp rfl .nil) ?_))
  exact ⟨_, _, hle, fun w h => Mem.sub (L' := rd b oa l c _ :: L) Bf h, _, _, rfl, by omega, by omega, by omega, rfl⟩
 intro c0
 try simp only [nb] at c0
 refine Aj (Ah ?_)
 try have hw := hw
 refine Am rfl (Om rfl ?_); refine Eh .free rfl ?_; intro b11; refine Eh .free rfl ?_; intro b12; refine Cp rfl rfl rfl .free rfl ?_; refine Om rfl (Om rfl ?_); refine Fc (fun w h => Mem.sub (L' := rd b oa l c _ :: L) Bf h) ?_; refine Ca rfl (Du h hl b _ 3 Aa Ac _) ?_; rintro _ _ _ _ ⟨r2, rfl, rfl, rfl, hr2⟩
 have hr3 : r2 < 3 := by omega
 have hdd : ∃ d : Nat, (2 : Int) + (r2 : Nat) = (d : Nat) ∧ d ≤ 4 := ⟨2 + r2, by omega, by omega⟩
 obtain ⟨d, hd1, hd2⟩ := hdd; refine Or rfl rfl rfl ?_; refine C5 (t := 17) (v' := .int .i64 (d : Nat)) rfl (by rw [← hd1]) ?_; refine Ca rfl (Mg hd2 h hl b _ Aa (Uh _ _ _) Ad _ (by first | omega | (simp; done) | decide) _) ?_; rintro _ J1 _ e1 ⟨s1, p1, rfl, hs1, hp3, hp4, rfl⟩
 have h := h.mono e1
 have hle := hle.trans e1
 refine Oa rfl (Ab (Ah (Se rfl (Om rfl ?_)))); refine Ca rfl (Lv s1 Cv _ _) ?_; rintro _ _ _ _ ⟨rfl, rfl, rfl⟩; refine Ab ?_; refine Az rfl ?_ ?_
 ·intro c1
  try simp only [nb] at c1
  refine Se rfl (Om rfl (Oa rfl (Ab (Al (.tmp rfl .nil) ?_))))
  exact ⟨_, _, hle, fun w h => Mem.sub (L' := rd b oa l c _ :: L) Bf h, _, _, rfl, by omega, by omega, by omega, rfl⟩
 intro c1
 try simp only [nb] at c1
 refine Aj (Se rfl (Om rfl ?_)); refine Eh .free rfl ?_; intro b23; refine Eh .free rfl ?_; intro b24; refine Cp rfl rfl rfl .free rfl ?_; refine Om rfl ?_; refine Fc (fun w h => Mem.sub (L' := rd b oa l c _ :: L) Bf h) ?_; refine Ca rfl (Mg (d := 2) Ac h hl b _ Aa (Uh _ _ _) Ad _ (by first | omega | (simp; done) | decide) _) ?_; rintro _ J2 _ e2 ⟨s2, p2, rfl, hs2, hp5, hp6, rfl⟩
 have hle := hle.trans e2
 refine Oa rfl (Ab (Al (.tmp rfl .nil) ?_))
 exact ⟨_, _, hle, fun w h => Mem.sub (L' := rd b oa l c _ :: L) Bf h, _, _, rfl, by omega, by omega, by omega, rfl⟩
theorem Wz {s : As} {l : List As} (h : In s = some l) : l ≠ [] ∧ (∀ x ∈ l, x.length ≤ 12000) ∧ l.length ≤ 12000 := by
 unfold In at h
 cases hp : Df s with
 | none => rw [hp] at h; cases h
 | some t =>
  rw [hp] at h
  simp only [Option.map_some, Option.some.injEq] at h
  subst h
  have h1 := (O9 hp).2
  have h2 := M5 hp
  refine ⟨Yt (Aah t), fun x hx => ?_, ?_⟩
  ·rcases Jk.1 hx with h3 | h3
   ·cases h3
   ·have := t.atom_len x h3; omega
  ·have := Hk [] t.atomL
   rw [t.atomL_len] at this
   simp only [List.length_nil, Nat.zero_add] at this
   exact Nat.le_trans this h2
theorem Aa8 {I : Heap} {oa : Option Addr} {l : List UInt8} {c : Nat} (h : Bytes I oa l c) (hl : l.length ≤ 2000) (b p : Nat) (hp : p + 8000 ≤ 1099511627776) (L : Bl) :
  Fun Tryz.prog 39 [.pointer (some ⟨b, 0, none⟩)] I (rd b oa l c p :: L) (DT b oa l c p 8000 400001 L) := by
 refine Ao Ad ?_; refine Se rfl (Oa rfl (Ab (Se rfl (Om rfl ?_)))); refine Ca rfl (Zf h hl b _ Aa _) ?_; rintro _ J1 _ e1 ⟨s, p1, rfl, hs, hp1, hp2, rfl⟩
 have h := h.mono e1
 refine Oa rfl (Ab (Ah (Se rfl (Om rfl ?_)))); refine Ca rfl (Du h hl b _ 4 Aa Ac _) ?_; rintro _ _ _ _ ⟨r, rfl, rfl, rfl, hr⟩; refine Oc rfl rfl rfl (Ab ?_); refine Az rfl ?_ ?_
 ·intro c0
  try simp only [nb] at c0
  refine Se rfl (Om rfl (Oa rfl (Ab (Al (.tmp rfl .nil) ?_))))
  exact ⟨J1, _, e1, fun _ h => h, s, _, rfl, by omega, by omega, by omega, rfl⟩
 intro c0
 try simp only [nb] at c0
 refine Aj (Se rfl (Om rfl ?_)); refine Ca rfl (Vp s (by unfold Kr; omega) _ _) ?_; rintro _ J2 _ e2 ⟨o1, k1, rfl, hat, rfl⟩
 have h := h.mono e2
 have hle := e1.trans e2
 refine Om rfl (Oe rfl rfl (Oe rfl rfl (Oa rfl (Oa rfl (Ab (Ah (Se rfl (Om rfl ?_)))))))); refine Dv rfl .free rfl ?_; refine Ab ?_; refine Az rfl ?_ ?_
 ·intro c1
  try simp only [nb] at c1
  refine Se rfl (Om rfl (Oa rfl (Ab (Al (.tmp rfl .nil) ?_))))
  exact ⟨J2, _, hle, fun _ h => h, s, _, rfl, by omega, by omega, by omega, rfl⟩
 intro c1
 try simp only [nb] at c1
 obtain ⟨al, hal⟩ : ∃ al, In s = some al := Option.isSome_iff_exists.1 c1; rw [hal] at hat ⊢
 simp only [Option.getD_some] at hat ⊢
 obtain ⟨ha1, ha2, ha3⟩ := Wz hal
 have hapos := List.length_pos_iff.2 ha1
 have hanil := hat.nil'
 refine Aj (Ah ?_); refine F3 fun hlr => ?_
 refine H5 17 rfl rfl ?_; refine Da 0 rfl (Ai rfl) ?_; refine Da 1 rfl (Ai rfl) ?_; refine Da 2 rfl (Ai rfl) ?_; refine Da 3 rfl (Ai rfl) ?_; refine Da 4 rfl (F6 rfl) ?_; refine Da 8 rfl (Ai rfl) ?_; refine Jo 5 9 Af ?_ ?_
 ·skip
  refine Jv 5 rfl rfl rfl .free rfl (Du h hl b _ al.length Aa Aa _) ?_; rintro _ _ _ _ ⟨r2, rfl, rfl, rfl, hr2⟩
  have hr3 : r2 < al.length := by omega
  have hst := hat.st r2 hr3
  have hel : (al.getD r2 []).length ≤ 12000 := ha2 _ (by rw [show al.getD r2 [] = al[r2] by simp [hr3]]; exact List.getElem_mem _)
  refine Hx ?_
  first | refine Da 6 rfl (Bp rfl rfl _ rfl) ?_ | refine Da 6 rfl (Bq rfl rfl _ rfl) ?_
  refine Dt 7 [17] rfl (L5 rfl) ?_; refine Fz 9 rfl Af rfl rfl rfl Ae Ae Ae Ac Ac Ae .free rfl (.inr Bb) ?_; intro b32; refine Ee ?_; intro hz
  have hk := N8 (I := J2) (b := b32) (e := 9) (l := [[97], [120], [49], [112, 97, 105, 114], [99, 97, 108, 108], [102, 115, 116], [105], [43], [40, 102, 115, 116, 32, 49, 41], [98, 55]]) Ac Ac
  have hlr := hlr.trans hz
  have h := h.mono hz
  have hat := hat.mono hz
  try have hst := hst.mono hz
  refine Dc 10 rfl rfl (Es h hl b _ Aa hk Ad _) ?_; rintro _ _ _ _ ⟨y, rfl, hy, rfl, rfl⟩
  have hyl : y.length ≤ 10 := by revert y; decide
  refine Hx ?_; refine Dc 11 rfl rfl (Mx s (al.getD r2 []) y (by unfold Kr; omega) (by unfold Kr; omega) Aa _ _) ?_; rintro _ J3 _ e3 ⟨rfl, rfl⟩
  have h := h.mono e3
  have hlr := hlr.trans e3
  have hol : ((I4 s (al.getD r2 []) y).getD []).length ≤ 12000 := by
   cases ho : I4 s (al.getD r2 []) y with
   | none => decide
   | some o => exact Wf ho
  refine Hx ?_; refine Da 12 rfl (Ai rfl) ?_; refine Da 13 rfl (Cj rfl rfl) ?_; refine Da 14 rfl (Cj rfl rfl) ?_; refine Da 15 rfl (A2 rfl) ?_; refine Da 16 rfl (A2 rfl) ?_; refine Bg Af ?_; refine Ah (Se rfl (Om rfl (Om rfl ?_)))
  first | refine Gr rfl rfl ?_ ?_ | refine E3 rfl rfl ?_ ?_ | refine Lw rfl rfl ?_ ?_
  ·intro g8_2; refine Ow rfl ?_; refine C1 rfl (.met rfl rfl) rfl (Du h hl b _ 8 Aa Ac _) ?_; rintro _ _ _ _ ⟨r4, rfl, rfl, rfl, hr4⟩; refine Dj rfl rfl rfl (.met rfl rfl) rfl ?_; refine Ot rfl rfl (Ab ?_); refine Az rfl ?_ ?_
   ·intro c2
    try simp only [nb] at c2
    refine Se rfl (Om rfl (Oa rfl (Ab (Al (.tmp rfl .nil) ?_))))
    exact ⟨J3, _, hle.trans hlr, fun _ h => h, _, _, rfl, by omega, by omega, by omega, rfl⟩
   intro c2
   try simp only [nb] at c2
   refine Aj (Se rfl (Om rfl (Om rfl ?_))); refine Ol rfl rfl ?_; intro b46; refine D4 [[], [32], [41]] Ac Ac ?_; intro J5 e5 k5; refine Ca rfl (Es (h.mono e5) hl b _ Aa k5 Ad _) ?_; rintro _ _ _ _ ⟨z, rfl, hz, rfl, rfl⟩
   have hzl : z.length ≤ 1 := by revert z; decide
   refine Ok rfl rfl ?_; refine Oa rfl (Ab (Al (.tmp rfl .nil) ?_))
   exact ⟨J5, _, (hle.trans hlr).trans e5, fun _ h => h, _, _, rfl, Em, by omega, by omega, rfl⟩
  intro g8_2
  iterate 3 refine Ce rfl rfl rfl ?_
  refine Of rfl rfl (Ab ?_); refine At rfl ?_; refine Aj (Se rfl (Om rfl (Om rfl ?_))); refine Ol rfl rfl ?_; intro b46; refine D4 [[], [32], [41]] Ac Ac ?_; intro J5 e5 k5; refine Ca rfl (Es (h.mono e5) hl b _ Aa k5 Ad _) ?_; rintro _ _ _ _ ⟨z, rfl, hz, rfl, rfl⟩
  have hzl : z.length ≤ 1 := by revert z; decide
  refine Ok rfl rfl ?_; refine Oa rfl (Ab (Al (.tmp rfl .nil) ?_))
  exact ⟨J5, _, (hle.trans hlr).trans e5, fun _ h => h, _, _, rfl, Em, by omega, by omega, rfl⟩
 ·skip
  refine M4 9 rfl rfl rfl rfl Ae Ae Ae Ac Ac Ae .free rfl (.inr Bb) ?_; intro b32; refine Ee ?_; intro hz
  have hk := N8 (I := J2) (b := b32) (e := 9) (l := [[97], [120], [49], [112, 97, 105, 114], [99, 97, 108, 108], [102, 115, 116], [105], [43], [40, 102, 115, 116, 32, 49, 41], [98, 55]]) Ac Ac
  have hlr := hlr.trans hz
  have h := h.mono hz
  have hat := hat.mono hz
  try have hst := hst.mono hz
  refine Dc 5 rfl rfl (Du h hl b _ al.length Aa Aa _) ?_; rintro _ _ _ _ ⟨r2, rfl, rfl, rfl, hr2⟩
  have hr3 : r2 < al.length := by omega
  have hst := hat.st r2 hr3
  have hel : (al.getD r2 []).length ≤ 12000 := ha2 _ (by rw [show al.getD r2 [] = al[r2] by simp [hr3]]; exact List.getElem_mem _)
  refine Hx ?_
  first | refine Da 6 rfl (Bp rfl rfl _ rfl) ?_ | refine Da 6 rfl (Bq rfl rfl _ rfl) ?_
  refine Dt 7 [17] rfl (L5 rfl) ?_; refine Dc 10 rfl rfl (Es h hl b _ Aa hk Ad _) ?_; rintro _ _ _ _ ⟨y, rfl, hy, rfl, rfl⟩
  have hyl : y.length ≤ 10 := by revert y; decide
  refine Hx ?_; refine Dc 11 rfl rfl (Mx s (al.getD r2 []) y (by unfold Kr; omega) (by unfold Kr; omega) Aa _ _) ?_; rintro _ J3 _ e3 ⟨rfl, rfl⟩
  have h := h.mono e3
  have hlr := hlr.trans e3
  have hol : ((I4 s (al.getD r2 []) y).getD []).length ≤ 12000 := by
   cases ho : I4 s (al.getD r2 []) y with
   | none => decide
   | some o => exact Wf ho
  refine Hx ?_; refine Da 12 rfl (Ai rfl) ?_; refine Da 13 rfl (Cj rfl rfl) ?_; refine Da 14 rfl (Cj rfl rfl) ?_; refine Da 15 rfl (A2 rfl) ?_; refine Da 16 rfl (A2 rfl) ?_; refine Bg Af ?_; refine Ah (Se rfl (Om rfl (Om rfl ?_)))
  first | refine Gr rfl rfl ?_ ?_ | refine E3 rfl rfl ?_ ?_ | refine Lw rfl rfl ?_ ?_
  ·intro g8_2; refine Ow rfl ?_; refine C1 rfl (.met rfl rfl) rfl (Du h hl b _ 8 Aa Ac _) ?_; rintro _ _ _ _ ⟨r4, rfl, rfl, rfl, hr4⟩; refine Dj rfl rfl rfl (.met rfl rfl) rfl ?_; refine Ot rfl rfl (Ab ?_); refine Az rfl ?_ ?_
   ·intro c2
    try simp only [nb] at c2
    refine Se rfl (Om rfl (Oa rfl (Ab (Al (.tmp rfl .nil) ?_))))
    exact ⟨J3, _, hle.trans hlr, fun _ h => h, _, _, rfl, by omega, by omega, by omega, rfl⟩
   intro c2
   try simp only [nb] at c2
   refine Aj (Se rfl (Om rfl (Om rfl ?_))); refine Ol rfl rfl ?_; intro b46; refine D4 [[], [32], [41]] Ac Ac ?_; intro J5 e5 k5; refine Ca rfl (Es (h.mono e5) hl b _ Aa k5 Ad _) ?_; rintro _ _ _ _ ⟨z, rfl, hz, rfl, rfl⟩
   have hzl : z.length ≤ 1 := by revert z; decide
   refine Ok rfl rfl ?_; refine Oa rfl (Ab (Al (.tmp rfl .nil) ?_))
   exact ⟨J5, _, (hle.trans hlr).trans e5, fun _ h => h, _, _, rfl, Em, by omega, by omega, rfl⟩
  intro g8_2
  iterate 3 refine Ce rfl rfl rfl ?_
  refine Of rfl rfl (Ab ?_); refine At rfl ?_; refine Aj (Se rfl (Om rfl (Om rfl ?_))); refine Ol rfl rfl ?_; intro b46; refine D4 [[], [32], [41]] Ac Ac ?_; intro J5 e5 k5; refine Ca rfl (Es (h.mono e5) hl b _ Aa k5 Ad _) ?_; rintro _ _ _ _ ⟨z, rfl, hz, rfl, rfl⟩
  have hzl : z.length ≤ 1 := by revert z; decide
  refine Ok rfl rfl ?_; refine Oa rfl (Ab (Al (.tmp rfl .nil) ?_))
  exact ⟨J5, _, (hle.trans hlr).trans e5, fun _ h => h, _, _, rfl, Em, by omega, by omega, rfl⟩
def DX (L : Bl) : Cx := fun v I' L' => ∃ s, v = .string (str s) ∧ List.length s ≤ 400001 ∧ L = L'
def DQ (L : Bl) : Cx := fun v I' L' => ∃ o1 n1 c1 o2 n2 c2 s, v = .tuple #[.slice o1 (List.length n1) c1, .slice o2 (List.length n2) c2, .string (str s)] ∧ Strs I' o1 n1 c1 ∧ Strs I' o2 n2 c2 ∧ n1.length ≤ 16 ∧ n2.length ≤ 16 ∧ (∀ s ∈ n1, s.length ≤ 16) ∧ (∀ s ∈ n2, s.length ≤ 16) ∧ List.length s ≤ 400001 ∧ L = L'
theorem R8 {e : Ex} (h : e.fine = true) : E2 e.tree.text = some e := by
 have hok : e.ok = true := by simp only [Ex.fine, Bool.and_eq_true] at h; exact h.1.1
 rw [Md hok, if_pos h]
theorem P2 {s : As} {e : Ex} (h : E2 s = some e) : e.fine = true ∧ e.ok = true ∧ e.size ≤ 120 ∧ e.tree.len ≤ 12000 ∧ s = e.tree.text := by
 obtain ⟨_, h2, h3⟩ := Mc h
 have h4 := h2
 simp only [Ex.fine, Bool.and_eq_true, Tree.fits, decide_eq_true_eq] at h4
 exact ⟨h2, h4.1.1, h4.1.2, h4.2.2, h3⟩
def Ex.many : Ex → Nat
 | .num _ => 1
 | .name _ => 1
 | .bin _ a b => 1 + a.many + b.many
 | .ite a b c => 1 + a.many + b.many + c.many
 | .lt _ a b => 1 + a.many + b.many
 | .fn _ _ _ _ b => 1 + b.many
 | .un _ a => 1 + a.many
theorem Ex.put_id : ∀ {e : Ex} {n : As} {v : Ex}, n ∉ e.occ [] → e.put n v = e
 | .num _, n, v, h => rfl
 | .name s, n, v, h => by
  simp only [Ex.occ, List.not_mem_nil, if_false, List.mem_singleton] at h
  simp only [Ex.put]; rw [if_neg (fun e => h e.symm)]
 | .bin o a b, n, v, h => by
  simp only [Ex.occ, List.mem_append, not_or] at h
  simp only [Ex.put, Ex.put_id h.1, Ex.put_id h.2]
 | .ite a b c, n, v, h => by
  simp only [Ex.occ, List.mem_append, not_or] at h
  simp only [Ex.put, Ex.put_id h.1.1, Ex.put_id h.1.2, Ex.put_id h.2]
 | .lt x a b, n, v, h => by
  simp only [Ex.occ, List.mem_append, not_or, List.nil_append] at h
  simp only [Ex.put, Ex.put_id h.1]
  by_cases hx : x = n
  ·rw [if_pos hx]
  ·rw [if_neg hx, Ex.put_id]; intro hb; exact h.2 (Ex.occ_mem.2 ⟨hb, by simp only [List.mem_singleton]; exact fun e => hx e.symm⟩)
 | .fn f x s t b, n, v, h => by
  simp only [Ex.occ, List.nil_append] at h
  simp only [Ex.put]
  by_cases hx : f = n ∨ x = n
  ·rw [if_pos hx]
  ·rw [if_neg hx, Ex.put_id]; intro hb; refine h (Ex.occ_mem.2 ⟨hb, ?_⟩)
   simp only [List.mem_cons, List.not_mem_nil, or_false]
   rintro (e | e)
   ·exact hx (.inl e.symm)
   ·exact hx (.inr e.symm)
 | .un o a, n, v, h => by
  simp only [Ex.occ] at h
  simp only [Ex.put, Ex.put_id h]
def Ex.hd : Ex → As
 | .num _ => [110, 117, 109, 98, 101, 114]
 | .name _ => [110, 97, 109, 101]
 | e => e.tree.head
def Ae9 (s : As) : As := match E2 s with
 | some e => e.hd
 | none => []
def Afc (s : As) : Option (List As) := (E2 s).map fun e => e.sub.map fun a => a.tree.text
def Afe (s : As) : Int := match E2 s with
 | some e => (e.many : Nat)
 | none => -1
def Ae4 (s : As) : Int := match Df s with
 | some t => (t.size : Nat)
 | none => -1
def Abn (s : As) : Nat := s.foldl (fun a c => 10 * a + (c.toNat - 48)) 0
theorem Abo (s : As) (c : UInt8) : Abn (s ++ [c]) = 10 * Abn s + (c.toNat - 48) := by simp [Abn]
theorem R4 {d : Nat} (h : d < 10) : (UInt8.ofNat (48 + d)).toNat - 48 = d := by
 have : (UInt8.ofNat (48 + d)).toNat = 48 + d := by simp [UInt8.toNat_ofNat]; omega
 omega
theorem So : ∀ n : Nat, Abn (Is n) = n := by
 intro n
 induction n using Nat.strongRecOn with
 | _ n ih =>
  by_cases h : n < 10
  ·rw [Fk h]
   show 10 * 0 + ((UInt8.ofNat (48 + n)).toNat - 48) = n
   rw [R4 h]; omega
  ·rw [Hc h, Abo, ih (n / 10) Aa, R4 (Nat.mod_lt _ Aa)]
   omega
theorem Aar {a b : Nat} (h : Is a = Is b) : a = b := by
 have := congrArg Abn h
 rwa [So, So] at this
def nm (c : UInt8) (n : Nat) : As := c :: Is n
theorem Xl {c : UInt8} {a b : Nat} (h : nm c a = nm c b) : a = b := Aar (List.cons.inj h).2
def Kq (c : UInt8) (av : List As) (n : Nat) : Nat := ((List.range n).filter fun k => decide (nm c k ∈ av)).length
theorem K3 (c : UInt8) (av : List As) (n : Nat) : Kq c av (n + 1) = Kq c av n + (if nm c n ∈ av then 1 else 0) := by
 unfold Kq
 rw [List.range_succ, List.filter_append]
 by_cases h : nm c n ∈ av <;> simp [h]
theorem Rg : ∀ {l m : List As}, l.Nodup → (∀ x ∈ l, x ∈ m) → l.length ≤ m.length
 | [], m, _, _ => Nat.zero_le _
 | x :: l, m, hn, hs => by
  obtain ⟨h1, h2⟩ := List.nodup_cons.1 hn
  have hx := hs x (.head _)
  have := Rg (l := l) (m := m.erase x) h2 fun y hy => by
   have hne : y ≠ x := by rintro rfl; exact h1 hy
   exact (List.mem_erase_of_ne hne).2 (hs y (.tail _ hy))
  rw [List.length_erase_of_mem hx] at this
  have := List.length_pos_of_mem hx
  simp only [List.length_cons]; omega
theorem Fp (c : UInt8) (av : List As) (n : Nat) : Kq c av n ≤ av.length := by
 unfold Kq
 rw [← List.length_map (f := nm c)]; refine Rg ?_ ?_
 ·have h1 : ((List.range n).filter fun k => decide (nm c k ∈ av)).Nodup := List.nodup_range.filter _
  unfold List.Nodup at h1 ⊢
  rw [List.pairwise_map]
  exact h1.imp fun h e => h (Xl e)
 ·intro x hx; obtain ⟨k, hk, rfl⟩ := List.mem_map.1 hx
  simpa using (List.mem_filter.1 hk).2
def frs (c : UInt8) (av : List As) : Nat → Nat → Nat
 | 0, n => n
 | k + 1, n => if nm c n ∈ av then frs c av k (n + 1) else n
theorem Vm {c : UInt8} {av : List As} : ∀ {k n : Nat}, av.length ≤ Kq c av n + k → nm c (frs c av k n) ∉ av ∧ n ≤ frs c av k n ∧ frs c av k n + Kq c av n = n + Kq c av (frs c av k n)
 | 0, n, h => by
  have h1 := Fp c av (n + 1)
  rw [K3] at h1; refine ⟨fun hm => ?_, Nat.le_refl _, rfl⟩
  simp only [frs] at hm
  rw [if_pos hm] at h1; omega
 | k + 1, n, h => by
  simp only [frs]
  by_cases hm : nm c n ∈ av
  ·rw [if_pos hm]
   have h2 := K3 c av n
   rw [if_pos hm] at h2; obtain ⟨h3, h4, h5⟩ := Vm (c := c) (av := av) (k := k) (n := n + 1) (by omega)
   exact ⟨h3, by omega, by omega⟩
  ·rw [if_neg hm]; exact ⟨hm, Nat.le_refl _, rfl⟩
def fr (c : UInt8) (av : List As) (n : Nat) : Nat := frs c av av.length n
theorem F2 (c : UInt8) (av : List As) (n : Nat) : nm c (fr c av n) ∉ av ∧ n ≤ fr c av n ∧ fr c av n + Kq c av n = n + Kq c av (fr c av n) := Vm (by omega)
theorem Ff (c : UInt8) (av : List As) (n : Nat) : fr c av n + 1 + Kq c av n = n + 1 + Kq c av (fr c av n + 1) := by
 obtain ⟨h1, h2, h3⟩ := F2 c av n
 have := K3 c av (fr c av n)
 rw [if_neg h1] at this; omega
theorem Vn {c : UInt8} {av : List As} : ∀ {k n m : Nat}, (∀ j, n ≤ j → j < m → nm c j ∈ av) → n ≤ m → m ≤ n + k → nm c m ∉ av → frs c av k n = m
 | 0, n, m, _, h1, h2, _ => by simp only [frs]; omega
 | k + 1, n, m, h, h1, h2, h3 => by
  simp only [frs]
  by_cases hm : nm c n ∈ av
  ·rw [if_pos hm]
   have : n ≠ m := by rintro rfl; exact h3 hm
   exact Vn (fun j a b => h j (by omega) b) (by omega) (by omega) h3
  ·rw [if_neg hm]
   by_cases he : n = m
   ·exact he
   ·exact absurd (h n (Nat.le_refl _) (by omega)) hm
theorem Acm {c : UInt8} {av : List As} {n m : Nat} (h : ∀ j, n ≤ j → j < m → nm c j ∈ av) (h1 : n ≤ m) (h3 : nm c m ∉ av) : fr c av n = m := by
 obtain ⟨g1, g2, g3⟩ := F2 c av n
 by_cases hlt : fr c av n < m
 ·exact absurd (h _ g2 hlt) g1
 ·have hmm : m ≤ fr c av n := by omega
  have key : ∀ d, Kq c av (n + d) ≤ Kq c av n + d := by
   intro d
   induction d with
   | zero => exact Nat.le_refl _
   | succ d ih => rw [← Nat.add_assoc, K3]; split <;> omega
  have h5 : m ≤ n + av.length := by
   have e1 : ∀ d, n + d ≤ m → Kq c av (n + d) = Kq c av n + d := by
    intro d hd
    induction d with
    | zero => rfl
    | succ d ih =>
     rw [← Nat.add_assoc, K3, if_pos (h (n + d) Aa Aa), ih Aa]; omega
   have e2 := e1 (m - n) Aa
   have e3 := Fp c av (n + (m - n))
   omega
  exact Vn h h1 h5 h3

def Ex.pl (av : List As) : Ex → List As → List As → Nat → Ex × Nat
 | .num s, _, _, n => (.num s, n)
 | .name s, f, t, n => (.name (match Bw f s with | some i => t.getD i [] | none => s), n)
 | .bin o a b, f, t, n => let p := a.pl av f t n; let q := b.pl av f t p.2; (.bin o p.1 q.1, q.2)
 | .ite a b c, f, t, n => let p := a.pl av f t n; let q := b.pl av f t p.2; let r := c.pl av f t q.2; (.ite p.1 q.1 r.1, r.2)
 | .lt x a b, f, t, n => let k := fr 120 av n; let p := a.pl av f t (k + 1); let q := b.pl av (f ++ [x]) (t ++ [nm 120 k]) p.2; (.lt (nm 120 k) p.1 q.1, q.2)
 | .fn g x s u b, f, t, n => let k := fr 120 av n; let j := fr 120 av (k + 1); let p := b.pl av (f ++ [g, x]) (t ++ [nm 120 k, nm 120 j]) (j + 1); (.fn (nm 120 k) (nm 120 j) s u p.1, p.2)
 | .un o a, f, t, n => let p := a.pl av f t n; (.un o p.1, p.2)
def Ex.nb : Ex → Nat
 | .num _ => 0
 | .name _ => 0
 | .bin _ a b => a.nb + b.nb
 | .ite a b c => a.nb + b.nb + c.nb
 | .lt _ a b => 1 + a.nb + b.nb
 | .fn _ _ _ _ b => 2 + b.nb
 | .un _ a => a.nb
theorem Ex.pl_hits (av : List As) : ∀ (e : Ex) (f t : List As) (n : Nat), n ≤ (e.pl av f t n).2 ∧ (e.pl av f t n).2 + Kq 120 av n = n + e.nb + Kq 120 av (e.pl av f t n).2
 | .num s, f, t, n => ⟨Nat.le_refl _, by simp [Ex.pl, Ex.nb]⟩
 | .name s, f, t, n => ⟨Nat.le_refl _, by simp [Ex.pl, Ex.nb]⟩
 | .bin o a b, f, t, n => by
  have h1 := a.pl_hits av f t n
  have h2 := b.pl_hits av f t (a.pl av f t n).2
  simp only [Ex.pl, Ex.nb]; omega
 | .ite a b c, f, t, n => by
  have h1 := a.pl_hits av f t n
  have h2 := b.pl_hits av f t (a.pl av f t n).2
  have h3 := c.pl_hits av f t (b.pl av f t (a.pl av f t n).2).2
  simp only [Ex.pl, Ex.nb]; omega
 | .lt x a b, f, t, n => by
  have h0 := Ff 120 av n
  have h00 := (F2 120 av n).2.1
  have h1 := a.pl_hits av f t (fr 120 av n + 1)
  have h2 := b.pl_hits av (f ++ [x]) (t ++ [nm 120 (fr 120 av n)]) (a.pl av f t (fr 120 av n + 1)).2
  simp only [Ex.pl, Ex.nb]; omega
 | .fn g x s u b, f, t, n => by
  have h0 := Ff 120 av n
  have h00 := (F2 120 av n).2.1
  have h1 := Ff 120 av (fr 120 av n + 1)
  have h11 := (F2 120 av (fr 120 av n + 1)).2.1
  have h2 := b.pl_hits av (f ++ [g, x]) (t ++ [nm 120 (fr 120 av n), nm 120 (fr 120 av (fr 120 av n + 1))]) (fr 120 av (fr 120 av n + 1) + 1)
  simp only [Ex.pl, Ex.nb]; omega
 | .un o a, f, t, n => by
  have h1 := a.pl_hits av f t n
  simp only [Ex.pl, Ex.nb]; omega
theorem Ex.pl_size (av : List As) : ∀ (e : Ex) (f t : List As) (n : Nat), (e.pl av f t n).1.size = e.size ∧ (e.pl av f t n).1.tree.depth = e.tree.depth ∧ (e.pl av f t n).1.many = e.many
 | .num s, f, t, n => ⟨rfl, rfl, rfl⟩
 | .name s, f, t, n => ⟨rfl, rfl, rfl⟩
 | .bin o a b, f, t, n => by
  obtain ⟨h1, h2, h3⟩ := a.pl_size av f t n; obtain ⟨g1, g2, g3⟩ := b.pl_size av f t (a.pl av f t n).2
  simp only [Ex.pl, Ex.size, Ex.many, Ex.tree, Tree.depth, Dn, List.isEmpty_cons, cond_false, h1, h2, h3, g1, g2, g3, and_self]
 | .ite a b c, f, t, n => by
  obtain ⟨h1, h2, h3⟩ := a.pl_size av f t n; obtain ⟨g1, g2, g3⟩ := b.pl_size av f t (a.pl av f t n).2; obtain ⟨k1, k2, k3⟩ := c.pl_size av f t (b.pl av f t (a.pl av f t n).2).2
  simp only [Ex.pl, Ex.size, Ex.many, Ex.tree, Tree.depth, Dn, List.isEmpty_cons, cond_false, h1, h2, h3, g1, g2, g3, k1, k2, k3, and_self]
 | .lt x a b, f, t, n => by
  obtain ⟨h1, h2, h3⟩ := a.pl_size av f t (fr 120 av n + 1); obtain ⟨g1, g2, g3⟩ := b.pl_size av (f ++ [x]) (t ++ [nm 120 (fr 120 av n)]) (a.pl av f t (fr 120 av n + 1)).2
  simp only [Ex.pl, Ex.size, Ex.many, Ex.tree, Tree.depth, Dn, List.isEmpty_cons, List.isEmpty_nil, cond_true, cond_false, h1, h2, h3, g1, g2, g3, and_self]
 | .fn g x s u b, f, t, n => by
  obtain ⟨g1, g2, g3⟩ := b.pl_size av (f ++ [g, x]) (t ++ [nm 120 (fr 120 av n), nm 120 (fr 120 av (fr 120 av n + 1))]) (fr 120 av (fr 120 av n + 1) + 1)
  simp only [Ex.pl, Ex.size, Ex.many, Ex.tree, Tree.depth, Dn, List.isEmpty_cons, List.isEmpty_nil, cond_true, cond_false, g1, g2, g3, and_self]
 | .un o a, f, t, n => by
  obtain ⟨h1, h2, h3⟩ := a.pl_size av f t n
  simp only [Ex.pl, Ex.size, Ex.many, Ex.tree, Tree.depth, Dn, List.isEmpty_cons, cond_false, h1, h2, h3, and_self]
theorem Ex.nb_occ : ∀ (e : Ex) (bd : List As), 3 * (e.nb + (e.occ bd).length) ≤ 2 * e.size + 1
 | .num s, bd => by simp [Ex.nb, Ex.occ, Ex.size]
 | .name s, bd => by simp only [Ex.nb, Ex.occ, Ex.size]; split <;> simp
 | .bin o a b, bd => by have := a.nb_occ bd; have := b.nb_occ bd; simp only [Ex.nb, Ex.occ, Ex.size, List.length_append]; omega
 | .ite a b c, bd => by have := a.nb_occ bd; have := b.nb_occ bd; have := c.nb_occ bd; simp only [Ex.nb, Ex.occ, Ex.size, List.length_append]; omega
 | .lt x a b, bd => by have := a.nb_occ bd; have := b.nb_occ (bd ++ [x]); simp only [Ex.nb, Ex.occ, Ex.size, List.length_append]; omega
 | .fn f x s t b, bd => by have := b.nb_occ (bd ++ [f, x]); have := s.size_pos; have := t.size_pos; simp only [Ex.nb, Ex.occ, Ex.size]; omega
 | .un o a, bd => by have := a.nb_occ bd; simp only [Ex.nb, Ex.occ, Ex.size]; omega
theorem U7 {d : Nat} (h : d < 10) : Ec (UInt8.ofNat (48 + d)) = true := by
 have : (UInt8.ofNat (48 + d)).toNat = 48 + d := by simp [UInt8.toNat_ofNat]; omega
 simp only [Ec, this, Bool.and_eq_true, decide_eq_true_eq]; omega
theorem U4 : ∀ n : Nat, (Is n).all Ec = true := by
 intro n
 induction n using Nat.strongRecOn with
 | _ n ih =>
  by_cases h : n < 10
  ·rw [Fk h]; simp only [List.all_cons, List.all_nil, Bool.and_true]; exact U7 h
  ·rw [Hc h, List.all_append, ih (n / 10) Aa]
   simp only [List.all_cons, List.all_nil, Bool.and_true, Bool.true_and]; exact U7 (Nat.mod_lt n Aa)
theorem U5 {n : Nat} (h : n < 1000) : (Is n).length ≤ 3 := by
 by_cases h1 : n < 10
 ·rw [Fk h1]; simp
 ·rw [Hc h1, List.length_append]
  by_cases h2 : n / 10 < 10
  ·rw [Fk h2]; simp
  ·rw [Hc h2, List.length_append, Fk (show n / 10 / 10 < 10 by omega)]; simp
theorem P4 {c : UInt8} {n : Nat} (hc : N0 c = true) (h : n < 1000) : Bu (nm c n) = true := by
 have := U5 h
 simp [nm, Bu, hc, U4 n, this]
def namesL (l : List As) : Prop := ∀ s ∈ l, Bu s = true
theorem namesL.add {l m : List As} (h : namesL l) (h' : namesL m) : namesL (l ++ m) := by
 intro s hs
 rcases List.mem_append.1 hs with hs | hs
 ·exact h s hs
 ·exact h' s hs
theorem Ex.pl_ok {av : List As} : ∀ {e : Ex} {f t : List As} {n : Nat}, e.ok = true → namesL t → f.length = t.length → n + e.nb + av.length ≤ 900 + Kq 120 av n → (e.pl av f t n).1.ok = true
 | .num s, f, t, n, h, _, _, _ => h
 | .name s, f, t, n, h, ht, hl, _ => by
  simp only [Ex.pl, Ex.ok]
  cases hi : Bw f s with
  | none => exact h
  | some i =>
   have h1 := (K4 (show Ft f s f.length = some i from hi)).1
   have h2 : i < t.length := by omega
   show Bu (t.getD i []) = true
   rw [show t.getD i [] = t[i] by simp [h2]]
   exact ht _ (List.getElem_mem h2)
 | .bin o a b, f, t, n, h, ht, hl, hn => by
  simp only [Ex.ok, Bool.and_eq_true] at h
  simp only [Ex.nb] at hn
  have h1 := a.pl_hits av f t n
  have h2 := Fp 120 av (a.pl av f t n).2
  simp only [Ex.pl, Ex.ok, Bool.and_eq_true]
  exact ⟨Ex.pl_ok h.1 ht hl (by omega), Ex.pl_ok h.2 ht hl (by omega)⟩
 | .ite a b c, f, t, n, h, ht, hl, hn => by
  simp only [Ex.ok, Bool.and_eq_true] at h
  simp only [Ex.nb] at hn
  have h1 := a.pl_hits av f t n
  have h2 := b.pl_hits av f t (a.pl av f t n).2
  have h3 := Fp 120 av (a.pl av f t n).2
  have h4 := Fp 120 av (b.pl av f t (a.pl av f t n).2).2
  simp only [Ex.pl, Ex.ok, Bool.and_eq_true]
  exact ⟨⟨Ex.pl_ok h.1.1 ht hl (by omega), Ex.pl_ok h.1.2 ht hl (by omega)⟩, Ex.pl_ok h.2 ht hl (by omega)⟩
 | .lt x a b, f, t, n, h, ht, hl, hn => by
  simp only [Ex.ok, Bool.and_eq_true] at h
  simp only [Ex.nb] at hn
  have h0 := Ff 120 av n
  have h1 := a.pl_hits av f t (fr 120 av n + 1)
  have h2 := Fp 120 av (fr 120 av n + 1)
  have h3 := Fp 120 av (a.pl av f t (fr 120 av n + 1)).2
  have h4 := Fp 120 av n
  have hz : Bu (nm 120 (fr 120 av n)) = true := P4 (by decide) (by omega)
  simp only [Ex.pl, Ex.ok, Bool.and_eq_true]
  exact ⟨⟨hz, Ex.pl_ok h.1.2 ht hl (by omega)⟩, Ex.pl_ok h.2 (ht.add fun s hs => by rw [List.mem_singleton.1 hs]; exact hz) (by simp [hl]) (by omega)⟩
 | .fn g x s u b, f, t, n, h, ht, hl, hn => by
  simp only [Ex.ok, Bool.and_eq_true, decide_eq_true_eq] at h
  obtain ⟨⟨⟨⟨⟨h1, h2⟩, h3⟩, h4⟩, h5⟩, h6⟩ := h
  simp only [Ex.nb] at hn
  have k0 := Ff 120 av n
  have k1 := Ff 120 av (fr 120 av n + 1)
  have k2 := Fp 120 av (fr 120 av n + 1)
  have k3 := Fp 120 av (fr 120 av (fr 120 av n + 1) + 1)
  have k5 := Fp 120 av n
  have k4 := (F2 120 av (fr 120 av n + 1)).2.1
  have hz1 : Bu (nm 120 (fr 120 av n)) = true := P4 (by decide) (by omega)
  have hz2 : Bu (nm 120 (fr 120 av (fr 120 av n + 1))) = true := P4 (by decide) (by omega)
  simp only [Ex.pl, Ex.ok, Bool.and_eq_true, decide_eq_true_eq]
  refine ⟨⟨⟨⟨⟨hz1, hz2⟩, fun e => ?_⟩, h4⟩, h5⟩, Ex.pl_ok h6 (ht.add fun s hs => ?_) (by simp [hl]) (by omega)⟩
  ·have := Xl e; omega
  ·simp only [List.mem_cons, List.not_mem_nil, or_false] at hs
   rcases hs with rfl | rfl
   ·exact hz1
   ·exact hz2
 | .un o a, f, t, n, h, ht, hl, hn => by
  simp only [Ex.pl, Ex.ok]
  exact Ex.pl_ok (e := a) h ht hl (by simpa [Ex.nb] using hn)
theorem B5.txt_len (o : B5) : o.txt.length ≤ 4 := by cases o <;> decide
theorem U2.txt_len (o : U2) : o.txt.length ≤ 3 := by cases o <;> decide
theorem Ex.len_size : ∀ {e : Ex}, e.ok = true → e.tree.len + 1 ≤ 8 * e.size
 | .num s, h => by
  have h : Bz s = true := h
  have : s.length ≤ 4 := by
   simp only [Bz, Bool.or_eq_true, Bool.and_eq_true, decide_eq_true_eq] at h
   rcases h with h | h
   ·rw [h]; decide
   ·have h1 := h.1.1.2
    unfold C3 at h1
    split at h1
    ·simp only [List.length_drop] at h1; omega
    ·omega
  simp only [Ex.tree, Tree.len, List.isEmpty_nil, cond_true, Ex.size]; omega
 | .name s, h => by
  have := Fs (show Bu s = true from h)
  simp only [Ex.tree, Tree.len, List.isEmpty_nil, cond_true, Ex.size]; omega
 | .bin o a b, h => by
  simp only [Ex.ok, Bool.and_eq_true] at h
  have h1 := Ex.len_size h.1; have h2 := Ex.len_size h.2; have h3 := o.txt_len
  simp only [Ex.tree, Tree.len, Ga, List.isEmpty_nil, List.isEmpty_cons, cond_true, cond_false, Ex.size]; omega
 | .ite a b c, h => by
  simp only [Ex.ok, Bool.and_eq_true] at h
  have h1 := Ex.len_size h.1.1; have h2 := Ex.len_size h.1.2; have h3 := Ex.len_size h.2
  simp only [Ex.tree, Tree.len, Ga, List.isEmpty_nil, List.isEmpty_cons, cond_true, cond_false, Ex.size, G9, List.length_cons, List.length_nil]; omega
 | .lt x a b, h => by
  simp only [Ex.ok, Bool.and_eq_true] at h
  have h1 := Ex.len_size h.1.2; have h2 := Ex.len_size h.2; have h3 := Fs h.1.1
  simp only [Ex.tree, Tree.len, Ga, List.isEmpty_nil, List.isEmpty_cons, cond_true, cond_false, Ex.size, D6, List.length_cons, List.length_nil]; omega
 | .fn f x s t b, h => by
  simp only [Ex.ok, Bool.and_eq_true, decide_eq_true_eq] at h
  obtain ⟨⟨⟨⟨⟨h1, h2⟩, h3⟩, h4⟩, h5⟩, h6⟩ := h
  have k1 := Ex.len_size h6; have k2 := Fs h1; have k3 := Fs h2
  have k4 := s.tree_small; have k5 := t.tree_small; have k6 := s.size_pos; have k7 := t.size_pos
  simp only [Ex.tree, Tree.len, Ga, List.isEmpty_nil, List.isEmpty_cons, cond_true, cond_false, Ex.size, D0, List.length_cons, List.length_nil]; omega
 | .un o a, h => by
  have h1 := Ex.len_size (e := a) h; have h3 := o.txt_len
  simp only [Ex.tree, Tree.len, Ga, List.isEmpty_nil, List.isEmpty_cons, cond_true, cond_false, Ex.size]; omega
def Ex.plain (e : Ex) : Ex := (e.pl e.free [] [] 0).1
theorem Uu (l m : List As) : (Dd l m).length ≤ l.length + m.length := by
 induction m generalizing l with
 | nil => exact Nat.le_refl _
 | cons s m ih =>
  have h1 : (Gl l s).length ≤ l.length + 1 := by unfold Gl; split <;> simp
  have h2 := ih (Gl l s)
  simp only [Dd, List.foldl_cons, List.length_cons] at *
  omega
theorem Ra {e : Ex} (h : e.size ≤ 120) : e.nb + e.free.length ≤ 80 := by
 have h1 := e.nb_occ []
 have h2 := Uu [] (e.occ [])
 simp only [List.length_nil, Nat.zero_add] at h2
 have h3 : e.free.length ≤ (e.occ []).length := h2
 omega
theorem M7 {e : Ex} (h : e.fine = true) : e.plain.fine = true := by
 simp only [Ex.fine, Bool.and_eq_true, decide_eq_true_eq, Tree.fits] at h
 obtain ⟨h1, h2, h3⟩ := e.pl_size e.free [] [] 0
 have hr := Ra h.1.2
 have hok : e.plain.ok = true := Ex.pl_ok h.1.1 (fun s hs => by cases hs) rfl Aa
 have hl := Ex.len_size hok
 have h4 : e.plain.size = e.size := h1
 have h5 : e.plain.tree.depth = e.tree.depth := h2
 simp only [Ex.fine, Bool.and_eq_true, decide_eq_true_eq, Tree.fits]
 exact ⟨⟨hok, by omega⟩, by omega, by omega⟩
def Ip (s : As) : Option As := (E2 s).map fun e => e.plain.tree.text
theorem N3 {s : As} {e : Ex} (h : E2 s = some e) : Ip s = some e.plain.tree.text := by unfold Ip; rw [h]; rfl
theorem Ud {s : As} (h : E2 s = none) : Ip s = none := by unfold Ip; rw [h]; rfl
def Afd (l m : List As) (s : As) : As := match Bw l s with
 | some i => m.getD i []
 | none => s
def rn (b : Nat) (oa : Option Addr) (av : List As) (c n : Nat) : Nat × Obj := (b, .cells [.slice oa av.length c, .int .i64 (n : Nat)].toArray 179 (0, 0))
theorem Xm {n : Nat} (h : n < 1000) : (nm 120 n).length ≤ Bd := Ex.name_len (P4 (by decide) h)
section
variable {I : Heap} {A B C D L : Bl} {w : World}
end
structure G11 where
 b6 : Nat
 b14 : Nat
 b16 : Nat
 b20 : Nat
 B : K8
 c : Nat
 D : K8
 e : Nat
def PR (b : Nat) (oa : Option Addr) (av : List As) (c : Nat) (p : Ex × Nat) (L : Bl) : Cx := fun v I' L' => ∃ cs, v = .agg (List.toArray cs) ∧ Rep I' p.1.tree cs ∧ L' = rn b oa av c p.2 :: L
def Ae7 (n : Nat) : Prop := ∀ {I : Heap} {e : Ex} {cs : List Value} (_ : SizeOf.sizeOf e < n) (_ : Rep I e.tree cs) (_ : e.ok = true) {f t : List As} {of ot : Option Addr} {cf ct : Nat} (_ : Strs I of f cf) (_ : Strs I ot t ct) (_ : f.length = t.length) (_ : f.length + 2 * e.size ≤ 100000)
  {oa : Option Addr} {av : List As} {c : Nat} (_ : Strs I oa av c) (b k : Nat) (_ : k + e.nb + av.length ≤ 90 + Kq 120 av k) (_ : av.length ≤ 500) (L : Bl),
  Fun Tryz.prog 169 [.agg cs.toArray, .slice of f.length cf, .slice ot t.length ct, .pointer (some ⟨b, 0, none⟩)] I (rn b oa av c k :: L) (PR b oa av c (e.pl av f t k) L)
def Aft (s nm by' : As) : Option As := match E2 s, Cu by' with
 | some e, some v => if Bu nm = true ∧ (e.put nm v).fine = true then some (e.put nm v).tree.text else none
 | _, _ => none
def DX2 (L : Bl) : Cx := fun v I' L' => ∃ s t, v = .tuple #[.string (str s), .string (str t)] ∧ List.length s ≤ 400001 ∧ List.length t ≤ 400001 ∧ L = L'
def DX3 (L : Bl) : Cx := fun v I' L' => ∃ s t u, v = .tuple #[.string (str s), .string (str t), .string (str u)] ∧ List.length s ≤ 400001 ∧ List.length t ≤ 400001 ∧ List.length u ≤ 400001 ∧ L = L'
section
variable {P : Program} {f : FuncId} {n : Nat} {I₀ : Heap} {Q : Cx} {k : List Item} {E : Hi} {I : Heap} {L : Bl} {ops : Array Oper} {d : Nat} {ty : TypeId} {pos : String} {af : Array Edge} {g : Option (Nat × Bool)} {l : List Oper}
end
theorem Qx {I : Heap} {oa : Option Addr} {l : List UInt8} {c : Nat} (h : Bytes I oa l c) (L : Bl) : Fun Tryz.prog 10 [.slice oa l.length c] I L (DX L) := by
 refine Ao Ad ?_; refine Se rfl (Oa rfl (Ab (Se rfl (Om rfl ?_)))); refine Ca rfl (Aa7 h _) ?_; rintro _ J1 _ e1 ⟨b, oa1, l1, c1, rfl, h1, hl1, rfl⟩; refine Ca rfl (Aa8 h1 hl1 b 0 Ac L) ?_; rintro _ J2 _ e2 ⟨s, p', rfl, hs, hp1, hp2, rfl⟩; refine Oa rfl (Ab (Al (.tmp rfl .nil) ?_))
 exact ⟨J2, L, e1.trans e2, fun _ h => h.drop, s, rfl, hs, rfl⟩
def DXI (L : Bl) : Cx := fun v I' L' => ∃ (s : As) (n : Int), v = .tuple #[.string (str s), .int .i64 n] ∧ List.length s ≤ 400100 ∧ -10000 ≤ n ∧ n ≤ 10000 ∧ L = L'
open Go.Shelf
def Tx : Go.Shelf.Ren := ⟨fun | 171 => 158 | 243 => 193 | 246 => 205 | 283 => 212 | 284 => 213 | 285 => 214 | 286 => 215 | 129 => 217 | 317 => 216 | 318 => 218 | 319 => 219 | 320 => 220 | 337 => 221 | 338 => 222 | n => n, fun | 3 => 3 | 9 => 9 | 2 => 2 | 4 => 4 | 171 => 215 | 0 => 0 | 53 => 201 | 37 => 22 | 5 => 5 | 173 => 218 | 212 => 221 | 51 => 222 | 20 => 20 | 213 => 223 | 46 => 204 | 232 => 227 | 233 => 228 | n => n, fun | 17 => 2 | 18 => 3 | 19 => 4 | n => n⟩
theorem Abl : Go.Proofs.LaysM.n171 Tryz.prog Tx := {
 mixed := by kernel_rfl
 f129 := Tryz.func217.trans (congrArg some (by kernel_rfl))
 f171 := Tryz.func158.trans (congrArg some (by kernel_rfl))
 f243 := Tryz.func193.trans (congrArg some (by kernel_rfl))
 f246 := Tryz.func205.trans (congrArg some (by kernel_rfl))
 f283 := Tryz.func212.trans (congrArg some (by kernel_rfl))
 f284 := Tryz.func213.trans (congrArg some (by kernel_rfl))
 f285 := Tryz.func214.trans (congrArg some (by kernel_rfl))
 f286 := Tryz.func215.trans (congrArg some (by kernel_rfl))
 f317 := Tryz.func216.trans (congrArg some (by kernel_rfl))
 f318 := Tryz.func218.trans (congrArg some (by kernel_rfl))
 f319 := Tryz.func219.trans (congrArg some (by kernel_rfl))
 f320 := Tryz.func220.trans (congrArg some (by kernel_rfl))
 f337 := Tryz.func221.trans (congrArg some (by kernel_rfl))
 f338 := Tryz.func222.trans (congrArg some (by kernel_rfl))
 t0 := Tryz.underlying0
 a0 := Tryz.isAgg0
 z0 := Tryz.sizeOf0
 v0 := Tryz.zeroValue0
 t2 := Tryz.underlying2
 a2 := Tryz.isAgg2
 z2 := Tryz.sizeOf2
 v2 := Tryz.zeroValue2
 t3 := Tryz.underlying3
 a3 := Tryz.isAgg3
 z3 := Tryz.sizeOf3
 v3 := Tryz.zeroValue3
 t4 := Tryz.underlying4
 a4 := Tryz.isAgg4
 z4 := Tryz.sizeOf4
 v4 := Tryz.zeroValue4
 t5 := Tryz.underlying5
 a5 := Tryz.isAgg5
 z5 := Tryz.sizeOf5
 v5 := Tryz.zeroValue5
 t9 := Tryz.underlying9
 a9 := Tryz.isAgg9
 z9 := Tryz.sizeOf9
 v9 := Tryz.zeroValue9
 t20 := Tryz.underlying20
 a20 := Tryz.isAgg20
 z20 := Tryz.sizeOf20
 v20 := Tryz.zeroValue20
 t37 := Tryz.underlying22
 a37 := Tryz.isAgg22
 z37 := Tryz.sizeOf22
 v37 := Tryz.zeroValue22
 t46 := Tryz.underlying204
 a46 := Tryz.isAgg204
 z46 := Tryz.sizeOf204
 v46 := Tryz.zeroValue204
 t51 := Tryz.underlying222
 a51 := Tryz.isAgg222
 z51 := Tryz.sizeOf222
 v51 := Tryz.zeroValue222
 t53 := Tryz.underlying201
 a53 := Tryz.isAgg201
 z53 := Tryz.sizeOf201
 v53 := Tryz.zeroValue201
 t171 := Tryz.underlying215
 a171 := Tryz.isAgg215
 z171 := Tryz.sizeOf215
 v171 := Tryz.zeroValue215
 t173 := Tryz.underlying218
 a173 := Tryz.isAgg218
 z173 := Tryz.sizeOf218
 v173 := Tryz.zeroValue218
 t212 := Tryz.underlying221
 a212 := Tryz.isAgg221
 z212 := Tryz.sizeOf221
 v212 := Tryz.zeroValue221
 t213 := Tryz.underlying223
 a213 := Tryz.isAgg223
 z213 := Tryz.sizeOf223
 t232 := Tryz.underlying227
 a232 := Tryz.isAgg227
 z232 := Tryz.sizeOf227
 v232 := Tryz.zeroValue227
 t233 := Tryz.underlying228
 a233 := Tryz.isAgg228
 z233 := Tryz.sizeOf228
 v233 := Tryz.zeroValue228
 g17 := by kernel_rfl
 g18 := by kernel_rfl
 g19 := by kernel_rfl
 i0 := by kernel_rfl
 i2 := by kernel_rfl
 i3 := by kernel_rfl
 i4 := by kernel_rfl
 i5 := by kernel_rfl
 i9 := by kernel_rfl
 i20 := by kernel_rfl
 i37 := by kernel_rfl
 i46 := by kernel_rfl
 i51 := by kernel_rfl
 i53 := by kernel_rfl
 i171 := by kernel_rfl
 i173 := by kernel_rfl
 i212 := by kernel_rfl
 i232 := by kernel_rfl
 i233 := by kernel_rfl
 m17 := by kernel_rfl
 m18 := by kernel_rfl
 m19 := by kernel_rfl }
open Go.Shelf
def V0 : Go.Shelf.Ren := ⟨fun | 171 => 158 | 243 => 193 | 246 => 205 | 283 => 212 | 284 => 213 | 285 => 214 | 286 => 215 | 129 => 217 | 317 => 216 | 318 => 218 | 319 => 219 | 320 => 220 | 337 => 221 | 338 => 222 | n => n, fun | 3 => 3 | 9 => 9 | 2 => 2 | 4 => 4 | 171 => 215 | 0 => 0 | 53 => 201 | 37 => 22 | 5 => 5 | 173 => 218 | 212 => 221 | 51 => 222 | 20 => 20 | 213 => 223 | 46 => 204 | 232 => 227 | 233 => 228 | n => n, fun | 17 => 2 | 18 => 3 | 19 => 4 | n => n⟩
theorem Ac0 : Go.Proofs.Lays.n171 Tryz.prog V0 := {
 mixed := by kernel_rfl
 f129 := Tryz.func217.trans (congrArg some (by kernel_rfl))
 f171 := Tryz.func158.trans (congrArg some (by kernel_rfl))
 f243 := Tryz.func193.trans (congrArg some (by kernel_rfl))
 f246 := Tryz.func205.trans (congrArg some (by kernel_rfl))
 f283 := Tryz.func212.trans (congrArg some (by kernel_rfl))
 f284 := Tryz.func213.trans (congrArg some (by kernel_rfl))
 f285 := Tryz.func214.trans (congrArg some (by kernel_rfl))
 f286 := Tryz.func215.trans (congrArg some (by kernel_rfl))
 f317 := Tryz.func216.trans (congrArg some (by kernel_rfl))
 f318 := Tryz.func218.trans (congrArg some (by kernel_rfl))
 f319 := Tryz.func219.trans (congrArg some (by kernel_rfl))
 f320 := Tryz.func220.trans (congrArg some (by kernel_rfl))
 f337 := Tryz.func221.trans (congrArg some (by kernel_rfl))
 f338 := Tryz.func222.trans (congrArg some (by kernel_rfl))
 t0 := Tryz.underlying0
 a0 := Tryz.isAgg0
 z0 := Tryz.sizeOf0
 v0 := Tryz.zeroValue0
 t2 := Tryz.underlying2
 a2 := Tryz.isAgg2
 z2 := Tryz.sizeOf2
 v2 := Tryz.zeroValue2
 t3 := Tryz.underlying3
 a3 := Tryz.isAgg3
 z3 := Tryz.sizeOf3
 v3 := Tryz.zeroValue3
 t4 := Tryz.underlying4
 a4 := Tryz.isAgg4
 z4 := Tryz.sizeOf4
 v4 := Tryz.zeroValue4
 t5 := Tryz.underlying5
 a5 := Tryz.isAgg5
 z5 := Tryz.sizeOf5
 v5 := Tryz.zeroValue5
 t9 := Tryz.underlying9
 a9 := Tryz.isAgg9
 z9 := Tryz.sizeOf9
 v9 := Tryz.zeroValue9
 t20 := Tryz.underlying20
 a20 := Tryz.isAgg20
 z20 := Tryz.sizeOf20
 v20 := Tryz.zeroValue20
 t37 := Tryz.underlying22
 a37 := Tryz.isAgg22
 z37 := Tryz.sizeOf22
 v37 := Tryz.zeroValue22
 t46 := Tryz.underlying204
 a46 := Tryz.isAgg204
 z46 := Tryz.sizeOf204
 v46 := Tryz.zeroValue204
 t51 := Tryz.underlying222
 a51 := Tryz.isAgg222
 z51 := Tryz.sizeOf222
 v51 := Tryz.zeroValue222
 t53 := Tryz.underlying201
 a53 := Tryz.isAgg201
 z53 := Tryz.sizeOf201
 v53 := Tryz.zeroValue201
 t171 := Tryz.underlying215
 a171 := Tryz.isAgg215
 z171 := Tryz.sizeOf215
 v171 := Tryz.zeroValue215
 t173 := Tryz.underlying218
 a173 := Tryz.isAgg218
 z173 := Tryz.sizeOf218
 v173 := Tryz.zeroValue218
 t212 := Tryz.underlying221
 a212 := Tryz.isAgg221
 z212 := Tryz.sizeOf221
 v212 := Tryz.zeroValue221
 t213 := Tryz.underlying223
 a213 := Tryz.isAgg223
 z213 := Tryz.sizeOf223
 t232 := Tryz.underlying227
 a232 := Tryz.isAgg227
 z232 := Tryz.sizeOf227
 v232 := Tryz.zeroValue227
 t233 := Tryz.underlying228
 a233 := Tryz.isAgg228
 z233 := Tryz.sizeOf228
 v233 := Tryz.zeroValue228
 g17 := by kernel_rfl
 g18 := by kernel_rfl
 g19 := by kernel_rfl }
theorem Yz : ∀ i : Nat, i < 100 → Lib.decDigits i = Is i := by decide +kernel
theorem Qs (i : Nat) (hi : i < 100) (I : Heap) (L : Bl) : Fun Tryz.prog 158 [.int .i64 (i : Nat)] I L (Ed (.string (str (Is i))) I L) := by
 refine ⟨fun w hm => (Any.strconv_Itoa_small Ac0 i hi w).mono ?_⟩; rintro e w' ⟨rfl, rfl⟩; refine ⟨_, I, L, rfl, .refl _, hm, ?_⟩; rw [Yz i hi]
 exact ⟨rfl, rfl, rfl⟩
def Tab (I : Heap) : Prop := ∀ L w, Mem I L w → Lib.TabIs Tryz.prog w "internal/strconv.uint64pow10" .u64 Lib.pow10Tab
theorem Tab.mono {I I' : Heap} (h : Tab I) (hle : HLe I I') : Tab I' := fun L w hm => h L w (hm.le hle)
theorem Ya (n : Nat) : Lib.decDigits n = Is n := by
 induction n using Nat.strongRecOn with
 | _ n ih =>
  rw [Lib.decDigits]
  by_cases h : n < 10
  ·rw [dif_pos h, Fk h]
  ·rw [dif_neg h, Hc h, ih (n / 10) Aa]
def Nv (n : Int) : As := if n < 0 then 45 :: Is n.natAbs else Is n.toNat
theorem Q0 (n : Nat) : Nv (n : Nat) = Is n := by unfold Nv; rw [if_neg (by omega)]; rfl
theorem Zo (n : Int) : Lib.itoa n = Nv n := by unfold Lib.itoa Nv; rw [Ya, Ya]
theorem Mem.grow {I : Heap} {L : Bl} {w : World} (h : Mem I L w) (k : Nat) (os : Array Obj) : Mem I L (Sort.grow (w.drewN k) os) := by
 have hk : ∀ b o, w.heap[b]? = some o → (w.heap ++ os)[b]? = some o := fun b o hb => by
  have hlt : b < w.heap.size := by
   rcases Nat.lt_or_ge b w.heap.size with g | g
   ·exact g
   ·rw [Array.getElem?_eq_none g] at hb; cases hb
  rw [Array.getElem?_append_left hlt]; exact hb
 exact ⟨⟨fun b o hb => hk b o (h.1.1 b o hb), h.1.2⟩, fun p hp => ⟨hk _ _ (h.2.1 p hp).1, (h.2.1 p hp).2⟩, h.2.2⟩
theorem I3 {I : Heap} (ht : Tab I) (n : Int) (h0 : -9223372036854775808 ≤ n) (h1 : n ≤ 9223372036854775807) (L : Bl) : Fun Tryz.prog 158 [.int .i64 n] I L (Ed (.string (str (Nv n))) I L) := by
 refine ⟨fun w hm => (Any.strconv_Itoa Abl n h0 h1 w (ht L w hm)).mono ?_⟩; rintro e w' ⟨rfl, k, os, rfl⟩; refine ⟨_, I, L, rfl, .refl _, hm.grow k os, ?_⟩; rw [Zo]
 exact ⟨rfl, rfl, rfl⟩
end Go.Proofs.YtmfagaajiakgoaaGreatDoor
