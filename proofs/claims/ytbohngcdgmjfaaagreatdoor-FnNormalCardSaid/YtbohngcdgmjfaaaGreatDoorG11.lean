/- Types as they are drawn. No conditions. -/
import Derived.Test.YtbohngcdgmjfaaaGreatDoorG10

namespace Go.Proofs.YtbohngcdgmjfaaaGreatDoor
set_option maxRecDepth 100000
set_option linter.unusedVariables false
set_option linter.unusedSimpArgs false

def DT (b : Nat) (oa : Option Addr) (l : List UInt8) (c p K B : Nat) (L : Bc) : C3 := fun v I' L' => ∃ s p', v = .string (str s) ∧ List.length s ≤ B ∧ p ≤ p' ∧ p' ≤ p + K ∧ L' = rd b oa l c p' :: L
def kT : Nat → Nat
 | 0 => 0
 | d + 1 => 2 + 2 * kT d
def bT : Nat → Nat
 | 0 => 1
 | d + 1 => 5 + 2 * bT d
theorem Aa0 : ∀ d, 1 ≤ bT d
 | 0 => Nat.le_refl _
 | d + 1 => by simp only [bT]; omega
theorem Jd : ∀ (d : Nat) {I : Heap} {oa : Option Addr} {l : List UInt8} {c : Nat} (_ : Bytes I oa l c) (_ : l.length ≤ 2000) (b p : Nat) (_ : p + kT d ≤ 1099511627776) (_ : bT d ≤ 1000000) (_ : d ≤ 1000) (L : Bc),
  Fun Tryz.prog 70 [.pointer (some ⟨b, 0, none⟩), .int .i64 (d : Nat)] I (rd b oa l c p :: L) (DT b oa l c p (kT d) (bT d) L) := by
 intro d
 induction d with
 | zero =>
  intro I oa l c h hl b p hp hb hd L; refine Aj (by simp) ?_; refine Se rfl (Oa rfl (Aa (Ab (Se rfl (Om rfl (Oc rfl rfl rfl (Om rfl ?_)))))))
  first | refine Aba rfl rfl (by simp) ?_ | refine Aa9 rfl rfl (by simp) ?_
  iterate 3 refine Ck rfl rfl rfl ?_
  refine Ot rfl rfl (Aa ?_); refine Cm rfl ?_; refine Se rfl (Oa rfl (Aa (Ag (.tmp rfl .nil) ?_)))
  exact ⟨I, _, .refl _, fun _ h => h, [105], p, rfl, by decide, Nat.le_refl _, by omega, rfl⟩
 | succ d ihd =>
  intro I oa l c h hl b p hp hb hd L
  simp only [kT, bT] at hp hb ⊢
  have hbp := Aa0 d
  refine Aj (by simp) ?_; refine Se rfl (Oa rfl (Aa (Ab (Se rfl (Om rfl (Oc rfl rfl rfl (Om rfl ?_)))))))
  first | refine Aa7 rfl rfl (by omega) ?_ | refine Aa6 rfl rfl (by omega) ?_
  refine Ow rfl ?_; refine B6 rfl (.met rfl rfl) rfl (Dh h hl b p 2 (by omega) (by decide) L) ?_; rintro _ _ _ _ ⟨r, rfl, rfl, rfl, hr⟩; refine C7 rfl rfl rfl (.met rfl rfl) rfl ?_; refine Of rfl rfl (Aa ?_); refine Si rfl ?_ ?_
  ·intro c0; refine Se rfl (Oa rfl (Aa (Ag (.tmp rfl .nil) ?_)))
   exact ⟨I, _, .refl _, fun _ h => h, [105], p + 1, rfl, by simp; omega, by omega, by omega, rfl⟩
  intro c0; refine Af (Se rfl (Om rfl ?_)); refine Ol rfl rfl ?_; intro b13; refine Dw [[62], [42]] (by decide) (by decide) ?_; intro J e1 k1; refine Ca rfl (Ei (h.mono e1) hl b (p + 1) (by omega) k1 (by simp) L) ?_; rintro _ _ _ _ ⟨s, rfl, hs, rfl, rfl⟩
  have hsl : s.length = 1 := by revert s; decide
  refine Ok rfl rfl ?_; refine Ok rfl rfl ?_; refine Om rfl (Om rfl ?_); refine Or rfl rfl rfl ?_; refine F1 (t := 19) (v' := .int .i64 (d : Nat)) rfl (by congr 1; omega) ?_; refine Ca rfl (ihd (h.mono e1) hl b (p + 1 + 1) (by omega) (by omega) (by omega) L) ?_; rintro _ J2 _ e2 ⟨s1, p1, rfl, hs1, hp1, hp2, rfl⟩; refine Ok rfl rfl ?_; refine Ok rfl rfl ?_; refine Om rfl (Om rfl ?_); refine Or rfl rfl rfl ?_; refine F1 (t := 25) (v' := .int .i64 (d : Nat)) rfl (by congr 1; omega) ?_; refine Ca rfl (ihd ((h.mono e1).mono e2) hl b p1 (by omega) (by omega) (by omega) L) ?_
  rintro _ J3 _ e3 ⟨s2, p2, rfl, hs2, hp3, hp4, rfl⟩; refine Ok rfl rfl ?_; refine Ok rfl rfl ?_; refine Oa rfl (Aa (Ag (.tmp rfl .nil) ?_))
  exact ⟨J3, _, (e1.trans e2).trans e3, fun _ h => h, _, p2, rfl, by simp; omega, by omega, by omega, rfl⟩
def Iy (n : Nat) : Am := if n < 10 then [UInt8.ofNat (48 + n)] else Iy (n / 10) ++ [UInt8.ofNat (48 + n % 10)]
theorem Ft {n : Nat} (h : n < 10) : Iy n = [UInt8.ofNat (48 + n)] := by rw [Iy, if_pos h]
theorem G3 {n : Nat} (h : ¬ n < 10) : Iy n = Iy (n / 10) ++ [UInt8.ofNat (48 + n % 10)] := by rw [Iy, if_neg h]
section rules
variable {P : Program} {f : FuncId} {n : Nat} {I₀ : Heap} {Q : C3} {k : List Item} {E : Gj} {I : Heap} {L : Bc}
variable {ops : Array Oper} {d : Nat} {ty : TypeId} {pos : String} {af : Array Edge} {g : Option (Nat × Bool)} {l : List Oper}
theorem Aan {m : Int} (h : 0 ≤ m ∧ m < 256) : IntKind.u8.wrap m = m := by
 simp [IntKind.wrap, IntKind.bits, IntKind.signed]; omega
theorem Rs {S : World → Prop} {src dst sz bb sz2 bb2 : Nat} {z z2 : List Value} [hs : Aq P src (.int .i64) sz bb z] [hd : Aq P dst (.int .u8) sz2 bb2 z2] {x : Operand} {a : Nat} (hx : Bo E x = some (.int .i64 (a : Nat))) (ha : a < 256) :
  G1 P E S ⟨some d, .convert src dst x, ty, pos, af, g⟩ (.int .u8 (a : Nat)) := fun ac w he _ => by
 simp only [execOp, he.eval hx]
 refine Ad (a := .int .u8 (a : Nat)) (w' := w) ?_ |>.trans rfl
 unfold convert
 rw [Ad (Ay hs.und w), Ad (Ay hd.und w)]
 simp only [Conv.intToInt]
 rw [Aan (by omega)]
 rfl
theorem Xf {src dst sz bb sz2 bb2 : Nat} {z z2 : List Value} [hs : Aq P src (.int .i64) sz bb z] [hd : Aq P dst (.int .u8) sz2 bb2 z2] {x : Operand} {a : Nat} (hx : Bo E x = some (.int .i64 (a : Nat))) (ha : a < 256) (hg : Wants ops E g) (hdn : Nat.blt d n = true)
  (h : A6 P f n I₀ Q ops l k ((d, .int .u8 (a : Nat)) :: E) I L) : A6 P f n I₀ Q ops (⟨some d, .convert src dst x, ty, pos, af, g⟩ :: l) k E I L := D7 (Rs hx ha) hg hdn h
theorem K9 {src dst e sz bb sz2 bb2 sz3 bb3 : Nat} {z z2 z3 : List Value} [hs : Aq P src (.slice e) sz bb z] [he : Aq P e (.int .u8) sz3 bb3 z3] [hd : Aq P dst .string sz2 bb2 z2] {x : Operand} {ad : Addr} {c a : Nat} (hx : Bo E x = some (.slice (some ad) 1 c)) (hr : F5 I L ad [.int .u8 (a : Nat)]) :
  G1 P E (Mem I L) ⟨some d, .convert src dst x, ty, pos, af, g⟩ (.string (str [UInt8.ofNat a])) := fun ac w he' hm => by
 simp only [execOp, he'.eval hx]
 refine Ad (a := .string (str [UInt8.ofNat a])) (w' := w) ?_ |>.trans rfl
 unfold convert
 rw [Ad (Ay hs.und w), Ad (Ay hd.und w)]
 simp only []
 rw [Ad (Ay he.und w)]
 simp only [Conv.bytesToString]
 have hl : (loadCells ad 1).run P w = .ok [Value.int .u8 (a : Nat)].toArray w := I6 [.int .u8 (a : Nat)] (hr w hm)
 rw [Ad hl]
 rfl
end rules
theorem Ou {n : Nat} (h : n ≤ 1000000000) : (Iy n).length ≤ 12 := by
 have key : ∀ (k m : Nat), m < 10 ^ (k + 1) → (Iy m).length ≤ k + 1 := by
  intro k
  induction k with
  | zero => intro m hm; rw [Ft (by omega)]; simp
  | succ k ih =>
   intro m hm
   by_cases h1 : m < 10
   ·rw [Ft h1]; simp
   ·rw [G3 h1, List.length_append]
    have := ih (m / 10) (by rw [Nat.pow_succ] at hm; omega)
    simp only [List.length_cons, List.length_nil]; omega
 exact Nat.le_trans (key 10 n (by omega)) (by decide)
theorem Sc : ∀ (k n : Nat) (_ : n < k) (_ : n ≤ 1000000000) (I : Heap) (L : Bc), Fun Tryz.prog 118 [.int .i64 (n : Nat)] I L (D1 (.string (str (Iy n))) I L) := by
 intro k
 induction k with
 | zero => intro n h; omega
 | succ k ihk =>
  intro n hlt hn I L; refine Aj (by simp) ?_; refine Se rfl (Oa rfl (Aa (Ab (Se rfl (Om rfl (Oc rfl rfl rfl (Aa ?_)))))))
  first | refine Sf rfl (by omega) ?_ | refine A8 (by simp [Bu, Bo, *]) ?_
  refine Af (Ab (Se rfl (Om rfl (Oc rfl rfl rfl (Aa ?_)))))
  first | refine Sf rfl (by omega) ?_ | refine A8 (by simp [Bu, Bo, *]) ?_
  refine Af (Ab (Se rfl (Om rfl (Oc rfl rfl rfl (Aa ?_))))); refine Av rfl ?_ ?_
  ·intro c2
   try simp only [nb] at c2
   refine Ab ?_
   have h10 : n < 10 := by omega
   refine Ah rfl (Om rfl ?_); refine Or rfl rfl rfl ?_; refine F1 (t := 14) (v' := .int .i64 ((48 + n : Nat))) rfl (by congr 1) ?_; refine Xf rfl (by omega) .free rfl ?_; refine Ol rfl rfl ?_; intro b16; refine D7 (K9 rfl (B0 (by repeat first | exact .head _ | apply List.Mem.tail | apply List.mem_append_right) (by rfl))) .free rfl ?_; refine Oa rfl (Aa (Ag (.tmp rfl .nil) ?_)); refine only rfl ?_; rw [Ft h10]; rfl
  intro c2
  try simp only [nb] at c2
  refine Af (Ab ?_)
  have h10 : ¬ n < 10 := by omega
  obtain ⟨q, hq, hq2⟩ : ∃ q, q = n / 10 ∧ q < n := ⟨_, rfl, by omega⟩; obtain ⟨r, hr, hr2⟩ : ∃ r, r = n % 10 ∧ r < 10 := ⟨_, rfl, Nat.mod_lt _ (by omega)⟩
  have hdl := Ou (n := q) (by omega)
  refine Do 11 rfl rfl ?_; refine Da 0 rfl (Ac rfl) ?_; refine Da 1 rfl (Z1 (b := 10) rfl rfl (by omega) (by omega)) ?_; refine E6 (t := 19) (v' := .int .i64 (q : Nat)) rfl (by rw [hq]) ?_; refine Da 3 rfl (Ac rfl) ?_; refine Da 4 rfl (Wm (b := 10) rfl rfl (by omega)) ?_; refine E6 (t := 22) (v' := .int .i64 (r : Nat)) rfl (by rw [hr]) ?_; refine Da 5 rfl (G6 rfl rfl rfl (by omega)) ?_; refine E6 (t := 23) (v' := .int .i64 ((48 + r : Nat))) rfl (by congr 1) ?_; refine Da 6 rfl (Rs rfl (by omega)) ?_; refine E7 2 7 (by kernel_rfl) ?_ ?_
  ·skip
   refine M4 2 rfl rfl rfl .free rfl (ihk q (by omega) (by omega) _ _) ?_; rintro _ _ _ _ ⟨rfl, rfl, rfl⟩; refine Hx ?_; refine C6 7 rfl (by kernel_rfl) rfl rfl rfl (by rfl) (by rfl) (by rfl) (by decide) (by decide) (by rfl) .free rfl (.inr Al) ?_; intro b25; refine Pc 8 rfl (by kernel_rfl) rfl (K9 rfl (B0 (by repeat first | exact .head _ | apply List.Mem.tail | apply List.mem_append_right) (by rfl))) .free rfl (.inr Al) ?_; refine Da 9 rfl (Yk rfl rfl) ?_; refine Da 10 rfl (Bh rfl) ?_; refine Au (by kernel_rfl) ?_; refine Ag (.tmp rfl .nil) ?_; refine only rfl ?_; rw [G3 h10, ← hq, ← hr]; rfl
  ·skip
   refine D0 7 rfl rfl rfl rfl (by rfl) (by rfl) (by rfl) (by decide) (by decide) (by rfl) .free rfl (.inr Al) ?_; intro b25; refine E7 2 8 (by kernel_rfl) ?_ ?_
   ·skip
    refine M4 2 rfl rfl rfl .free rfl (ihk q (by omega) (by omega) _ _) ?_; rintro _ _ _ _ ⟨rfl, rfl, rfl⟩; refine Hx ?_; refine Pc 8 rfl (by kernel_rfl) rfl (K9 rfl (B0 (by repeat first | exact .head _ | apply List.Mem.tail | apply List.mem_append_right) (by rfl))) .free rfl (.inr Al) ?_; refine Da 9 rfl (Yk rfl rfl) ?_; refine Da 10 rfl (Bh rfl) ?_; refine Au (by kernel_rfl) ?_; refine Ag (.tmp rfl .nil) ?_; refine only rfl ?_; rw [G3 h10, ← hq, ← hr]; rfl
   ·skip
    refine Nx 8 rfl rfl (K9 rfl (B0 (by repeat first | exact .head _ | apply List.Mem.tail | apply List.mem_append_right) (by rfl))) .free rfl (.inr Al) ?_; refine Dc 2 rfl rfl (ihk q (by omega) (by omega) _ _) ?_; rintro _ _ _ _ ⟨rfl, rfl, rfl⟩; refine Hx ?_; refine Da 9 rfl (Yk rfl rfl) ?_; refine Da 10 rfl (Bh rfl) ?_; refine Au (by kernel_rfl) ?_; refine Ag (.tmp rfl .nil) ?_; refine only rfl ?_; rw [G3 h10, ← hq, ← hr]; rfl
def Ex.value : Ex → Bool
 | .num _ => true
 | .fn _ _ _ _ _ => true
 | .bin .pair a b => a.value && b.value
 | _ => false
def Ex.print : Ex → Tree
 | .bin .pair a b => .node [] [.node D2 [], a.print, b.print]
 | .fn _ _ _ _ _ => .node Cq []
 | e => e.tree
theorem Xj (a b : Tree) : (Tree.node [] [.node D2 [], a, b]).text = [40, 112, 97, 105, 114, 32] ++ a.text ++ [32] ++ b.text ++ [41] := by
 simp [Tree.text, Fj, D2]
def S5 (s : Am) : Option Ex := match I8 s with
 | some e => if e.value = true then some e else none
 | none => none
def Ab4 (s : Am) : Option Am := (S5 s).map fun e => e.print.text
def Ty.sample : Ty → Ex
 | .i => .num [48]
 | .pr a b => .bin .pair a.sample b.sample
 | .fn a b => .fn [102] [120] a b b.sample
theorem Ty.sample_ok : ∀ {t : Ty}, t.size ≤ 16 → t.sample.ok = true
 | .i, _ => by decide
 | .pr a b, h => by
  simp only [Ty.size] at h
  simp only [Ty.sample, Ex.ok, Bool.and_eq_true]
  exact ⟨Ty.sample_ok (by omega), Ty.sample_ok (by omega)⟩
 | .fn a b, h => by
  simp only [Ty.size] at h
  simp only [Ty.sample, Ex.ok, Bool.and_eq_true, decide_eq_true_eq]
  exact ⟨⟨⟨⟨⟨by decide, by decide⟩, by decide⟩, by omega⟩, by omega⟩, Ty.sample_ok (by omega)⟩
theorem Ty.sample_len : ∀ {t : Ty}, t.size ≤ 16 → t.sample.tree.len ≤ 200 * t.size
 | .i, _ => by decide
 | .pr a b, h => by
  simp only [Ty.size] at h ⊢
  have h1 := Ty.sample_len (t := a) (by omega)
  have h2 := Ty.sample_len (t := b) (by omega)
  simp only [Ty.sample, Ex.tree, Tree.len, Fl, List.isEmpty_cons, cond_false, List.isEmpty_nil, cond_true, B5.txt, D2, List.length_cons, List.length_nil]
  omega
 | .fn a b, h => by
  simp only [Ty.size] at h ⊢
  have h2 := Ty.sample_len (t := b) (by omega)
  have h3 := a.tree_small
  have h4 := b.tree_small
  simp only [Ty.sample, Ex.tree, Tree.len, Fl, List.isEmpty_cons, cond_false, List.isEmpty_nil, cond_true, Cq, List.length_cons, List.length_nil]
  omega
theorem Ty.sample_chk : ∀ {t : Ty} {l : List Am} {m : List Ty}, t.size ≤ 16 → t.sample.chk l m = .ok t
 | .i, l, m, _ => rfl
 | .pr a b, l, m, h => by
  have h0 := h
  simp only [Ty.size] at h
  simp only [Ty.sample, Ex.chk, Ty.sample_chk (t := a) (l := l) (m := m) (by omega), Ty.sample_chk (t := b) (l := l) (m := m) (by omega), B5.ty, if_pos h0]
 | .fn a b, l, m, h => by
  have h0 := h
  simp only [Ty.size] at h
  simp only [Ty.sample, Ex.chk, if_pos h0, Ty.sample_chk (t := b) (by omega), if_true]
theorem Ty.sample_value : ∀ t : Ty, t.sample.value = true
 | .i => rfl
 | .pr a b => by simp [Ty.sample, Ex.value, a.sample_value, b.sample_value]
 | .fn a b => rfl
def Ex.txt (e : Ex) : Am := e.tree.text
theorem Ty.sample_textlen {t : Ty} (h : t.size ≤ 16) : t.sample.tree.text.length ≤ 3200 := by
 have := Ty.sample_len h; rw [Tree.text_len]; omega
theorem Yc (f x : Am) (s t : Ty) (b : Ex) : (Ex.fn f x s t b).tree.text = [40, 102, 117, 110, 32] ++ f ++ [32] ++ x ++ [32] ++ s.tree.text ++ [32] ++ t.tree.text ++ [32] ++ b.tree.text ++ [41] := by
 simp [Ex.tree, Tree.text, Fj, Cq]
def Ob (s : Am) : Option Am := match J7 s with
 | some t => if t.sample.fine = true then some t.sample.tree.text else none
 | none => none
theorem Nc {s : Am} (h : J7 s = none) : Ob s = none := by unfold Ob; rw [h]
theorem Nd {s : Am} {t : Ty} (h : J7 s = some t) : Ob s = if t.sample.fine = true then some t.sample.tree.text else none := by unfold Ob; rw [h]
theorem Zf {s o : Am} (h : Ob s = some o) : ∃ t, J7 s = some t ∧ s = t.tree.text ∧ Ea o = some t.sample ∧ I8 o = some t.sample ∧ tyC o = some t ∧ (S5 o).isSome = true ∧ o.length ≤ 3200 := by
 cases ht : J7 s with
 | none => rw [Nc ht] at h; cases h
 | some t =>
  rw [Nd ht] at h; obtain ⟨h1, h2, h3⟩ := Rp ht
  split at h
  ·rename_i hf
   cases h
   have hx := Ja (Ty.sample_ok h2)
   rw [if_pos hf] at hx
   have hty : t.sample.ty [] [] = some t := by unfold Ex.ty; rw [Ty.sample_chk h2]
   have hc : I8 t.sample.tree.text = some t.sample := by
    unfold I8; rw [hx]; simp [Ex.ty_closed hty]
   refine ⟨t, rfl, h3, hx, hc, ?_, ?_, Ty.sample_textlen h2⟩
   ·unfold tyC; rw [hx]; exact hty
   ·unfold S5; rw [hc]; simp [t.sample_value]
  ·cases h
theorem Yl : ∀ (n : Nat) {I : Heap} {t : Ty} {cs : List Value} (_ : SizeOf.sizeOf t < n) (_ : Rep I t.tree cs) (_ : t.size ≤ 16) (L : Bc), Fun Tryz.prog 128 [.agg cs.toArray] I L (D1 (.string (str t.sample.tree.text)) I L) := by
 intro n
 induction n with
 | zero => intro I t cs h; omega
 | succ n ihn =>
  intro I t cs hlt h hsz L; obtain ⟨oc, cc, oaf, cf, rfl, hf⟩ := h.at'
  have hg := t.tree_good.1
  have hfn := hf.nil
  refine Aj (by simp) ?_; refine Se rfl ?_; refine Cc rfl rfl .free rfl ?_; intro b1; refine Oa rfl (Aa (Ab (Se rfl (Oh rfl ?_)))); refine Bg rfl .free rfl ?_; refine Od rfl rfl rfl (Aa ?_); refine Av rfl ?_ ?_
  ·intro c0
   try simp only [nb] at c0
   refine Se rfl (Oa rfl (Aa (Ag (.tmp rfl .nil) ?_))); refine only rfl ?_
   cases t with
   | i => rfl
   | fn a b => exact absurd rfl c0
   | pr a b => exact absurd rfl c0
  intro c0
  try simp only [nb] at c0
  have hpl : t.tree.parts.length = 3 := by
   cases t with
   | i => exact absurd c0 (by decide)
   | fn a b => rfl
   | pr a b => rfl
  have hhd := Gg (t := t.tree) (by omega)
  refine Af (Ab (Se rfl (Oh rfl ?_))); refine Bg rfl .free rfl ?_
  first | refine Bi rfl rfl 0 rfl .free rfl ?_ | refine Bj rfl rfl 0 rfl .free rfl ?_
  refine A3 rfl .free rfl ?_; refine Es rfl .free rfl ?_; refine Od rfl rfl rfl (Aa ?_); refine Av rfl ?_ ?_
  ·intro c1
   try simp only [nb] at c1
   obtain ⟨a, b, rfl⟩ : ∃ a b, t = .pr a b := by
    cases t with
    | i => exact absurd c0 (by decide)
    | pr a b => exact ⟨a, b, rfl⟩
    | fn a b => exact absurd (show ([62] : Am) = [42] from c1) (by decide)
   simp only [Ty.pr.sizeOf_spec] at hlt
   simp only [Ty.size] at hsz
   have ha16 : a.size ≤ 16 := by omega
   have hb16 : b.size ≤ 16 := by omega
   have hl1 := Ty.sample_textlen ha16
   have hl2 := Ty.sample_textlen hb16
   refine Ab ?_; refine Do 15 rfl rfl ?_; refine Da 0 rfl (Ae rfl) ?_; refine Dt 1 [15] rfl (A7 rfl) ?_
   first | refine Da 2 rfl (A4 rfl rfl 1 rfl) ?_ | refine Da 2 rfl (A5 rfl rfl 1 rfl) ?_
   refine Dt 3 [15] rfl (Bz rfl) ?_; refine Da 7 rfl (Ae rfl) ?_; refine Dt 8 [15] rfl (A7 rfl) ?_
   first | refine Da 9 rfl (A4 rfl rfl 2 rfl) ?_ | refine Da 9 rfl (A5 rfl rfl 2 rfl) ?_
   refine Dt 10 [15] rfl (Bz rfl) ?_; refine Dc 4 rfl rfl (ihn (t := a) (by omega) (hf.as 1 a.tree (by omega) rfl) ha16 _) ?_; rintro _ _ _ _ ⟨rfl, rfl, rfl⟩; refine Hx ?_; refine Da 5 rfl (Yk rfl rfl) ?_; refine Da 6 rfl (Yk rfl rfl) ?_; refine Dc 11 rfl rfl (ihn (t := b) (by omega) (hf.as 2 b.tree (by omega) rfl) hb16 _) ?_; rintro _ _ _ _ ⟨rfl, rfl, rfl⟩; refine Hx ?_; refine Da 12 rfl (Yk rfl rfl) ?_; refine Da 13 rfl (Yk rfl rfl) ?_; refine Da 14 rfl (Bh rfl) ?_; refine Au (by kernel_rfl) ?_; refine Ag (.tmp rfl .nil) ?_; refine only rfl ?_
   have := Xj a.sample.tree b.sample.tree
   rw [show (Ty.pr a b).sample.tree.text = _ from this]; rfl
  intro c1
  try simp only [nb] at c1
  obtain ⟨a, b, rfl⟩ : ∃ a b, t = .fn a b := by
   cases t with
   | i => exact absurd c0 (by decide)
   | fn a b => exact ⟨a, b, rfl⟩
   | pr a b => exact absurd rfl c1
  simp only [Ty.fn.sizeOf_spec] at hlt
  simp only [Ty.size] at hsz
  have ha16 : a.size ≤ 16 := by omega
  have hb16 : b.size ≤ 16 := by omega
  have hl1 := Ty.text_len ha16
  have hl2 := Ty.text_len hb16
  have hl3 := Ty.sample_textlen hb16
  have hs1 := a.tree_small
  have hs2 := b.tree_small
  refine Af (Ab ?_); refine Do 22 rfl rfl ?_; refine Da 0 rfl (Ae rfl) ?_; refine Dt 1 [22] rfl (A7 rfl) ?_
  first | refine Da 2 rfl (A4 rfl rfl 1 rfl) ?_ | refine Da 2 rfl (A5 rfl rfl 1 rfl) ?_
  refine Dt 3 [22] rfl (Bz rfl) ?_; refine Da 7 rfl (Ae rfl) ?_; refine Dt 8 [22] rfl (A7 rfl) ?_
  first | refine Da 9 rfl (A4 rfl rfl 2 rfl) ?_ | refine Da 9 rfl (A5 rfl rfl 2 rfl) ?_
  refine Dt 10 [22] rfl (Bz rfl) ?_; refine Da 14 rfl (Ae rfl) ?_; refine Dt 15 [22] rfl (A7 rfl) ?_
  first | refine Da 16 rfl (A4 rfl rfl 2 rfl) ?_ | refine Da 16 rfl (A5 rfl rfl 2 rfl) ?_
  refine Dt 17 [22] rfl (Bz rfl) ?_; refine Dc 4 rfl rfl (H7 (t := a.tree) _ (Nat.lt_succ_self _) (hf.as 1 a.tree (by omega) rfl) a.tree_good.1 (by omega) _) ?_; rintro _ _ _ _ ⟨rfl, rfl, rfl⟩; refine Hx ?_; refine Da 5 rfl (Yk rfl rfl) ?_; refine Da 6 rfl (Yk rfl rfl) ?_; refine Dc 11 rfl rfl (H7 (t := b.tree) _ (Nat.lt_succ_self _) (hf.as 2 b.tree (by omega) rfl) b.tree_good.1 (by omega) _) ?_; rintro _ _ _ _ ⟨rfl, rfl, rfl⟩; refine Hx ?_; refine Da 12 rfl (Yk rfl rfl) ?_; refine Da 13 rfl (Yk rfl rfl) ?_
  refine Dc 18 rfl rfl (ihn (t := b) (by omega) (hf.as 2 b.tree (by omega) rfl) hb16 _) ?_; rintro _ _ _ _ ⟨rfl, rfl, rfl⟩; refine Hx ?_; refine Da 19 rfl (Yk rfl rfl) ?_; refine Da 20 rfl (Yk rfl rfl) ?_; refine Da 21 rfl (Bh rfl) ?_; refine Au (by kernel_rfl) ?_; refine Ag (.tmp rfl .nil) ?_; refine only rfl ?_
  have := Yc [102] [120] a b b.sample
  rw [show (Ty.fn a b).sample.tree.text = _ from this]; rfl
def smp (t : Tree) : Ex := (t.ty.getD .i).sample
theorem Mn (a : Ty) : smp a.tree = a.sample := by unfold smp; rw [a.tree_ty]; rfl
theorem Aac {I : Heap} {t : Tree} {cs : List Value} (h : Rep I t cs) (ht : ∃ a : Ty, t = a.tree ∧ a.size ≤ 16) (L : Bc) : Fun Tryz.prog 128 [.agg cs.toArray] I L (D1 (.string (str (smp t).tree.text)) I L) := by
 obtain ⟨a, rfl, h1⟩ := ht; rw [Mn]
 exact Yl _ (Nat.lt_succ_self _) h h1 L
theorem Tz (s : Am) (hs : s.length ≤ Ap) (I : Heap) (L : Bc) : Fun Tryz.prog 116 [.string (str s)] I L (EL (Ob s) L) := by
 refine Aj (by simp) ?_; refine Se rfl (Oa rfl (Oa rfl (Aa (Se rfl (Om rfl ?_))))); refine Ca rfl (Q5 s hs _ _) ?_; rintro _ J _ e1 ⟨t, cs, ok, rfl, hrep, rfl, hpf⟩; obtain ⟨o1, k1, _, rfl, -⟩ := hrep.open
 have hty := Ro hpf
 refine Om rfl (Oe rfl rfl (Oe rfl rfl ?_)); refine At .free rfl ?_; intro b4; refine Bp rfl rfl rfl rfl .free ?_; refine Oa rfl (Aa (Ab (Se rfl (Om rfl ?_)))); refine Dy rfl .free rfl ?_; refine Om rfl ?_
 apply Fw 13 17 rfl
 ·intro g2_3 hk
  try simp only [nb] at g2_3
  have hp := E5 (G2 hpf g2_3)
  refine Aw rfl (.met rfl rfl) rfl ?_; refine B6 rfl (.met rfl rfl) rfl (K1 hrep hp.1 (Tree.size_maxN hp.2.1) _) ?_; rintro _ _ _ _ ⟨rfl, rfl, rfl⟩; refine Dy rfl (.met rfl rfl) rfl ?_; refine Of rfl rfl ?_
  exact A0 3 rfl rfl hk
 ·intro _ hk; refine A9 3 rfl ?_; refine Ot rfl rfl ?_
  exact A0 3 rfl rfl hk
 refine Om rfl ?_
 apply Fw 18 23 rfl
 ·intro g2_8 hk
  try simp only [nb] at g2_8
  obtain ⟨a, ha, hta, hsz⟩ := hty.1 g2_8.1 g2_8.2
  have hl : (smp t).tree.text.length ≤ 3200 := by rw [hta, Mn]; exact Ty.sample_textlen hsz
  refine Aw rfl (.met rfl rfl) rfl ?_; refine B6 rfl (.met rfl rfl) rfl (Aac hrep ⟨a, hta, hsz⟩ _) ?_; rintro _ _ _ _ ⟨rfl, rfl, rfl⟩; refine B6 rfl (.met rfl rfl) rfl (Km _ (by unfold Ap; omega) _ _) ?_; rintro _ _ _ _ ⟨rfl, rfl, rfl⟩; refine Dy rfl (.met rfl rfl) rfl ?_; refine Of rfl rfl ?_
  exact A0 4 rfl rfl hk
 ·intro _ hk; refine A9 4 rfl ?_; refine Ot rfl rfl ?_
  exact A0 4 rfl rfl hk
 refine Aa ?_; refine Av rfl ?_ ?_
 ·intro c0
  try simp only [nb] at c0
  refine Se rfl (Oa rfl (Oa rfl (Aa ?_))); refine Ag (.tmp rfl (.tmp rfl .nil)) ?_; refine ⟨J, L, e1, Bt, ?_, rfl⟩
  have hz : Ob s = none := by
   by_cases h1 : ok = true
   ·by_cases h2 : t.typed = true
    ·obtain ⟨a, ha, hta, hsz⟩ := hty.1 h1 h2
     rcases c0 with (h | h) | h
     ·rw [h1] at h; cases h
     ·rw [h2] at h; cases h
     ·rw [hta, Mn, Ja (Ty.sample_ok hsz)] at h; rw [Nd ha]
      cases hf : a.sample.fine with
      | true => rw [hf] at h; cases h
      | false => rfl
    ·exact Nc (hty.2 (.inr (by simpa using h2)))
   ·exact Nc (hty.2 (.inl (by simpa using h1)))
  rw [hz]; rfl
 intro c0
 try simp only [nb] at c0
 obtain ⟨⟨h1, h2⟩, h3⟩ := c0; obtain ⟨a, ha, rfl, hsz⟩ := hty.1 h1 h2; refine Af (Se rfl ?_); refine Aw rfl .free rfl ?_; refine Ca rfl (Yl _ (Nat.lt_succ_self _) hrep hsz _) ?_; rintro _ _ _ _ ⟨rfl, rfl, rfl⟩; refine Oa rfl (Oa rfl (Aa ?_)); refine Ag (.tmp rfl (.tmp rfl .nil)) ?_; refine ⟨J, L, e1, Bt, ?_, rfl⟩; rw [Mn, Ja (Ty.sample_ok hsz)] at h3
 cases hf : a.sample.fine with
 | false => rw [hf] at h3; cases h3
 | true => rw [Nd ha, if_pos hf]; rfl
structure ScAt (I : Heap) (ns ts : List Am) (oa : Option Addr) (c : Nat) (ob : Option Addr) (c' : Nat) : Prop where
 names : Strs I oa ns c
 types : Strs I ob ts c'
 len : ns.length = ts.length
 nb : ∀ s ∈ ns, s.length ≤ 4
 tb : ∀ s ∈ ts, s.length ≤ 1000
theorem ScAt.mono {I I' : Heap} (hle : HLe I I') {ns ts : List Am} {oa : Option Addr} {c : Nat} {ob : Option Addr} {c' : Nat} (h : ScAt I ns ts oa c ob c') : ScAt I' ns ts oa c ob c' :=
 ⟨h.names.mono hle, h.types.mono hle, h.len, h.nb, h.tb⟩
def RSc (ns ts : List Am) (L : Bc) : C3 := fun v I' L' => ∃ oa c ob c', v = .agg [.slice oa (List.length ns) c, .slice ob (List.length ts) c'].toArray ∧ ScAt I' ns ts oa c ob c' ∧ L = L'
theorem Jc {I : Heap} {ns ts : List Am} {oa ob : Option Addr} {c c' : Nat} (h : ScAt I ns ts oa c ob c') (x k : Am) (hx : x.length ≤ 4) (hk : k.length ≤ 1000) (hn : ns.length ≤ 200) (L : Bc) :
  Fun Tryz.prog 97 [.agg [.slice oa ns.length c, .slice ob ts.length c'].toArray, .string (str x), .string (str k)] I L (RSc (ns ++ [x]) (ts ++ [k]) L) := by
 have hlen := h.len
 have hlr : HLe I I := .refl _
 have hxm : x.length ≤ Ap := by unfold Ap; omega
 have hkm : k.length ≤ Ap := by unfold Ap; omega
 refine Aj (by simp) ?_; refine Se rfl ?_; refine Cc rfl rfl .free rfl ?_; intro b3; refine At .free rfl ?_; intro b6; refine Aa (Ab ?_); refine Do 12 rfl rfl ?_; refine Da 0 rfl (Ae rfl) ?_; refine Dt 1 [11] rfl (A7 rfl) ?_; refine Da 2 rfl (Ac rfl) ?_; refine Da 5 rfl (Ae rfl) ?_; refine Dt 6 [11] rfl (A7 rfl) ?_; refine Da 7 rfl (Ac rfl) ?_; refine E7 3 8 (by kernel_rfl) ?_ ?_
 ·skip
  refine D0 3 rfl rfl rfl rfl (by rfl) (by rfl) (by rfl) (by decide) (by decide) (by rfl) .free rfl (.inr Al) ?_; intro b10; refine Ce ?_; intro hz
  have hlr := hlr.trans hz
  have h := h.mono hz
  have hk1 := Hi hz hxm
  try have hk2 := hk2.mono hz
  refine E7 4 8 (by kernel_rfl) ?_ ?_
  ·skip
   refine M4 4 rfl rfl rfl .free rfl (Jb h.names hk1 (by simp; unfold Ap; omega) _) ?_; rintro _ J2 _ e2 ⟨o3, c3', rfl, hn3, rfl⟩
   have hlr := hlr.trans e2
   have h := h.mono e2
   try have hk2 := hk2.mono e2
   refine Hx ?_; refine C6 8 rfl (by kernel_rfl) rfl rfl rfl (by rfl) (by rfl) (by rfl) (by decide) (by decide) (by rfl) .free rfl (.inr Al) ?_; intro b15; refine Ce ?_; intro hz
   have hlr := hlr.trans hz
   have h := h.mono hz
   have hk2 := Hi hz hkm
   try have hk1 := hk1.mono hz
   try have hn3 := hn3.mono hz
   refine Dc 9 rfl rfl (Jb h.types hk2 (by simp; unfold Ap; omega) _) ?_; rintro _ J3 _ e3 ⟨o4, c4', rfl, hn4, rfl⟩
   have hlr := hlr.trans e3
   have hn3 := hn3.mono e3
   refine Hx ?_; refine Da 10 rfl (G7 rfl rfl rfl) ?_; refine Dx 11 rfl rfl rfl rfl ?_; refine Au (by kernel_rfl) ?_; refine Ag (.c rfl .nil) ?_
   exact ⟨J3, L, hlr, Bt, o3, c3', o4, c4', rfl, ⟨hn3, hn4, by simp [hlen], (fun s hs => by rcases List.mem_append.1 hs with hs | hs; exact h.nb s hs; rw [List.mem_singleton.1 hs]; exact hx), (fun s hs => by rcases List.mem_append.1 hs with hs | hs; exact h.tb s hs; rw [List.mem_singleton.1 hs]; exact hk)⟩, rfl⟩
  ·skip
   refine D0 8 rfl rfl rfl rfl (by rfl) (by rfl) (by rfl) (by decide) (by decide) (by rfl) .free rfl (.inr Al) ?_; intro b15; refine Ce ?_; intro hz
   have hlr := hlr.trans hz
   have h := h.mono hz
   have hk2 := Hi hz hkm
   try have hk1 := hk1.mono hz
   try have hn3 := hn3.mono hz
   refine Dc 4 rfl rfl (Jb h.names hk1 (by simp; unfold Ap; omega) _) ?_; rintro _ J2 _ e2 ⟨o3, c3', rfl, hn3, rfl⟩
   have hlr := hlr.trans e2
   have h := h.mono e2
   try have hk2 := hk2.mono e2
   refine Hx ?_; refine Dc 9 rfl rfl (Jb h.types hk2 (by simp; unfold Ap; omega) _) ?_; rintro _ J3 _ e3 ⟨o4, c4', rfl, hn4, rfl⟩
   have hlr := hlr.trans e3
   have hn3 := hn3.mono e3
   refine Hx ?_; refine Da 10 rfl (G7 rfl rfl rfl) ?_; refine Dx 11 rfl rfl rfl rfl ?_; refine Au (by kernel_rfl) ?_; refine Ag (.c rfl .nil) ?_
   exact ⟨J3, L, hlr, Bt, o3, c3', o4, c4', rfl, ⟨hn3, hn4, by simp [hlen], (fun s hs => by rcases List.mem_append.1 hs with hs | hs; exact h.nb s hs; rw [List.mem_singleton.1 hs]; exact hx), (fun s hs => by rcases List.mem_append.1 hs with hs | hs; exact h.tb s hs; rw [List.mem_singleton.1 hs]; exact hk)⟩, rfl⟩
 ·skip
  refine D0 8 rfl rfl rfl rfl (by rfl) (by rfl) (by rfl) (by decide) (by decide) (by rfl) .free rfl (.inr Al) ?_; intro b15; refine Ce ?_; intro hz
  have hlr := hlr.trans hz
  have h := h.mono hz
  have hk2 := Hi hz hkm
  try have hk1 := hk1.mono hz
  try have hn3 := hn3.mono hz
  refine C6 3 rfl (by kernel_rfl) rfl rfl rfl (by rfl) (by rfl) (by rfl) (by decide) (by decide) (by rfl) .free rfl (.inr Al) ?_; intro b10; refine Ce ?_; intro hz
  have hlr := hlr.trans hz
  have h := h.mono hz
  have hk1 := Hi hz hxm
  try have hk2 := hk2.mono hz
  refine Dc 4 rfl rfl (Jb h.names hk1 (by simp; unfold Ap; omega) _) ?_; rintro _ J2 _ e2 ⟨o3, c3', rfl, hn3, rfl⟩
  have hlr := hlr.trans e2
  have h := h.mono e2
  try have hk2 := hk2.mono e2
  refine Hx ?_; refine Dc 9 rfl rfl (Jb h.types hk2 (by simp; unfold Ap; omega) _) ?_; rintro _ J3 _ e3 ⟨o4, c4', rfl, hn4, rfl⟩
  have hlr := hlr.trans e3
  have hn3 := hn3.mono e3
  refine Hx ?_; refine Da 10 rfl (G7 rfl rfl rfl) ?_; refine Dx 11 rfl rfl rfl rfl ?_; refine Au (by kernel_rfl) ?_; refine Ag (.c rfl .nil) ?_
  exact ⟨J3, L, hlr, Bt, o3, c3', o4, c4', rfl, ⟨hn3, hn4, by simp [hlen], (fun s hs => by rcases List.mem_append.1 hs with hs | hs; exact h.nb s hs; rw [List.mem_singleton.1 hs]; exact hx), (fun s hs => by rcases List.mem_append.1 hs with hs | hs; exact h.tb s hs; rw [List.mem_singleton.1 hs]; exact hk)⟩, rfl⟩
theorem Zx (o : Option (Ty × Ty)) (sg s : Am) (h : o = Gd sg s) : (t1 o).length ≤ 80 ∧ (t2 o).length ≤ 80 := by
 subst h
 cases h : Gd sg s with
 | none => exact ⟨by decide, by decide⟩
 | some p =>
  obtain ⟨a, b⟩ := p
  unfold Gd at h
  cases ht : J7 s with
  | none => rw [ht] at h; cases h
  | some t =>
   rw [ht] at h
   have h1 := (Rp ht).2.1
   cases t with
   | i => cases h
   | fn x y =>
    simp only at h
    split at h
    ·cases h; simp only [Ty.size] at h1
     exact ⟨Ty.text_len (t := a) (by omega), Ty.text_len (t := b) (by omega)⟩
    ·cases h
   | pr x y =>
    simp only at h
    split at h
    ·cases h; simp only [Ty.size] at h1
     exact ⟨Ty.text_len (t := a) (by omega), Ty.text_len (t := b) (by omega)⟩
    ·cases h
theorem Zg {s o : Am} (h : Ob s = some o) : o.length ≤ 3200 := by obtain ⟨_, _, _, _, _, _, _, h⟩ := Zf h; exact h
structure LFs where
 i : Nat
 fs : List Am
 b : Nat
 sp : List Value
 c : Nat
theorem M2 {I : Heap} {oa : Option Addr} {l : List UInt8} {c : Nat} (h : Bytes I oa l c) (hl : l.length ≤ 2000) (b p : Nat) (hp : p + 4 ≤ 1099511627776) {ns ts : List Am} {o1 o2 : Option Addr} {c1 c2 : Nat} (hs : ScAt I ns ts o1 c1 o2 c2) (hn : ns.length ≤ 100) (want : Am) (hw : want.length ≤ 1000) (L : Bc) :
  Fun Tryz.prog 96 [.pointer (some ⟨b, 0, none⟩), .agg [.slice o1 ns.length c1, .slice o2 ts.length c2].toArray, .string (str want)] I (rd b oa l c p :: L) (DT b oa l c p 4 3300 L) := by
 have hlen := hs.len
 have hnl := hs.names
 refine Aj (by simp) ?_; refine Se rfl ?_; refine Cc rfl rfl .free rfl ?_; intro b4; refine Oa rfl (Aa (Se rfl ?_)); refine C5 .free rfl ?_; intro b11; refine Oa rfl (Aa (Ab (Se rfl (Oa rfl (Aa (Ai ?_))))))
 refine Ct (X := LFs) (fun x => ns.length - x.i) (fun x => [(0, .pointer (some ⟨b, 0, none⟩)), (2, .string (str want)), (4, .pointer (some ⟨b4, 0, none⟩)), (6, .string (str [])), (7, .slice (some ⟨x.b, 0, none⟩) x.fs.length x.c), (8, .int .i64 (x.i : Nat))]) (fun _ => I) (fun x => (x.b, .cells (x.fs.map sv ++ x.sp).toArray 9 (0, 0)) :: (b4, .cells [.slice o1 ns.length c1, .slice o2 ts.length c2].toArray 107 (0, 0)) :: rd b oa l c p :: L) (fun x => x.i ≤ ns.length ∧ x.fs.length ≤ x.i ∧ (∀ s ∈ x.fs, s.length ≤ 4) ∧ Cy 1 x.fs.length x.c (x.fs.map sv) (some (x.b, x.sp))) ⟨0, [], b11, [], 0⟩ ⟨Nat.zero_le _, Nat.zero_le _, (fun _ h => by cases h), ⟨rfl, Nat.le_refl _, rfl⟩⟩ ⟨rfl, rfl, rfl, rfl, rfl, rfl, trivial⟩ (by intro _ h; exact h) ?_
 rintro ⟨i, fs, bb, sp, cb⟩ ⟨hi, hfi, hfs, hB⟩ ih
 simp only at hi hfi hfs hB ih ⊢
 refine Ab (Se rfl (Om rfl (Oh rfl ?_))); refine Bg rfl .free rfl ?_; refine On rfl (Oc rfl rfl rfl (Aa ?_)); refine Av rfl ?_ ?_
 ·intro c0
  try simp only [nb] at c0
  have hi1 : i < ns.length := by omega
  have hel : (ns.getD i []).length ≤ 4 := hs.nb _ (by rw [show ns.getD i [] = ns[i] by simp [hi1]]; exact List.getElem_mem _)
  have hle0 : HLe I I := .refl _
  refine Af (Ab (Ai (Ab ?_))); refine Do 12 rfl rfl ?_; refine Da 0 rfl (Ae rfl) ?_; refine Dt 1 [12] rfl (A7 rfl) ?_; refine Da 2 rfl (Ae rfl) ?_; refine Dt 3 [12] rfl (A7 rfl) ?_; refine Da 4 rfl (Ae rfl) ?_; refine Dt 5 [12] rfl (A7 rfl) ?_; refine Da 6 rfl (Ac rfl) ?_
  first | refine Da 7 rfl (A4 rfl rfl _ rfl) ?_ | refine Da 7 rfl (A5 rfl rfl _ rfl) ?_
  refine Dt 8 [12] rfl (Qc rfl) ?_; refine Da 10 rfl (Ac rfl) ?_; refine Dc 9 rfl rfl (Yj hs.names hs.types hlen _ _) ?_; rintro _ _ _ _ ⟨rfl, rfl, rfl⟩; refine Hx ?_; refine Da 11 rfl (J8 rfl rfl rfl) ?_; refine Au (by kernel_rfl) ?_; refine Av rfl ?_ ?_
  ·intro c1
   try simp only [nb] at c1
   refine Ah rfl (Om rfl (Oh rfl ?_)); refine Bg rfl .free rfl ?_; refine Om rfl ?_
   first | refine Bi rfl rfl _ rfl .free rfl ?_ | refine Bj rfl rfl _ rfl .free rfl ?_
   refine Dl rfl .free rfl ?_; refine Ol rfl rfl ?_; intro b37; refine D5 (B := some (bb, sp)) (xs := fs.map sv) (ys := [sv (ns.getD i [])]) (m := fs.length) (c := cb) (by intro kk; simp) (by rfl) rfl rfl hB (fun _ h => h.f1) (by rfl) (fun a ha => by cases ha; exact B0 (by repeat first | exact .head _ | apply List.Mem.tail | apply List.mem_append_right) (by rfl)) (by simp) (by rfl) (by decide) (by decide) (by omega) (by decide) .free rfl ?_; intro bq sp2 c2q hB2; rw [show fs.map sv ++ [sv (ns.getD i [])] = (fs ++ [ns.getD i []]).map sv by simp] at hB2 ⊢
   refine Oa rfl (Aa (Ak (Ah rfl (Om rfl ?_)))); refine Or rfl rfl rfl ?_; refine Oa rfl (Aa ?_)
   first
    | exact Dr (E' := [(0, .pointer (some ⟨b, 0, none⟩)), (2, .string (str want)), (4, .pointer (some ⟨b4, 0, none⟩)), (6, .string (str [])), (7, .slice (some ⟨bq, 0, none⟩) (fs ++ [ns.getD i []]).length c2q), (8, .int .i64 ((i + 1 : Nat)))]) ⟨rfl, rfl, rfl, rfl, by simp; rfl, rfl, trivial⟩ (C4 (fun w h => Mem.sub (L' := (bq, _) :: (b4, _) :: rd b oa l c p :: L) (by repeat (first | exact List.Sublist.refl _ | apply List.Sublist.cons_cons | apply List.Sublist.cons)) h) (ih ⟨i + 1, fs ++ [ns.getD i []], bq, sp2, c2q⟩ ⟨by simp only; omega, by simp; omega, (fun s hs => by rcases List.mem_append.1 hs with hs | hs; exact hfs s hs; rw [List.mem_singleton.1 hs]; exact hel), by simpa using hB2⟩ (by simp only; omega)))
    | exact Dr (E' := [(0, .pointer (some ⟨b, 0, none⟩)), (2, .string (str want)), (4, .pointer (some ⟨b4, 0, none⟩)), (6, .string (str [])), (7, .slice (some ⟨bb, 0, none⟩) fs.length cb), (8, .int .i64 ((i + 1 : Nat)))]) ⟨rfl, rfl, rfl, rfl, rfl, rfl, trivial⟩ (ih ⟨i + 1, fs, bb, sp, cb⟩ ⟨by simp only; omega, by simp only; omega, hfs, hB⟩ (by simp only; omega))
  intro c1
  try simp only [nb] at c1
  refine Af (Ak (Ah rfl (Om rfl ?_))); refine Or rfl rfl rfl ?_; refine Oa rfl (Aa ?_)
  first
   | exact Dr (E' := [(0, .pointer (some ⟨b, 0, none⟩)), (2, .string (str want)), (4, .pointer (some ⟨b4, 0, none⟩)), (6, .string (str [])), (7, .slice (some ⟨bq, 0, none⟩) (fs ++ [ns.getD i []]).length c2q), (8, .int .i64 ((i + 1 : Nat)))]) ⟨rfl, rfl, rfl, rfl, by simp; rfl, rfl, trivial⟩ (C4 (fun w h => Mem.sub (L' := (bq, _) :: (b4, _) :: rd b oa l c p :: L) (by repeat (first | exact List.Sublist.refl _ | apply List.Sublist.cons_cons | apply List.Sublist.cons)) h) (ih ⟨i + 1, fs ++ [ns.getD i []], bq, sp2, c2q⟩ ⟨by simp only; omega, by simp; omega, (fun s hs => by rcases List.mem_append.1 hs with hs | hs; exact hfs s hs; rw [List.mem_singleton.1 hs]; exact hel), by simpa using hB2⟩ (by simp only; omega)))
   | exact Dr (E' := [(0, .pointer (some ⟨b, 0, none⟩)), (2, .string (str want)), (4, .pointer (some ⟨b4, 0, none⟩)), (6, .string (str [])), (7, .slice (some ⟨bb, 0, none⟩) fs.length cb), (8, .int .i64 ((i + 1 : Nat)))]) ⟨rfl, rfl, rfl, rfl, rfl, rfl, trivial⟩ (ih ⟨i + 1, fs, bb, sp, cb⟩ ⟨by simp only; omega, by simp only; omega, hfs, hB⟩ (by simp only; omega))
 intro c0
 try simp only [nb] at c0
 refine Bq rfl ?_; refine Ab (Ab ?_); refine Ff (B := some (bb, sp)) hB rfl (by unfold Ap; omega) (fun s hs => by have := hfs s hs; unfold Ap; omega) ?_; intro J oz cz ez hbv hst
 simp only [Bd, Value.slice.injEq] at hbv
 obtain ⟨rfl, -, rfl⟩ := hbv; refine C4 (fun w h => h.f1) ?_
 have h := h.mono ez
 have hz0 := hst.nil'
 have hzl := hst.len
 refine Ah rfl (Om rfl (On rfl (Oc rfl rfl rfl (Om rfl ?_))))
 first | refine F4 rfl rfl ?_ ?_ | refine Ek rfl rfl ?_ ?_ | refine Kb rfl rfl ?_ ?_
 ·intro g7_4; refine Ow rfl ?_; refine B6 rfl (.met rfl rfl) rfl (Dh h hl b p 4 (by omega) (by decide) _) ?_; rintro _ _ _ _ ⟨r, rfl, rfl, rfl, hr⟩; refine C7 rfl rfl rfl (.met rfl rfl) rfl ?_; refine Ot rfl rfl (Aa ?_); refine Av rfl ?_ ?_
  ·intro c2
   try simp only [nb] at c2
   have hpos : 0 < fs.length := by omega
   refine Se rfl ?_
   iterate 3 refine Om rfl ?_
   refine On rfl ?_; refine Ca rfl (Dh h hl b _ fs.length (by omega) (by omega) _) ?_; rintro _ _ _ _ ⟨r2, rfl, rfl, rfl, hr2⟩
   have hr3 : r2 < fs.length := by omega
   have hfl : (fs.getD r2 []).length ≤ 4 := hfs _ (by rw [show fs.getD r2 [] = fs[r2] by simp [hr3]]; exact List.getElem_mem _)
   first | refine Bi rfl rfl _ rfl .free rfl ?_ | refine Bj rfl rfl _ rfl .free rfl ?_
   refine Dl rfl .free rfl ?_; refine Oa rfl (Aa (Ag (.tmp rfl .nil) ?_))
   exact ⟨J, _, ez, fun w h => Mem.sub (L' := rd b oa l c _ :: L) (by repeat (first | exact List.Sublist.refl _ | apply List.Sublist.cons_cons | apply List.Sublist.cons)) h, fs.getD r2 [], _, rfl, by omega, by omega, by omega, rfl⟩
  intro c2
  try simp only [nb] at c2
  refine Af (Ab (Se rfl (Om rfl (Od rfl rfl rfl (Aa ?_))))); refine Av rfl ?_ ?_
  ·intro c3
   try simp only [nb] at c3
   refine Se rfl (Om rfl ?_); refine Ol rfl rfl ?_; intro b57; refine Dw [[48], [49], [50], [51], [55], [45, 49], [52, 48, 48], [45, 57, 57, 57]] (by decide) (by decide) ?_; intro J2 e2 k2; refine Ca rfl (Ei (h.mono e2) hl b _ (by omega) k2 (by simp) _) ?_; rintro _ _ _ _ ⟨s, rfl, hs9, rfl, rfl⟩
   have hs4 : s.length ≤ 4 := by revert s; decide
   refine Oa rfl (Aa (Ag (.tmp rfl .nil) ?_))
   exact ⟨J2, _, ez.trans e2, fun w h => Mem.sub (L' := rd b oa l c _ :: L) (by repeat (first | exact List.Sublist.refl _ | apply List.Sublist.cons_cons | apply List.Sublist.cons)) h, s, _, rfl, by omega, by omega, by omega, rfl⟩
  intro c3
  try simp only [nb] at c3
  refine Af (Se rfl (Om rfl ?_)); refine Ca rfl (Tz want (by unfold Ap; omega) _ _) ?_; rintro _ J3 _ e3 ⟨rfl, rfl⟩; refine Om rfl (Oe rfl rfl (Oe rfl rfl (Oa rfl (Oa rfl (Aa (Ab (Se rfl (Om rfl ?_)))))))); refine Dy rfl .free rfl ?_; refine Aa ?_; refine Av rfl ?_ ?_
  ·intro c4
   try simp only [nb] at c4
   refine Se rfl (Oa rfl (Aa (Ag (.tmp rfl .nil) ?_)))
   exact ⟨J3, _, ez.trans e3, fun w h => Mem.sub (L' := rd b oa l c _ :: L) (by repeat (first | exact List.Sublist.refl _ | apply List.Sublist.cons_cons | apply List.Sublist.cons)) h, [48], _, rfl, by decide, by omega, by omega, rfl⟩
  intro c4
  try simp only [nb] at c4
  refine Af (Se rfl (Om rfl (Oa rfl (Aa (Ag (.tmp rfl .nil) ?_))))); refine ⟨J3, _, ez.trans e3, fun w h => Mem.sub (L' := rd b oa l c _ :: L) (by repeat (first | exact List.Sublist.refl _ | apply List.Sublist.cons_cons | apply List.Sublist.cons)) h, (Ob want).getD [], _, rfl, ?_, by omega, by omega, rfl⟩
  cases ho : Ob want with
  | none => decide
  | some o => have := Zg ho; simp only [Option.getD_some]; omega
 intro g7_4
 iterate 3 refine Ck rfl rfl rfl ?_
 refine Of rfl rfl (Aa ?_); refine A8 rfl ?_; refine Af (Ab (Se rfl (Om rfl (Od rfl rfl rfl (Aa ?_))))); refine Av rfl ?_ ?_
 ·intro c3
  try simp only [nb] at c3
  refine Se rfl (Om rfl ?_); refine Ol rfl rfl ?_; intro b57; refine Dw [[48], [49], [50], [51], [55], [45, 49], [52, 48, 48], [45, 57, 57, 57]] (by decide) (by decide) ?_; intro J2 e2 k2; refine Ca rfl (Ei (h.mono e2) hl b _ (by omega) k2 (by simp) _) ?_; rintro _ _ _ _ ⟨s, rfl, hs9, rfl, rfl⟩
  have hs4 : s.length ≤ 4 := by revert s; decide
  refine Oa rfl (Aa (Ag (.tmp rfl .nil) ?_))
  exact ⟨J2, _, ez.trans e2, fun w h => Mem.sub (L' := rd b oa l c _ :: L) (by repeat (first | exact List.Sublist.refl _ | apply List.Sublist.cons_cons | apply List.Sublist.cons)) h, s, _, rfl, by omega, by omega, by omega, rfl⟩
 intro c3
 try simp only [nb] at c3
 refine Af (Se rfl (Om rfl ?_)); refine Ca rfl (Tz want (by unfold Ap; omega) _ _) ?_; rintro _ J3 _ e3 ⟨rfl, rfl⟩; refine Om rfl (Oe rfl rfl (Oe rfl rfl (Oa rfl (Oa rfl (Aa (Ab (Se rfl (Om rfl ?_)))))))); refine Dy rfl .free rfl ?_; refine Aa ?_; refine Av rfl ?_ ?_
 ·intro c4
  try simp only [nb] at c4
  refine Se rfl (Oa rfl (Aa (Ag (.tmp rfl .nil) ?_)))
  exact ⟨J3, _, ez.trans e3, fun w h => Mem.sub (L' := rd b oa l c _ :: L) (by repeat (first | exact List.Sublist.refl _ | apply List.Sublist.cons_cons | apply List.Sublist.cons)) h, [48], _, rfl, by decide, by omega, by omega, rfl⟩
 intro c4
 try simp only [nb] at c4
 refine Af (Se rfl (Om rfl (Oa rfl (Aa (Ag (.tmp rfl .nil) ?_))))); refine ⟨J3, _, ez.trans e3, fun w h => Mem.sub (L' := rd b oa l c _ :: L) (by repeat (first | exact List.Sublist.refl _ | apply List.Sublist.cons_cons | apply List.Sublist.cons)) h, (Ob want).getD [], _, rfl, ?_, by omega, by omega, rfl⟩
 cases ho : Ob want with
 | none => decide
 | some o => have := Zg ho; simp only [Option.getD_some]; omega
theorem W2 {I : Heap} {oa : Option Addr} {l : List UInt8} {c : Nat} (h : Bytes I oa l c) (hl : l.length ≤ 2000) (b p : Nat) (hp : p + 4 ≤ 1099511627776) (L : Bc) :
  Fun Tryz.prog 98 [.pointer (some ⟨b, 0, none⟩)] I (rd b oa l c p :: L) (DT b oa l c p 4 200 L) := by
 refine Aj (by simp) ?_; refine Se rfl (Oa rfl (Aa (Se rfl (Om rfl ?_)))); refine Ol rfl rfl ?_; intro b5; refine Dw [[40, 43, 32, 120, 56, 32, 40, 99, 97, 108, 108, 32, 102, 56, 32, 40, 45, 32, 120, 56, 32, 49, 41, 41, 41], [40, 99, 97, 108, 108, 32, 102, 56, 32, 40, 45, 32, 120, 56, 32, 49, 41, 41], [40, 42, 32, 120, 56, 32, 40, 99, 97, 108, 108, 32, 102, 56, 32, 40, 45, 32, 120, 56, 32, 49, 41, 41, 41], [40, 45, 32, 48, 32, 40, 99, 97, 108, 108, 32, 102, 56, 32, 40, 45, 32, 120, 56, 32, 49, 41, 41, 41]] (by decide) (by decide) ?_; intro J1 e1 k1
 refine Ca rfl (Ei (h.mono e1) hl b _ (by omega) k1 (by simp) L) ?_; rintro _ _ _ _ ⟨s, rfl, hs, rfl, rfl⟩
 have hsl : s.length ≤ 30 := by revert s; decide
 refine Oa rfl (Aa (Se rfl (Om rfl ?_))); refine Ol rfl rfl ?_; intro b8; refine Dw [[48], [49], [53]] (by decide) (by decide) ?_; intro J2 e2 k2; refine Ca rfl (Ei ((h.mono e1).mono e2) hl b _ (by omega) k2 (by simp) L) ?_; rintro _ _ _ _ ⟨s2, rfl, hs2, rfl, rfl⟩
 have hsl2 : s2.length ≤ 1 := by revert s2; decide
 refine Ok rfl rfl ?_; refine Ok rfl rfl ?_; refine Om rfl ?_; refine Ok rfl rfl ?_; refine Ok rfl rfl ?_; refine Om rfl ?_; refine Ca rfl (Dh ((h.mono e1).mono e2) hl b _ 7 (by omega) (by decide) L) ?_; rintro _ _ _ _ ⟨r, rfl, rfl, rfl, hr⟩
 have hdl := Ou (n := r) (by omega)
 refine Ca rfl (Sc _ r (Nat.lt_succ_self _) (by omega) _ _) ?_; rintro _ _ _ _ ⟨rfl, rfl, rfl⟩; refine Ok rfl rfl ?_; refine Ok rfl rfl ?_; refine Oa rfl (Aa (Ag (.tmp rfl .nil) ?_))
 exact ⟨J2, _, e1.trans e2, fun _ h => h, _, _, rfl, (by first | omega | (simp only [List.length_append, List.length_cons, List.length_nil]; omega) | (simp; omega)), by omega, by omega, rfl⟩
def kE : Nat → Nat
 | 0 => 4
 | d + 1 => 3 * kE d + 60
def eT : Nat → Nat
 | 0 => 3300
 | d + 1 => 3 * eT d + 3000
theorem X8 : ∀ d, 3300 ≤ eT d
 | 0 => Nat.le_refl _
 | d + 1 => by have := X8 d; simp only [eT]; omega
def Tb (d : Nat) : Prop := ∀ {I : Heap} {oa : Option Addr} {l : List UInt8} {c : Nat} (_ : Bytes I oa l c) (_ : l.length ≤ 2000) (b p : Nat) (_ : p + kE d ≤ 1099511627776) {ns ts : List Am} {o1 o2 : Option Addr} {c1 c2 : Nat} (_ : ScAt I ns ts o1 c1 o2 c2) (_ : ns.length + 4 * d ≤ 100) (want : Am) (_ : want.length + 20 * d ≤ 1000) (L : Bc),
  Fun Tryz.prog 71 [.pointer (some ⟨b, 0, none⟩), .agg [.slice o1 ns.length c1, .slice o2 ts.length c2].toArray, .string (str want), .int .i64 (d : Nat)] I (rd b oa l c p :: L) (DT b oa l c p (kE d) (eT d) L)
theorem O7 {d : Nat} (ih : Tb d) (hd : d ≤ 20) (ht : eT (d + 1) ≤ 1000000000) {I : Heap} {oa : Option Addr} {l : List UInt8} {c : Nat} (h : Bytes I oa l c) (hl : l.length ≤ 2000) (b p : Nat) (hp : p + (3 * kE d + 40) ≤ 1099511627776) {ns ts : List Am} {o1 o2 : Option Addr} {c1 c2 : Nat} (hs : ScAt I ns ts o1 c1 o2 c2) (hn : ns.length + 4 * (d + 1) ≤ 100) (want : Am) (hw : want.length + 20 * (d + 1) ≤ 1000) (L : Bc) :
  Fun Tryz.prog 99 [.pointer (some ⟨b, 0, none⟩), .agg [.slice o1 ns.length c1, .slice o2 ts.length c2].toArray, .string (str want), .int .i64 ((d + 1 : Nat))] I (rd b oa l c p :: L) (DT b oa l c p (3 * kE d + 40) (3 * eT d + 3000) L) := by
 simp only [eT] at ht
 have hge := X8 d
 obtain ⟨q1, q2⟩ := Zx (Gd [42] want) [42] want rfl; obtain ⟨q3, q4⟩ := Zx (Gd [62] want) [62] want rfl
 have hle : HLe I I := .refl _
 have hlr : HLe I I := .refl _
 refine Aj (by simp) ?_; refine Se rfl ?_; refine Cc rfl rfl .free rfl ?_; intro b5; refine Oa rfl (Aa (Ab ?_)); refine C4 (fun w h => h.f1) ?_; refine Ah rfl (Om rfl ?_); refine Ca rfl (Vi want (by unfold Ap; omega) _ _) ?_; rintro _ J _ e ⟨rfl, rfl⟩
 have h := h.mono e
 have hs := hs.mono e
 have hle := hle.trans e
 have hlr := hlr.trans e
 refine Om rfl ?_
 iterate 3 refine Oe rfl rfl ?_
 iterate 3 refine Oa rfl ?_
 refine Aa (Se rfl (Om rfl ?_)); refine Ca rfl (Wx want (by unfold Ap; omega) _ _) ?_; rintro _ J _ e ⟨rfl, rfl⟩
 have h := h.mono e
 have hs := hs.mono e
 have hle := hle.trans e
 have hlr := hlr.trans e
 refine Om rfl ?_
 iterate 3 refine Oe rfl rfl ?_
 iterate 3 refine Oa rfl ?_
 refine Aa (Se rfl (Om rfl ?_)); refine Or rfl rfl rfl ?_; refine Oa rfl (Aa (Ab (Ai (Ab ?_)))); refine Hp (t := 15) (v' := .int .i64 (d : Nat)) rfl (by congr 1; omega) ?_; refine Ah rfl (Om rfl (Oa rfl (Aa ?_))); refine Av rfl ?_ ?_
 ·intro c0
  try simp only [nb] at c0
  refine Ab ?_; refine C0 fun hlr => ?_
  refine Ge 15 rfl rfl ?_; refine Da 0 rfl (Ac rfl) ?_; refine Dt 1 [15] rfl (Cd rfl) ?_; refine Da 2 rfl (Ac rfl) ?_; refine Da 3 rfl (Ac rfl) ?_; refine Da 7 rfl (Ac rfl) ?_; refine Dt 8 [15] rfl (Cd rfl) ?_; refine Da 9 rfl (Ac rfl) ?_; refine Da 10 rfl (Ac rfl) ?_; refine Dc 4 rfl rfl (ih h hl b _ (by omega) hs (by omega) _ (by first | omega | (simp only [List.length_append, List.length_cons, List.length_nil]; omega)) _) ?_; rintro _ J _ e ⟨s1, p1, rfl, hs1, hp1, hp2, rfl⟩
  have h := h.mono e
  have hs := hs.mono e
  have hle := hle.trans e
  have hlr := hlr.trans e
  refine Hx ?_; refine Da 5 rfl (Yk rfl rfl) ?_; refine Da 6 rfl (Yk rfl rfl) ?_; refine Dc 11 rfl rfl (ih h hl b _ (by omega) hs (by omega) _ (by first | omega | (simp only [List.length_append, List.length_cons, List.length_nil]; omega)) _) ?_; rintro _ J _ e ⟨s1, p1, rfl, hs1, hp1, hp2, rfl⟩
  have h := h.mono e
  have hs := hs.mono e
  have hle := hle.trans e
  have hlr := hlr.trans e
  refine Hx ?_; refine Da 12 rfl (Yk rfl rfl) ?_; refine Da 13 rfl (Yk rfl rfl) ?_; refine Da 14 rfl (Bh rfl) ?_; refine Au (by kernel_rfl) ?_; refine Ag (.tmp rfl .nil) ?_
  exact ⟨_, _, hle, fun w h => Mem.sub (L' := rd b oa l c _ :: L) (by repeat (first | exact List.Sublist.refl _ | apply List.Sublist.cons_cons | apply List.Sublist.cons)) h, _, _, rfl, (by first | omega | (simp only [List.length_append, List.length_cons, List.length_nil]; omega) | (simp; omega)), by omega, by omega, rfl⟩
 intro c0
 try simp only [nb] at c0
 refine Se rfl (Om rfl (Oa rfl (Aa ?_))); refine Av rfl ?_ ?_
 ·intro c1
  try simp only [nb] at c1
  refine Se rfl (Om rfl ?_); refine Ol rfl rfl ?_; intro b52; refine Dw [[102], [103], [102, 49]] (by decide) (by decide) ?_; intro J1 e1 k1
  have h := h.mono e1
  have hs := hs.mono e1
  have hle := hle.trans e1
  refine Ca rfl (Ei h hl b _ (by omega) k1 (by simp) _) ?_; rintro _ _ _ _ ⟨nf, rfl, hnf, rfl, rfl⟩
  have hnfl : nf.length ≤ 2 := by revert nf; decide
  refine Oa rfl (Aa (Se rfl (Om rfl ?_))); refine Ol rfl rfl ?_; intro b55; refine Dw [[120], [122], [120, 50]] (by decide) (by decide) ?_; intro J1 e1 k1
  have h := h.mono e1
  have hs := hs.mono e1
  have hle := hle.trans e1
  refine Ca rfl (Ei h hl b _ (by omega) k1 (by simp) _) ?_; rintro _ _ _ _ ⟨nx, rfl, hnx, rfl, rfl⟩
  have hnxl : nx.length ≤ 2 := by revert nx; decide
  refine Oa rfl (Aa (Se rfl ?_)); refine Aw rfl .free rfl ?_; refine Om rfl (Om rfl ?_); refine Ca rfl (Jc hs nx (t1 (Gd [62] want)) (by omega) (by omega) (by omega) _) ?_; rintro _ J2 _ e2 ⟨o3, c3, o4, c4, rfl, hs2, rfl⟩
  have h := h.mono e2
  have hs := hs.mono e2
  have hle := hle.trans e2
  refine At .free rfl ?_; intro b18; refine Bp rfl rfl rfl rfl .free ?_; refine Cz (fun w h => h.f1) ?_; refine Aa (Ab (Se rfl (Om rfl ?_))); refine Ca rfl (Dh h hl b _ 6 (by omega) (by decide) _) ?_; rintro _ _ _ _ ⟨r, rfl, rfl, rfl, hr⟩; refine Oc rfl rfl rfl (Aa ?_); refine Av rfl ?_ ?_
  ·intro c2
   try simp only [nb] at c2
   refine Ah rfl ?_; refine Aw rfl .free rfl ?_; refine Om rfl (Om rfl ?_); refine Ca rfl (Jc hs nf want (by omega) (by omega) (by omega) _) ?_; rintro _ J3 _ e3 ⟨o5, c5, o6, c6, rfl, hs3, rfl⟩
   have h := h.mono e3
   have hle := hle.trans e3
   refine Om rfl (Om rfl ?_); refine Ca rfl (Jc hs3 nx (t1 (Gd [62] want)) (by omega) (by omega) (by simp; omega) _) ?_; rintro _ J4 _ e4 ⟨o7, c7, o8, c8, rfl, hs4, rfl⟩
   have h := h.mono e4
   have hle := hle.trans e4
   refine Bp rfl rfl rfl rfl .free ?_; refine Aa (Se rfl (Om rfl ?_)); refine Ok rfl rfl ?_; refine Ok rfl rfl ?_; refine Om rfl ?_; refine Ok rfl rfl ?_; refine Ok rfl rfl ?_; refine Om rfl ?_; refine Ok rfl rfl ?_; refine Ok rfl rfl ?_; refine Om rfl ?_; refine Ok rfl rfl ?_; refine Ok rfl rfl ?_; refine Om rfl ?_; refine Aw rfl .free rfl ?_; refine Om rfl (Om rfl ?_); refine Ca rfl (by first | exact ih h hl b _ (by omega) hs4 (by simp; omega) _ (by omega) _ | exact ih h hl b _ (by omega) hs2 (by simp; omega) _ (by omega) _) ?_; rintro _ J _ e ⟨s1, p1, rfl, hs1, hp1, hp2, rfl⟩
   have h := h.mono e
   have hle := hle.trans e
   refine Ok rfl rfl ?_; refine Ok rfl rfl ?_; refine Oa rfl (Aa (Ag (.tmp rfl .nil) ?_))
   exact ⟨_, _, hle, fun w h => Mem.sub (L' := rd b oa l c _ :: L) (by repeat (first | exact List.Sublist.refl _ | apply List.Sublist.cons_cons | apply List.Sublist.cons)) h, _, _, rfl, (by first | omega | (simp only [List.length_append, List.length_cons, List.length_nil]; omega) | (simp; omega)), by omega, by omega, rfl⟩
  intro c2
  try simp only [nb] at c2
  refine Af (Se rfl (Om rfl ?_)); refine Ok rfl rfl ?_; refine Ok rfl rfl ?_; refine Om rfl ?_; refine Ok rfl rfl ?_; refine Ok rfl rfl ?_; refine Om rfl ?_; refine Ok rfl rfl ?_; refine Ok rfl rfl ?_; refine Om rfl ?_; refine Ok rfl rfl ?_; refine Ok rfl rfl ?_; refine Om rfl ?_; refine Aw rfl .free rfl ?_; refine Om rfl (Om rfl ?_); refine Ca rfl (by first | exact ih h hl b _ (by omega) hs4 (by simp; omega) _ (by omega) _ | exact ih h hl b _ (by omega) hs2 (by simp; omega) _ (by omega) _) ?_; rintro _ J _ e ⟨s1, p1, rfl, hs1, hp1, hp2, rfl⟩
  have h := h.mono e
  have hle := hle.trans e
  refine Ok rfl rfl ?_; refine Ok rfl rfl ?_; refine Oa rfl (Aa (Ag (.tmp rfl .nil) ?_))
  exact ⟨_, _, hle, fun w h => Mem.sub (L' := rd b oa l c _ :: L) (by repeat (first | exact List.Sublist.refl _ | apply List.Sublist.cons_cons | apply List.Sublist.cons)) h, _, _, rfl, (by first | omega | (simp only [List.length_append, List.length_cons, List.length_nil]; omega) | (simp; omega)), by omega, by omega, rfl⟩
 intro c1
 try simp only [nb] at c1
 refine Se rfl (Om rfl (Od rfl rfl rfl (Om rfl ?_)))
 first | refine F4 rfl rfl ?_ ?_ | refine Ek rfl rfl ?_ ?_ | refine Kb rfl rfl ?_ ?_
 ·intro g13_3; refine Ow rfl ?_; refine B6 rfl (.met rfl rfl) rfl (Dh h hl b _ 3 (by omega) (by decide) _) ?_; rintro _ _ _ _ ⟨r, rfl, rfl, rfl, hr⟩; refine C7 rfl rfl rfl (.met rfl rfl) rfl ?_; refine Ot rfl rfl (Oa rfl (Aa ?_)); refine Av rfl ?_ ?_
  ·intro c3
   try simp only [nb] at c3
   refine Ab ?_; refine C0 fun hlr => ?_
   refine Ge 18 rfl rfl ?_; refine Da 0 rfl (Ac rfl) ?_; refine Da 5 rfl (Ac rfl) ?_; refine Dt 6 [18] rfl (Cd rfl) ?_; refine Da 7 rfl (Ac rfl) ?_; refine Da 11 rfl (Ac rfl) ?_; refine Dt 12 [18] rfl (Cd rfl) ?_; refine Da 13 rfl (Ac rfl) ?_; refine C6 1 rfl (by kernel_rfl) rfl rfl rfl (by rfl) (by rfl) (by rfl) (by decide) (by decide) (by rfl) .free rfl (.inr Al) ?_; intro b99; refine Ce ?_; intro hz
   have hk := Mo (l := [[43], [45], [42]]) (b := b99) (I := J) (e := 9) (by decide) (by decide)
   have h := h.mono hz
   have hs := hs.mono hz
   have hle := hle.trans hz
   have hlr := hlr.trans hz
   refine Dc 2 rfl rfl (Ei h hl b _ (by omega) hk (by simp) _) ?_; rintro _ _ _ _ ⟨op, rfl, hop, rfl, rfl⟩
   have hopl : op.length ≤ 1 := by revert op; decide
   refine Hx ?_; refine Da 3 rfl (Yk rfl rfl) ?_; refine Da 4 rfl (Yk rfl rfl) ?_; refine Dc 8 rfl rfl (ih h hl b _ (by omega) hs (by omega) _ (by first | omega | (simp only [List.length_append, List.length_cons, List.length_nil]; omega)) _) ?_; rintro _ J _ e ⟨s1, p1, rfl, hs1, hp1, hp2, rfl⟩
   have h := h.mono e
   have hs := hs.mono e
   have hle := hle.trans e
   have hlr := hlr.trans e
   refine Hx ?_; refine Da 9 rfl (Yk rfl rfl) ?_; refine Da 10 rfl (Yk rfl rfl) ?_; refine Dc 14 rfl rfl (ih h hl b _ (by omega) hs (by omega) _ (by first | omega | (simp only [List.length_append, List.length_cons, List.length_nil]; omega)) _) ?_; rintro _ J _ e ⟨s1, p1, rfl, hs1, hp1, hp2, rfl⟩
   have h := h.mono e
   have hs := hs.mono e
   have hle := hle.trans e
   have hlr := hlr.trans e
   refine Hx ?_; refine Da 15 rfl (Yk rfl rfl) ?_; refine Da 16 rfl (Yk rfl rfl) ?_; refine Da 17 rfl (Bh rfl) ?_; refine Au (by kernel_rfl) ?_; refine Ag (.tmp rfl .nil) ?_
   exact ⟨_, _, hle, fun w h => Mem.sub (L' := rd b oa l c _ :: L) (by repeat (first | exact List.Sublist.refl _ | apply List.Sublist.cons_cons | apply List.Sublist.cons)) h, _, _, rfl, (by first | omega | (simp only [List.length_append, List.length_cons, List.length_nil]; omega) | (simp; omega)), by omega, by omega, rfl⟩
  intro c3
  try simp only [nb] at c3
  refine Af (Ak (Se rfl (Om rfl ?_))); refine Aw rfl .free rfl ?_; refine Om rfl ?_; refine Ca rfl (M2 h hl b _ (by omega) hs (by omega) want (by omega) _) ?_; rintro _ J _ e ⟨s1, p1, rfl, hs1, hp1, hp2, rfl⟩
  have hle := hle.trans e
  refine Oa rfl (Aa (Ag (.tmp rfl .nil) ?_))
  exact ⟨_, _, hle, fun w h => Mem.sub (L' := rd b oa l c _ :: L) (by repeat (first | exact List.Sublist.refl _ | apply List.Sublist.cons_cons | apply List.Sublist.cons)) h, _, _, rfl, by omega, by omega, by omega, rfl⟩
 intro g13_3
 iterate 3 refine Ck rfl rfl rfl ?_
 refine Of rfl rfl (Oa rfl (Aa ?_)); refine A8 rfl ?_; refine Af (Ak (Se rfl (Om rfl ?_))); refine Aw rfl .free rfl ?_; refine Om rfl ?_; refine Ca rfl (M2 h hl b _ (by omega) hs (by omega) want (by omega) _) ?_; rintro _ J _ e ⟨s1, p1, rfl, hs1, hp1, hp2, rfl⟩
 have hle := hle.trans e
 refine Oa rfl (Aa (Ag (.tmp rfl .nil) ?_))
 exact ⟨_, _, hle, fun w h => Mem.sub (L' := rd b oa l c _ :: L) (by repeat (first | exact List.Sublist.refl _ | apply List.Sublist.cons_cons | apply List.Sublist.cons)) h, _, _, rfl, by omega, by omega, by omega, rfl⟩
theorem Wu : Tb 0 := by
 intro I oa l c h hl b p hp ns ts o1 o2 c1 c2 hs hn want hw L; refine Aj (by simp) ?_; refine Se rfl ?_; refine Cc rfl rfl .free rfl ?_; intro b5; refine Oa rfl (Aa (Ab (Ab ?_))); refine C4 (fun w h => h.f1) ?_; refine Ah rfl (Om rfl (Oc rfl rfl rfl (Aa ?_)))
 first | refine Ji rfl (by rfl) ?_ | refine Jh rfl (by rfl) ?_ | refine Cm (by simp [Bu, Bo, *]) ?_
 refine Se rfl (Om rfl ?_); refine Aw rfl .free rfl ?_; refine Om rfl ?_; refine Ca rfl (M2 h hl b _ hp hs (by omega) want (by omega) _) ?_; rintro _ J _ e ⟨s1, p1, rfl, hs1, hp1, hp2, rfl⟩; refine Oa rfl (Aa (Ag (.tmp rfl .nil) ?_))
 exact ⟨J, _, e, fun w h => Mem.sub (L' := rd b oa l c _ :: L) (by repeat (first | exact List.Sublist.refl _ | apply List.Sublist.cons_cons | apply List.Sublist.cons)) h, _, _, rfl, hs1, hp1, hp2, rfl⟩
set_option maxHeartbeats 1000000 in
theorem Wt {d : Nat} (ih : Tb d) (hd : d ≤ 20) (ht : eT (d + 1) ≤ 1000000000) : Tb (d + 1) := by
 intro I oa l c h hl b p hp ns ts o1 o2 c1 c2 hs hn want hw L
 have ht0 := ht
 simp only [eT, kE] at ht hp ⊢
 have hge := X8 d
 have hle : HLe I I := .refl _
 have hlr : HLe I I := .refl _
 have hb1 : bT 1 = 7 := rfl
 have hk1 : kT 1 = 2 := rfl
 refine Aj (by simp) ?_; refine Se rfl ?_; refine Cc rfl rfl .free rfl ?_; intro b5; refine Oa rfl (Aa (Ab (Ab ?_))); refine C4 (fun w h => h.f1) ?_; refine Ah rfl (Om rfl (Oc rfl rfl rfl (Aa ?_)))
 first | refine Sf rfl (by omega) ?_ | refine A8 (by simp [Bu, Bo, *]) ?_
 refine Af (Se rfl (Om rfl ?_)); refine Or rfl rfl rfl ?_; refine Oa rfl (Aa (Ab (Ab ?_))); refine Hp (t := 9) (v' := .int .i64 (d : Nat)) rfl (by congr 1; omega) ?_; refine Ah rfl (Om rfl ?_); refine Ca rfl (Dh h hl b _ 12 (by omega) (by decide) _) ?_; rintro _ _ _ _ ⟨r, rfl, rfl, rfl, hr⟩; refine Aa (Ai (Se rfl (Oc rfl rfl rfl (Oa rfl (Aa ?_))))); refine Av rfl ?_ ?_
 ·intro c1
  try simp only [nb] at c1
  refine Ab ?_; refine C0 fun hlr => ?_
  refine Ge 21 rfl rfl ?_; refine Da 0 rfl (Ac rfl) ?_; refine Dt 1 [21] rfl (Cd rfl) ?_; refine Da 2 rfl (Ac rfl) ?_; refine Da 6 rfl (Ac rfl) ?_; refine Dt 7 [21] rfl (Cd rfl) ?_; refine Da 8 rfl (Ac rfl) ?_; refine Da 9 rfl (Ac rfl) ?_; refine Da 13 rfl (Ac rfl) ?_; refine Dt 14 [21] rfl (Cd rfl) ?_; refine Da 15 rfl (Ac rfl) ?_; refine Da 16 rfl (Ac rfl) ?_; refine Dc 3 rfl rfl (ih h hl b _ (by omega) hs (by omega) _ (by first | omega | (simp only [List.length_append, List.length_cons, List.length_nil]; omega)) _) ?_; rintro _ J _ e ⟨s1, p1, rfl, hs1, hp1, hp2, rfl⟩
  have h := h.mono e
  have hs := hs.mono e
  have hle := hle.trans e
  have hlr := hlr.trans e
  refine Hx ?_; refine Da 4 rfl (Yk rfl rfl) ?_; refine Da 5 rfl (Yk rfl rfl) ?_; refine Dc 10 rfl rfl (ih h hl b _ (by omega) hs (by omega) _ (by first | omega | (simp only [List.length_append, List.length_cons, List.length_nil]; omega)) _) ?_; rintro _ J _ e ⟨s1, p1, rfl, hs1, hp1, hp2, rfl⟩
  have h := h.mono e
  have hs := hs.mono e
  have hle := hle.trans e
  have hlr := hlr.trans e
  refine Hx ?_; refine Da 11 rfl (Yk rfl rfl) ?_; refine Da 12 rfl (Yk rfl rfl) ?_; refine Dc 17 rfl rfl (ih h hl b _ (by omega) hs (by omega) _ (by first | omega | (simp only [List.length_append, List.length_cons, List.length_nil]; omega)) _) ?_; rintro _ J _ e ⟨s1, p1, rfl, hs1, hp1, hp2, rfl⟩
  have h := h.mono e
  have hs := hs.mono e
  have hle := hle.trans e
  have hlr := hlr.trans e
  refine Hx ?_; refine Da 18 rfl (Yk rfl rfl) ?_; refine Da 19 rfl (Yk rfl rfl) ?_; refine Da 20 rfl (Bh rfl) ?_; refine Au (by kernel_rfl) ?_; refine Ag (.tmp rfl .nil) ?_
  exact ⟨_, _, hle, fun w h => Mem.sub (L' := rd b oa l c _ :: L) (by repeat (first | exact List.Sublist.refl _ | apply List.Sublist.cons_cons | apply List.Sublist.cons)) h, _, _, rfl, (by first | omega | (simp only [List.length_append, List.length_cons, List.length_nil]; omega) | (simp; omega)), by omega, by omega, rfl⟩
 intro c1
 try simp only [nb] at c1
 refine Ab (Se rfl (Oc rfl rfl rfl (Oa rfl (Aa ?_)))); refine Av rfl ?_ ?_
 ·intro c2
  try simp only [nb] at c2
  refine Af ?_
  first | refine St rfl (by first | assumption | omega) ?_ | refine Cm (by simp [Bu, Bo, *]) ?_
  refine Se rfl (Om rfl ?_); refine Ca rfl (Jd 1 h hl b _ (by omega) (by decide) (by decide) _) ?_; rintro _ J _ e ⟨kd, pk, rfl, hkd, hpk1, hpk2, rfl⟩
  have h := h.mono e
  have hs := hs.mono e
  have hle := hle.trans e
  have hlr := hlr.trans e
  refine Oa rfl (Aa (Se rfl (Om rfl ?_))); refine Ol rfl rfl ?_; intro b51; refine Dw [[97], [98], [99], [120, 49], [121, 48]] (by decide) (by decide) ?_; intro J1 e1 k1
  have h := h.mono e1
  have hs := hs.mono e1
  have hle := hle.trans e1
  refine Ca rfl (Ei h hl b _ (by omega) k1 (by simp) _) ?_; rintro _ _ _ _ ⟨nx, rfl, hnx, rfl, rfl⟩
  have hnxl : nx.length ≤ 2 := by revert nx; decide
  refine Oa rfl (Aa (Ab ?_)); refine C0 fun hlr => ?_
  refine Ge 21 rfl rfl ?_; refine Da 0 rfl (Ac rfl) ?_; refine Da 1 rfl (Yk rfl rfl) ?_; refine Da 2 rfl (Yk rfl rfl) ?_; refine Da 3 rfl (Ac rfl) ?_; refine Dt 4 [21] rfl (Cd rfl) ?_; refine Da 5 rfl (Ac rfl) ?_; refine Da 6 rfl (Ac rfl) ?_; refine Da 10 rfl (Ac rfl) ?_; refine Dt 11 [21] rfl (Cd rfl) ?_; refine Da 12 rfl (Ac rfl) ?_; refine Da 13 rfl (Ac rfl) ?_; refine Da 15 rfl (Ac rfl) ?_; refine Da 16 rfl (Ac rfl) ?_; refine Dc 7 rfl rfl (ih h hl b _ (by omega) hs (by omega) _ (by first | omega | (simp only [List.length_append, List.length_cons, List.length_nil]; omega)) _) ?_
  rintro _ J _ e ⟨s1, p1, rfl, hs1, hp1, hp2, rfl⟩
  have h := h.mono e
  have hs := hs.mono e
  have hle := hle.trans e
  have hlr := hlr.trans e
  refine Hx ?_; refine Da 8 rfl (Yk rfl rfl) ?_; refine Da 9 rfl (Yk rfl rfl) ?_; refine Dc 14 rfl rfl (Jc hs nx kd (by omega) (by omega) (by omega) _) ?_; rintro _ J2 _ e2 ⟨o3, c3, o4, c4, rfl, hs2, rfl⟩
  have h := h.mono e2
  have hle := hle.trans e2
  have hlr := hlr.trans e2
  refine Hx ?_; refine Dc 17 rfl rfl (ih h hl b _ (by omega) hs2 (by simp; omega) _ (by omega) _) ?_; rintro _ J _ e ⟨s1, p1, rfl, hs1, hp1, hp2, rfl⟩
  have hle := hle.trans e
  have hlr := hlr.trans e
  refine Hx ?_; refine Da 18 rfl (Yk rfl rfl) ?_; refine Da 19 rfl (Yk rfl rfl) ?_; refine Da 20 rfl (Bh rfl) ?_; refine Au (by kernel_rfl) ?_; refine Ag (.tmp rfl .nil) ?_
  exact ⟨_, _, hle, fun w h => Mem.sub (L' := rd b oa l c _ :: L) (by repeat (first | exact List.Sublist.refl _ | apply List.Sublist.cons_cons | apply List.Sublist.cons)) h, _, _, rfl, (by first | omega | (simp only [List.length_append, List.length_cons, List.length_nil]; omega) | (simp; omega)), by omega, by omega, rfl⟩
 intro c2
 try simp only [nb] at c2
 refine Ah rfl (Oc rfl rfl rfl (Oa rfl (Aa ?_))); refine Av rfl ?_ ?_
 ·intro c3
  try simp only [nb] at c3
  refine Se rfl (Om rfl ?_); refine Ca rfl (Jd 1 h hl b _ (by omega) (by decide) (by decide) _) ?_; rintro _ J _ e ⟨kd, pk, rfl, hkd, hpk1, hpk2, rfl⟩
  have h := h.mono e
  have hs := hs.mono e
  have hle := hle.trans e
  have hlr := hlr.trans e
  refine Oa rfl (Aa (Se rfl (Om rfl ?_))); refine Ol rfl rfl ?_; intro b51; refine Dw [[97], [98], [99], [120, 49], [121, 48]] (by decide) (by decide) ?_; intro J1 e1 k1
  have h := h.mono e1
  have hs := hs.mono e1
  have hle := hle.trans e1
  refine Ca rfl (Ei h hl b _ (by omega) k1 (by simp) _) ?_; rintro _ _ _ _ ⟨nx, rfl, hnx, rfl, rfl⟩
  have hnxl : nx.length ≤ 2 := by revert nx; decide
  refine Oa rfl (Aa (Ab ?_)); refine C0 fun hlr => ?_
  refine Ge 21 rfl rfl ?_; refine Da 0 rfl (Ac rfl) ?_; refine Da 1 rfl (Yk rfl rfl) ?_; refine Da 2 rfl (Yk rfl rfl) ?_; refine Da 3 rfl (Ac rfl) ?_; refine Dt 4 [21] rfl (Cd rfl) ?_; refine Da 5 rfl (Ac rfl) ?_; refine Da 6 rfl (Ac rfl) ?_; refine Da 10 rfl (Ac rfl) ?_; refine Dt 11 [21] rfl (Cd rfl) ?_; refine Da 12 rfl (Ac rfl) ?_; refine Da 13 rfl (Ac rfl) ?_; refine Da 15 rfl (Ac rfl) ?_; refine Da 16 rfl (Ac rfl) ?_; refine Dc 7 rfl rfl (ih h hl b _ (by omega) hs (by omega) _ (by first | omega | (simp only [List.length_append, List.length_cons, List.length_nil]; omega)) _) ?_
  rintro _ J _ e ⟨s1, p1, rfl, hs1, hp1, hp2, rfl⟩
  have h := h.mono e
  have hs := hs.mono e
  have hle := hle.trans e
  have hlr := hlr.trans e
  refine Hx ?_; refine Da 8 rfl (Yk rfl rfl) ?_; refine Da 9 rfl (Yk rfl rfl) ?_; refine Dc 14 rfl rfl (Jc hs nx kd (by omega) (by omega) (by omega) _) ?_; rintro _ J2 _ e2 ⟨o3, c3, o4, c4, rfl, hs2, rfl⟩
  have h := h.mono e2
  have hle := hle.trans e2
  have hlr := hlr.trans e2
  refine Hx ?_; refine Dc 17 rfl rfl (ih h hl b _ (by omega) hs2 (by simp; omega) _ (by omega) _) ?_; rintro _ J _ e ⟨s1, p1, rfl, hs1, hp1, hp2, rfl⟩
  have hle := hle.trans e
  have hlr := hlr.trans e
  refine Hx ?_; refine Da 18 rfl (Yk rfl rfl) ?_; refine Da 19 rfl (Yk rfl rfl) ?_; refine Da 20 rfl (Bh rfl) ?_; refine Au (by kernel_rfl) ?_; refine Ag (.tmp rfl .nil) ?_
  exact ⟨_, _, hle, fun w h => Mem.sub (L' := rd b oa l c _ :: L) (by repeat (first | exact List.Sublist.refl _ | apply List.Sublist.cons_cons | apply List.Sublist.cons)) h, _, _, rfl, (by first | omega | (simp only [List.length_append, List.length_cons, List.length_nil]; omega) | (simp; omega)), by omega, by omega, rfl⟩
 intro c3
 try simp only [nb] at c3
 refine Ab (Se rfl (Oc rfl rfl rfl (Oa rfl (Aa ?_)))); refine Av rfl ?_ ?_
 ·intro c4
  try simp only [nb] at c4
  refine Af ?_
  first | refine St rfl (by first | assumption | omega) ?_ | refine Cm (by simp [Bu, Bo, *]) ?_
  refine Se rfl (Om rfl ?_); refine Ca rfl (Jd 1 h hl b _ (by omega) (by decide) (by decide) _) ?_; rintro _ J _ e ⟨kd, pk, rfl, hkd, hpk1, hpk2, rfl⟩
  have h := h.mono e
  have hs := hs.mono e
  have hle := hle.trans e
  have hlr := hlr.trans e
  refine Oa rfl (Aa (Ab ?_)); refine C0 fun hlr => ?_
  refine Ge 20 rfl rfl ?_; refine Da 0 rfl (Ac rfl) ?_; refine Dt 1 [20] rfl (Cd rfl) ?_; refine Da 2 rfl (Ac rfl) ?_; refine Da 3 rfl (Yk rfl rfl) ?_; refine Da 4 rfl (Yk rfl rfl) ?_; refine Da 5 rfl (Ac rfl) ?_; refine Da 6 rfl (Yk rfl rfl) ?_; refine Da 7 rfl (Yk rfl rfl) ?_; refine Da 8 rfl (Ac rfl) ?_; refine Da 12 rfl (Ac rfl) ?_; refine Dt 13 [20] rfl (Cd rfl) ?_; refine Da 14 rfl (Ac rfl) ?_; refine Da 15 rfl (Ac rfl) ?_; refine Dc 9 rfl rfl (ih h hl b _ (by omega) hs (by omega) _ (by first | omega | (simp only [List.length_append, List.length_cons, List.length_nil]; omega)) _) ?_
  rintro _ J _ e ⟨s1, p1, rfl, hs1, hp1, hp2, rfl⟩
  have h := h.mono e
  have hs := hs.mono e
  have hle := hle.trans e
  have hlr := hlr.trans e
  refine Hx ?_; refine Da 10 rfl (Yk rfl rfl) ?_; refine Da 11 rfl (Yk rfl rfl) ?_; refine Dc 16 rfl rfl (ih h hl b _ (by omega) hs (by omega) _ (by first | omega | (simp only [List.length_append, List.length_cons, List.length_nil]; omega)) _) ?_; rintro _ J _ e ⟨s1, p1, rfl, hs1, hp1, hp2, rfl⟩
  have h := h.mono e
  have hs := hs.mono e
  have hle := hle.trans e
  have hlr := hlr.trans e
  refine Hx ?_; refine Da 17 rfl (Yk rfl rfl) ?_; refine Da 18 rfl (Yk rfl rfl) ?_; refine Da 19 rfl (Bh rfl) ?_; refine Au (by kernel_rfl) ?_; refine Ag (.tmp rfl .nil) ?_
  exact ⟨_, _, hle, fun w h => Mem.sub (L' := rd b oa l c _ :: L) (by repeat (first | exact List.Sublist.refl _ | apply List.Sublist.cons_cons | apply List.Sublist.cons)) h, _, _, rfl, (by first | omega | (simp only [List.length_append, List.length_cons, List.length_nil]; omega) | (simp; omega)), by omega, by omega, rfl⟩
 intro c4
 try simp only [nb] at c4
 refine Ah rfl (Oc rfl rfl rfl (Oa rfl (Aa ?_))); refine Av rfl ?_ ?_
 ·intro c5
  try simp only [nb] at c5
  refine Se rfl (Om rfl ?_); refine Ca rfl (Jd 1 h hl b _ (by omega) (by decide) (by decide) _) ?_; rintro _ J _ e ⟨kd, pk, rfl, hkd, hpk1, hpk2, rfl⟩
  have h := h.mono e
  have hs := hs.mono e
  have hle := hle.trans e
  have hlr := hlr.trans e
  refine Oa rfl (Aa (Ab ?_)); refine C0 fun hlr => ?_
  refine Ge 20 rfl rfl ?_; refine Da 0 rfl (Ac rfl) ?_; refine Dt 1 [20] rfl (Cd rfl) ?_; refine Da 2 rfl (Ac rfl) ?_; refine Da 3 rfl (Yk rfl rfl) ?_; refine Da 4 rfl (Yk rfl rfl) ?_; refine Da 5 rfl (Ac rfl) ?_; refine Da 6 rfl (Yk rfl rfl) ?_; refine Da 7 rfl (Yk rfl rfl) ?_; refine Da 8 rfl (Ac rfl) ?_; refine Da 12 rfl (Ac rfl) ?_; refine Dt 13 [20] rfl (Cd rfl) ?_; refine Da 14 rfl (Ac rfl) ?_; refine Da 15 rfl (Ac rfl) ?_; refine Dc 9 rfl rfl (ih h hl b _ (by omega) hs (by omega) _ (by first | omega | (simp only [List.length_append, List.length_cons, List.length_nil]; omega)) _) ?_
  rintro _ J _ e ⟨s1, p1, rfl, hs1, hp1, hp2, rfl⟩
  have h := h.mono e
  have hs := hs.mono e
  have hle := hle.trans e
  have hlr := hlr.trans e
  refine Hx ?_; refine Da 10 rfl (Yk rfl rfl) ?_; refine Da 11 rfl (Yk rfl rfl) ?_; refine Dc 16 rfl rfl (ih h hl b _ (by omega) hs (by omega) _ (by first | omega | (simp only [List.length_append, List.length_cons, List.length_nil]; omega)) _) ?_; rintro _ J _ e ⟨s1, p1, rfl, hs1, hp1, hp2, rfl⟩
  have h := h.mono e
  have hs := hs.mono e
  have hle := hle.trans e
  have hlr := hlr.trans e
  refine Hx ?_; refine Da 17 rfl (Yk rfl rfl) ?_; refine Da 18 rfl (Yk rfl rfl) ?_; refine Da 19 rfl (Bh rfl) ?_; refine Au (by kernel_rfl) ?_; refine Ag (.tmp rfl .nil) ?_
  exact ⟨_, _, hle, fun w h => Mem.sub (L' := rd b oa l c _ :: L) (by repeat (first | exact List.Sublist.refl _ | apply List.Sublist.cons_cons | apply List.Sublist.cons)) h, _, _, rfl, (by first | omega | (simp only [List.length_append, List.length_cons, List.length_nil]; omega) | (simp; omega)), by omega, by omega, rfl⟩
 intro c5
 try simp only [nb] at c5
 refine Se rfl (Oc rfl rfl rfl (Oa rfl (Aa ?_))); refine Av rfl ?_ ?_
 ·intro c6
  try simp only [nb] at c6
  refine Se rfl (Om rfl ?_); refine Aw rfl .free rfl ?_; refine Om rfl ?_; refine Ok rfl rfl ?_; refine Ok rfl rfl ?_; refine Om rfl ?_; refine Ca rfl (ih h hl b _ (by omega) hs (by omega) _ (by first | omega | (simp only [List.length_append, List.length_cons, List.length_nil]; omega)) _) ?_; rintro _ J _ e ⟨s1, p1, rfl, hs1, hp1, hp2, rfl⟩
  have h := h.mono e
  have hs := hs.mono e
  have hle := hle.trans e
  have hlr := hlr.trans e
  refine Ok rfl rfl ?_; refine Ok rfl rfl ?_; refine Oa rfl (Aa (Ag (.tmp rfl .nil) ?_))
  exact ⟨_, _, hle, fun w h => Mem.sub (L' := rd b oa l c _ :: L) (by repeat (first | exact List.Sublist.refl _ | apply List.Sublist.cons_cons | apply List.Sublist.cons)) h, _, _, rfl, (by first | omega | (simp only [List.length_append, List.length_cons, List.length_nil]; omega) | (simp; omega)), by omega, by omega, rfl⟩
 intro c6
 try simp only [nb] at c6
 refine Se rfl (Oc rfl rfl rfl (Oa rfl (Aa ?_))); refine Av rfl ?_ ?_
 ·intro c7
  try simp only [nb] at c7
  refine Se rfl (Om rfl ?_); refine Aw rfl .free rfl ?_; refine Om rfl ?_; refine Ok rfl rfl ?_; refine Ok rfl rfl ?_; refine Om rfl ?_; refine Ca rfl (ih h hl b _ (by omega) hs (by omega) _ (by first | omega | (simp only [List.length_append, List.length_cons, List.length_nil]; omega)) _) ?_; rintro _ J _ e ⟨s1, p1, rfl, hs1, hp1, hp2, rfl⟩
  have h := h.mono e
  have hs := hs.mono e
  have hle := hle.trans e
  have hlr := hlr.trans e
  refine Ok rfl rfl ?_; refine Ok rfl rfl ?_; refine Oa rfl (Aa (Ag (.tmp rfl .nil) ?_))
  exact ⟨_, _, hle, fun w h => Mem.sub (L' := rd b oa l c _ :: L) (by repeat (first | exact List.Sublist.refl _ | apply List.Sublist.cons_cons | apply List.Sublist.cons)) h, _, _, rfl, (by first | omega | (simp only [List.length_append, List.length_cons, List.length_nil]; omega) | (simp; omega)), by omega, by omega, rfl⟩
 intro c7
 try simp only [nb] at c7
 refine Se rfl (Oc rfl rfl rfl (Oa rfl (Aa ?_))); refine Av rfl ?_ ?_
 ·intro c8
  try simp only [nb] at c8
  refine Se rfl (Om rfl (Od rfl rfl rfl (Aa ?_))); refine Av rfl ?_ ?_
  ·intro c9
   try simp only [nb] at c9
   refine Se rfl (Om rfl ?_); refine Ca rfl (W2 h hl b _ (by omega) _) ?_; rintro _ J _ e ⟨s1, p1, rfl, hs1, hp1, hp2, rfl⟩
   have hle := hle.trans e
   refine Oa rfl (Aa (Ag (.tmp rfl .nil) ?_))
   exact ⟨_, _, hle, fun w h => Mem.sub (L' := rd b oa l c _ :: L) (by repeat (first | exact List.Sublist.refl _ | apply List.Sublist.cons_cons | apply List.Sublist.cons)) h, _, _, rfl, (by first | omega | (simp only [List.length_append, List.length_cons, List.length_nil]; omega) | (simp; omega)), by omega, by omega, rfl⟩
  intro c9
  try simp only [nb] at c9
  refine Af (Ak (Se rfl (Om rfl ?_))); refine Aw rfl .free rfl ?_; refine Om rfl (Om rfl ?_); refine Ca rfl (O7 ih hd ht0 h hl b _ (by omega) hs (by omega) want (by omega) _) ?_; rintro _ J _ e ⟨s1, p1, rfl, hs1, hp1, hp2, rfl⟩
  have hle := hle.trans e
  refine Oa rfl (Aa (Ag (.tmp rfl .nil) ?_))
  exact ⟨_, _, hle, fun w h => Mem.sub (L' := rd b oa l c _ :: L) (by repeat (first | exact List.Sublist.refl _ | apply List.Sublist.cons_cons | apply List.Sublist.cons)) h, _, _, rfl, (by first | omega | (simp only [List.length_append, List.length_cons, List.length_nil]; omega) | (simp; omega)), by omega, by omega, rfl⟩
 intro c8
 try simp only [nb] at c8
 refine Af (Ak (Se rfl (Om rfl ?_))); refine Aw rfl .free rfl ?_; refine Om rfl (Om rfl ?_); refine Ca rfl (O7 ih hd ht0 h hl b _ (by omega) hs (by omega) want (by omega) _) ?_; rintro _ J _ e ⟨s1, p1, rfl, hs1, hp1, hp2, rfl⟩
 have hle := hle.trans e
 refine Oa rfl (Aa (Ag (.tmp rfl .nil) ?_))
 exact ⟨_, _, hle, fun w h => Mem.sub (L' := rd b oa l c _ :: L) (by repeat (first | exact List.Sublist.refl _ | apply List.Sublist.cons_cons | apply List.Sublist.cons)) h, _, _, rfl, (by first | omega | (simp only [List.length_append, List.length_cons, List.length_nil]; omega) | (simp; omega)), by omega, by omega, rfl⟩
theorem Tm : ∀ d, d ≤ 4 → Tb d
 | 0, _ => Wu
 | d + 1, h => Wt (Tm d (by omega)) (by omega) (by
   have : ∀ d, d ≤ 4 → eT d ≤ 1000000000 := by decide
   exact this _ h)
theorem K2 {d : Nat} (hd : d ≤ 4) {I : Heap} {oa : Option Addr} {l : List UInt8} {c : Nat} (h : Bytes I oa l c) (hl : l.length ≤ 2000) (b p : Nat) (hp : p + 3000 ≤ 1099511627776) {ns ts : List Am} {o1 o2 : Option Addr} {c1 c2 : Nat} (hs : ScAt I ns ts o1 c1 o2 c2) (hn : ns.length ≤ 80) (want : Am) (hw : want.length ≤ 900) (L : Bc) :
  Fun Tryz.prog 71 [.pointer (some ⟨b, 0, none⟩), .agg [.slice o1 ns.length c1, .slice o2 ts.length c2].toArray, .string (str want), .int .i64 (d : Nat)] I (rd b oa l c p :: L) (DT b oa l c p 3000 400000 L) := by
 have hk : ∀ d, d ≤ 4 → kE d ≤ 3000 ∧ eT d ≤ 400000 := by decide
 obtain ⟨h1, h2⟩ := hk d hd; refine (Tm d hd h hl b p (by omega) hs (by omega) want (by omega) L).mono ?_; rintro v I' L' _ ⟨s, p', rfl, h3, h4, h5, rfl⟩
 exact ⟨s, p', rfl, by omega, h4, by omega, rfl⟩
mutual
def Tree.atomL : Tree → List Am
 | .node a [] => [a]
 | .node _ (p :: ps) => p.atomL ++ Du ps
def Du : List Tree → List Am
 | [] => []
 | t :: ts => t.atomL ++ Du ts
end
mutual
def Tree.repl : Tree → Am → Tree → Tree
 | .node x [], a, b => if x = a then b else .node x []
 | .node x (p :: ps), a, b => .node x (p.repl a b :: Ho ps a b)
def Ho : List Tree → Am → Tree → List Tree
 | [], _, _ => []
 | t :: ts, a, b => t.repl a b :: Ho ts a b
end
theorem Qu (t : Tree) (h : t.parts ≠ []) : t.atomL = Du t.parts := by
 cases t with
 | node a ps => cases ps with
  | nil => exact absurd rfl h
  | cons p ps => rfl
theorem O6 (t : Tree) (h : t.parts = []) : t.atomL = [t.atom] := by
 cases t with
 | node a ps => simp [Tree.parts] at h; subst h; rfl
theorem La : ∀ (a b : List Tree), Du (a ++ b) = Du a ++ Du b
 | [], b => rfl
 | t :: a, b => by simp only [List.cons_append, Du, La a b, List.append_assoc]
theorem Kh (ps : List Tree) (i : Nat) (hi : i < ps.length) : Du (ps.take (i + 1)) = Du (ps.take i) ++ ps[i].atomL := by
 rw [List.take_succ_eq_append_getElem hi, La]; simp [Du]
mutual
theorem Tree.atomL_len : ∀ t : Tree, t.atomL.length = t.size
 | .node a [] => rfl
 | .node a (p :: ps) => by
  have h1 := p.atomL_len; have h2 := Gq ps
  simp only [Tree.atomL, List.length_append, h1, h2, Tree.size, D6, List.isEmpty_cons, cond_false]
theorem Gq : ∀ ts : List Tree, (Du ts).length = D6 ts
 | [] => rfl
 | t :: ts => by have h1 := t.atomL_len; have h2 := Gq ts; simp only [Du, List.length_append, h1, h2, D6]
end
theorem Zt (t : Tree) (a : Am) (b : Tree) (h : t.parts ≠ []) : t.repl a b = .node t.atom (Ho t.parts a b) := by
 cases t with
 | node x ps => cases ps with
  | nil => exact absurd rfl h
  | cons p ps => rfl
theorem Rh (t : Tree) (a : Am) (b : Tree) (h : t.parts = []) : t.repl a b = if t.atom = a then b else t := by
 cases t with
 | node x ps => simp [Tree.parts] at h; subst h; rfl
theorem Mh : ∀ (p q : List Tree) (a : Am) (b : Tree), Ho (p ++ q) a b = Ho p a b ++ Ho q a b
 | [], q, a, b => rfl
 | t :: p, q, a, b => by simp only [List.cons_append, Ho, Mh p q]
theorem Ju : ∀ (ps : List Tree) (a : Am) (b : Tree), (Ho ps a b).length = ps.length
 | [], _, _ => rfl
 | t :: ps, a, b => by simp only [Ho, List.length_cons, Ju ps]
theorem Vt (ps : List Tree) (a : Am) (b : Tree) (i : Nat) (hi : i < ps.length) : Ho (ps.take (i + 1)) a b = Ho (ps.take i) a b ++ [ps[i].repl a b] := by
 rw [List.take_succ_eq_append_getElem hi, Mh]; rfl
mutual
theorem Tree.repl_good : ∀ {t : Tree} {a : Am} {b : Tree}, t.good = true → b.good = true → (t.repl a b).good = true
 | .node x [], a, b, h, hb => by simp only [Tree.repl]; split; exact hb; exact h
 | .node x (p :: ps), a, b, h, hb => by
  obtain ⟨h1, h2, h3⟩ := Hc h; subst h1
  simp [Tree.repl, Tree.good, Ez, Tree.repl_good h2 hb, P1 h3 hb]
theorem P1 : ∀ {ps : List Tree} {a : Am} {b : Tree}, Ez ps = true → b.good = true → Ez (Ho ps a b) = true
 | [], a, b, h, hb => rfl
 | t :: ps, a, b, h, hb => by
  simp [Ez] at h
  simp [Ho, Ez, Tree.repl_good h.1 hb, P1 h.2 hb]
end
mutual
theorem Tree.repl_len : ∀ (t : Tree) (a : Am) (b : Tree), (t.repl a b).len ≤ t.len + t.size * b.len
 | .node x [], a, b => by simp only [Tree.repl, Tree.size, List.isEmpty_nil, cond_true, Nat.one_mul]; split <;> omega
 | .node x (p :: ps), a, b => by
  have h1 := p.repl_len a b; have h2 := Rg ps a b
  simp only [Tree.repl, Tree.len, Tree.size, Fl, D6, List.isEmpty_cons, cond_false, Nat.add_mul]; omega
theorem Rg : ∀ (ps : List Tree) (a : Am) (b : Tree), Fl (Ho ps a b) ≤ Fl ps + D6 ps * b.len
 | [], a, b => by simp [Ho, Fl, D6]
 | t :: ps, a, b => by
  have h1 := t.repl_len a b; have h2 := Rg ps a b
  simp only [Ho, Fl, D6, Nat.add_mul]; omega
end
theorem Wn {l : List Am} (h : l ≠ []) : Cx [] l ≠ [] := fun e => h (U7.1 e)
theorem Tree.size_one : ∀ t : Tree, 1 ≤ t.size
 | .node a [] => Nat.le_refl _
 | .node a (p :: ps) => by
  have := Tree.size_one p
  simp only [Tree.size, D6, List.isEmpty_cons, cond_false]; omega
theorem Xz (t : Tree) : t.atomL ≠ [] := by
 have h1 := t.atomL_len
 have h2 := t.size_one
 intro e; rw [e] at h1; simp at h1; omega
mutual
theorem Tree.atom_len : ∀ (t : Tree) (x : Am), x ∈ t.atomL → x.length ≤ t.len
 | .node a [], x, h => by
  simp only [Tree.atomL, List.mem_singleton] at h
  subst h; simp [Tree.len]
 | .node a (p :: ps), x, h => by
  simp only [Tree.atomL, List.mem_append] at h
  simp only [Tree.len, Fl, List.isEmpty_cons, cond_false]
  rcases h with h | h
  ·have := p.atom_len x h; omega
  ·have := Kg ps x h; omega
theorem Kg : ∀ (ts : List Tree) (x : Am), x ∈ Du ts → x.length ≤ Fl ts
 | [], x, h => by cases h
 | t :: ts, x, h => by
  simp only [Du, List.mem_append] at h
  simp only [Fl]
  rcases h with h | h
  ·have := t.atom_len x h; omega
  ·have := Kg ts x h; omega
end
theorem Qv {t : Tree} (h : t.len ≤ 12000000) : ∀ s ∈ Cx [] t.atomL, s.length ≤ Ap := by
 intro s hs
 rcases Hb.1 hs with h1 | h1
 ·cases h1
 ·have := t.atom_len s h1; unfold Ap; omega
def Hj (s : Am) : Option (List Am) := (De s).map fun t => Cx [] t.atomL
def Hs (s a b : Am) : Option Am := match De s, De a, De b with
 | some t, some x, some y => if x.atom ≠ [] ∧ (De (t.repl a y).text).isSome = true then some (t.repl a y).text else none
 | _, _, _ => none
theorem T1 (s : Am) (hs : s.length ≤ I4) (I : Heap) (L : Bc) : Fun Tryz.prog 74 [.string (str s)] I L (fun v I' L' => v = .bool (De s).isSome ∧ L = L') := by
 refine Aj (by simp) ?_; refine Se rfl (Oa rfl (Aa (Se rfl (Om rfl ?_)))); refine Ca rfl (Gr s hs _ _) ?_; rintro _ J _ e1 ⟨t, cs, ok, rfl, hrep, rfl, hpf⟩; obtain ⟨o1, k1, _, rfl, -⟩ := hrep.open; refine Om rfl (Oe rfl rfl (Oe rfl rfl ?_)); refine At .free rfl ?_; intro b3; refine Bp rfl rfl rfl rfl .free ?_; refine Oa rfl (Aa (Se rfl (Om rfl (Oa rfl (Aa (Ag (.tmp rfl .nil) ?_)))))); refine ⟨J, L, e1, Bt, ?_, rfl⟩
 cases hp : De s with
 | none => rw [hp] at hpf; rw [hpf]; rfl
 | some t0 => rw [hp] at hpf; rw [hpf.1]; rfl
structure GA where
 i : Nat
 l : List Am
 B : H3
 c : Nat
theorem Q4 : ∀ (n : Nat) {I : Heap} {t : Tree} {cs : List Value} (_ : SizeOf.sizeOf t < n) (_ : Rep I t cs) (_ : t.good = true) (l : List Am) (B : H3) (c : Nat) (_ : l.length + t.size ≤ 4294967295) (_ : Cy 1 l.length c (l.map sv) B) (L : Bc),
  Fun Tryz.prog 72 [.agg cs.toArray, Bd l.length c B] I (A2 9 (l.map sv) B ++ L) (fun v I' L' => I = I' ∧ LP (Cx l t.atomL) L v I' L') := by
 intro n
 induction n with
 | zero => intro I t cs h; omega
 | succ n ihn =>
  intro I t cs hlt h hg l B c hl hB L; obtain ⟨oa, cc, oaf, cf, rfl, hf⟩ := h.at'
  have ha := hf.alen
  have hnil := hf.nil
  have hp := hf.len
  unfold Ap at hp
  have hs1 := t.size_one
  have hlN : l.length ≤ Ap := by unfold Ap; omega
  refine Aj (by simp) ?_; refine Se rfl ?_; refine Cc rfl rfl .free rfl ?_; intro b2; refine Oa rfl (Aa (Ab (Se rfl (Oh rfl ?_)))); refine Bg rfl .free rfl ?_; refine Od rfl rfl rfl (Aa ?_); refine Av rfl ?_ ?_
  ·intro c0
   try simp only [nb] at c0
   have hat := O6 t (Je hg c0)
   refine Ab (Se rfl (Om rfl (Oh rfl ?_))); refine Bg rfl .free rfl ?_; refine Ca rfl (Wd hB hlN _ _ _ _) ?_; rintro _ _ _ _ ⟨rfl, rfl, rfl⟩; refine Aa ?_; refine Av rfl ?_ ?_
   ·intro c1
    try simp only [nb] at c1
    refine Se rfl (Om rfl (Oa rfl (Aa (Ag (.tmp rfl .nil) ?_))))
    have hoc : Cx l t.atomL = l := by rw [hat]; exact Qt c1
    exact ⟨I, _, .refl _, fun w h => h.drop, rfl, B, c, by rw [hoc]; rfl, by rw [hoc]; exact hB, by rw [hoc]⟩
   intro c1
   try simp only [nb] at c1
   refine Af (Se rfl (Om rfl (Oh rfl ?_))); refine Bg rfl .free rfl ?_; refine Ol rfl rfl ?_; intro b17; refine D5 (B := B) (xs := l.map sv) (ys := [sv t.atom]) (m := l.length) (c := c) (by intro kk; simp) (by rfl) rfl rfl hB (fun _ h => h.u2) (by rfl) (fun a ha => by cases ha; exact B0 (.head _) (by rfl)) (by simp) (by rfl) (by decide) (by decide) (by omega) (by decide) .free rfl ?_; intro bb sp c2 hB'; refine Oa rfl (Aa (Ag (.tmp rfl .nil) ?_))
   have hoc : Cx l t.atomL = l ++ [t.atom] := by rw [hat]; exact O4 c1
   exact ⟨I, _, .refl _, Ms (L' := (bb, _) :: L), rfl, some (bb, sp), c2, by rw [hoc]; simp [By, Bd], by rw [hoc]; simpa using hB', by rw [hoc]; simp [A2]⟩
  intro c0
  try simp only [nb] at c0
  have hne := Io hg (by simpa using c0)
  have hat := Qu t hne.1
  have hsz : t.size = D6 t.parts := by
   cases t with
   | node a ps => cases ps with
    | nil => exact absurd rfl hne.1
    | cons p ps => rfl
  refine Af (Ab (Se rfl (Oa rfl (Aa (Ai ?_))))); refine Ct (X := GA) (fun x => t.parts.length - x.i) (fun x => [(1, Bd x.l.length x.c x.B), (2, .pointer (some ⟨b2, 0, none⟩)), (4, .slice none 0 0), (5, .int .i64 (x.i : Nat))]) (fun _ => I) (fun x => (b2, .cells [.string (str t.atom), .slice oa t.parts.length cc].toArray 41 (0, 0)) :: (A2 9 (x.l.map sv) x.B ++ L)) (fun x => x.i ≤ t.parts.length ∧ x.l = Cx l (Du (t.parts.take x.i)) ∧ Cy 1 x.l.length x.c (x.l.map sv) x.B) ⟨0, l, B, c⟩ ⟨Nat.zero_le _, rfl, hB⟩ ⟨rfl, rfl, rfl, rfl, trivial⟩ (by intro _ h; exact h) ?_
  rintro ⟨i, l1, B1, c1⟩ ⟨hi, hl1, hB1⟩ ih
  simp only at hi hl1 hB1 ih ⊢
  have hll := Gp l (Du (t.parts.take i))
  rw [← hl1, Gq] at hll; refine Ab (Se rfl (Om rfl (Oh rfl ?_))); refine Bg rfl .free rfl ?_; refine On rfl (Oc rfl rfl rfl (Aa ?_)); refine Av rfl ?_ ?_
  ·intro c2
   try simp only [nb] at c2
   have hi1 : i < t.parts.length := by omega
   have hsl : D6 (t.parts.take i) + (t.pt i).size ≤ D6 t.parts := by
    rw [Tree.pt_at hi1]
    have h1 := Gi (t.parts.take i) (t.parts.drop i)
    rw [List.take_append_drop, List.drop_eq_getElem_cons hi1] at h1
    simp only [D6] at h1; omega
   have hpg := Tree.pt_good hg i hi1
   refine Af (Ab (Ai (Ah rfl (Oh rfl ?_)))); refine Bg rfl .free rfl ?_; refine Om rfl ?_
   first | refine Bi rfl rfl _ rfl .free rfl ?_ | refine Bj rfl rfl _ rfl .free rfl ?_
   refine Em rfl .free rfl ?_; refine Om rfl ?_; refine Cz (fun w h => h.u1) ?_; refine Ca rfl (ihn (t := t.pt i) (by have := t.pt_lt i hi1; omega) (hf.rp i hi1) hpg l1 B1 c1 (by omega) hB1 _) ?_; rintro _ _ _ _ ⟨rfl, B2, c2, rfl, hB2, rfl⟩; refine Cz (fun w h => h.w1) ?_; refine Oa rfl (Aa (Ak (Ah rfl (Om rfl ?_)))); refine Or rfl rfl rfl ?_; refine Oa rfl (Aa ?_)
   exact Dr (E' := [(1, Bd (Cx l1 (t.pt i).atomL).length c2 B2), (2, .pointer (some ⟨b2, 0, none⟩)), (4, .slice none 0 0), (5, .int .i64 ((i + 1 : Nat)))]) ⟨rfl, rfl, rfl, rfl, trivial⟩ (ih ⟨i + 1, Cx l1 (t.pt i).atomL, B2, c2⟩ ⟨by simp only; omega, by simp only; rw [hl1, ← Ci, Kh _ _ hi1, Tree.pt_at hi1], hB2⟩ (by simp only; omega))
  intro c2
  try simp only [nb] at c2
  refine Bq rfl ?_; refine Se rfl (Om rfl (Oa rfl (Aa (Ag (.tmp rfl .nil) ?_))))
  have hl2 : l1 = Cx l t.atomL := by
   rw [hl1, hat, show i = t.parts.length by omega, List.take_length]
  subst hl2
  exact ⟨I, _, .refl _, fun w h => h.drop, rfl, B1, c1, rfl, hB1, rfl⟩
theorem T0 (s : Am) (hs : s.length ≤ I4) (I : Heap) (L : Bc) : Fun Tryz.prog 46 [.string (str s)] I L (EF (Hj s) L) := by
 refine Aj (by simp) ?_; refine Se rfl (Oa rfl (Oa rfl (Aa (Se rfl (Om rfl ?_))))); refine Ca rfl (Gr s hs _ _) ?_; rintro _ J _ e1 ⟨t, cs, ok, rfl, hrep, rfl, hpf⟩; obtain ⟨o1, k1, _, rfl, -⟩ := hrep.open; refine Om rfl (Oe rfl rfl (Oe rfl rfl ?_)); refine At .free rfl ?_; intro b4; refine Bp rfl rfl rfl rfl .free ?_; refine Oa rfl (Aa (Ab (Se rfl (Om rfl ?_)))); refine Dy rfl .free rfl ?_; refine Aa ?_; refine Av rfl ?_ ?_
 ·intro c0
  try simp only [nb] at c0
  refine Se rfl ?_; refine C5 .free rfl ?_; intro b13; refine Oa rfl (Oa rfl (Aa ?_)); refine Ag (.tmp rfl (.tmp rfl .nil)) ?_; refine ⟨J, L, e1, Bt, some ⟨b13, 0, none⟩, 0, ?_, ?_, rfl⟩
  ·have : Hj s = none := by
    unfold Hj
    cases hp : De s with
    | none => rfl
    | some t0 => rw [hp] at hpf; rw [hpf.1] at c0; cases c0
   rw [this]; rfl
  ·have : Hj s = none := by
    unfold Hj
    cases hp : De s with
    | none => rfl
    | some t0 => rw [hp] at hpf; rw [hpf.1] at c0; cases c0
   rw [this]; exact Gv _ _
 intro c0
 try simp only [nb] at c0
 have hps := G2 hpf c0
 have hpg := E5 hps
 have hpz := Lr hps
 have hat : Hj s = some (Cx [] t.atomL) := by unfold Hj; rw [hps]; rfl
 refine Af (Se rfl ?_); refine Aw rfl .free rfl ?_; refine C5 .free rfl ?_; intro b15; refine Cz (L' := A2 9 (([] : List Am).map sv) (some (b15, [])) ++ _) (fun w h => h) ?_; refine Ca rfl (Q4 _ (Nat.lt_succ_self _) hrep hpg.1 [] (some (b15, [])) 0 (by simp; omega) ⟨rfl, Nat.le_refl _, rfl⟩ _) ?_; rintro _ _ _ _ ⟨rfl, B2, c2, rfl, hB2, rfl⟩; refine Oa rfl (Oa rfl (Aa ?_))
 have hll := Gp [] t.atomL
 rw [Tree.atomL_len] at hll
 simp only [List.length_nil, Nat.zero_add] at hll
 refine Ff hB2 rfl (by unfold Ap; omega) (Qv hpg.2.1) ?_; intro J2 oz cz ez hbv hst; refine Hp (t := 2) rfl hbv ?_; refine Ag (.tmp rfl (.tmp rfl .nil)) ?_
 exact ⟨J2, L, e1.trans ez, Bt, oz, cz, by rw [hat]; rfl, by rw [hat]; exact hst, rfl⟩
structure GP where
 J : Heap
 i : Nat
 xs : List Value
 B : H3
 c : Nat
theorem T3 : ∀ (n : Nat) {I : Heap} {t : Tree} {cs : List Value} (_ : SizeOf.sizeOf t < n) (_ : Rep I t cs) (_ : t.good = true) (a : Am) (_ : a ≠ []) {y : Tree} {ds : List Value} (_ : Rep I y ds) (L : Bc),
  Fun Tryz.prog 73 [.agg cs.toArray, .string (str a), .agg ds.toArray] I L (RP (t.repl a y) L) := by
 intro n
 induction n with
 | zero => intro I t cs h; omega
 | succ n ihn =>
  intro I t cs hlt h hg a ha0 y ds hy L; obtain ⟨oa, cc, oaf, cf, rfl, hf⟩ := h.at'; obtain ⟨oy, ky, _, rfl, -⟩ := hy.open
  have hp := hf.len
  unfold Ap at hp
  have hnil := hf.nil
  refine Aj (by simp) ?_; refine Se rfl ?_; refine Cc rfl rfl .free rfl ?_; intro b3; refine Cc rfl rfl .free rfl ?_; intro b5; refine At .free rfl ?_; intro b6; refine Aa (Ab (Se rfl (Oh rfl ?_))); refine Bg rfl .free rfl ?_; refine Om rfl (Od rfl rfl rfl (Om rfl ?_))
  apply D4 13 16 rfl
  ·intro g1_5 hk
   try simp only [nb] at g1_5
   refine Ow rfl ?_; refine Fn rfl rfl rfl (.met rfl rfl) rfl ?_; refine Ot rfl rfl ?_
   exact A0 2 rfl rfl hk
  ·intro _ hk; refine A9 2 rfl ?_; refine Of rfl rfl ?_
   exact A0 2 rfl rfl hk
  refine Aa ?_; refine Av rfl ?_ ?_
  ·intro c0
   try simp only [nb] at c0
   refine Se rfl ?_; refine Aw rfl .free rfl ?_; refine Bp rfl rfl rfl rfl .free ?_; refine Aa ?_; refine Ag (.c rfl .nil) ?_
   have e : t.repl a y = y := by rw [Rh t a y (Je hg (by rw [c0.1]; exact ha0)), if_pos c0.1]
   exact ⟨I, L, .refl _, Bt, _, rfl, by rw [e]; exact hy, rfl⟩
  intro c0
  try simp only [nb] at c0
  refine Af (Ab (Se rfl (Oh rfl ?_))); refine Bg rfl .free rfl ?_; refine Od rfl rfl rfl (Aa ?_); refine Av rfl ?_ ?_
  ·intro c1
   try simp only [nb] at c1
   refine Se rfl ?_; refine Aw rfl .free rfl ?_; refine Bp rfl rfl rfl rfl .free ?_; refine Aa ?_; refine Ag (.c rfl .nil) ?_
   have e : t.repl a y = t := by rw [Rh t a y (Je hg c1), if_neg (fun e => by rcases c0 with h | h; exact h e; exact ha0 h)]
   exact ⟨I, L, .refl _, Bt, _, rfl, by rw [e]; exact hf.rep, rfl⟩
  intro c1
  try simp only [nb] at c1
  have hat : t.atom = [] := by simpa using c1
  have hne := Io hg hat
  have hre := Zt t a y hne.1
  refine Af (Se rfl ?_); refine Cf rfl rfl rfl .free rfl ?_; refine At .free rfl ?_; intro b7; refine Bp rfl rfl rfl rfl .free ?_; refine Aa (Ab (Se rfl (Oa rfl (Aa (Ai ?_)))))
  refine Ct (X := GP) (fun x => t.parts.length - x.i) (fun x => [(1, .string (str a)), (3, .pointer (some ⟨b3, 0, none⟩)), (5, .pointer (some ⟨b5, 0, none⟩)), (6, .pointer (some ⟨b6, 0, none⟩)), (7, .pointer (some ⟨b7, 0, none⟩)), (8, .int .i64 (x.i : Nat))]) (fun x => x.J) (fun x => (b7, .cells [.string (str []), Bd x.i x.c x.B].toArray 41 (0, 0)) :: (A2 41 x.xs x.B ++ ((b6, .cells [.string (str []), .slice none 0 0].toArray 41 (0, 0)) :: (b5, .cells [.string (str y.atom), .slice oy y.parts.length ky].toArray 41 (0, 0)) :: (b3, .cells [.string (str t.atom), .slice oa t.parts.length cc].toArray 41 (0, 0)) :: L))) (fun x => HLe I x.J ∧ x.i ≤ t.parts.length ∧ RepL x.J (Ho (t.parts.take x.i) a y) x.xs ∧ Cy 2 x.i x.c x.xs x.B) ⟨I, 0, [], none, 0⟩ ⟨.refl _, Nat.zero_le _, .nil, ⟨rfl, rfl, rfl⟩⟩ ⟨rfl, rfl, rfl, rfl, rfl, rfl, trivial⟩ (by intro _ h; exact h) ?_
  rintro ⟨J, i, xs, B, cb⟩ ⟨ez, hi, hl, hB⟩ ih
  simp only at ez hi hl hB ih ⊢
  have hf := hf.mono ez
  have hy := hy.mono ez
  refine Ab (Se rfl (Om rfl (Oh rfl ?_))); refine Bg rfl .free rfl ?_; refine On rfl (Oc rfl rfl rfl (Aa ?_)); refine Av rfl ?_ ?_
  ·intro c2
   try simp only [nb] at c2
   have hi1 : i < t.parts.length := by omega
   have hpg := Tree.pt_good hg i hi1
   have hlt1 := t.pt_lt i hi1
   refine Af (Ab (Ai ?_)); refine R4 14 rfl rfl ?_; refine Da 0 rfl (Ae rfl) ?_; refine Dt 1 [13] rfl (A7 rfl) ?_; refine Da 2 rfl (Ae rfl) ?_; refine Dt 3 [13] rfl (A7 rfl) ?_; refine Da 4 rfl (Ac rfl) ?_
   first | refine Da 5 rfl (A4 rfl rfl _ rfl) ?_ | refine Da 5 rfl (A5 rfl rfl _ rfl) ?_
   refine Dt 6 [13] rfl (Bz rfl) ?_; refine Da 7 rfl (Ac rfl) ?_; refine Dt 8 [13] rfl (Cd rfl) ?_; refine Dc 9 rfl rfl (ihn (t := t.pt i) (by omega) (hf.rp i hi1) hpg a ha0 hy _) ?_; rintro _ J1 _ e1 ⟨cs1, rfl, h1, rfl⟩; obtain ⟨o1, k1, _, rfl, -⟩ := h1.open; refine Hx ?_; refine C6 10 rfl (by kernel_rfl) rfl rfl rfl (by rfl) (by rfl) (by rfl) (by decide) (by decide) (by rfl) .free rfl (.inr Al) ?_; intro b40
   refine B8 11 (B := B) (xs := xs) (ys := [.string (str ((t.pt i).repl a y).atom), .slice o1 ((t.pt i).repl a y).parts.length k1]) (m := i) (c := cb) rfl (by kernel_rfl) rfl (by intro kk; simp) (by rfl) rfl rfl hB (fun _ h => h.u2) (by rfl) (fun a ha => by cases ha; exact B0 (by repeat first | exact .head _ | apply List.Mem.tail | apply List.mem_append_right) (by rfl)) (by simp) (by rfl) (by decide) (by omega) (by decide) .free rfl (fun _ => .inr Al) ?_; intro B2 c2 hB2; refine Be (fun w h => Mem.w1 (Mem.sub (List.Sublist.append_left (.cons _ (.refl _)) _) h)) ?_; refine Da 12 rfl (Ae rfl) ?_
   refine Aa3 13 rfl (by kernel_rfl) rfl rfl rfl Mq rfl .free (.inl (by kernel_rfl)) ?_; refine Au (by kernel_rfl) ?_; refine Ak (Ah rfl (Om rfl ?_)); refine Or rfl rfl rfl ?_; refine Oa rfl (Aa ?_)
   refine Dr (E' := [(1, .string (str a)), (3, .pointer (some ⟨b3, 0, none⟩)), (5, .pointer (some ⟨b5, 0, none⟩)), (6, .pointer (some ⟨b6, 0, none⟩)), (7, .pointer (some ⟨b7, 0, none⟩)), (8, .int .i64 ((i + 1 : Nat)))]) ⟨rfl, rfl, rfl, rfl, rfl, rfl, trivial⟩ (ih ⟨J1, i + 1, xs ++ [.string (str ((t.pt i).repl a y).atom), .slice o1 ((t.pt i).repl a y).parts.length k1], B2, c2⟩ ⟨ez.trans e1, by simp only; omega, ?_, hB2⟩ (by simp only; omega)); rw [Vt _ _ _ _ hi1, ← Tree.pt_at hi1]
   exact (hl.mono e1).append (.one h1)
  intro c2
  try simp only [nb] at c2
  refine Bq rfl ?_; refine Ab ?_
  have hie : i = t.parts.length := by omega
  rw [hie, List.take_length] at hl; refine C4 (fun w h => h.u1) (Qp hl hB (by rw [Ju, hie]) (by rw [Ju]; unfold Ap; omega) ?_); intro J2 oz cz ez2 hbv hst; rw [hbv]; refine Ah rfl ?_; refine Aw rfl .free rfl ?_; refine Bp rfl rfl rfl rfl .free ?_; refine Aa ?_; refine Ag (.c rfl .nil) ?_
  exact ⟨J2, L, ez.trans ez2, Bt, _, rfl, by rw [hre, hat]; exact hst.form [] (by decide), rfl⟩
theorem N3 {s a b : Am} {t x y : Tree} (h1 : De s = some t) (h2 : De a = some x) (h3 : De b = some y) : Hs s a b = if x.atom ≠ [] ∧ (De (t.repl a y).text).isSome = true then some (t.repl a y).text else none := by
 unfold Hs; rw [h1, h2, h3]
theorem G0 {s a b : Am} (h : De s = none ∨ De a = none ∨ De b = none) : Hs s a b = none := by
 unfold Hs
 rcases h with h | h | h
 ·rw [h]
 ·rw [h]; cases De s <;> rfl
 ·rw [h]; cases De s <;> cases De a <;> rfl
theorem U6 {p : Option Tree} {t : Tree} {ok : Bool} (hpf : match p with | some t0 => ok = true ∧ t = t0 | none => ok = false) : (ok = false → p = none) ∧ (ok = true → p = some t) := by
 cases p with
 | none => exact ⟨fun _ => rfl, fun h => (by rw [hpf] at h; cases h)⟩
 | some t0 => exact ⟨fun h => (by rw [hpf.1] at h; cases h), fun _ => (by rw [hpf.2])⟩
theorem Nf {s : Am} {t : Tree} (h : De s = some t) : s.length ≤ 12000 ∧ t.len ≤ 12000 := by
 have h1 := (Gt h).1
 simp only [Tree.fits, Bool.and_eq_true, decide_eq_true_eq] at h1
 exact ⟨by rw [← Ic h, Tree.text_len]; exact h1.2, h1.2⟩
theorem Uq {s a b o : Am} (h : Hs s a b = some o) : o.length ≤ 12000 := by
 unfold Hs at h
 cases h1 : De s with
 | none => rw [h1] at h; cases h
 | some t =>
  cases h2 : De a with
  | none => rw [h1, h2] at h; cases h
  | some x =>
   cases h3 : De b with
   | none => rw [h1, h2, h3] at h; cases h
   | some y =>
    rw [h1, h2, h3] at h
    simp only at h
    split at h
    ·rename_i hh
     cases h
     obtain ⟨z, hz⟩ := Option.isSome_iff_exists.1 hh.2
     exact (Nf hz).1
    ·cases h
theorem Lg (s a b : Am) (hs : s.length ≤ I4) (ha : a.length ≤ I4) (hb : b.length ≤ 900) (I : Heap) (L : Bc) : Fun Tryz.prog 47 [.string (str s), .string (str a), .string (str b)] I L (EL (Hs s a b) L) := by
 refine Aj (by simp) ?_; refine Se rfl (Oa rfl (Oa rfl (Aa (Se rfl (Om rfl ?_))))); refine Ca rfl (Gr s hs _ _) ?_; rintro _ J1 _ e1 ⟨t, cs1, ok1, rfl, hr1, rfl, hp1⟩; obtain ⟨o1, k1, _, rfl, -⟩ := hr1.open; refine Om rfl (Oe rfl rfl (Oe rfl rfl ?_)); refine At .free rfl ?_; intro b8; refine Bp rfl rfl rfl rfl .free ?_; refine Oa rfl (Aa (Se rfl (Om rfl ?_))); refine Ca rfl (Gr a ha _ _) ?_; rintro _ J2 _ e2 ⟨x, cs2, ok2, rfl, hr2, rfl, hp2⟩; obtain ⟨o2, k2, _, rfl, -⟩ := hr2.open; refine Om rfl (Oe rfl rfl (Oe rfl rfl ?_)); refine At .free rfl ?_; intro b10; refine Bp rfl rfl rfl rfl .free ?_
 refine Oa rfl (Aa (Se rfl (Om rfl ?_))); refine Ca rfl (Gr b (by unfold I4; omega) _ _) ?_; rintro _ J3 _ e3 ⟨y, cs3, ok3, rfl, hr3, rfl, hp3⟩; obtain ⟨o3, k3, _, rfl, -⟩ := hr3.open
 have q1 := U6 hp1
 have q2 := U6 hp2
 have q3 := U6 hp3
 have hle := (e1.trans e2).trans e3
 refine Om rfl (Oe rfl rfl (Oe rfl rfl ?_)); refine At .free rfl ?_; intro b12; refine Bp rfl rfl rfl rfl .free ?_; refine Oa rfl (Aa (Ab (Se rfl (Om rfl ?_)))); refine Dy rfl .free rfl ?_; refine Om rfl ?_
 apply Fw 32 35 rfl
 ·intro g4_3 hk
  try simp only [nb] at g4_3
  refine Ow rfl ?_; refine Dy rfl (.met rfl rfl) rfl ?_; refine Of rfl rfl ?_
  exact A0 2 rfl rfl hk
 ·intro _ hk; refine A9 2 rfl ?_; refine Ot rfl rfl ?_
  exact A0 2 rfl rfl hk
 refine Om rfl ?_
 apply Fw 36 39 rfl
 ·intro g4_7 hk
  try simp only [nb] at g4_7
  refine Ow rfl ?_; refine Dy rfl (.met rfl rfl) rfl ?_; refine Of rfl rfl ?_
  exact A0 2 rfl rfl hk
 ·intro _ hk; refine A9 2 rfl ?_; refine Ot rfl rfl ?_
  exact A0 2 rfl rfl hk
 refine Om rfl ?_
 apply Fw 40 44 rfl
 ·intro g4_11 hk
  try simp only [nb] at g4_11
  refine Bv rfl (.met rfl rfl) rfl ?_; refine Bg rfl (.met rfl rfl) rfl ?_; refine Fn rfl rfl rfl (.met rfl rfl) rfl ?_; refine Of rfl rfl ?_
  exact A0 3 rfl rfl hk
 ·intro _ hk; refine A9 3 rfl ?_; refine Ot rfl rfl ?_
  exact A0 3 rfl rfl hk
 refine Aa ?_; refine Av rfl ?_ ?_
 ·intro c0
  try simp only [nb] at c0
  refine Se rfl (Oa rfl (Oa rfl (Aa ?_))); refine Ag (.tmp rfl (.tmp rfl .nil)) ?_; refine ⟨J3, L, hle, Bt, ?_, rfl⟩
  have hz : Hs s a b = none := by
   rcases c0 with ((h | h) | h) | h
   ·exact G0 (.inl (q1.1 h))
   ·exact G0 (.inr (.inl (q2.1 h)))
   ·exact G0 (.inr (.inr (q3.1 h)))
   ·cases hh1 : De s with
    | none => exact G0 (.inl hh1)
    | some t1 =>
     cases hh2 : De a with
     | none => exact G0 (.inr (.inl hh2))
     | some x1 =>
      cases hh3 : De b with
      | none => exact G0 (.inr (.inr hh3))
      | some y1 =>
       rw [hh2] at hp2; rw [N3 hh1 hh2 hh3, if_neg (by rw [← hp2.2]; exact fun e => e.1 h)]
  rw [hz]; rfl
 intro c0
 try simp only [nb] at c0
 obtain ⟨⟨⟨h1, h2⟩, h3⟩, h4⟩ := c0
 have p1 := q1.2 h1
 have p2 := q2.2 h2
 have p3 := q3.2 h3
 have f1 := Gt p1
 have f2 := Gt p2
 have f3 := Gt p3
 have l1 := (Nf p1).2
 have l3 : y.len ≤ 900 := by rw [← Tree.text_len, Ic p3]; exact hb
 have z1 := Lr p1
 have hrl := t.repl_len a y
 have hmul : t.size * y.len ≤ 12000 * 900 := Nat.mul_le_mul z1 l3
 have hrg := Tree.repl_good (a := a) f1.2.1 f3.2.1
 have ha0 : a ≠ [] := by
  intro e
  have h5 := Ic p2
  have h6 := Je f2.2.1 h4
  cases x with
  | node n ps =>
   simp only [Tree.parts] at h6
   subst h6
   simp only [Tree.text, List.isEmpty_nil, cond_true] at h5
   exact h4 (h5.trans e)
 have hro := N3 p1 p2 p3
 refine Af (Se rfl ?_); refine Aw rfl .free rfl ?_; refine Om rfl ?_; refine Aw rfl .free rfl ?_; refine Ca rfl (T3 _ (Nat.lt_succ_self _) ((hr1.mono e2).mono e3) f1.2.1 a ha0 hr3 _) ?_; rintro _ J4 _ e4 ⟨cs4, rfl, hr4, rfl⟩; refine Ca rfl (H7 _ (Nat.lt_succ_self _) hr4 hrg (by omega) _) ?_; rintro _ _ _ _ ⟨rfl, rfl, rfl⟩; refine Oa rfl (Aa (Ab (Se rfl (Om rfl ?_)))); refine Ca rfl (T1 _ (by rw [Tree.text_len]; unfold I4; omega) _ _) ?_; rintro _ J5 _ e5 ⟨rfl, rfl⟩
 have hle := (hle.trans e4).trans e5
 refine Dy rfl .free rfl ?_; refine Aa ?_; refine Av rfl ?_ ?_
 ·intro c1
  try simp only [nb] at c1
  refine Se rfl (Oa rfl (Oa rfl (Aa ?_))); refine Ag (.tmp rfl (.tmp rfl .nil)) ?_; refine ⟨J5, L, hle, Bt, ?_, rfl⟩; rw [hro, if_neg (by rintro ⟨-, h⟩; rw [c1] at h; cases h)]; rfl
 intro c1
 try simp only [nb] at c1
 refine Af (Se rfl (Om rfl (Oa rfl (Oa rfl (Aa ?_))))); refine Ag (.tmp rfl (.tmp rfl .nil)) ?_; refine ⟨J5, L, hle, Bt, ?_, rfl⟩; rw [hro, if_pos ⟨h4, c1⟩]; rfl
theorem S4 (I : Heap) (oa ob : Option Addr) : ScAt I [] [] oa 0 ob 0 := ⟨Gv _ _, Gv _ _, rfl, (fun _ h => by cases h), (fun _ h => by cases h)⟩
theorem W1 {I : Heap} {oa : Option Addr} {l : List UInt8} {c : Nat} (h : Bytes I oa l c) (hl : l.length ≤ 2000) (b p : Nat) (hp : p + 7000 ≤ 1099511627776) (L : Bc) :
  Fun Tryz.prog 45 [.pointer (some ⟨b, 0, none⟩)] I (rd b oa l c p :: L) (DT b oa l c p 7000 400000 L) := by
 have hle : HLe I I := .refl _
 have hk2 : kT 2 = 6 := rfl
 have hb2 : bT 2 = 19 := rfl
 refine Aj (by simp) ?_; refine Se rfl (Oa rfl (Aa (Se rfl (Oa rfl (Aa (Ab (Se rfl (Om rfl ?_)))))))); refine Ca rfl (Dh h hl b _ 3 (by omega) (by decide) _) ?_; rintro _ _ _ _ ⟨r, rfl, rfl, rfl, hr⟩; refine Oc rfl rfl rfl (Aa ?_); refine Av rfl ?_ ?_
 ·intro c0
  try simp only [nb] at c0
  refine Ah rfl (Om rfl ?_); refine Ca rfl (Jd 2 h hl b _ (by omega) (by decide) (by decide) _) ?_; rintro _ J _ e ⟨w, pw, rfl, hw, hp1, hp2, rfl⟩
  have h := h.mono e
  have hle := hle.trans e
  refine Oa rfl (Aa (Ab ?_))
  try have hw := hw
  refine Ah rfl (Om rfl ?_); refine C5 .free rfl ?_; intro b11; refine C5 .free rfl ?_; intro b12; refine Cf rfl rfl rfl .free rfl ?_; refine Om rfl (Om rfl ?_); refine Cz (fun w h => Mem.sub (L' := rd b oa l c _ :: L) (by repeat (first | exact List.Sublist.refl _ | apply List.Sublist.cons_cons | apply List.Sublist.cons)) h) ?_; refine Ca rfl (Dh h hl b _ 3 (by omega) (by decide) _) ?_; rintro _ _ _ _ ⟨r2, rfl, rfl, rfl, hr2⟩
  have hr3 : r2 < 3 := by omega
  have hdd : ∃ d : Nat, (2 : Int) + (r2 : Nat) = (d : Nat) ∧ d ≤ 4 := ⟨2 + r2, by omega, by omega⟩
  obtain ⟨d, hd1, hd2⟩ := hdd; refine Or rfl rfl rfl ?_; refine F1 (t := 17) (v' := .int .i64 (d : Nat)) rfl (by rw [← hd1]) ?_; refine Ca rfl (K2 hd2 h hl b _ (by omega) (S4 _ _ _) (by simp) _ (by first | omega | (simp; done) | decide) _) ?_; rintro _ J1 _ e1 ⟨s1, p1, rfl, hs1, hp3, hp4, rfl⟩
  have h := h.mono e1
  have hle := hle.trans e1
  refine Oa rfl (Aa (Ab (Se rfl (Om rfl ?_)))); refine Ca rfl (Km s1 (by unfold Ap; omega) _ _) ?_; rintro _ _ _ _ ⟨rfl, rfl, rfl⟩; refine Aa ?_; refine Av rfl ?_ ?_
  ·intro c1
   try simp only [nb] at c1
   refine Se rfl (Om rfl (Oa rfl (Aa (Ag (.tmp rfl .nil) ?_))))
   exact ⟨_, _, hle, fun w h => Mem.sub (L' := rd b oa l c _ :: L) (by repeat (first | exact List.Sublist.refl _ | apply List.Sublist.cons_cons | apply List.Sublist.cons)) h, _, _, rfl, by omega, by omega, by omega, rfl⟩
  intro c1
  try simp only [nb] at c1
  refine Af (Se rfl (Om rfl ?_)); refine C5 .free rfl ?_; intro b23; refine C5 .free rfl ?_; intro b24; refine Cf rfl rfl rfl .free rfl ?_; refine Om rfl ?_; refine Cz (fun w h => Mem.sub (L' := rd b oa l c _ :: L) (by repeat (first | exact List.Sublist.refl _ | apply List.Sublist.cons_cons | apply List.Sublist.cons)) h) ?_; refine Ca rfl (K2 (d := 2) (by decide) h hl b _ (by omega) (S4 _ _ _) (by simp) _ (by first | omega | (simp; done) | decide) _) ?_; rintro _ J2 _ e2 ⟨s2, p2, rfl, hs2, hp5, hp6, rfl⟩
  have hle := hle.trans e2
  refine Oa rfl (Aa (Ag (.tmp rfl .nil) ?_))
  exact ⟨_, _, hle, fun w h => Mem.sub (L' := rd b oa l c _ :: L) (by repeat (first | exact List.Sublist.refl _ | apply List.Sublist.cons_cons | apply List.Sublist.cons)) h, _, _, rfl, by omega, by omega, by omega, rfl⟩
 intro c0
 try simp only [nb] at c0
 refine Af (Ab ?_)
 try have hw := hw
 refine Ah rfl (Om rfl ?_); refine C5 .free rfl ?_; intro b11; refine C5 .free rfl ?_; intro b12; refine Cf rfl rfl rfl .free rfl ?_; refine Om rfl (Om rfl ?_); refine Cz (fun w h => Mem.sub (L' := rd b oa l c _ :: L) (by repeat (first | exact List.Sublist.refl _ | apply List.Sublist.cons_cons | apply List.Sublist.cons)) h) ?_; refine Ca rfl (Dh h hl b _ 3 (by omega) (by decide) _) ?_; rintro _ _ _ _ ⟨r2, rfl, rfl, rfl, hr2⟩
 have hr3 : r2 < 3 := by omega
 have hdd : ∃ d : Nat, (2 : Int) + (r2 : Nat) = (d : Nat) ∧ d ≤ 4 := ⟨2 + r2, by omega, by omega⟩
 obtain ⟨d, hd1, hd2⟩ := hdd; refine Or rfl rfl rfl ?_; refine F1 (t := 17) (v' := .int .i64 (d : Nat)) rfl (by rw [← hd1]) ?_; refine Ca rfl (K2 hd2 h hl b _ (by omega) (S4 _ _ _) (by simp) _ (by first | omega | (simp; done) | decide) _) ?_; rintro _ J1 _ e1 ⟨s1, p1, rfl, hs1, hp3, hp4, rfl⟩
 have h := h.mono e1
 have hle := hle.trans e1
 refine Oa rfl (Aa (Ab (Se rfl (Om rfl ?_)))); refine Ca rfl (Km s1 (by unfold Ap; omega) _ _) ?_; rintro _ _ _ _ ⟨rfl, rfl, rfl⟩; refine Aa ?_; refine Av rfl ?_ ?_
 ·intro c1
  try simp only [nb] at c1
  refine Se rfl (Om rfl (Oa rfl (Aa (Ag (.tmp rfl .nil) ?_))))
  exact ⟨_, _, hle, fun w h => Mem.sub (L' := rd b oa l c _ :: L) (by repeat (first | exact List.Sublist.refl _ | apply List.Sublist.cons_cons | apply List.Sublist.cons)) h, _, _, rfl, by omega, by omega, by omega, rfl⟩
 intro c1
 try simp only [nb] at c1
 refine Af (Se rfl (Om rfl ?_)); refine C5 .free rfl ?_; intro b23; refine C5 .free rfl ?_; intro b24; refine Cf rfl rfl rfl .free rfl ?_; refine Om rfl ?_; refine Cz (fun w h => Mem.sub (L' := rd b oa l c _ :: L) (by repeat (first | exact List.Sublist.refl _ | apply List.Sublist.cons_cons | apply List.Sublist.cons)) h) ?_; refine Ca rfl (K2 (d := 2) (by decide) h hl b _ (by omega) (S4 _ _ _) (by simp) _ (by first | omega | (simp; done) | decide) _) ?_; rintro _ J2 _ e2 ⟨s2, p2, rfl, hs2, hp5, hp6, rfl⟩
 have hle := hle.trans e2
 refine Oa rfl (Aa (Ag (.tmp rfl .nil) ?_))
 exact ⟨_, _, hle, fun w h => Mem.sub (L' := rd b oa l c _ :: L) (by repeat (first | exact List.Sublist.refl _ | apply List.Sublist.cons_cons | apply List.Sublist.cons)) h, _, _, rfl, by omega, by omega, by omega, rfl⟩
theorem U9 {s : Am} {l : List Am} (h : Hj s = some l) : l ≠ [] ∧ (∀ x ∈ l, x.length ≤ 12000) ∧ l.length ≤ 12000 := by
 unfold Hj at h
 cases hp : De s with
 | none => rw [hp] at h; cases h
 | some t =>
  rw [hp] at h
  simp only [Option.map_some, Option.some.injEq] at h
  subst h
  have h1 := (Nf hp).2
  have h2 := Lr hp
  refine ⟨Wn (Xz t), fun x hx => ?_, ?_⟩
  ·rcases Hb.1 hx with h3 | h3
   ·cases h3
   ·have := t.atom_len x h3; omega
  ·have := Gp [] t.atomL
   rw [t.atomL_len] at this
   simp only [List.length_nil, Nat.zero_add] at this
   exact Nat.le_trans this h2
theorem Yo {I : Heap} {oa : Option Addr} {l : List UInt8} {c : Nat} (h : Bytes I oa l c) (hl : l.length ≤ 2000) (b p : Nat) (hp : p + 8000 ≤ 1099511627776) (L : Bc) :
  Fun Tryz.prog 21 [.pointer (some ⟨b, 0, none⟩)] I (rd b oa l c p :: L) (DT b oa l c p 8000 400001 L) := by
 refine Aj (by simp) ?_; refine Se rfl (Oa rfl (Aa (Se rfl (Om rfl ?_)))); refine Ca rfl (W1 h hl b _ (by omega) _) ?_; rintro _ J1 _ e1 ⟨s, p1, rfl, hs, hp1, hp2, rfl⟩
 have h := h.mono e1
 refine Oa rfl (Aa (Ab (Se rfl (Om rfl ?_)))); refine Ca rfl (Dh h hl b _ 4 (by omega) (by decide) _) ?_; rintro _ _ _ _ ⟨r, rfl, rfl, rfl, hr⟩; refine Oc rfl rfl rfl (Aa ?_); refine Av rfl ?_ ?_
 ·intro c0
  try simp only [nb] at c0
  refine Se rfl (Om rfl (Oa rfl (Aa (Ag (.tmp rfl .nil) ?_))))
  exact ⟨J1, _, e1, fun _ h => h, s, _, rfl, by omega, by omega, by omega, rfl⟩
 intro c0
 try simp only [nb] at c0
 refine Af (Se rfl (Om rfl ?_)); refine Ca rfl (T0 s (by unfold I4; omega) _ _) ?_; rintro _ J2 _ e2 ⟨o1, k1, rfl, hat, rfl⟩
 have h := h.mono e2
 have hle := e1.trans e2
 refine Om rfl (Oe rfl rfl (Oe rfl rfl (Oa rfl (Oa rfl (Aa (Ab (Se rfl (Om rfl ?_)))))))); refine Dy rfl .free rfl ?_; refine Aa ?_; refine Av rfl ?_ ?_
 ·intro c1
  try simp only [nb] at c1
  refine Se rfl (Om rfl (Oa rfl (Aa (Ag (.tmp rfl .nil) ?_))))
  exact ⟨J2, _, hle, fun _ h => h, s, _, rfl, by omega, by omega, by omega, rfl⟩
 intro c1
 try simp only [nb] at c1
 obtain ⟨al, hal⟩ : ∃ al, Hj s = some al := Option.isSome_iff_exists.1 c1; rw [hal] at hat ⊢
 simp only [Option.getD_some] at hat ⊢
 obtain ⟨ha1, ha2, ha3⟩ := U9 hal
 have hapos := List.length_pos_iff.2 ha1
 have hanil := hat.nil'
 refine Af (Ab ?_); refine C0 fun hlr => ?_
 refine Ge 17 rfl rfl ?_; refine Da 0 rfl (Ac rfl) ?_; refine Da 1 rfl (Ac rfl) ?_; refine Da 2 rfl (Ac rfl) ?_; refine Da 3 rfl (Ac rfl) ?_; refine Da 4 rfl (D9 rfl) ?_; refine Da 8 rfl (Ac rfl) ?_; refine E7 5 9 (by kernel_rfl) ?_ ?_
 ·skip
  refine M4 5 rfl rfl rfl .free rfl (Dh h hl b _ al.length (by omega) (by omega) _) ?_; rintro _ _ _ _ ⟨r2, rfl, rfl, rfl, hr2⟩
  have hr3 : r2 < al.length := by omega
  have hst := hat.st r2 hr3
  have hel : (al.getD r2 []).length ≤ 12000 := ha2 _ (by rw [show al.getD r2 [] = al[r2] by simp [hr3]]; exact List.getElem_mem _)
  refine Hx ?_
  first | refine Da 6 rfl (A4 rfl rfl _ rfl) ?_ | refine Da 6 rfl (A5 rfl rfl _ rfl) ?_
  refine Dt 7 [17] rfl (Qc rfl) ?_; refine C6 9 rfl (by kernel_rfl) rfl rfl rfl (by rfl) (by rfl) (by rfl) (by decide) (by decide) (by rfl) .free rfl (.inr Al) ?_; intro b32; refine Ce ?_; intro hz
  have hk := Mo (I := J2) (b := b32) (e := 9) (l := [[97], [120], [49], [112, 97, 105, 114], [99, 97, 108, 108], [102, 115, 116], [105], [43], [40, 102, 115, 116, 32, 49, 41], [98, 55]]) (by decide) (by decide)
  have hlr := hlr.trans hz
  have h := h.mono hz
  have hat := hat.mono hz
  try have hst := hst.mono hz
  refine Dc 10 rfl rfl (Ei h hl b _ (by omega) hk (by simp) _) ?_; rintro _ _ _ _ ⟨y, rfl, hy, rfl, rfl⟩
  have hyl : y.length ≤ 10 := by revert y; decide
  refine Hx ?_; refine Dc 11 rfl rfl (Lg s (al.getD r2 []) y (by unfold I4; omega) (by unfold I4; omega) (by omega) _ _) ?_; rintro _ J3 _ e3 ⟨rfl, rfl⟩
  have h := h.mono e3
  have hlr := hlr.trans e3
  have hol : ((Hs s (al.getD r2 []) y).getD []).length ≤ 12000 := by
   cases ho : Hs s (al.getD r2 []) y with
   | none => decide
   | some o => exact Uq ho
  refine Hx ?_; refine Da 12 rfl (Ac rfl) ?_; refine Da 13 rfl (Jk rfl rfl) ?_; refine Da 14 rfl (Jk rfl rfl) ?_; refine Da 15 rfl (Bh rfl) ?_; refine Da 16 rfl (Bh rfl) ?_; refine Au (by kernel_rfl) ?_; refine Ab (Se rfl (Om rfl (Om rfl ?_)))
  first | refine F4 rfl rfl ?_ ?_ | refine Ek rfl rfl ?_ ?_ | refine Kb rfl rfl ?_ ?_
  ·intro g8_2; refine Ow rfl ?_; refine B6 rfl (.met rfl rfl) rfl (Dh h hl b _ 8 (by omega) (by decide) _) ?_; rintro _ _ _ _ ⟨r4, rfl, rfl, rfl, hr4⟩; refine C7 rfl rfl rfl (.met rfl rfl) rfl ?_; refine Ot rfl rfl (Aa ?_); refine Av rfl ?_ ?_
   ·intro c2
    try simp only [nb] at c2
    refine Se rfl (Om rfl (Oa rfl (Aa (Ag (.tmp rfl .nil) ?_))))
    exact ⟨J3, _, hle.trans hlr, fun _ h => h, _, _, rfl, by omega, by omega, by omega, rfl⟩
   intro c2
   try simp only [nb] at c2
   refine Af (Se rfl (Om rfl (Om rfl ?_))); refine Ol rfl rfl ?_; intro b46; refine Dw [[], [32], [41]] (by decide) (by decide) ?_; intro J5 e5 k5; refine Ca rfl (Ei (h.mono e5) hl b _ (by omega) k5 (by simp) _) ?_; rintro _ _ _ _ ⟨z, rfl, hz, rfl, rfl⟩
   have hzl : z.length ≤ 1 := by revert z; decide
   refine Ok rfl rfl ?_; refine Oa rfl (Aa (Ag (.tmp rfl .nil) ?_))
   exact ⟨J5, _, (hle.trans hlr).trans e5, fun _ h => h, _, _, rfl, (by first | omega | (simp only [List.length_append, List.length_cons, List.length_nil]; omega) | (simp; omega)), by omega, by omega, rfl⟩
  intro g8_2
  iterate 3 refine Ck rfl rfl rfl ?_
  refine Of rfl rfl (Aa ?_); refine A8 rfl ?_; refine Af (Se rfl (Om rfl (Om rfl ?_))); refine Ol rfl rfl ?_; intro b46; refine Dw [[], [32], [41]] (by decide) (by decide) ?_; intro J5 e5 k5; refine Ca rfl (Ei (h.mono e5) hl b _ (by omega) k5 (by simp) _) ?_; rintro _ _ _ _ ⟨z, rfl, hz, rfl, rfl⟩
  have hzl : z.length ≤ 1 := by revert z; decide
  refine Ok rfl rfl ?_; refine Oa rfl (Aa (Ag (.tmp rfl .nil) ?_))
  exact ⟨J5, _, (hle.trans hlr).trans e5, fun _ h => h, _, _, rfl, (by first | omega | (simp only [List.length_append, List.length_cons, List.length_nil]; omega) | (simp; omega)), by omega, by omega, rfl⟩
 ·skip
  refine D0 9 rfl rfl rfl rfl (by rfl) (by rfl) (by rfl) (by decide) (by decide) (by rfl) .free rfl (.inr Al) ?_; intro b32; refine Ce ?_; intro hz
  have hk := Mo (I := J2) (b := b32) (e := 9) (l := [[97], [120], [49], [112, 97, 105, 114], [99, 97, 108, 108], [102, 115, 116], [105], [43], [40, 102, 115, 116, 32, 49, 41], [98, 55]]) (by decide) (by decide)
  have hlr := hlr.trans hz
  have h := h.mono hz
  have hat := hat.mono hz
  try have hst := hst.mono hz
  refine Dc 5 rfl rfl (Dh h hl b _ al.length (by omega) (by omega) _) ?_; rintro _ _ _ _ ⟨r2, rfl, rfl, rfl, hr2⟩
  have hr3 : r2 < al.length := by omega
  have hst := hat.st r2 hr3
  have hel : (al.getD r2 []).length ≤ 12000 := ha2 _ (by rw [show al.getD r2 [] = al[r2] by simp [hr3]]; exact List.getElem_mem _)
  refine Hx ?_
  first | refine Da 6 rfl (A4 rfl rfl _ rfl) ?_ | refine Da 6 rfl (A5 rfl rfl _ rfl) ?_
  refine Dt 7 [17] rfl (Qc rfl) ?_; refine Dc 10 rfl rfl (Ei h hl b _ (by omega) hk (by simp) _) ?_; rintro _ _ _ _ ⟨y, rfl, hy, rfl, rfl⟩
  have hyl : y.length ≤ 10 := by revert y; decide
  refine Hx ?_; refine Dc 11 rfl rfl (Lg s (al.getD r2 []) y (by unfold I4; omega) (by unfold I4; omega) (by omega) _ _) ?_; rintro _ J3 _ e3 ⟨rfl, rfl⟩
  have h := h.mono e3
  have hlr := hlr.trans e3
  have hol : ((Hs s (al.getD r2 []) y).getD []).length ≤ 12000 := by
   cases ho : Hs s (al.getD r2 []) y with
   | none => decide
   | some o => exact Uq ho
  refine Hx ?_; refine Da 12 rfl (Ac rfl) ?_; refine Da 13 rfl (Jk rfl rfl) ?_; refine Da 14 rfl (Jk rfl rfl) ?_; refine Da 15 rfl (Bh rfl) ?_; refine Da 16 rfl (Bh rfl) ?_; refine Au (by kernel_rfl) ?_; refine Ab (Se rfl (Om rfl (Om rfl ?_)))
  first | refine F4 rfl rfl ?_ ?_ | refine Ek rfl rfl ?_ ?_ | refine Kb rfl rfl ?_ ?_
  ·intro g8_2; refine Ow rfl ?_; refine B6 rfl (.met rfl rfl) rfl (Dh h hl b _ 8 (by omega) (by decide) _) ?_; rintro _ _ _ _ ⟨r4, rfl, rfl, rfl, hr4⟩; refine C7 rfl rfl rfl (.met rfl rfl) rfl ?_; refine Ot rfl rfl (Aa ?_); refine Av rfl ?_ ?_
   ·intro c2
    try simp only [nb] at c2
    refine Se rfl (Om rfl (Oa rfl (Aa (Ag (.tmp rfl .nil) ?_))))
    exact ⟨J3, _, hle.trans hlr, fun _ h => h, _, _, rfl, by omega, by omega, by omega, rfl⟩
   intro c2
   try simp only [nb] at c2
   refine Af (Se rfl (Om rfl (Om rfl ?_))); refine Ol rfl rfl ?_; intro b46; refine Dw [[], [32], [41]] (by decide) (by decide) ?_; intro J5 e5 k5; refine Ca rfl (Ei (h.mono e5) hl b _ (by omega) k5 (by simp) _) ?_; rintro _ _ _ _ ⟨z, rfl, hz, rfl, rfl⟩
   have hzl : z.length ≤ 1 := by revert z; decide
   refine Ok rfl rfl ?_; refine Oa rfl (Aa (Ag (.tmp rfl .nil) ?_))
   exact ⟨J5, _, (hle.trans hlr).trans e5, fun _ h => h, _, _, rfl, (by first | omega | (simp only [List.length_append, List.length_cons, List.length_nil]; omega) | (simp; omega)), by omega, by omega, rfl⟩
  intro g8_2
  iterate 3 refine Ck rfl rfl rfl ?_
  refine Of rfl rfl (Aa ?_); refine A8 rfl ?_; refine Af (Se rfl (Om rfl (Om rfl ?_))); refine Ol rfl rfl ?_; intro b46; refine Dw [[], [32], [41]] (by decide) (by decide) ?_; intro J5 e5 k5; refine Ca rfl (Ei (h.mono e5) hl b _ (by omega) k5 (by simp) _) ?_; rintro _ _ _ _ ⟨z, rfl, hz, rfl, rfl⟩
  have hzl : z.length ≤ 1 := by revert z; decide
  refine Ok rfl rfl ?_; refine Oa rfl (Aa (Ag (.tmp rfl .nil) ?_))
  exact ⟨J5, _, (hle.trans hlr).trans e5, fun _ h => h, _, _, rfl, (by first | omega | (simp only [List.length_append, List.length_cons, List.length_nil]; omega) | (simp; omega)), by omega, by omega, rfl⟩
theorem Ws {e : Ex} (h : e.fine = true) : Ea e.tree.text = some e := by
 have hok : e.ok = true := by simp only [Ex.fine, Bool.and_eq_true] at h; exact h.1.1
 rw [Ja hok, if_pos h]
theorem Hw {s : Am} {e : Ex} (h : Ea s = some e) : e.fine = true ∧ e.ok = true ∧ e.size ≤ 120 ∧ e.tree.len ≤ 12000 ∧ s = e.tree.text := by
 obtain ⟨_, h2, h3⟩ := Mx h
 have h4 := h2
 simp only [Ex.fine, Bool.and_eq_true, Tree.fits, decide_eq_true_eq] at h4
 exact ⟨h2, h4.1.1, h4.1.2, h4.2.2, h3⟩
def Ex.many : Ex → Nat
 | .num _ => 1
 | .name _ => 1
 | .bin _ a b => 1 + a.many + b.many
 | .ite a b c => 1 + a.many + b.many + c.many
 | .lt _ a b => 1 + a.many + b.many
 | .fn _ _ _ _ b => 1 + b.many
 | .un _ a => 1 + a.many
def Ex.hd : Ex → Am
 | .num _ => [110, 117, 109, 98, 101, 114]
 | .name _ => [110, 97, 109, 101]
 | e => e.tree.head
def Aca (s : Am) : Am := match Ea s with
 | some e => e.hd
 | none => []
def Acc (s : Am) : Option (List Am) := (Ea s).map fun e => e.sub.map fun a => a.tree.text
def Acd (s : Am) : Int := match Ea s with
 | some e => (e.many : Nat)
 | none => -1
def Ab5 (s : Am) : Int := match De s with
 | some t => (t.size : Nat)
 | none => -1
def Y2 (s : Am) : Nat := s.foldl (fun a c => 10 * a + (c.toNat - 48)) 0
theorem Y3 (s : Am) (c : UInt8) : Y2 (s ++ [c]) = 10 * Y2 s + (c.toNat - 48) := by simp [Y2]
theorem Qw {d : Nat} (h : d < 10) : (UInt8.ofNat (48 + d)).toNat - 48 = d := by
 have : (UInt8.ofNat (48 + d)).toNat = 48 + d := by simp [UInt8.toNat_ofNat]; omega
 omega
theorem Rc : ∀ n : Nat, Y2 (Iy n) = n := by
 intro n
 induction n using Nat.strongRecOn with
 | _ n ih =>
  by_cases h : n < 10
  ·rw [Ft h]
   show 10 * 0 + ((UInt8.ofNat (48 + n)).toNat - 48) = n
   rw [Qw h]; omega
  ·rw [G3 h, Y3, ih (n / 10) (by omega), Qw (Nat.mod_lt _ (by omega))]
   omega
theorem X7 {a b : Nat} (h : Iy a = Iy b) : a = b := by
 have := congrArg Y2 h
 rwa [Rc, Rc] at this
def nm (c : UInt8) (n : Nat) : Am := c :: Iy n
theorem Vm {c : UInt8} {a b : Nat} (h : nm c a = nm c b) : a = b := X7 (List.cons.inj h).2
def Eb (c : UInt8) (av : List Am) (n : Nat) : Nat := ((List.range n).filter fun k => decide (nm c k ∈ av)).length
theorem Hd (c : UInt8) (av : List Am) (n : Nat) : Eb c av (n + 1) = Eb c av n + (if nm c n ∈ av then 1 else 0) := by
 unfold Eb
 rw [List.range_succ, List.filter_append]
 by_cases h : nm c n ∈ av <;> simp [h]
theorem P7 : ∀ {l m : List Am}, l.Nodup → (∀ x ∈ l, x ∈ m) → l.length ≤ m.length
 | [], m, _, _ => Nat.zero_le _
 | x :: l, m, hn, hs => by
  obtain ⟨h1, h2⟩ := List.nodup_cons.1 hn
  have hx := hs x (.head _)
  have := P7 (l := l) (m := m.erase x) h2 fun y hy => by
   have hne : y ≠ x := by rintro rfl; exact h1 hy
   exact (List.mem_erase_of_ne hne).2 (hs y (.tail _ hy))
  rw [List.length_erase_of_mem hx] at this
  have := List.length_pos_of_mem hx
  simp only [List.length_cons]; omega
theorem Bf (c : UInt8) (av : List Am) (n : Nat) : Eb c av n ≤ av.length := by
 unfold Eb
 rw [← List.length_map (f := nm c)]; refine P7 ?_ ?_
 ·have h1 : ((List.range n).filter fun k => decide (nm c k ∈ av)).Nodup := List.nodup_range.filter _
  unfold List.Nodup at h1 ⊢
  rw [List.pairwise_map]
  exact h1.imp fun h e => h (Vm e)
 ·intro x hx; obtain ⟨k, hk, rfl⟩ := List.mem_map.1 hx
  simpa using (List.mem_filter.1 hk).2
def Yb (c : UInt8) (av : List Am) : Nat → Nat → Nat
 | 0, n => n
 | k + 1, n => if nm c n ∈ av then Yb c av k (n + 1) else n
theorem Tw {c : UInt8} {av : List Am} : ∀ {k n : Nat}, av.length ≤ Eb c av n + k → nm c (Yb c av k n) ∉ av ∧ n ≤ Yb c av k n ∧ Yb c av k n + Eb c av n = n + Eb c av (Yb c av k n)
 | 0, n, h => by
  have h1 := Bf c av (n + 1)
  rw [Hd] at h1; refine ⟨fun hm => ?_, Nat.le_refl _, rfl⟩
  simp only [Yb] at hm
  rw [if_pos hm] at h1; omega
 | k + 1, n, h => by
  simp only [Yb]
  by_cases hm : nm c n ∈ av
  ·rw [if_pos hm]
   have h2 := Hd c av n
   rw [if_pos hm] at h2; obtain ⟨h3, h4, h5⟩ := Tw (c := c) (av := av) (k := k) (n := n + 1) (by omega)
   exact ⟨h3, by omega, by omega⟩
  ·rw [if_neg hm]; exact ⟨hm, Nat.le_refl _, rfl⟩
def fr (c : UInt8) (av : List Am) (n : Nat) : Nat := Yb c av av.length n
theorem Dq (c : UInt8) (av : List Am) (n : Nat) : nm c (fr c av n) ∉ av ∧ n ≤ fr c av n ∧ fr c av n + Eb c av n = n + Eb c av (fr c av n) := Tw (by omega)
theorem Dz (c : UInt8) (av : List Am) (n : Nat) : fr c av n + 1 + Eb c av n = n + 1 + Eb c av (fr c av n + 1) := by
 obtain ⟨h1, h2, h3⟩ := Dq c av n
 have := Hd c av (fr c av n)
 rw [if_neg h1] at this; omega
theorem Tx {c : UInt8} {av : List Am} : ∀ {k n m : Nat}, (∀ j, n ≤ j → j < m → nm c j ∈ av) → n ≤ m → m ≤ n + k → nm c m ∉ av → Yb c av k n = m
 | 0, n, m, _, h1, h2, _ => by simp only [Yb]; omega
 | k + 1, n, m, h, h1, h2, h3 => by
  simp only [Yb]
  by_cases hm : nm c n ∈ av
  ·rw [if_pos hm]
   have : n ≠ m := by rintro rfl; exact h3 hm
   exact Tx (fun j a b => h j (by omega) b) (by omega) (by omega) h3
  ·rw [if_neg hm]
   by_cases he : n = m
   ·exact he
   ·exact absurd (h n (Nat.le_refl _) (by omega)) hm
theorem Ov {c : UInt8} {av : List Am} {n m : Nat} (h : ∀ j, n ≤ j → j < m → nm c j ∈ av) (h1 : n ≤ m) (h3 : nm c m ∉ av) : fr c av n = m := by
 obtain ⟨g1, g2, g3⟩ := Dq c av n
 by_cases hlt : fr c av n < m
 ·exact absurd (h _ g2 hlt) g1
 ·have hmm : m ≤ fr c av n := by omega
  have key : ∀ d, Eb c av (n + d) ≤ Eb c av n + d := by
   intro d
   induction d with
   | zero => exact Nat.le_refl _
   | succ d ih => rw [← Nat.add_assoc, Hd]; split <;> omega
  have h5 : m ≤ n + av.length := by
   have e1 : ∀ d, n + d ≤ m → Eb c av (n + d) = Eb c av n + d := by
    intro d hd
    induction d with
    | zero => rfl
    | succ d ih =>
     rw [← Nat.add_assoc, Hd, if_pos (h (n + d) (by omega) (by omega)), ih (by omega)]; omega
   have e2 := e1 (m - n) (by omega)
   have e3 := Bf c av (n + (m - n))
   omega
  exact Tx h h1 h5 h3

def Ex.pl (av : List Am) : Ex → List Am → List Am → Nat → Ex × Nat
 | .num s, _, _, n => (.num s, n)
 | .name s, f, t, n => (.name (match Br f s with | some i => t.getD i [] | none => s), n)
 | .bin o a b, f, t, n => let p := a.pl av f t n; let q := b.pl av f t p.2; (.bin o p.1 q.1, q.2)
 | .ite a b c, f, t, n => let p := a.pl av f t n; let q := b.pl av f t p.2; let r := c.pl av f t q.2; (.ite p.1 q.1 r.1, r.2)
 | .lt x a b, f, t, n => let k := fr 120 av n; let p := a.pl av f t (k + 1); let q := b.pl av (f ++ [x]) (t ++ [nm 120 k]) p.2; (.lt (nm 120 k) p.1 q.1, q.2)
 | .fn g x s u b, f, t, n => let k := fr 120 av n; let j := fr 120 av (k + 1); let p := b.pl av (f ++ [g, x]) (t ++ [nm 120 k, nm 120 j]) (j + 1); (.fn (nm 120 k) (nm 120 j) s u p.1, p.2)
 | .un o a, f, t, n => let p := a.pl av f t n; (.un o p.1, p.2)
def Ex.nb : Ex → Nat
 | .num _ => 0
 | .name _ => 0
 | .bin _ a b => a.nb + b.nb
 | .ite a b c => a.nb + b.nb + c.nb
 | .lt _ a b => 1 + a.nb + b.nb
 | .fn _ _ _ _ b => 2 + b.nb
 | .un _ a => a.nb
theorem Ex.pl_hits (av : List Am) : ∀ (e : Ex) (f t : List Am) (n : Nat), n ≤ (e.pl av f t n).2 ∧ (e.pl av f t n).2 + Eb 120 av n = n + e.nb + Eb 120 av (e.pl av f t n).2
 | .num s, f, t, n => ⟨Nat.le_refl _, by simp [Ex.pl, Ex.nb]⟩
 | .name s, f, t, n => ⟨Nat.le_refl _, by simp [Ex.pl, Ex.nb]⟩
 | .bin o a b, f, t, n => by
  have h1 := a.pl_hits av f t n
  have h2 := b.pl_hits av f t (a.pl av f t n).2
  simp only [Ex.pl, Ex.nb]; omega
 | .ite a b c, f, t, n => by
  have h1 := a.pl_hits av f t n
  have h2 := b.pl_hits av f t (a.pl av f t n).2
  have h3 := c.pl_hits av f t (b.pl av f t (a.pl av f t n).2).2
  simp only [Ex.pl, Ex.nb]; omega
 | .lt x a b, f, t, n => by
  have h0 := Dz 120 av n
  have h00 := (Dq 120 av n).2.1
  have h1 := a.pl_hits av f t (fr 120 av n + 1)
  have h2 := b.pl_hits av (f ++ [x]) (t ++ [nm 120 (fr 120 av n)]) (a.pl av f t (fr 120 av n + 1)).2
  simp only [Ex.pl, Ex.nb]; omega
 | .fn g x s u b, f, t, n => by
  have h0 := Dz 120 av n
  have h00 := (Dq 120 av n).2.1
  have h1 := Dz 120 av (fr 120 av n + 1)
  have h11 := (Dq 120 av (fr 120 av n + 1)).2.1
  have h2 := b.pl_hits av (f ++ [g, x]) (t ++ [nm 120 (fr 120 av n), nm 120 (fr 120 av (fr 120 av n + 1))]) (fr 120 av (fr 120 av n + 1) + 1)
  simp only [Ex.pl, Ex.nb]; omega
 | .un o a, f, t, n => by
  have h1 := a.pl_hits av f t n
  simp only [Ex.pl, Ex.nb]; omega
theorem Ex.pl_size (av : List Am) : ∀ (e : Ex) (f t : List Am) (n : Nat), (e.pl av f t n).1.size = e.size ∧ (e.pl av f t n).1.tree.depth = e.tree.depth ∧ (e.pl av f t n).1.many = e.many
 | .num s, f, t, n => ⟨rfl, rfl, rfl⟩
 | .name s, f, t, n => ⟨rfl, rfl, rfl⟩
 | .bin o a b, f, t, n => by
  obtain ⟨h1, h2, h3⟩ := a.pl_size av f t n; obtain ⟨g1, g2, g3⟩ := b.pl_size av f t (a.pl av f t n).2
  simp only [Ex.pl, Ex.size, Ex.many, Ex.tree, Tree.depth, Dk, List.isEmpty_cons, cond_false, h1, h2, h3, g1, g2, g3, and_self]
 | .ite a b c, f, t, n => by
  obtain ⟨h1, h2, h3⟩ := a.pl_size av f t n; obtain ⟨g1, g2, g3⟩ := b.pl_size av f t (a.pl av f t n).2; obtain ⟨k1, k2, k3⟩ := c.pl_size av f t (b.pl av f t (a.pl av f t n).2).2
  simp only [Ex.pl, Ex.size, Ex.many, Ex.tree, Tree.depth, Dk, List.isEmpty_cons, cond_false, h1, h2, h3, g1, g2, g3, k1, k2, k3, and_self]
 | .lt x a b, f, t, n => by
  obtain ⟨h1, h2, h3⟩ := a.pl_size av f t (fr 120 av n + 1); obtain ⟨g1, g2, g3⟩ := b.pl_size av (f ++ [x]) (t ++ [nm 120 (fr 120 av n)]) (a.pl av f t (fr 120 av n + 1)).2
  simp only [Ex.pl, Ex.size, Ex.many, Ex.tree, Tree.depth, Dk, List.isEmpty_cons, List.isEmpty_nil, cond_true, cond_false, h1, h2, h3, g1, g2, g3, and_self]
 | .fn g x s u b, f, t, n => by
  obtain ⟨g1, g2, g3⟩ := b.pl_size av (f ++ [g, x]) (t ++ [nm 120 (fr 120 av n), nm 120 (fr 120 av (fr 120 av n + 1))]) (fr 120 av (fr 120 av n + 1) + 1)
  simp only [Ex.pl, Ex.size, Ex.many, Ex.tree, Tree.depth, Dk, List.isEmpty_cons, List.isEmpty_nil, cond_true, cond_false, g1, g2, g3, and_self]
 | .un o a, f, t, n => by
  obtain ⟨h1, h2, h3⟩ := a.pl_size av f t n
  simp only [Ex.pl, Ex.size, Ex.many, Ex.tree, Tree.depth, Dk, List.isEmpty_cons, cond_false, h1, h2, h3, and_self]
theorem Ex.nb_occ : ∀ (e : Ex) (bd : List Am), 3 * (e.nb + (e.occ bd).length) ≤ 2 * e.size + 1
 | .num s, bd => by simp [Ex.nb, Ex.occ, Ex.size]
 | .name s, bd => by simp only [Ex.nb, Ex.occ, Ex.size]; split <;> simp
 | .bin o a b, bd => by have := a.nb_occ bd; have := b.nb_occ bd; simp only [Ex.nb, Ex.occ, Ex.size, List.length_append]; omega
 | .ite a b c, bd => by have := a.nb_occ bd; have := b.nb_occ bd; have := c.nb_occ bd; simp only [Ex.nb, Ex.occ, Ex.size, List.length_append]; omega
 | .lt x a b, bd => by have := a.nb_occ bd; have := b.nb_occ (bd ++ [x]); simp only [Ex.nb, Ex.occ, Ex.size, List.length_append]; omega
 | .fn f x s t b, bd => by have := b.nb_occ (bd ++ [f, x]); have := s.size_pos; have := t.size_pos; simp only [Ex.nb, Ex.occ, Ex.size]; omega
 | .un o a, bd => by have := a.nb_occ bd; simp only [Ex.nb, Ex.occ, Ex.size]; omega
theorem Tk {d : Nat} (h : d < 10) : E2 (UInt8.ofNat (48 + d)) = true := by
 have : (UInt8.ofNat (48 + d)).toNat = 48 + d := by simp [UInt8.toNat_ofNat]; omega
 simp only [E2, this, Bool.and_eq_true, decide_eq_true_eq]; omega
theorem Th : ∀ n : Nat, (Iy n).all E2 = true := by
 intro n
 induction n using Nat.strongRecOn with
 | _ n ih =>
  by_cases h : n < 10
  ·rw [Ft h]; simp only [List.all_cons, List.all_nil, Bool.and_true]; exact Tk h
  ·rw [G3 h, List.all_append, ih (n / 10) (by omega)]
   simp only [List.all_cons, List.all_nil, Bool.and_true, Bool.true_and]; exact Tk (Nat.mod_lt n (by omega))
theorem Pd {n : Nat} (h : n < 1000) : (Iy n).length ≤ 3 := by
 by_cases h1 : n < 10
 ·rw [Ft h1]; simp
 ·rw [G3 h1, List.length_append]
  by_cases h2 : n / 10 < 10
  ·rw [Ft h2]; simp
  ·rw [G3 h2, List.length_append, Ft (show n / 10 / 10 < 10 by omega)]; simp
theorem Jo {c : UInt8} {n : Nat} (hc : Mb c = true) (h : n < 1000) : Bs (nm c n) = true := by
 have := Pd h
 simp [nm, Bs, hc, Th n, this]
def namesL (l : List Am) : Prop := ∀ s ∈ l, Bs s = true
theorem namesL.add {l m : List Am} (h : namesL l) (h' : namesL m) : namesL (l ++ m) := by
 intro s hs
 rcases List.mem_append.1 hs with hs | hs
 ·exact h s hs
 ·exact h' s hs
theorem Ex.pl_ok {av : List Am} : ∀ {e : Ex} {f t : List Am} {n : Nat}, e.ok = true → namesL t → f.length = t.length → n + e.nb + av.length ≤ 900 + Eb 120 av n → (e.pl av f t n).1.ok = true
 | .num s, f, t, n, h, _, _, _ => h
 | .name s, f, t, n, h, ht, hl, _ => by
  simp only [Ex.pl, Ex.ok]
  cases hi : Br f s with
  | none => exact h
  | some i =>
   have h1 := (Jf (show E8 f s f.length = some i from hi)).1
   have h2 : i < t.length := by omega
   show Bs (t.getD i []) = true
   rw [show t.getD i [] = t[i] by simp [h2]]
   exact ht _ (List.getElem_mem h2)
 | .bin o a b, f, t, n, h, ht, hl, hn => by
  simp only [Ex.ok, Bool.and_eq_true] at h
  simp only [Ex.nb] at hn
  have h1 := a.pl_hits av f t n
  have h2 := Bf 120 av (a.pl av f t n).2
  simp only [Ex.pl, Ex.ok, Bool.and_eq_true]
  exact ⟨Ex.pl_ok h.1 ht hl (by omega), Ex.pl_ok h.2 ht hl (by omega)⟩
 | .ite a b c, f, t, n, h, ht, hl, hn => by
  simp only [Ex.ok, Bool.and_eq_true] at h
  simp only [Ex.nb] at hn
  have h1 := a.pl_hits av f t n
  have h2 := b.pl_hits av f t (a.pl av f t n).2
  have h3 := Bf 120 av (a.pl av f t n).2
  have h4 := Bf 120 av (b.pl av f t (a.pl av f t n).2).2
  simp only [Ex.pl, Ex.ok, Bool.and_eq_true]
  exact ⟨⟨Ex.pl_ok h.1.1 ht hl (by omega), Ex.pl_ok h.1.2 ht hl (by omega)⟩, Ex.pl_ok h.2 ht hl (by omega)⟩
 | .lt x a b, f, t, n, h, ht, hl, hn => by
  simp only [Ex.ok, Bool.and_eq_true] at h
  simp only [Ex.nb] at hn
  have h0 := Dz 120 av n
  have h1 := a.pl_hits av f t (fr 120 av n + 1)
  have h2 := Bf 120 av (fr 120 av n + 1)
  have h3 := Bf 120 av (a.pl av f t (fr 120 av n + 1)).2
  have h4 := Bf 120 av n
  have hz : Bs (nm 120 (fr 120 av n)) = true := Jo (by decide) (by omega)
  simp only [Ex.pl, Ex.ok, Bool.and_eq_true]
  exact ⟨⟨hz, Ex.pl_ok h.1.2 ht hl (by omega)⟩, Ex.pl_ok h.2 (ht.add fun s hs => by rw [List.mem_singleton.1 hs]; exact hz) (by simp [hl]) (by omega)⟩
 | .fn g x s u b, f, t, n, h, ht, hl, hn => by
  simp only [Ex.ok, Bool.and_eq_true, decide_eq_true_eq] at h
  obtain ⟨⟨⟨⟨⟨h1, h2⟩, h3⟩, h4⟩, h5⟩, h6⟩ := h
  simp only [Ex.nb] at hn
  have k0 := Dz 120 av n
  have k1 := Dz 120 av (fr 120 av n + 1)
  have k2 := Bf 120 av (fr 120 av n + 1)
  have k3 := Bf 120 av (fr 120 av (fr 120 av n + 1) + 1)
  have k5 := Bf 120 av n
  have k4 := (Dq 120 av (fr 120 av n + 1)).2.1
  have hz1 : Bs (nm 120 (fr 120 av n)) = true := Jo (by decide) (by omega)
  have hz2 : Bs (nm 120 (fr 120 av (fr 120 av n + 1))) = true := Jo (by decide) (by omega)
  simp only [Ex.pl, Ex.ok, Bool.and_eq_true, decide_eq_true_eq]
  refine ⟨⟨⟨⟨⟨hz1, hz2⟩, fun e => ?_⟩, h4⟩, h5⟩, Ex.pl_ok h6 (ht.add fun s hs => ?_) (by simp [hl]) (by omega)⟩
  ·have := Vm e; omega
  ·simp only [List.mem_cons, List.not_mem_nil, or_false] at hs
   rcases hs with rfl | rfl
   ·exact hz1
   ·exact hz2
 | .un o a, f, t, n, h, ht, hl, hn => by
  simp only [Ex.pl, Ex.ok]
  exact Ex.pl_ok (e := a) h ht hl (by simpa [Ex.nb] using hn)
theorem B5.txt_len (o : B5) : o.txt.length ≤ 4 := by cases o <;> decide
theorem U2.txt_len (o : U2) : o.txt.length ≤ 3 := by cases o <;> decide
theorem Ex.len_size : ∀ {e : Ex}, e.ok = true → e.tree.len + 1 ≤ 8 * e.size
 | .num s, h => by
  have h : Cr s = true := h
  have : s.length ≤ 4 := by
   simp only [Cr, Bool.or_eq_true, Bool.and_eq_true, decide_eq_true_eq] at h
   rcases h with h | h
   ·rw [h]; decide
   ·have h1 := h.1.1.2
    unfold Ec at h1
    split at h1
    ·simp only [List.length_drop] at h1; omega
    ·omega
  simp only [Ex.tree, Tree.len, List.isEmpty_nil, cond_true, Ex.size]; omega
 | .name s, h => by
  have := H9 (show Bs s = true from h)
  simp only [Ex.tree, Tree.len, List.isEmpty_nil, cond_true, Ex.size]; omega
 | .bin o a b, h => by
  simp only [Ex.ok, Bool.and_eq_true] at h
  have h1 := Ex.len_size h.1; have h2 := Ex.len_size h.2; have h3 := o.txt_len
  simp only [Ex.tree, Tree.len, Fl, List.isEmpty_nil, List.isEmpty_cons, cond_true, cond_false, Ex.size]; omega
 | .ite a b c, h => by
  simp only [Ex.ok, Bool.and_eq_true] at h
  have h1 := Ex.len_size h.1.1; have h2 := Ex.len_size h.1.2; have h3 := Ex.len_size h.2
  simp only [Ex.tree, Tree.len, Fl, List.isEmpty_nil, List.isEmpty_cons, cond_true, cond_false, Ex.size, E9, List.length_cons, List.length_nil]; omega
 | .lt x a b, h => by
  simp only [Ex.ok, Bool.and_eq_true] at h
  have h1 := Ex.len_size h.1.2; have h2 := Ex.len_size h.2; have h3 := H9 h.1.1
  simp only [Ex.tree, Tree.len, Fl, List.isEmpty_nil, List.isEmpty_cons, cond_true, cond_false, Ex.size, Cw, List.length_cons, List.length_nil]; omega
 | .fn f x s t b, h => by
  simp only [Ex.ok, Bool.and_eq_true, decide_eq_true_eq] at h
  obtain ⟨⟨⟨⟨⟨h1, h2⟩, h3⟩, h4⟩, h5⟩, h6⟩ := h
  have k1 := Ex.len_size h6; have k2 := H9 h1; have k3 := H9 h2
  have k4 := s.tree_small; have k5 := t.tree_small; have k6 := s.size_pos; have k7 := t.size_pos
  simp only [Ex.tree, Tree.len, Fl, List.isEmpty_nil, List.isEmpty_cons, cond_true, cond_false, Ex.size, Cq, List.length_cons, List.length_nil]; omega
 | .un o a, h => by
  have h1 := Ex.len_size (e := a) h; have h3 := o.txt_len
  simp only [Ex.tree, Tree.len, Fl, List.isEmpty_nil, List.isEmpty_cons, cond_true, cond_false, Ex.size]; omega
def Ex.plain (e : Ex) : Ex := (e.pl e.free [] [] 0).1
theorem Nq (l m : List Am) : (Cx l m).length ≤ l.length + m.length := by
 induction m generalizing l with
 | nil => exact Nat.le_refl _
 | cons s m ih =>
  have h1 : (En l s).length ≤ l.length + 1 := by unfold En; split <;> simp
  have h2 := ih (En l s)
  simp only [Cx, List.foldl_cons, List.length_cons] at *
  omega
theorem Lt {e : Ex} (h : e.size ≤ 120) : e.nb + e.free.length ≤ 80 := by
 have h1 := e.nb_occ []
 have h2 := Nq [] (e.occ [])
 simp only [List.length_nil, Nat.zero_add] at h2
 have h3 : e.free.length ≤ (e.occ []).length := h2
 omega
theorem Fx {e : Ex} (h : e.fine = true) : e.plain.fine = true := by
 simp only [Ex.fine, Bool.and_eq_true, decide_eq_true_eq, Tree.fits] at h
 obtain ⟨h1, h2, h3⟩ := e.pl_size e.free [] [] 0
 have hr := Lt h.1.2
 have hok : e.plain.ok = true := Ex.pl_ok h.1.1 (fun s hs => by cases hs) rfl (by omega)
 have hl := Ex.len_size hok
 have h4 : e.plain.size = e.size := h1
 have h5 : e.plain.tree.depth = e.tree.depth := h2
 simp only [Ex.fine, Bool.and_eq_true, decide_eq_true_eq, Tree.fits]
 exact ⟨⟨hok, by omega⟩, by omega, by omega⟩
def Ab3 (s : Am) : Option Am := (Ea s).map fun e => e.plain.tree.text
def Sm (l m : List Am) (s : Am) : Am := match Br l s with
 | some i => m.getD i []
 | none => s
theorem Yi {I : Heap} {oa ob : Option Addr} {l m : List Am} {c c' : Nat} (h : Strs I oa l c) (h' : Strs I ob m c') (hlm : l.length = m.length) (s : Am) (L : Bc) :
  Fun Tryz.prog 122 [.slice oa l.length c, .slice ob m.length c', .string (str s)] I L (D1 (.string (str (Sm l m s))) I L) := by
 have hlen := h.len
 unfold Ap at hlen
 refine Aj (by simp) ?_; refine Se rfl (Oa rfl (Aa (Ab (Se rfl (Om rfl (On rfl ?_)))))); refine Or rfl rfl rfl ?_; refine Oa rfl (Aa (Ai ?_)); refine Ct (X := Nat) (fun n => n) (fun n => [(0, .slice oa l.length c), (1, .slice ob m.length c'), (2, .string (str s)), (7, .int .i64 ((n : Int) - 1))]) (fun _ => I) (fun _ => L) (fun n => n ≤ l.length ∧ Br l s = E8 l s n) l.length ⟨Nat.le_refl _, rfl⟩ ⟨rfl, rfl, rfl, rfl, trivial⟩ Bt ?_; rintro n ⟨hn, hl⟩ ih; refine Ab (Se rfl (Om rfl (Oc rfl rfl rfl (Aa ?_)))); refine Si rfl ?_ ?_
 ·intro c0; obtain ⟨k, rfl⟩ : ∃ k, n = k + 1 := ⟨n - 1, by omega⟩; obtain ⟨x, hx, hst⟩ := h.at k (by omega); obtain ⟨y, hy, hst'⟩ := h'.at k (by omega); refine Hp (t := 7) (v' := .int .i64 (k : Nat)) rfl (by congr 1; omega) ?_
  simp only [E8, List.getD_eq_getElem?_getD, List.getElem?_eq_getElem (show k < l.length by omega), Option.getD_some] at hl
  refine Af (Ab (Ai (Se rfl (Om rfl (Om rfl ?_))))); refine Cj rfl rfl _ rfl (by first | omega | exact Cb (by assumption) (by decide) | (simp; done) | (simp; omega) | decide | (simp at *; omega)) (by first | rfl | assumption) .free rfl ?_; refine Cp rfl .free rfl ?_; refine Om rfl (Od rfl rfl rfl (Aa ?_)); refine Si rfl ?_ ?_
  ·intro c1; refine Se rfl (Om rfl (Om rfl ?_)); refine Cj rfl rfl _ rfl (by first | omega | exact Cb (by assumption) (by decide) | (simp; done) | (simp; omega) | decide | (simp at *; omega)) (by first | rfl | assumption) .free rfl ?_; refine Cp rfl .free rfl ?_; refine Oa rfl (Aa (Ag (.tmp rfl .nil) ?_)); refine only rfl ?_; rw [if_pos (by assumption)] at hl
   simp only [Sm, hl]; simp [By, show k < m.length by omega]
  intro c1; refine Af (Ak (Ah rfl (Om rfl ?_))); refine Or rfl rfl rfl ?_; refine Oa rfl (Aa ?_); refine Dr (E' := [(0, .slice oa l.length c), (1, .slice ob m.length c'), (2, .string (str s)), (7, .int .i64 ((k : Int) - 1))]) ⟨rfl, rfl, rfl, rfl, trivial⟩ (ih k ⟨by omega, ?_⟩ (by omega)); rw [hl, if_neg (by assumption)]
 intro c0; refine Bq rfl ?_; refine Se rfl (Om rfl (Oa rfl (Aa (Ag (.tmp rfl .nil) ?_)))); refine only rfl ?_; obtain rfl : n = 0 := by omega
 simp only [Sm, hl, E8]; rfl
theorem Gl (s : Am) (I : Heap) (L : Bc) : Fun Tryz.prog 105 [.string (str s)] I L (D1 (.agg [.string (str s), .slice none 0 0].toArray) I L) := by
 refine Aj (by simp) ?_; refine Se rfl ?_; refine At .free rfl ?_; intro b2; refine Aa (Se rfl (Om rfl ?_)); refine Cf rfl rfl rfl .free rfl ?_; refine Bp rfl rfl rfl rfl .free ?_; refine Aa ?_; refine Ag (.c rfl .nil) ?_; refine only rfl ?_
 rfl
theorem Abp (c : UInt8) (av : List Am) (n : Nat) : fr c av n ≤ n + av.length := by
 have h1 := (Dq c av n).2.2
 have h2 := Bf c av (fr c av n)
 omega
def rn (b : Nat) (oa : Option Addr) (av : List Am) (c n : Nat) : Nat × Obj := (b, .cells [.slice oa av.length c, .int .i64 (n : Nat)].toArray 128 (0, 0))
theorem M1 {I : Heap} {oa : Option Addr} {av : List Am} {c : Nat} (hav : Strs I oa av c) (b n : Nat) (hn : n + av.length ≤ 900) (L : Bc) :
  Fun Tryz.prog 123 [.pointer (some ⟨b, 0, none⟩)] I (rn b oa av c n :: L) (fun v I' L' => v = .string (str (nm 120 (fr 120 av n))) ∧ I = I' ∧ L' = rn b oa av c (fr 120 av n + 1) :: L) := by
 obtain ⟨f1, f2, f3⟩ := Dq 120 av n
 have f4 := Abp 120 av n
 refine Aj (by simp) ?_; refine Se rfl (Oa rfl (Aa (Ai ?_))); refine Ct (X := Nat) (fun m => fr 120 av n + 1 - m) (fun m => [(0, .pointer (some ⟨b, 0, none⟩))]) (fun _ => I) (fun m => rn b oa av c m :: L) (fun m => n ≤ m ∧ m ≤ fr 120 av n ∧ ∀ j, n ≤ j → j < m → nm 120 j ∈ av) n ⟨Nat.le_refl _, f2, fun j h1 h2 => absurd h2 (by omega)⟩ ⟨rfl, trivial⟩ (fun _ h => h) ?_; rintro m ⟨hm1, hm2, hm3⟩ ih
 unfold rn
 have hdl := Pd (n := m) (by omega)
 refine Ai (Se rfl (Om rfl ?_)); refine Bl rfl .free rfl ?_
 first | refine Oh rfl ?_ | refine Oj rfl ?_
 refine Md rfl .free rfl ?_; refine Ca rfl (Sc _ m (Nat.lt_succ_self _) (by omega) _ _) ?_; rintro _ _ _ _ ⟨rfl, rfl, rfl⟩; refine Ok rfl rfl ?_; refine Oa rfl (Aa (Se rfl (Om rfl (Om rfl ?_)))); refine Bl rfl .free rfl ?_
 first | refine Oh rfl ?_ | refine Oj rfl ?_
 refine Md rfl .free rfl ?_; refine Or rfl rfl rfl ?_; refine Bl rfl .free rfl ?_
 first | refine Oh rfl ?_ | refine Oj rfl ?_
 refine Bp rfl rfl rfl rfl .free ?_; refine Aa (Se rfl (Om rfl ?_)); refine Bl rfl .free rfl ?_
 first | refine Oh rfl ?_ | refine Oj rfl ?_
 refine Md rfl .free rfl ?_; refine Om rfl ?_; refine Ca rfl (Ox (hav.rd _) c (nm 120 m)) ?_; rintro _ _ _ _ ⟨rfl, rfl, rfl⟩; refine Dy rfl .free rfl ?_; refine Aa ?_; refine Av rfl ?_ ?_
 ·intro c0
  try simp only [nb] at c0
  refine Se rfl (Om rfl (Oa rfl (Aa (Ag (.tmp rfl .nil) ?_))))
  have hfm : fr 120 av n = m := Ov hm3 hm1 c0
  exact ⟨I, _, .refl _, fun _ h => h, by rw [hfm]; rfl, rfl, by rw [hfm]; rfl⟩
 intro c0
 try simp only [nb] at c0
 refine Af (Ak ?_)
 have hne : m ≠ fr 120 av n := fun e => f1 (e ▸ c0)
 refine Dr (E' := [(0, .pointer (some ⟨b, 0, none⟩))]) ⟨rfl, trivial⟩ (ih (m + 1) ⟨by omega, by omega, fun j h1 h2 => ?_⟩ (by omega))
 by_cases hj : j = m
 ·subst hj; exact c0
 ·exact hm3 j h1 (by omega)
theorem Nb {n : Nat} (h : n < 1000) : (nm 120 n).length ≤ Ap := Ex.name_len (Jo (by decide) h)
theorem Dn {P : Program} {f : FuncId} {n : Nat} {I₀ : Heap} {Q : C3} {k : List Item} {E : Gj} {I : Heap} {L : Bc} {ops : Array Oper} {S : World → Prop} {fuel : Nat} {listed : Array Bool} {X : Type} (fu : Nat) (ls : Array Bool) (E' : X → Gj) (L' : X → Bc → Bc) (R : X → Prop)
  (hk : ∀ x, R x → Cn P f n I₀ Q ops S fu ls k (E' x ++ E) I (L' x L)) (h : (∀ x, R x → Cn P f n I₀ Q ops S fu ls k (E' x ++ E) I (L' x L)) → Cn P f n I₀ Q ops S fuel listed k E I L) : Cn P f n I₀ Q ops S fuel listed k E I L := h hk
section
variable {I : Heap} {A B C D L : Bc} {w : World}
theorem Mem.seg2 (h : Mem I (A ++ (B ++ L)) w) : Mem I (B ++ (A ++ L)) w := h.perm (List.perm_append_comm_assoc _ _ _)
theorem Mem.seg3 (h : Mem I (A ++ (B ++ (C ++ L))) w) : Mem I (C ++ (A ++ (B ++ L))) w := h.perm ((List.Perm.append_left A (List.perm_append_comm_assoc _ _ _)).trans (List.perm_append_comm_assoc _ _ _))
theorem Mem.ins3 (h : Mem I (A ++ (B ++ (C ++ L))) w) : Mem I (B ++ (C ++ (A ++ L))) w := h.perm ((List.perm_append_comm_assoc _ _ _).trans (List.Perm.append_left B (List.perm_append_comm_assoc _ _ _)))
theorem Mem.ins4 (h : Mem I (A ++ (B ++ (C ++ (D ++ L)))) w) : Mem I (B ++ (C ++ (D ++ (A ++ L)))) w := h.perm (((List.perm_append_comm_assoc _ _ _).trans (List.Perm.append_left B (List.perm_append_comm_assoc _ _ _))).trans (List.Perm.append_left B (List.Perm.append_left C (List.perm_append_comm_assoc _ _ _))))
end
end Go.Proofs.YtbohngcdgmjfaaaGreatDoor
