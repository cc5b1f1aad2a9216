/- Types as they are drawn. No conditions. -/
import Derived.Test.YtmfagaajiakgoaaGreatDoorG10

namespace Go.Proofs.YtmfagaajiakgoaaGreatDoor
set_option maxRecDepth 100000
set_option linter.unusedVariables false
set_option linter.unusedSimpArgs false

def DT (b : Nat) (oa : Option Addr) (l : List UInt8) (c p K B : Nat) (L : Bl) : C1 := fun v I' L' => ∃ s p', v = .string (str s) ∧ List.length s ≤ B ∧ p ≤ p' ∧ p' ≤ p + K ∧ L' = rd b oa l c p' :: L
def kT : Nat → Nat
 | 0 => 0
 | d + 1 => 2 + 2 * kT d
def bT : Nat → Nat
 | 0 => 1
 | d + 1 => 5 + 2 * bT d
theorem Ac2 : ∀ d, 1 ≤ bT d
 | 0 => Nat.le_refl _
 | d + 1 => by simp only [bT]; omega
theorem Jw : ∀ (d : Nat) {I : Heap} {oa : Option Addr} {l : List UInt8} {c : Nat} (_ : Bytes I oa l c) (_ : l.length ≤ 2000) (b p : Nat) (_ : p + kT d ≤ 1099511627776) (_ : bT d ≤ 1000000) (_ : d ≤ 1000) (L : Bl),
  Fun Tryz.prog 134 [.pointer (some ⟨b, 0, none⟩), .int .i64 (d : Nat)] I (rd b oa l c p :: L) (DT b oa l c p (kT d) (bT d) L) := by
 intro d
 induction d with
 | zero =>
  intro I oa l c h hl b p hp hb hd L; refine Ai (by simp) ?_; refine Se rfl (Oa rfl (Aa (Ab (Se rfl (Om rfl (Oc rfl rfl rfl (Om rfl ?_)))))))
  first | refine Ada rfl rfl (by simp) ?_ | refine Ac9 rfl rfl (by simp) ?_
  iterate 3 refine Ci rfl rfl rfl ?_
  refine Ot rfl rfl (Aa ?_); refine Bj rfl ?_; refine Se rfl (Oa rfl (Aa (Ad (.tmp rfl .nil) ?_)))
  exact ⟨I, _, .refl _, fun _ h => h, [105], p, rfl, by decide, Nat.le_refl _, by omega, rfl⟩
 | succ d ihd =>
  intro I oa l c h hl b p hp hb hd L
  simp only [kT, bT] at hp hb ⊢
  have hbp := Ac2 d
  refine Ai (by simp) ?_; refine Se rfl (Oa rfl (Aa (Ab (Se rfl (Om rfl (Oc rfl rfl rfl (Om rfl ?_)))))))
  first | refine Ac8 rfl rfl (by omega) ?_ | refine Ac7 rfl rfl (by omega) ?_
  refine Ow rfl ?_; refine Ce rfl (.met rfl rfl) rfl (De h hl b p 2 (by omega) (by decide) L) ?_; rintro _ _ _ _ ⟨r, rfl, rfl, rfl, hr⟩; refine Dr rfl rfl rfl (.met rfl rfl) rfl ?_; refine Of rfl rfl (Aa ?_); refine Si rfl ?_ ?_
  ·intro c0; refine Se rfl (Oa rfl (Aa (Ad (.tmp rfl .nil) ?_)))
   exact ⟨I, _, .refl _, fun _ h => h, [105], p + 1, rfl, by simp; omega, by omega, by omega, rfl⟩
  intro c0; refine Af (Se rfl (Om rfl ?_)); refine Ol rfl rfl ?_; intro b13; refine D6 [[62], [42]] (by decide) (by decide) ?_; intro J e1 k1; refine Ca rfl (Ed (h.mono e1) hl b (p + 1) (by omega) k1 (by simp) L) ?_; rintro _ _ _ _ ⟨s, rfl, hs, rfl, rfl⟩
  have hsl : s.length = 1 := by revert s; decide
  refine Ok rfl rfl ?_; refine Ok rfl rfl ?_; refine Om rfl (Om rfl ?_); refine Or rfl rfl rfl ?_; refine C3 (t := 19) (v' := .int .i64 (d : Nat)) rfl (by congr 1; omega) ?_; refine Ca rfl (ihd (h.mono e1) hl b (p + 1 + 1) (by omega) (by omega) (by omega) L) ?_; rintro _ J2 _ e2 ⟨s1, p1, rfl, hs1, hp1, hp2, rfl⟩; refine Ok rfl rfl ?_; refine Ok rfl rfl ?_; refine Om rfl (Om rfl ?_); refine Or rfl rfl rfl ?_; refine C3 (t := 25) (v' := .int .i64 (d : Nat)) rfl (by congr 1; omega) ?_; refine Ca rfl (ihd ((h.mono e1).mono e2) hl b p1 (by omega) (by omega) (by omega) L) ?_
  rintro _ J3 _ e3 ⟨s2, p2, rfl, hs2, hp3, hp4, rfl⟩; refine Ok rfl rfl ?_; refine Ok rfl rfl ?_; refine Oa rfl (Aa (Ad (.tmp rfl .nil) ?_))
  exact ⟨J3, _, (e1.trans e2).trans e3, fun _ h => h, _, p2, rfl, by simp; omega, by omega, by omega, rfl⟩
def K6 (n : Nat) : Au := if n < 10 then [UInt8.ofNat (48 + n)] else K6 (n / 10) ++ [UInt8.ofNat (48 + n % 10)]
theorem I3 {n : Nat} (h : n < 10) : K6 n = [UInt8.ofNat (48 + n)] := by rw [K6, if_pos h]
theorem Jp {n : Nat} (h : ¬ n < 10) : K6 n = K6 (n / 10) ++ [UInt8.ofNat (48 + n % 10)] := by rw [K6, if_neg h]
section rules
variable {P : Program} {f : FuncId} {n : Nat} {I₀ : Heap} {Q : C1} {k : List Item} {E : G7} {I : Heap} {L : Bl}
variable {ops : Array Oper} {d : Nat} {ty : TypeId} {pos : String} {af : Array Edge} {g : Option (Nat × Bool)} {l : List Oper}
theorem Aci {m : Int} (h : 0 ≤ m ∧ m < 256) : IntKind.u8.wrap m = m := by
 simp [IntKind.wrap, IntKind.bits, IntKind.signed]; omega
theorem R9 {S : World → Prop} {src dst sz bb sz2 bb2 : Nat} {z z2 : List Value} [hs : At P src (.int .i64) sz bb z] [hd : At P dst (.int .u8) sz2 bb2 z2] {x : Operand} {a : Nat} (hx : Ba E x = some (.int .i64 (a : Nat))) (ha : a < 256) :
  Gz P E S ⟨some d, .convert src dst x, ty, pos, af, g⟩ (.int .u8 (a : Nat)) := fun ac w he _ => by
 simp only [execOp, he.eval hx]
 refine Ac (a := .int .u8 (a : Nat)) (w' := w) ?_ |>.trans rfl
 unfold convert
 rw [Ac (Bc hs.und w), Ac (Bc hd.und w)]
 simp only [Conv.intToInt]
 rw [Aci (by omega)]
 rfl
theorem Y4 {src dst sz bb sz2 bb2 : Nat} {z z2 : List Value} [hs : At P src (.int .i64) sz bb z] [hd : At P dst (.int .u8) sz2 bb2 z2] {x : Operand} {a : Nat} (hx : Ba E x = some (.int .i64 (a : Nat))) (ha : a < 256) (hg : Wants ops E g) (hdn : Nat.blt d n = true)
  (h : A7 P f n I₀ Q ops l k ((d, .int .u8 (a : Nat)) :: E) I L) : A7 P f n I₀ Q ops (⟨some d, .convert src dst x, ty, pos, af, g⟩ :: l) k E I L := D4 (R9 hx ha) hg hdn h
theorem Lv {src dst e sz bb sz2 bb2 sz3 bb3 : Nat} {z z2 z3 : List Value} [hs : At P src (.slice e) sz bb z] [he : At P e (.int .u8) sz3 bb3 z3] [hd : At P dst .string sz2 bb2 z2] {x : Operand} {ad : Addr} {c a : Nat} (hx : Ba E x = some (.slice (some ad) 1 c)) (hr : Gd I L ad [.int .u8 (a : Nat)]) :
  Gz P E (Mem I L) ⟨some d, .convert src dst x, ty, pos, af, g⟩ (.string (str [UInt8.ofNat a])) := fun ac w he' hm => by
 simp only [execOp, he'.eval hx]
 refine Ac (a := .string (str [UInt8.ofNat a])) (w' := w) ?_ |>.trans rfl
 unfold convert
 rw [Ac (Bc hs.und w), Ac (Bc hd.und w)]
 simp only []
 rw [Ac (Bc he.und w)]
 simp only [Conv.bytesToString]
 have hl : (loadCells ad 1).run P w = .ok [Value.int .u8 (a : Nat)].toArray w := Jo [.int .u8 (a : Nat)] (hr w hm)
 rw [Ac hl]
 rfl
end rules
theorem So {n : Nat} (h : n ≤ 1000000000) : (K6 n).length ≤ 12 := by
 have key : ∀ (k m : Nat), m < 10 ^ (k + 1) → (K6 m).length ≤ k + 1 := by
  intro k
  induction k with
  | zero => intro m hm; rw [I3 (by omega)]; simp
  | succ k ih =>
   intro m hm
   by_cases h1 : m < 10
   ·rw [I3 h1]; simp
   ·rw [Jp h1, List.length_append]
    have := ih (m / 10) (by rw [Nat.pow_succ] at hm; omega)
    simp only [List.length_cons, List.length_nil]; omega
 exact Nat.le_trans (key 10 n (by omega)) (by decide)
theorem S2 : ∀ (k n : Nat) (_ : n < k) (_ : n ≤ 1000000000) (I : Heap) (L : Bl), Fun Tryz.prog 101 [.int .i64 (n : Nat)] I L (D2 (.string (str (K6 n))) I L) := by
 intro k
 induction k with
 | zero => intro n h; omega
 | succ k ihk =>
  intro n hlt hn I L; refine Ai (by simp) ?_; refine Se rfl (Oa rfl (Aa (Ab (Se rfl (Om rfl (Oc rfl rfl rfl (Aa ?_)))))))
  first | refine Sf rfl (by omega) ?_ | refine Ap (by simp [look, Ba, *]) ?_
  refine Af (Ab (Se rfl (Om rfl (Oc rfl rfl rfl (Aa ?_)))))
  first | refine Sf rfl (by omega) ?_ | refine Ap (by simp [look, Ba, *]) ?_
  refine Af (Ab (Se rfl (Om rfl (Oc rfl rfl rfl (Aa ?_))))); refine Ar rfl ?_ ?_
  ·intro c2
   try simp only [nb] at c2
   refine Ab ?_
   have h10 : n < 10 := by omega
   refine Ah rfl (Om rfl ?_); refine Or rfl rfl rfl ?_; refine C3 (t := 14) (v' := .int .i64 ((48 + n : Nat))) rfl (by congr 1) ?_; refine Y4 rfl (by omega) .free rfl ?_; refine Ol rfl rfl ?_; intro b16; refine D4 (Lv rfl (Br (by repeat first | exact .head _ | apply List.Mem.tail | apply List.mem_append_right) (by rfl))) .free rfl ?_; refine Oa rfl (Aa (Ad (.tmp rfl .nil) ?_)); refine only rfl ?_; rw [I3 h10]; rfl
  intro c2
  try simp only [nb] at c2
  refine Af (Ab ?_)
  have h10 : ¬ n < 10 := by omega
  obtain ⟨q, hq, hq2⟩ : ∃ q, q = n / 10 ∧ q < n := ⟨_, rfl, by omega⟩; obtain ⟨r, hr, hr2⟩ : ∃ r, r = n % 10 ∧ r < 10 := ⟨_, rfl, Nat.mod_lt _ (by omega)⟩
  have hdl := So (n := q) (by omega)
  refine B8 11 rfl rfl ?_; refine Da 0 rfl (Ae rfl) ?_; refine Da 1 rfl (Abt (b := 10) rfl rfl (by omega) (by omega)) ?_; refine Ei (t := 19) (v' := .int .i64 (q : Nat)) rfl (by rw [hq]) ?_; refine Da 3 rfl (Ae rfl) ?_; refine Da 4 rfl (Xu (b := 10) rfl rfl (by omega)) ?_; refine Ei (t := 22) (v' := .int .i64 (r : Nat)) rfl (by rw [hr]) ?_; refine Da 5 rfl (Hl rfl rfl rfl (by omega)) ?_; refine Ei (t := 23) (v' := .int .i64 ((48 + r : Nat))) rfl (by congr 1) ?_; refine Da 6 rfl (R9 rfl (by omega)) ?_; refine Cm 2 7 (by kernel_rfl) ?_ ?_
  ·skip
   refine Fk 2 rfl rfl rfl .free rfl (ihk q (by omega) (by omega) _ _) ?_; rintro _ _ _ _ ⟨rfl, rfl, rfl⟩; refine Hx ?_; refine Fj 7 rfl (by kernel_rfl) rfl rfl rfl (by rfl) (by rfl) (by rfl) (by decide) (by decide) (by rfl) .free rfl (.inr Am) ?_; intro b25; refine E0 8 rfl (by kernel_rfl) rfl (Lv rfl (Br (by repeat first | exact .head _ | apply List.Mem.tail | apply List.mem_append_right) (by rfl))) .free rfl (.inr Am) ?_; refine Da 9 rfl (Yk rfl rfl) ?_; refine Da 10 rfl (Aw rfl) ?_; refine Ao (by kernel_rfl) ?_; refine Ad (.tmp rfl .nil) ?_; refine only rfl ?_; rw [Jp h10, ← hq, ← hr]; rfl
  ·skip
   refine G2 7 rfl rfl rfl rfl (by rfl) (by rfl) (by rfl) (by decide) (by decide) (by rfl) .free rfl (.inr Am) ?_; intro b25; refine Cm 2 8 (by kernel_rfl) ?_ ?_
   ·skip
    refine Fk 2 rfl rfl rfl .free rfl (ihk q (by omega) (by omega) _ _) ?_; rintro _ _ _ _ ⟨rfl, rfl, rfl⟩; refine Hx ?_; refine E0 8 rfl (by kernel_rfl) rfl (Lv rfl (Br (by repeat first | exact .head _ | apply List.Mem.tail | apply List.mem_append_right) (by rfl))) .free rfl (.inr Am) ?_; refine Da 9 rfl (Yk rfl rfl) ?_; refine Da 10 rfl (Aw rfl) ?_; refine Ao (by kernel_rfl) ?_; refine Ad (.tmp rfl .nil) ?_; refine only rfl ?_; rw [Jp h10, ← hq, ← hr]; rfl
   ·skip
    refine Dl 8 rfl rfl (Lv rfl (Br (by repeat first | exact .head _ | apply List.Mem.tail | apply List.mem_append_right) (by rfl))) .free rfl (.inr Am) ?_; refine Dc 2 rfl rfl (ihk q (by omega) (by omega) _ _) ?_; rintro _ _ _ _ ⟨rfl, rfl, rfl⟩; refine Hx ?_; refine Da 9 rfl (Yk rfl rfl) ?_; refine Da 10 rfl (Aw rfl) ?_; refine Ao (by kernel_rfl) ?_; refine Ad (.tmp rfl .nil) ?_; refine only rfl ?_; rw [Jp h10, ← hq, ← hr]; rfl
def Ex.value : Ex → Bool
 | .num _ => true
 | .fn _ _ _ _ _ => true
 | .bin .pair a b => a.value && b.value
 | _ => false
def Ex.print : Ex → Tree
 | .bin .pair a b => .node [] [.node Df [], a.print, b.print]
 | .fn _ _ _ _ _ => .node Dh []
 | e => e.tree
theorem Ex.is_pair {e : Ex} (h : e.tree.is Df 3 = true) : ∃ a b, e = .bin .pair a b := by
 simp only [Tree.is, Bool.and_eq_true, decide_eq_true_eq] at h
 exact Ex.of_bin (o := .pair) h.2
theorem Ex.not_pair {e : Ex} (h : e.tree.is Df 3 = false) : ∀ a b, e ≠ .bin .pair a b := by
 rintro a b rfl; simp [Tree.is, Ex.tree, Tree.parts, Tree.head, Tree.atom, B5.txt] at h
theorem Ex.value_other {e : Ex} (hok : e.ok = true) (h : ∀ a b, e ≠ .bin .pair a b) : e.value = (decide (e.tree.head = Dh) || (e.tree.parts.isEmpty && Bt e.tree.atom)) := by
 cases e with
 | num s => have h1 : Bt s = true := hok; simp [Ex.value, Ex.tree, Tree.parts, Tree.atom, h1]
 | name s =>
  have h1 := E3 (show Bs s = true from hok)
  simp only [Ex.tree, Tree.parts, Tree.atom, h1]; rfl
 | bin o a b => cases o <;> first | exact absurd rfl (h a b) | rfl
 | ite a b c => rfl
 | lt x a b => rfl
 | fn f x s t b => rfl
 | un o a => cases o <;> rfl

theorem E6 : ∀ (n : Nat) {I : Heap} {e : Ex} {cs : List Value} (_ : SizeOf.sizeOf e < n) (_ : Rep I e.tree cs) (_ : e.ok = true) (L : Bl), Fun Tryz.prog 58 [.agg cs.toArray] I L (D2 (.bool e.value) I L) := by
 intro n
 induction n with
 | zero => intro I e cs h; omega
 | succ n ihn =>
  intro I e cs hlt h hok L; obtain ⟨oa, c, oaf, cf, rfl, hf⟩ := h.at'
  have ha := hf.alen
  refine Ai (by simp) ?_; refine Se rfl ?_; refine Cd rfl rfl .free rfl ?_; intro b1; refine Oa rfl (Aa (Ab (Se rfl ?_))); refine Az rfl .free rfl ?_; refine Ca rfl (Jr hf.rep _ 3 _) ?_; rintro _ _ _ _ ⟨rfl, rfl, rfl⟩; refine Aa ?_; refine Ar rfl ?_ ?_
  ·intro c0
   try simp only [nb] at c0
   obtain ⟨a, b, rfl⟩ := Ex.is_pair c0
   simp only [Ex.ok, Bool.and_eq_true] at hok
   simp only [Ex.bin.sizeOf_spec] at hlt
   have hlen : (Ex.bin .pair a b).tree.parts.length = 3 := rfl
   refine Se rfl (Oh rfl ?_); refine A6 rfl .free rfl ?_
   first | refine A3 rfl rfl 1 rfl .free rfl ?_ | refine A4 rfl rfl 1 rfl .free rfl ?_
   refine Du rfl .free rfl ?_; refine Ca rfl (ihn (by omega) (hf.as 1 a.tree (by omega) rfl) hok.1 _) ?_; rintro _ _ _ _ ⟨rfl, rfl, rfl⟩; refine Om rfl ?_
   apply Ee 10 16 rfl
   ·intro g2_6 hk
    try simp only [nb] at g2_6
    refine Bz rfl (.met rfl rfl) rfl ?_; refine A6 rfl (.met rfl rfl) rfl ?_
    first | refine A3 rfl rfl 2 rfl (.met rfl rfl) rfl ?_ | refine A4 rfl rfl 2 rfl (.met rfl rfl) rfl ?_
    refine Du rfl (.met rfl rfl) rfl ?_; refine Ce rfl (.met rfl rfl) rfl (ihn (by omega) (hf.as 2 b.tree (by omega) rfl) hok.2 _) ?_; rintro _ _ _ _ ⟨rfl, rfl, rfl⟩; refine Ot rfl rfl ?_
    exact Bb 5 rfl rfl hk
   ·intro _ hk; refine Bm 5 rfl ?_; refine Of rfl rfl ?_
    exact Bb 5 rfl rfl hk
   refine Oa rfl (Aa (Ad (.tmp rfl .nil) ?_)); refine only rfl ?_
   rfl
  intro c0
  try simp only [nb] at c0
  refine Af (Se rfl ?_); refine Az rfl .free rfl ?_; refine Ca rfl (Bi hf.rep _) ?_; rintro _ _ _ _ ⟨rfl, rfl, rfl⟩; refine Od rfl rfl rfl (Om rfl ?_)
  apply G4 20 28 rfl
  ·intro g3_4 hk
   try simp only [nb] at g3_4
   refine Az rfl (.met rfl rfl) rfl ?_; refine Ce rfl (.met rfl rfl) rfl (By hf.rep _) ?_; rintro _ _ _ _ ⟨rfl, rfl, rfl⟩; refine Ow rfl ?_
   apply Ee 23 27 rfl
   ·intro g3_7 hk
    try simp only [nb] at g3_7
    refine Bz rfl (.met rfl rfl) rfl ?_; refine A6 rfl (.met rfl rfl) rfl ?_; refine Ce rfl (.met rfl rfl) rfl (Ox e.tree.atom ha _ _) ?_; rintro _ _ _ _ ⟨rfl, rfl, rfl⟩; refine Fp rfl rfl (.met rfl rfl) rfl ?_
    exact Bb 3 rfl rfl hk
   ·intro _ hk; refine Bm 3 rfl ?_; refine E4 rfl rfl (.met rfl rfl) rfl ?_
    exact Bb 3 rfl rfl hk
   refine Of rfl rfl ?_
   exact Bb 4 rfl rfl hk
  ·intro _ hk; refine Bm 7 rfl ?_; refine Ot rfl rfl ?_
   exact Bb 7 rfl rfl hk
  refine Oa rfl (Aa (Ad (.tmp rfl .nil) ?_)); refine only rfl ?_; rw [Ex.value_other hok (Ex.not_pair c0)]; rfl
theorem Mg : ∀ (n : Nat) {I : Heap} {e : Ex} {cs : List Value} (_ : SizeOf.sizeOf e < n) (_ : Rep I e.tree cs) (_ : e.ok = true) (L : Bl), Fun Tryz.prog 67 [.agg cs.toArray] I L (D2 (.bool e.value) I L) := by
 intro n
 induction n with
 | zero => intro I e cs h; omega
 | succ n ihn =>
  intro I e cs hlt h hok L; obtain ⟨oa, c, oaf, cf, rfl, hf⟩ := h.at'
  have ha := hf.alen
  refine Ai (by simp) ?_; refine Se rfl ?_; refine Cd rfl rfl .free rfl ?_; intro b1; refine Oa rfl (Aa (Ab (Se rfl (Oh rfl ?_)))); refine A6 rfl .free rfl ?_; refine Od rfl rfl rfl (Aa ?_); refine Ar rfl ?_ ?_
  ·intro c0
   try simp only [nb] at c0
   refine Se rfl (Oh rfl ?_); refine A6 rfl .free rfl ?_; refine Ca rfl (Lb e.tree.atom ha _ _) ?_; rintro _ _ _ _ ⟨rfl, rfl, rfl⟩; refine Ck rfl .free rfl ?_; refine Oa rfl (Aa (Ad (.tmp rfl .nil) ?_)); refine only rfl ?_
   have hb : e.bare = true := by
    cases hb : e.bare with
    | true => rfl
    | false => exact absurd ((Ex.atom_iff hok).2 hb) c0
   cases e with
   | num s =>
    have h2 : Bs s = false := by
     cases h3 : Bs s with
     | false => rfl
     | true => have h4 := E3 h3; rw [show Bt s = true from hok] at h4; cases h4
    simp [Cw, Ex.tree, Tree.atom, h2, Ex.value]
   | name s => simp [Cw, Ex.tree, Tree.atom, show Bs s = true from hok, Ex.value]
   | _ => cases hb
  intro c0
  try simp only [nb] at c0
  obtain ⟨hne, h0⟩ := Je (Ex.tree_good hok).1 (by simpa using c0)
  have hhd := Il h0
  refine Af (Ab (Se rfl (Oh rfl ?_))); refine A6 rfl .free rfl ?_
  first | refine A3 rfl rfl 0 rfl .free rfl ?_ | refine A4 rfl rfl 0 rfl .free rfl ?_
  refine Av rfl .free rfl ?_; refine Dk rfl .free rfl ?_; refine Od rfl rfl rfl (Aa ?_); refine Ar rfl ?_ ?_
  ·intro c1
   try simp only [nb] at c1
   obtain ⟨a, b, rfl⟩ := Ex.of_bin (o := .pair) (hhd.trans c1)
   simp only [Ex.ok, Bool.and_eq_true] at hok
   simp only [Ex.bin.sizeOf_spec] at hlt
   have hlen : (Ex.bin .pair a b).tree.parts.length = 3 := rfl
   refine Se rfl (Oh rfl ?_); refine A6 rfl .free rfl ?_
   first | refine A3 rfl rfl 1 rfl .free rfl ?_ | refine A4 rfl rfl 1 rfl .free rfl ?_
   refine Du rfl .free rfl ?_; refine Ca rfl (ihn (by omega) (hf.as 1 a.tree (by omega) rfl) hok.1 _) ?_; rintro _ _ _ _ ⟨rfl, rfl, rfl⟩; refine Om rfl ?_
   apply Ee 21 27 rfl
   ·intro g4_6 hk
    try simp only [nb] at g4_6
    refine Bz rfl (.met rfl rfl) rfl ?_; refine A6 rfl (.met rfl rfl) rfl ?_
    first | refine A3 rfl rfl 2 rfl (.met rfl rfl) rfl ?_ | refine A4 rfl rfl 2 rfl (.met rfl rfl) rfl ?_
    refine Du rfl (.met rfl rfl) rfl ?_; refine Ce rfl (.met rfl rfl) rfl (ihn (by omega) (hf.as 2 b.tree (by omega) rfl) hok.2 _) ?_; rintro _ _ _ _ ⟨rfl, rfl, rfl⟩; refine Ot rfl rfl ?_
    exact Bb 5 rfl rfl hk
   ·intro _ hk; refine Bm 5 rfl ?_; refine Of rfl rfl ?_
    exact Bb 5 rfl rfl hk
   refine Oa rfl (Aa (Ad (.tmp rfl .nil) ?_)); refine only rfl ?_
   rfl
  intro c1
  try simp only [nb] at c1
  refine Af (Se rfl (Oh rfl ?_)); refine A6 rfl .free rfl ?_
  first | refine A3 rfl rfl 0 rfl .free rfl ?_ | refine A4 rfl rfl 0 rfl .free rfl ?_
  refine Av rfl .free rfl ?_; refine Dk rfl .free rfl ?_; refine Od rfl rfl rfl (Oa rfl (Aa (Ad (.tmp rfl .nil) ?_))); refine only rfl ?_; rw [Ex.value_other hok (by rintro a b rfl; exact c1 rfl), hhd]
  have : e.tree.parts.isEmpty = false := by cases hh : e.tree.parts with
   | nil => exact absurd hh hne
   | cons => rfl
  rw [this]; simp only [Bool.false_and, Bool.or_false]; rfl
theorem Y7 (a b : Tree) : (Tree.node [] [.node Df [], a, b]).text = [40, 112, 97, 105, 114, 32] ++ a.text ++ [32] ++ b.text ++ [41] := by
 simp [Tree.text, Fr, Df]
def Gy (s : Au) : Option Ex := match B7 s with
 | some e => if e.value = true then some e else none
 | none => none
def Aef (s : Au) : Option Au := (Gy s).map fun e => e.print.text
theorem Wf {I : Heap} {s : Au} {t : Tree} {cs : List Value} {ok : Bool} (h : Rep I t cs) (hpf : match B7 s with | some e => ok = true ∧ t = e.tree | none => ok = false) (hc : ok = true) (L : Bl) :
  Fun Tryz.prog 58 [.agg cs.toArray] I L (D2 (.bool (Gy s).isSome) I L) := by
 cases hcl : B7 s with
 | none => rw [hcl] at hpf; rw [hpf] at hc; cases hc
 | some e =>
  rw [hcl] at hpf; obtain ⟨_, rfl⟩ := hpf; obtain ⟨h2, h3⟩ := Gu hcl
  have h4 := (It h2).2.1
  simp only [Ex.fine, Bool.and_eq_true] at h4
  have : (Gy s).isSome = e.value := by unfold Gy; rw [hcl]; cases hv : e.value <;> simp [hv]
  rw [this]; exact E6 _ (Nat.lt_succ_self _) h h4.1.1 L
theorem Ts {s : Au} (h : B7 s = none) : Gy s = none := by unfold Gy; rw [h]
def Ty.sample : Ty → Ex
 | .i => .num [48]
 | .pr a b => .bin .pair a.sample b.sample
 | .fn a b => .fn [102] [120] a b b.sample
theorem Ty.sample_ok : ∀ {t : Ty}, t.size ≤ 16 → t.sample.ok = true
 | .i, _ => by decide
 | .pr a b, h => by
  simp only [Ty.size] at h
  simp only [Ty.sample, Ex.ok, Bool.and_eq_true]
  exact ⟨Ty.sample_ok (by omega), Ty.sample_ok (by omega)⟩
 | .fn a b, h => by
  simp only [Ty.size] at h
  simp only [Ty.sample, Ex.ok, Bool.and_eq_true, decide_eq_true_eq]
  exact ⟨⟨⟨⟨⟨by decide, by decide⟩, by decide⟩, by omega⟩, by omega⟩, Ty.sample_ok (by omega)⟩
theorem Ty.sample_len : ∀ {t : Ty}, t.size ≤ 16 → t.sample.tree.len ≤ 200 * t.size
 | .i, _ => by decide
 | .pr a b, h => by
  simp only [Ty.size] at h ⊢
  have h1 := Ty.sample_len (t := a) (by omega)
  have h2 := Ty.sample_len (t := b) (by omega)
  simp only [Ty.sample, Ex.tree, Tree.len, F1, List.isEmpty_cons, cond_false, List.isEmpty_nil, cond_true, B5.txt, Df, List.length_cons, List.length_nil]
  omega
 | .fn a b, h => by
  simp only [Ty.size] at h ⊢
  have h2 := Ty.sample_len (t := b) (by omega)
  have h3 := a.tree_small
  have h4 := b.tree_small
  simp only [Ty.sample, Ex.tree, Tree.len, F1, List.isEmpty_cons, cond_false, List.isEmpty_nil, cond_true, Dh, List.length_cons, List.length_nil]
  omega
theorem Ty.sample_chk : ∀ {t : Ty} {l : List Au} {m : List Ty}, t.size ≤ 16 → t.sample.chk l m = .ok t
 | .i, l, m, _ => rfl
 | .pr a b, l, m, h => by
  have h0 := h
  simp only [Ty.size] at h
  simp only [Ty.sample, Ex.chk, Ty.sample_chk (t := a) (l := l) (m := m) (by omega), Ty.sample_chk (t := b) (l := l) (m := m) (by omega), B5.ty, if_pos h0]
 | .fn a b, l, m, h => by
  have h0 := h
  simp only [Ty.size] at h
  simp only [Ty.sample, Ex.chk, if_pos h0, Ty.sample_chk (t := b) (by omega), if_true]
theorem Ty.sample_value : ∀ t : Ty, t.sample.value = true
 | .i => rfl
 | .pr a b => by simp [Ty.sample, Ex.value, a.sample_value, b.sample_value]
 | .fn a b => rfl
def Ex.txt (e : Ex) : Au := e.tree.text
theorem Ty.sample_textlen {t : Ty} (h : t.size ≤ 16) : t.sample.tree.text.length ≤ 3200 := by
 have := Ty.sample_len h; rw [Tree.text_len]; omega
theorem Aab (f x : Au) (s t : Ty) (b : Ex) : (Ex.fn f x s t b).tree.text = [40, 102, 117, 110, 32] ++ f ++ [32] ++ x ++ [32] ++ s.tree.text ++ [32] ++ t.tree.text ++ [32] ++ b.tree.text ++ [41] := by
 simp [Ex.tree, Tree.text, Fr, Dh]
def O9 (s : Au) : Option Au := match Ky s with
 | some t => if t.sample.fine = true then some t.sample.tree.text else none
 | none => none
theorem Ny {s : Au} (h : Ky s = none) : O9 s = none := by unfold O9; rw [h]
theorem Nz {s : Au} {t : Ty} (h : Ky s = some t) : O9 s = if t.sample.fine = true then some t.sample.tree.text else none := by unfold O9; rw [h]
theorem Abb {s o : Au} (h : O9 s = some o) : ∃ t, Ky s = some t ∧ s = t.tree.text ∧ E9 o = some t.sample ∧ B7 o = some t.sample ∧ tyC o = some t ∧ (Gy o).isSome = true ∧ o.length ≤ 3200 := by
 cases ht : Ky s with
 | none => rw [Ny ht] at h; cases h
 | some t =>
  rw [Nz ht] at h; obtain ⟨h1, h2, h3⟩ := R5 ht
  split at h
  ·rename_i hf
   cases h
   have hx := Nh (Ty.sample_ok h2)
   rw [if_pos hf] at hx
   have hty : t.sample.ty [] [] = some t := by unfold Ex.ty; rw [Ty.sample_chk h2]
   have hc : B7 t.sample.tree.text = some t.sample := by
    unfold B7; rw [hx]; simp [Ex.ty_closed hty]
   refine ⟨t, rfl, h3, hx, hc, ?_, ?_, Ty.sample_textlen h2⟩
   ·unfold tyC; rw [hx]; exact hty
   ·unfold Gy; rw [hc]; simp [t.sample_value]
  ·cases h
theorem Aah : ∀ (n : Nat) {I : Heap} {t : Ty} {cs : List Value} (_ : SizeOf.sizeOf t < n) (_ : Rep I t.tree cs) (_ : t.size ≤ 16) (L : Bl), Fun Tryz.prog 206 [.agg cs.toArray] I L (D2 (.string (str t.sample.tree.text)) I L) := by
 intro n
 induction n with
 | zero => intro I t cs h; omega
 | succ n ihn =>
  intro I t cs hlt h hsz L; obtain ⟨oc, cc, oaf, cf, rfl, hf⟩ := h.at'
  have hg := t.tree_good.1
  have hfn := hf.nil
  refine Ai (by simp) ?_; refine Se rfl ?_; refine Cd rfl rfl .free rfl ?_; intro b1; refine Oa rfl (Aa (Ab (Se rfl (Oh rfl ?_)))); refine A6 rfl .free rfl ?_; refine Od rfl rfl rfl (Aa ?_); refine Ar rfl ?_ ?_
  ·intro c0
   try simp only [nb] at c0
   refine Se rfl (Oa rfl (Aa (Ad (.tmp rfl .nil) ?_))); refine only rfl ?_
   cases t with
   | i => rfl
   | fn a b => exact absurd rfl c0
   | pr a b => exact absurd rfl c0
  intro c0
  try simp only [nb] at c0
  have hpl : t.tree.parts.length = 3 := by
   cases t with
   | i => exact absurd c0 (by decide)
   | fn a b => rfl
   | pr a b => rfl
  have hhd := Il (t := t.tree) (by omega)
  refine Af (Ab (Se rfl (Oh rfl ?_))); refine A6 rfl .free rfl ?_
  first | refine A3 rfl rfl 0 rfl .free rfl ?_ | refine A4 rfl rfl 0 rfl .free rfl ?_
  refine Av rfl .free rfl ?_; refine Dk rfl .free rfl ?_; refine Od rfl rfl rfl (Aa ?_); refine Ar rfl ?_ ?_
  ·intro c1
   try simp only [nb] at c1
   obtain ⟨a, b, rfl⟩ : ∃ a b, t = .pr a b := by
    cases t with
    | i => exact absurd c0 (by decide)
    | pr a b => exact ⟨a, b, rfl⟩
    | fn a b => exact absurd (show ([62] : Au) = [42] from c1) (by decide)
   simp only [Ty.pr.sizeOf_spec] at hlt
   simp only [Ty.size] at hsz
   have ha16 : a.size ≤ 16 := by omega
   have hb16 : b.size ≤ 16 := by omega
   have hl1 := Ty.sample_textlen ha16
   have hl2 := Ty.sample_textlen hb16
   refine Ab ?_; refine B8 15 rfl rfl ?_; refine Da 0 rfl (Ag rfl) ?_; refine Dt 1 [15] rfl (Bd rfl) ?_
   first | refine Da 2 rfl (A1 rfl rfl 1 rfl) ?_ | refine Da 2 rfl (A2 rfl rfl 1 rfl) ?_
   refine Dt 3 [15] rfl (A8 rfl) ?_; refine Da 7 rfl (Ag rfl) ?_; refine Dt 8 [15] rfl (Bd rfl) ?_
   first | refine Da 9 rfl (A1 rfl rfl 2 rfl) ?_ | refine Da 9 rfl (A2 rfl rfl 2 rfl) ?_
   refine Dt 10 [15] rfl (A8 rfl) ?_; refine Dc 4 rfl rfl (ihn (t := a) (by omega) (hf.as 1 a.tree (by omega) rfl) ha16 _) ?_; rintro _ _ _ _ ⟨rfl, rfl, rfl⟩; refine Hx ?_; refine Da 5 rfl (Yk rfl rfl) ?_; refine Da 6 rfl (Yk rfl rfl) ?_; refine Dc 11 rfl rfl (ihn (t := b) (by omega) (hf.as 2 b.tree (by omega) rfl) hb16 _) ?_; rintro _ _ _ _ ⟨rfl, rfl, rfl⟩; refine Hx ?_; refine Da 12 rfl (Yk rfl rfl) ?_; refine Da 13 rfl (Yk rfl rfl) ?_; refine Da 14 rfl (Aw rfl) ?_; refine Ao (by kernel_rfl) ?_; refine Ad (.tmp rfl .nil) ?_; refine only rfl ?_
   have := Y7 a.sample.tree b.sample.tree
   rw [show (Ty.pr a b).sample.tree.text = _ from this]; rfl
  intro c1
  try simp only [nb] at c1
  obtain ⟨a, b, rfl⟩ : ∃ a b, t = .fn a b := by
   cases t with
   | i => exact absurd c0 (by decide)
   | fn a b => exact ⟨a, b, rfl⟩
   | pr a b => exact absurd rfl c1
  simp only [Ty.fn.sizeOf_spec] at hlt
  simp only [Ty.size] at hsz
  have ha16 : a.size ≤ 16 := by omega
  have hb16 : b.size ≤ 16 := by omega
  have hl1 := Ty.text_len ha16
  have hl2 := Ty.text_len hb16
  have hl3 := Ty.sample_textlen hb16
  have hs1 := a.tree_small
  have hs2 := b.tree_small
  refine Af (Ab ?_); refine B8 22 rfl rfl ?_; refine Da 0 rfl (Ag rfl) ?_; refine Dt 1 [22] rfl (Bd rfl) ?_
  first | refine Da 2 rfl (A1 rfl rfl 1 rfl) ?_ | refine Da 2 rfl (A2 rfl rfl 1 rfl) ?_
  refine Dt 3 [22] rfl (A8 rfl) ?_; refine Da 7 rfl (Ag rfl) ?_; refine Dt 8 [22] rfl (Bd rfl) ?_
  first | refine Da 9 rfl (A1 rfl rfl 2 rfl) ?_ | refine Da 9 rfl (A2 rfl rfl 2 rfl) ?_
  refine Dt 10 [22] rfl (A8 rfl) ?_; refine Da 14 rfl (Ag rfl) ?_; refine Dt 15 [22] rfl (Bd rfl) ?_
  first | refine Da 16 rfl (A1 rfl rfl 2 rfl) ?_ | refine Da 16 rfl (A2 rfl rfl 2 rfl) ?_
  refine Dt 17 [22] rfl (A8 rfl) ?_; refine Dc 4 rfl rfl (La (t := a.tree) _ (Nat.lt_succ_self _) (hf.as 1 a.tree (by omega) rfl) a.tree_good.1 (by omega) _) ?_; rintro _ _ _ _ ⟨rfl, rfl, rfl⟩; refine Hx ?_; refine Da 5 rfl (Yk rfl rfl) ?_; refine Da 6 rfl (Yk rfl rfl) ?_; refine Dc 11 rfl rfl (La (t := b.tree) _ (Nat.lt_succ_self _) (hf.as 2 b.tree (by omega) rfl) b.tree_good.1 (by omega) _) ?_; rintro _ _ _ _ ⟨rfl, rfl, rfl⟩; refine Hx ?_; refine Da 12 rfl (Yk rfl rfl) ?_; refine Da 13 rfl (Yk rfl rfl) ?_
  refine Dc 18 rfl rfl (ihn (t := b) (by omega) (hf.as 2 b.tree (by omega) rfl) hb16 _) ?_; rintro _ _ _ _ ⟨rfl, rfl, rfl⟩; refine Hx ?_; refine Da 19 rfl (Yk rfl rfl) ?_; refine Da 20 rfl (Yk rfl rfl) ?_; refine Da 21 rfl (Aw rfl) ?_; refine Ao (by kernel_rfl) ?_; refine Ad (.tmp rfl .nil) ?_; refine only rfl ?_
  have := Aab [102] [120] a b b.sample
  rw [show (Ty.fn a b).sample.tree.text = _ from this]; rfl
def smp (t : Tree) : Ex := (t.ty.getD .i).sample
theorem M8 (a : Ty) : smp a.tree = a.sample := by unfold smp; rw [a.tree_ty]; rfl
theorem Ab4 {I : Heap} {t : Tree} {cs : List Value} (h : Rep I t cs) (ht : ∃ a : Ty, t = a.tree ∧ a.size ≤ 16) (L : Bl) : Fun Tryz.prog 206 [.agg cs.toArray] I L (D2 (.string (str (smp t).tree.text)) I L) := by
 obtain ⟨a, rfl, h1⟩ := ht; rw [M8]
 exact Aah _ (Nat.lt_succ_self _) h h1 L
theorem Um (s : Au) (hs : s.length ≤ As) (I : Heap) (L : Bl) : Fun Tryz.prog 195 [.string (str s)] I L (EL (O9 s) L) := by
 refine Ai (by simp) ?_; refine Se rfl (Oa rfl (Oa rfl (Aa (Se rfl (Om rfl ?_))))); refine Ca rfl (Ri s hs _ _) ?_; rintro _ J _ e1 ⟨t, cs, ok, rfl, hrep, rfl, hpf⟩; obtain ⟨o1, k1, _, rfl, -⟩ := hrep.open
 have hty := R4 hpf
 refine Om rfl (Oe rfl rfl (Oe rfl rfl ?_)); refine Ax .free rfl ?_; intro b4; refine Bk rfl rfl rfl rfl .free ?_; refine Oa rfl (Aa (Ab (Se rfl (Om rfl ?_)))); refine Ck rfl .free rfl ?_; refine Om rfl ?_
 apply G4 13 17 rfl
 ·intro g2_3 hk
  try simp only [nb] at g2_3
  have hp := Fl (He hpf g2_3)
  refine Az rfl (.met rfl rfl) rfl ?_; refine Ce rfl (.met rfl rfl) rfl (Lq hrep hp.1 (Tree.size_maxN hp.2.1) _) ?_; rintro _ _ _ _ ⟨rfl, rfl, rfl⟩; refine Ck rfl (.met rfl rfl) rfl ?_; refine Of rfl rfl ?_
  exact Bb 3 rfl rfl hk
 ·intro _ hk; refine Bm 3 rfl ?_; refine Ot rfl rfl ?_
  exact Bb 3 rfl rfl hk
 refine Om rfl ?_
 apply G4 18 23 rfl
 ·intro g2_8 hk
  try simp only [nb] at g2_8
  obtain ⟨a, ha, hta, hsz⟩ := hty.1 g2_8.1 g2_8.2
  have hl : (smp t).tree.text.length ≤ 3200 := by rw [hta, M8]; exact Ty.sample_textlen hsz
  refine Az rfl (.met rfl rfl) rfl ?_; refine Ce rfl (.met rfl rfl) rfl (Ab4 hrep ⟨a, hta, hsz⟩ _) ?_; rintro _ _ _ _ ⟨rfl, rfl, rfl⟩; refine Ce rfl (.met rfl rfl) rfl (K9 _ (by unfold As; omega) _ _) ?_; rintro _ _ _ _ ⟨rfl, rfl, rfl⟩; refine Ck rfl (.met rfl rfl) rfl ?_; refine Of rfl rfl ?_
  exact Bb 4 rfl rfl hk
 ·intro _ hk; refine Bm 4 rfl ?_; refine Ot rfl rfl ?_
  exact Bb 4 rfl rfl hk
 refine Aa ?_; refine Ar rfl ?_ ?_
 ·intro c0
  try simp only [nb] at c0
  refine Se rfl (Oa rfl (Oa rfl (Aa ?_))); refine Ad (.tmp rfl (.tmp rfl .nil)) ?_; refine ⟨J, L, e1, Ay, ?_, rfl⟩
  have hz : O9 s = none := by
   by_cases h1 : ok = true
   ·by_cases h2 : t.typed = true
    ·obtain ⟨a, ha, hta, hsz⟩ := hty.1 h1 h2
     rcases c0 with (h | h) | h
     ·rw [h1] at h; cases h
     ·rw [h2] at h; cases h
     ·rw [hta, M8, Nh (Ty.sample_ok hsz)] at h; rw [Nz ha]
      cases hf : a.sample.fine with
      | true => rw [hf] at h; cases h
      | false => rfl
    ·exact Ny (hty.2 (.inr (by simpa using h2)))
   ·exact Ny (hty.2 (.inl (by simpa using h1)))
  rw [hz]; rfl
 intro c0
 try simp only [nb] at c0
 obtain ⟨⟨h1, h2⟩, h3⟩ := c0; obtain ⟨a, ha, rfl, hsz⟩ := hty.1 h1 h2; refine Af (Se rfl ?_); refine Az rfl .free rfl ?_; refine Ca rfl (Aah _ (Nat.lt_succ_self _) hrep hsz _) ?_; rintro _ _ _ _ ⟨rfl, rfl, rfl⟩; refine Oa rfl (Oa rfl (Aa ?_)); refine Ad (.tmp rfl (.tmp rfl .nil)) ?_; refine ⟨J, L, e1, Ay, ?_, rfl⟩; rw [M8, Nh (Ty.sample_ok hsz)] at h3
 cases hf : a.sample.fine with
 | false => rw [hf] at h3; cases h3
 | true => rw [Nz ha, if_pos hf]; rfl
theorem X5 (s : Au) (hs : s.length ≤ As) (I : Heap) (L : Bl) : Fun Tryz.prog 26 [.string (str s)] I L (fun v I' L' => v = .bool (Gy s).isSome ∧ L = L') := by
 refine Ai (by simp) ?_; refine Se rfl (Oa rfl (Aa (Se rfl (Om rfl ?_)))); refine Ca rfl (Ik s hs _ _) ?_; rintro _ J1 _ e1 ⟨t, cs, ok, rfl, hrep, rfl, hpf⟩; obtain ⟨o1, k1, _, rfl, -⟩ := hrep.open
 have g1 := V1 hpf
 refine Om rfl (Oe rfl rfl (Oe rfl rfl ?_)); refine Ax .free rfl ?_; intro b3; refine Bk rfl rfl rfl rfl .free ?_; refine Oa rfl (Aa (Se rfl (Om rfl (Om rfl ?_))))
 apply Ee 11 14 rfl
 ·intro g2_2 hk
  try simp only [nb] at g2_2
  refine Az rfl (.met rfl rfl) rfl ?_; refine Ce rfl (.met rfl rfl) rfl (Wf hrep hpf g2_2 _) ?_; rintro _ _ _ _ ⟨rfl, rfl, rfl⟩; refine Ot rfl rfl ?_
  exact Bb 2 rfl rfl hk
 ·intro _ hk; refine Bm 2 rfl ?_; refine Of rfl rfl ?_
  exact Bb 2 rfl rfl hk
 refine Oa rfl (Aa (Ad (.tmp rfl .nil) ?_)); refine ⟨J1, L, e1, Ay, ?_, rfl⟩
 cases ok with
 | false => rw [Ts (g1.1 rfl)]; rfl
 | true => simp [Cw]
structure ScAt (I : Heap) (ns ts : List Au) (oa : Option Addr) (c : Nat) (ob : Option Addr) (c' : Nat) : Prop where
 names : Strs I oa ns c
 types : Strs I ob ts c'
 len : ns.length = ts.length
 nb : ∀ s ∈ ns, s.length ≤ 4
 tb : ∀ s ∈ ts, s.length ≤ 1000
theorem ScAt.mono {I I' : Heap} (hle : HLe I I') {ns ts : List Au} {oa : Option Addr} {c : Nat} {ob : Option Addr} {c' : Nat} (h : ScAt I ns ts oa c ob c') : ScAt I' ns ts oa c ob c' :=
 ⟨h.names.mono hle, h.types.mono hle, h.len, h.nb, h.tb⟩
def RSc (ns ts : List Au) (L : Bl) : C1 := fun v I' L' => ∃ oa c ob c', v = .agg [.slice oa (List.length ns) c, .slice ob (List.length ts) c'].toArray ∧ ScAt I' ns ts oa c ob c' ∧ L = L'
theorem Jv {I : Heap} {ns ts : List Au} {oa ob : Option Addr} {c c' : Nat} (h : ScAt I ns ts oa c ob c') (x k : Au) (hx : x.length ≤ 4) (hk : k.length ≤ 1000) (hn : ns.length ≤ 200) (L : Bl) :
  Fun Tryz.prog 164 [.agg [.slice oa ns.length c, .slice ob ts.length c'].toArray, .string (str x), .string (str k)] I L (RSc (ns ++ [x]) (ts ++ [k]) L) := by
 have hlen := h.len
 have hlr : HLe I I := .refl _
 have hxm : x.length ≤ As := by unfold As; omega
 have hkm : k.length ≤ As := by unfold As; omega
 refine Ai (by simp) ?_; refine Se rfl ?_; refine Cd rfl rfl .free rfl ?_; intro b3; refine Ax .free rfl ?_; intro b6; refine Aa (Ab ?_); refine B8 12 rfl rfl ?_; refine Da 0 rfl (Ag rfl) ?_; refine Dt 1 [11] rfl (Bd rfl) ?_; refine Da 2 rfl (Ae rfl) ?_; refine Da 5 rfl (Ag rfl) ?_; refine Dt 6 [11] rfl (Bd rfl) ?_; refine Da 7 rfl (Ae rfl) ?_; refine Cm 3 8 (by kernel_rfl) ?_ ?_
 ·skip
  refine G2 3 rfl rfl rfl rfl (by rfl) (by rfl) (by rfl) (by decide) (by decide) (by rfl) .free rfl (.inr Am) ?_; intro b10; refine D8 ?_; intro hz
  have hlr := hlr.trans hz
  have h := h.mono hz
  have hk1 := H2 hz hxm
  try have hk2 := hk2.mono hz
  refine Cm 4 8 (by kernel_rfl) ?_ ?_
  ·skip
   refine Fk 4 rfl rfl rfl .free rfl (Jt h.names hk1 (by simp; unfold As; omega) _) ?_; rintro _ J2 _ e2 ⟨o3, c3', rfl, hn3, rfl⟩
   have hlr := hlr.trans e2
   have h := h.mono e2
   try have hk2 := hk2.mono e2
   refine Hx ?_; refine Fj 8 rfl (by kernel_rfl) rfl rfl rfl (by rfl) (by rfl) (by rfl) (by decide) (by decide) (by rfl) .free rfl (.inr Am) ?_; intro b15; refine D8 ?_; intro hz
   have hlr := hlr.trans hz
   have h := h.mono hz
   have hk2 := H2 hz hkm
   try have hk1 := hk1.mono hz
   try have hn3 := hn3.mono hz
   refine Dc 9 rfl rfl (Jt h.types hk2 (by simp; unfold As; omega) _) ?_; rintro _ J3 _ e3 ⟨o4, c4', rfl, hn4, rfl⟩
   have hlr := hlr.trans e3
   have hn3 := hn3.mono e3
   refine Hx ?_; refine Da 10 rfl (Eh rfl rfl rfl) ?_; refine Dx 11 rfl rfl rfl rfl ?_; refine Ao (by kernel_rfl) ?_; refine Ad (.c rfl .nil) ?_
   exact ⟨J3, L, hlr, Ay, o3, c3', o4, c4', rfl, ⟨hn3, hn4, by simp [hlen], (fun s hs => by rcases List.mem_append.1 hs with hs | hs; exact h.nb s hs; rw [List.mem_singleton.1 hs]; exact hx), (fun s hs => by rcases List.mem_append.1 hs with hs | hs; exact h.tb s hs; rw [List.mem_singleton.1 hs]; exact hk)⟩, rfl⟩
  ·skip
   refine G2 8 rfl rfl rfl rfl (by rfl) (by rfl) (by rfl) (by decide) (by decide) (by rfl) .free rfl (.inr Am) ?_; intro b15; refine D8 ?_; intro hz
   have hlr := hlr.trans hz
   have h := h.mono hz
   have hk2 := H2 hz hkm
   try have hk1 := hk1.mono hz
   try have hn3 := hn3.mono hz
   refine Dc 4 rfl rfl (Jt h.names hk1 (by simp; unfold As; omega) _) ?_; rintro _ J2 _ e2 ⟨o3, c3', rfl, hn3, rfl⟩
   have hlr := hlr.trans e2
   have h := h.mono e2
   try have hk2 := hk2.mono e2
   refine Hx ?_; refine Dc 9 rfl rfl (Jt h.types hk2 (by simp; unfold As; omega) _) ?_; rintro _ J3 _ e3 ⟨o4, c4', rfl, hn4, rfl⟩
   have hlr := hlr.trans e3
   have hn3 := hn3.mono e3
   refine Hx ?_; refine Da 10 rfl (Eh rfl rfl rfl) ?_; refine Dx 11 rfl rfl rfl rfl ?_; refine Ao (by kernel_rfl) ?_; refine Ad (.c rfl .nil) ?_
   exact ⟨J3, L, hlr, Ay, o3, c3', o4, c4', rfl, ⟨hn3, hn4, by simp [hlen], (fun s hs => by rcases List.mem_append.1 hs with hs | hs; exact h.nb s hs; rw [List.mem_singleton.1 hs]; exact hx), (fun s hs => by rcases List.mem_append.1 hs with hs | hs; exact h.tb s hs; rw [List.mem_singleton.1 hs]; exact hk)⟩, rfl⟩
 ·skip
  refine G2 8 rfl rfl rfl rfl (by rfl) (by rfl) (by rfl) (by decide) (by decide) (by rfl) .free rfl (.inr Am) ?_; intro b15; refine D8 ?_; intro hz
  have hlr := hlr.trans hz
  have h := h.mono hz
  have hk2 := H2 hz hkm
  try have hk1 := hk1.mono hz
  try have hn3 := hn3.mono hz
  refine Fj 3 rfl (by kernel_rfl) rfl rfl rfl (by rfl) (by rfl) (by rfl) (by decide) (by decide) (by rfl) .free rfl (.inr Am) ?_; intro b10; refine D8 ?_; intro hz
  have hlr := hlr.trans hz
  have h := h.mono hz
  have hk1 := H2 hz hxm
  try have hk2 := hk2.mono hz
  refine Dc 4 rfl rfl (Jt h.names hk1 (by simp; unfold As; omega) _) ?_; rintro _ J2 _ e2 ⟨o3, c3', rfl, hn3, rfl⟩
  have hlr := hlr.trans e2
  have h := h.mono e2
  try have hk2 := hk2.mono e2
  refine Hx ?_; refine Dc 9 rfl rfl (Jt h.types hk2 (by simp; unfold As; omega) _) ?_; rintro _ J3 _ e3 ⟨o4, c4', rfl, hn4, rfl⟩
  have hlr := hlr.trans e3
  have hn3 := hn3.mono e3
  refine Hx ?_; refine Da 10 rfl (Eh rfl rfl rfl) ?_; refine Dx 11 rfl rfl rfl rfl ?_; refine Ao (by kernel_rfl) ?_; refine Ad (.c rfl .nil) ?_
  exact ⟨J3, L, hlr, Ay, o3, c3', o4, c4', rfl, ⟨hn3, hn4, by simp [hlen], (fun s hs => by rcases List.mem_append.1 hs with hs | hs; exact h.nb s hs; rw [List.mem_singleton.1 hs]; exact hx), (fun s hs => by rcases List.mem_append.1 hs with hs | hs; exact h.tb s hs; rw [List.mem_singleton.1 hs]; exact hk)⟩, rfl⟩
theorem Abm (o : Option (Ty × Ty)) (sg s : Au) (h : o = Gk sg s) : (t1 o).length ≤ 80 ∧ (t2 o).length ≤ 80 := by
 subst h
 cases h : Gk sg s with
 | none => exact ⟨by decide, by decide⟩
 | some p =>
  obtain ⟨a, b⟩ := p
  unfold Gk at h
  cases ht : Ky s with
  | none => rw [ht] at h; cases h
  | some t =>
   rw [ht] at h
   have h1 := (R5 ht).2.1
   cases t with
   | i => cases h
   | fn x y =>
    simp only at h
    split at h
    ·cases h; simp only [Ty.size] at h1
     exact ⟨Ty.text_len (t := a) (by omega), Ty.text_len (t := b) (by omega)⟩
    ·cases h
   | pr x y =>
    simp only at h
    split at h
    ·cases h; simp only [Ty.size] at h1
     exact ⟨Ty.text_len (t := a) (by omega), Ty.text_len (t := b) (by omega)⟩
    ·cases h
theorem Abc {s o : Au} (h : O9 s = some o) : o.length ≤ 3200 := by obtain ⟨_, _, _, _, _, _, _, h⟩ := Abb h; exact h
structure LFs where
 i : Nat
 fs : List Au
 b : Nat
 sp : List Value
 c : Nat
theorem No {I : Heap} {oa : Option Addr} {l : List UInt8} {c : Nat} (h : Bytes I oa l c) (hl : l.length ≤ 2000) (b p : Nat) (hp : p + 4 ≤ 1099511627776) {ns ts : List Au} {o1 o2 : Option Addr} {c1 c2 : Nat} (hs : ScAt I ns ts o1 c1 o2 c2) (hn : ns.length ≤ 100) (want : Au) (hw : want.length ≤ 1000) (L : Bl) :
  Fun Tryz.prog 163 [.pointer (some ⟨b, 0, none⟩), .agg [.slice o1 ns.length c1, .slice o2 ts.length c2].toArray, .string (str want)] I (rd b oa l c p :: L) (DT b oa l c p 4 3300 L) := by
 have hlen := hs.len
 have hnl := hs.names
 refine Ai (by simp) ?_; refine Se rfl ?_; refine Cd rfl rfl .free rfl ?_; intro b4; refine Oa rfl (Aa (Se rfl ?_)); refine Dp .free rfl ?_; intro b11; refine Oa rfl (Aa (Ab (Se rfl (Oa rfl (Aa (Aj ?_))))))
 refine Dy (X := LFs) (fun x => ns.length - x.i) (fun x => [(0, .pointer (some ⟨b, 0, none⟩)), (2, .string (str want)), (4, .pointer (some ⟨b4, 0, none⟩)), (6, .string (str [])), (7, .slice (some ⟨x.b, 0, none⟩) x.fs.length x.c), (8, .int .i64 (x.i : Nat))]) (fun _ => I) (fun x => (x.b, .cells (x.fs.map sv ++ x.sp).toArray 9 (0, 0)) :: (b4, .cells [.slice o1 ns.length c1, .slice o2 ts.length c2].toArray 134 (0, 0)) :: rd b oa l c p :: L) (fun x => x.i ≤ ns.length ∧ x.fs.length ≤ x.i ∧ (∀ s ∈ x.fs, s.length ≤ 4) ∧ Em 1 x.fs.length x.c (x.fs.map sv) (some (x.b, x.sp))) ⟨0, [], b11, [], 0⟩ ⟨Nat.zero_le _, Nat.zero_le _, (fun _ h => by cases h), ⟨rfl, Nat.le_refl _, rfl⟩⟩ ⟨rfl, rfl, rfl, rfl, rfl, rfl, trivial⟩ (by intro _ h; exact h) ?_
 rintro ⟨i, fs, bb, sp, cb⟩ ⟨hi, hfi, hfs, hB⟩ ih
 simp only at hi hfi hfs hB ih ⊢
 refine Ab (Se rfl (Om rfl (Oh rfl ?_))); refine A6 rfl .free rfl ?_; refine On rfl (Oc rfl rfl rfl (Aa ?_)); refine Ar rfl ?_ ?_
 ·intro c0
  try simp only [nb] at c0
  have hi1 : i < ns.length := by omega
  have hel : (ns.getD i []).length ≤ 4 := hs.nb _ (by rw [show ns.getD i [] = ns[i] by simp [hi1]]; exact List.getElem_mem _)
  have hle0 : HLe I I := .refl _
  refine Af (Ab (Aj (Ab ?_))); refine B8 12 rfl rfl ?_; refine Da 0 rfl (Ag rfl) ?_; refine Dt 1 [12] rfl (Bd rfl) ?_; refine Da 2 rfl (Ag rfl) ?_; refine Dt 3 [12] rfl (Bd rfl) ?_; refine Da 4 rfl (Ag rfl) ?_; refine Dt 5 [12] rfl (Bd rfl) ?_; refine Da 6 rfl (Ae rfl) ?_
  first | refine Da 7 rfl (A1 rfl rfl _ rfl) ?_ | refine Da 7 rfl (A2 rfl rfl _ rfl) ?_
  refine Dt 8 [12] rfl (Gl rfl) ?_; refine Da 10 rfl (Ae rfl) ?_; refine Dc 9 rfl rfl (Aag hs.names hs.types hlen _ _) ?_; rintro _ _ _ _ ⟨rfl, rfl, rfl⟩; refine Hx ?_; refine Da 11 rfl (W8 rfl rfl rfl) ?_; refine Ao (by kernel_rfl) ?_; refine Ar rfl ?_ ?_
  ·intro c1
   try simp only [nb] at c1
   refine Ah rfl (Om rfl (Oh rfl ?_)); refine A6 rfl .free rfl ?_; refine Om rfl ?_
   first | refine A3 rfl rfl _ rfl .free rfl ?_ | refine A4 rfl rfl _ rfl .free rfl ?_
   refine Ej rfl .free rfl ?_; refine Ol rfl rfl ?_; intro b37; refine C2 (B := some (bb, sp)) (xs := fs.map sv) (ys := [sv (ns.getD i [])]) (m := fs.length) (c := cb) (by intro kk; simp) (by rfl) rfl rfl hB (fun _ h => h.f1) (by rfl) (fun a ha => by cases ha; exact Br (by repeat first | exact .head _ | apply List.Mem.tail | apply List.mem_append_right) (by rfl)) (by simp) (by rfl) (by decide) (by decide) (by omega) (by decide) .free rfl ?_; intro bq sp2 c2q hB2; rw [show fs.map sv ++ [sv (ns.getD i [])] = (fs ++ [ns.getD i []]).map sv by simp] at hB2 ⊢
   refine Oa rfl (Aa (Al (Ah rfl (Om rfl ?_)))); refine Or rfl rfl rfl ?_; refine Oa rfl (Aa ?_)
   first
    | exact Bo (E' := [(0, .pointer (some ⟨b, 0, none⟩)), (2, .string (str want)), (4, .pointer (some ⟨b4, 0, none⟩)), (6, .string (str [])), (7, .slice (some ⟨bq, 0, none⟩) (fs ++ [ns.getD i []]).length c2q), (8, .int .i64 ((i + 1 : Nat)))]) ⟨rfl, rfl, rfl, rfl, by simp; rfl, rfl, trivial⟩ (Bg (fun w h => Mem.sub (L' := (bq, _) :: (b4, _) :: rd b oa l c p :: L) (by repeat (first | exact List.Sublist.refl _ | apply List.Sublist.cons_cons | apply List.Sublist.cons)) h) (ih ⟨i + 1, fs ++ [ns.getD i []], bq, sp2, c2q⟩ ⟨by simp only; omega, by simp; omega, (fun s hs => by rcases List.mem_append.1 hs with hs | hs; exact hfs s hs; rw [List.mem_singleton.1 hs]; exact hel), by simpa using hB2⟩ (by simp only; omega)))
    | exact Bo (E' := [(0, .pointer (some ⟨b, 0, none⟩)), (2, .string (str want)), (4, .pointer (some ⟨b4, 0, none⟩)), (6, .string (str [])), (7, .slice (some ⟨bb, 0, none⟩) fs.length cb), (8, .int .i64 ((i + 1 : Nat)))]) ⟨rfl, rfl, rfl, rfl, rfl, rfl, trivial⟩ (ih ⟨i + 1, fs, bb, sp, cb⟩ ⟨by simp only; omega, by simp only; omega, hfs, hB⟩ (by simp only; omega))
  intro c1
  try simp only [nb] at c1
  refine Af (Al (Ah rfl (Om rfl ?_))); refine Or rfl rfl rfl ?_; refine Oa rfl (Aa ?_)
  first
   | exact Bo (E' := [(0, .pointer (some ⟨b, 0, none⟩)), (2, .string (str want)), (4, .pointer (some ⟨b4, 0, none⟩)), (6, .string (str [])), (7, .slice (some ⟨bq, 0, none⟩) (fs ++ [ns.getD i []]).length c2q), (8, .int .i64 ((i + 1 : Nat)))]) ⟨rfl, rfl, rfl, rfl, by simp; rfl, rfl, trivial⟩ (Bg (fun w h => Mem.sub (L' := (bq, _) :: (b4, _) :: rd b oa l c p :: L) (by repeat (first | exact List.Sublist.refl _ | apply List.Sublist.cons_cons | apply List.Sublist.cons)) h) (ih ⟨i + 1, fs ++ [ns.getD i []], bq, sp2, c2q⟩ ⟨by simp only; omega, by simp; omega, (fun s hs => by rcases List.mem_append.1 hs with hs | hs; exact hfs s hs; rw [List.mem_singleton.1 hs]; exact hel), by simpa using hB2⟩ (by simp only; omega)))
   | exact Bo (E' := [(0, .pointer (some ⟨b, 0, none⟩)), (2, .string (str want)), (4, .pointer (some ⟨b4, 0, none⟩)), (6, .string (str [])), (7, .slice (some ⟨bb, 0, none⟩) fs.length cb), (8, .int .i64 ((i + 1 : Nat)))]) ⟨rfl, rfl, rfl, rfl, rfl, rfl, trivial⟩ (ih ⟨i + 1, fs, bb, sp, cb⟩ ⟨by simp only; omega, by simp only; omega, hfs, hB⟩ (by simp only; omega))
 intro c0
 try simp only [nb] at c0
 refine Bw rfl ?_; refine Ab (Ab ?_); refine Gq (B := some (bb, sp)) hB rfl (by unfold As; omega) (fun s hs => by have := hfs s hs; unfold As; omega) ?_; intro J oz cz ez hbv hst
 simp only [Cb, Value.slice.injEq] at hbv
 obtain ⟨rfl, -, rfl⟩ := hbv; refine Bg (fun w h => h.f1) ?_
 have h := h.mono ez
 have hz0 := hst.nil'
 have hzl := hst.len
 refine Ah rfl (Om rfl (On rfl (Oc rfl rfl rfl (Om rfl ?_))))
 first | refine Gb rfl rfl ?_ ?_ | refine Ev rfl rfl ?_ ?_ | refine K0 rfl rfl ?_ ?_
 ·intro g7_4; refine Ow rfl ?_; refine Ce rfl (.met rfl rfl) rfl (De h hl b p 4 (by omega) (by decide) _) ?_; rintro _ _ _ _ ⟨r, rfl, rfl, rfl, hr⟩; refine Dr rfl rfl rfl (.met rfl rfl) rfl ?_; refine Ot rfl rfl (Aa ?_); refine Ar rfl ?_ ?_
  ·intro c2
   try simp only [nb] at c2
   have hpos : 0 < fs.length := by omega
   refine Se rfl ?_
   iterate 3 refine Om rfl ?_
   refine On rfl ?_; refine Ca rfl (De h hl b _ fs.length (by omega) (by omega) _) ?_; rintro _ _ _ _ ⟨r2, rfl, rfl, rfl, hr2⟩
   have hr3 : r2 < fs.length := by omega
   have hfl : (fs.getD r2 []).length ≤ 4 := hfs _ (by rw [show fs.getD r2 [] = fs[r2] by simp [hr3]]; exact List.getElem_mem _)
   first | refine A3 rfl rfl _ rfl .free rfl ?_ | refine A4 rfl rfl _ rfl .free rfl ?_
   refine Ej rfl .free rfl ?_; refine Oa rfl (Aa (Ad (.tmp rfl .nil) ?_))
   exact ⟨J, _, ez, fun w h => Mem.sub (L' := rd b oa l c _ :: L) (by repeat (first | exact List.Sublist.refl _ | apply List.Sublist.cons_cons | apply List.Sublist.cons)) h, fs.getD r2 [], _, rfl, by omega, by omega, by omega, rfl⟩
  intro c2
  try simp only [nb] at c2
  refine Af (Ab (Se rfl (Om rfl (Od rfl rfl rfl (Aa ?_))))); refine Ar rfl ?_ ?_
  ·intro c3
   try simp only [nb] at c3
   refine Se rfl (Om rfl ?_); refine Ol rfl rfl ?_; intro b57; refine D6 [[48], [49], [50], [51], [55], [45, 49], [52, 48, 48], [45, 57, 57, 57]] (by decide) (by decide) ?_; intro J2 e2 k2; refine Ca rfl (Ed (h.mono e2) hl b _ (by omega) k2 (by simp) _) ?_; rintro _ _ _ _ ⟨s, rfl, hs9, rfl, rfl⟩
   have hs4 : s.length ≤ 4 := by revert s; decide
   refine Oa rfl (Aa (Ad (.tmp rfl .nil) ?_))
   exact ⟨J2, _, ez.trans e2, fun w h => Mem.sub (L' := rd b oa l c _ :: L) (by repeat (first | exact List.Sublist.refl _ | apply List.Sublist.cons_cons | apply List.Sublist.cons)) h, s, _, rfl, by omega, by omega, by omega, rfl⟩
  intro c3
  try simp only [nb] at c3
  refine Af (Se rfl (Om rfl ?_)); refine Ca rfl (Um want (by unfold As; omega) _ _) ?_; rintro _ J3 _ e3 ⟨rfl, rfl⟩; refine Om rfl (Oe rfl rfl (Oe rfl rfl (Oa rfl (Oa rfl (Aa (Ab (Se rfl (Om rfl ?_)))))))); refine Ck rfl .free rfl ?_; refine Aa ?_; refine Ar rfl ?_ ?_
  ·intro c4
   try simp only [nb] at c4
   refine Se rfl (Oa rfl (Aa (Ad (.tmp rfl .nil) ?_)))
   exact ⟨J3, _, ez.trans e3, fun w h => Mem.sub (L' := rd b oa l c _ :: L) (by repeat (first | exact List.Sublist.refl _ | apply List.Sublist.cons_cons | apply List.Sublist.cons)) h, [48], _, rfl, by decide, by omega, by omega, rfl⟩
  intro c4
  try simp only [nb] at c4
  refine Af (Se rfl (Om rfl (Oa rfl (Aa (Ad (.tmp rfl .nil) ?_))))); refine ⟨J3, _, ez.trans e3, fun w h => Mem.sub (L' := rd b oa l c _ :: L) (by repeat (first | exact List.Sublist.refl _ | apply List.Sublist.cons_cons | apply List.Sublist.cons)) h, (O9 want).getD [], _, rfl, ?_, by omega, by omega, rfl⟩
  cases ho : O9 want with
  | none => decide
  | some o => have := Abc ho; simp only [Option.getD_some]; omega
 intro g7_4
 iterate 3 refine Ci rfl rfl rfl ?_
 refine Of rfl rfl (Aa ?_); refine Ap rfl ?_; refine Af (Ab (Se rfl (Om rfl (Od rfl rfl rfl (Aa ?_))))); refine Ar rfl ?_ ?_
 ·intro c3
  try simp only [nb] at c3
  refine Se rfl (Om rfl ?_); refine Ol rfl rfl ?_; intro b57; refine D6 [[48], [49], [50], [51], [55], [45, 49], [52, 48, 48], [45, 57, 57, 57]] (by decide) (by decide) ?_; intro J2 e2 k2; refine Ca rfl (Ed (h.mono e2) hl b _ (by omega) k2 (by simp) _) ?_; rintro _ _ _ _ ⟨s, rfl, hs9, rfl, rfl⟩
  have hs4 : s.length ≤ 4 := by revert s; decide
  refine Oa rfl (Aa (Ad (.tmp rfl .nil) ?_))
  exact ⟨J2, _, ez.trans e2, fun w h => Mem.sub (L' := rd b oa l c _ :: L) (by repeat (first | exact List.Sublist.refl _ | apply List.Sublist.cons_cons | apply List.Sublist.cons)) h, s, _, rfl, by omega, by omega, by omega, rfl⟩
 intro c3
 try simp only [nb] at c3
 refine Af (Se rfl (Om rfl ?_)); refine Ca rfl (Um want (by unfold As; omega) _ _) ?_; rintro _ J3 _ e3 ⟨rfl, rfl⟩; refine Om rfl (Oe rfl rfl (Oe rfl rfl (Oa rfl (Oa rfl (Aa (Ab (Se rfl (Om rfl ?_)))))))); refine Ck rfl .free rfl ?_; refine Aa ?_; refine Ar rfl ?_ ?_
 ·intro c4
  try simp only [nb] at c4
  refine Se rfl (Oa rfl (Aa (Ad (.tmp rfl .nil) ?_)))
  exact ⟨J3, _, ez.trans e3, fun w h => Mem.sub (L' := rd b oa l c _ :: L) (by repeat (first | exact List.Sublist.refl _ | apply List.Sublist.cons_cons | apply List.Sublist.cons)) h, [48], _, rfl, by decide, by omega, by omega, rfl⟩
 intro c4
 try simp only [nb] at c4
 refine Af (Se rfl (Om rfl (Oa rfl (Aa (Ad (.tmp rfl .nil) ?_))))); refine ⟨J3, _, ez.trans e3, fun w h => Mem.sub (L' := rd b oa l c _ :: L) (by repeat (first | exact List.Sublist.refl _ | apply List.Sublist.cons_cons | apply List.Sublist.cons)) h, (O9 want).getD [], _, rfl, ?_, by omega, by omega, rfl⟩
 cases ho : O9 want with
 | none => decide
 | some o => have := Abc ho; simp only [Option.getD_some]; omega
theorem Yi {I : Heap} {oa : Option Addr} {l : List UInt8} {c : Nat} (h : Bytes I oa l c) (hl : l.length ≤ 2000) (b p : Nat) (hp : p + 4 ≤ 1099511627776) (L : Bl) :
  Fun Tryz.prog 165 [.pointer (some ⟨b, 0, none⟩)] I (rd b oa l c p :: L) (DT b oa l c p 4 200 L) := by
 refine Ai (by simp) ?_; refine Se rfl (Oa rfl (Aa (Se rfl (Om rfl ?_)))); refine Ol rfl rfl ?_; intro b5; refine D6 [[40, 43, 32, 120, 56, 32, 40, 99, 97, 108, 108, 32, 102, 56, 32, 40, 45, 32, 120, 56, 32, 49, 41, 41, 41], [40, 99, 97, 108, 108, 32, 102, 56, 32, 40, 45, 32, 120, 56, 32, 49, 41, 41], [40, 42, 32, 120, 56, 32, 40, 99, 97, 108, 108, 32, 102, 56, 32, 40, 45, 32, 120, 56, 32, 49, 41, 41, 41], [40, 45, 32, 48, 32, 40, 99, 97, 108, 108, 32, 102, 56, 32, 40, 45, 32, 120, 56, 32, 49, 41, 41, 41]] (by decide) (by decide) ?_; intro J1 e1 k1
 refine Ca rfl (Ed (h.mono e1) hl b _ (by omega) k1 (by simp) L) ?_; rintro _ _ _ _ ⟨s, rfl, hs, rfl, rfl⟩
 have hsl : s.length ≤ 30 := by revert s; decide
 refine Oa rfl (Aa (Se rfl (Om rfl ?_))); refine Ol rfl rfl ?_; intro b8; refine D6 [[48], [49], [53]] (by decide) (by decide) ?_; intro J2 e2 k2; refine Ca rfl (Ed ((h.mono e1).mono e2) hl b _ (by omega) k2 (by simp) L) ?_; rintro _ _ _ _ ⟨s2, rfl, hs2, rfl, rfl⟩
 have hsl2 : s2.length ≤ 1 := by revert s2; decide
 refine Ok rfl rfl ?_; refine Ok rfl rfl ?_; refine Om rfl ?_; refine Ok rfl rfl ?_; refine Ok rfl rfl ?_; refine Om rfl ?_; refine Ca rfl (De ((h.mono e1).mono e2) hl b _ 7 (by omega) (by decide) L) ?_; rintro _ _ _ _ ⟨r, rfl, rfl, rfl, hr⟩
 have hdl := So (n := r) (by omega)
 refine Ca rfl (S2 _ r (Nat.lt_succ_self _) (by omega) _ _) ?_; rintro _ _ _ _ ⟨rfl, rfl, rfl⟩; refine Ok rfl rfl ?_; refine Ok rfl rfl ?_; refine Oa rfl (Aa (Ad (.tmp rfl .nil) ?_))
 exact ⟨J2, _, e1.trans e2, fun _ h => h, _, _, rfl, (by first | omega | (simp only [List.length_append, List.length_cons, List.length_nil]; omega) | (simp; omega)), by omega, by omega, rfl⟩
def kE : Nat → Nat
 | 0 => 4
 | d + 1 => 3 * kE d + 60
def eT : Nat → Nat
 | 0 => 3300
 | d + 1 => 3 * eT d + 3000
theorem Z4 : ∀ d, 3300 ≤ eT d
 | 0 => Nat.le_refl _
 | d + 1 => by have := Z4 d; simp only [eT]; omega
def Tx (d : Nat) : Prop := ∀ {I : Heap} {oa : Option Addr} {l : List UInt8} {c : Nat} (_ : Bytes I oa l c) (_ : l.length ≤ 2000) (b p : Nat) (_ : p + kE d ≤ 1099511627776) {ns ts : List Au} {o1 o2 : Option Addr} {c1 c2 : Nat} (_ : ScAt I ns ts o1 c1 o2 c2) (_ : ns.length + 4 * d ≤ 100) (want : Au) (_ : want.length + 20 * d ≤ 1000) (L : Bl),
  Fun Tryz.prog 119 [.pointer (some ⟨b, 0, none⟩), .agg [.slice o1 ns.length c1, .slice o2 ts.length c2].toArray, .string (str want), .int .i64 (d : Nat)] I (rd b oa l c p :: L) (DT b oa l c p (kE d) (eT d) L)
theorem Pn {d : Nat} (ih : Tx d) (hd : d ≤ 20) (ht : eT (d + 1) ≤ 1000000000) {I : Heap} {oa : Option Addr} {l : List UInt8} {c : Nat} (h : Bytes I oa l c) (hl : l.length ≤ 2000) (b p : Nat) (hp : p + (3 * kE d + 40) ≤ 1099511627776) {ns ts : List Au} {o1 o2 : Option Addr} {c1 c2 : Nat} (hs : ScAt I ns ts o1 c1 o2 c2) (hn : ns.length + 4 * (d + 1) ≤ 100) (want : Au) (hw : want.length + 20 * (d + 1) ≤ 1000) (L : Bl) :
  Fun Tryz.prog 166 [.pointer (some ⟨b, 0, none⟩), .agg [.slice o1 ns.length c1, .slice o2 ts.length c2].toArray, .string (str want), .int .i64 ((d + 1 : Nat))] I (rd b oa l c p :: L) (DT b oa l c p (3 * kE d + 40) (3 * eT d + 3000) L) := by
 simp only [eT] at ht
 have hge := Z4 d
 obtain ⟨q1, q2⟩ := Abm (Gk [42] want) [42] want rfl; obtain ⟨q3, q4⟩ := Abm (Gk [62] want) [62] want rfl
 have hle : HLe I I := .refl _
 have hlr : HLe I I := .refl _
 refine Ai (by simp) ?_; refine Se rfl ?_; refine Cd rfl rfl .free rfl ?_; intro b5; refine Oa rfl (Aa (Ab ?_)); refine Bg (fun w h => h.f1) ?_; refine Ah rfl (Om rfl ?_); refine Ca rfl (Wh want (by unfold As; omega) _ _) ?_; rintro _ J _ e ⟨rfl, rfl⟩
 have h := h.mono e
 have hs := hs.mono e
 have hle := hle.trans e
 have hlr := hlr.trans e
 refine Om rfl ?_
 iterate 3 refine Oe rfl rfl ?_
 iterate 3 refine Oa rfl ?_
 refine Aa (Se rfl (Om rfl ?_)); refine Ca rfl (Ye want (by unfold As; omega) _ _) ?_; rintro _ J _ e ⟨rfl, rfl⟩
 have h := h.mono e
 have hs := hs.mono e
 have hle := hle.trans e
 have hlr := hlr.trans e
 refine Om rfl ?_
 iterate 3 refine Oe rfl rfl ?_
 iterate 3 refine Oa rfl ?_
 refine Aa (Se rfl (Om rfl ?_)); refine Or rfl rfl rfl ?_; refine Oa rfl (Aa (Ab (Aj (Ab ?_)))); refine Kc (t := 15) (v' := .int .i64 (d : Nat)) rfl (by congr 1; omega) ?_; refine Ah rfl (Om rfl (Oa rfl (Aa ?_))); refine Ar rfl ?_ ?_
 ·intro c0
  try simp only [nb] at c0
  refine Ab ?_; refine Lj fun hlr => ?_
  refine T7 15 rfl rfl ?_; refine Da 0 rfl (Ae rfl) ?_; refine Dt 1 [15] rfl (Bx rfl) ?_; refine Da 2 rfl (Ae rfl) ?_; refine Da 3 rfl (Ae rfl) ?_; refine Da 7 rfl (Ae rfl) ?_; refine Dt 8 [15] rfl (Bx rfl) ?_; refine Da 9 rfl (Ae rfl) ?_; refine Da 10 rfl (Ae rfl) ?_; refine Dc 4 rfl rfl (ih h hl b _ (by omega) hs (by omega) _ (by first | omega | (simp only [List.length_append, List.length_cons, List.length_nil]; omega)) _) ?_; rintro _ J _ e ⟨s1, p1, rfl, hs1, hp1, hp2, rfl⟩
  have h := h.mono e
  have hs := hs.mono e
  have hle := hle.trans e
  have hlr := hlr.trans e
  refine Hx ?_; refine Da 5 rfl (Yk rfl rfl) ?_; refine Da 6 rfl (Yk rfl rfl) ?_; refine Dc 11 rfl rfl (ih h hl b _ (by omega) hs (by omega) _ (by first | omega | (simp only [List.length_append, List.length_cons, List.length_nil]; omega)) _) ?_; rintro _ J _ e ⟨s1, p1, rfl, hs1, hp1, hp2, rfl⟩
  have h := h.mono e
  have hs := hs.mono e
  have hle := hle.trans e
  have hlr := hlr.trans e
  refine Hx ?_; refine Da 12 rfl (Yk rfl rfl) ?_; refine Da 13 rfl (Yk rfl rfl) ?_; refine Da 14 rfl (Aw rfl) ?_; refine Ao (by kernel_rfl) ?_; refine Ad (.tmp rfl .nil) ?_
  exact ⟨_, _, hle, fun w h => Mem.sub (L' := rd b oa l c _ :: L) (by repeat (first | exact List.Sublist.refl _ | apply List.Sublist.cons_cons | apply List.Sublist.cons)) h, _, _, rfl, (by first | omega | (simp only [List.length_append, List.length_cons, List.length_nil]; omega) | (simp; omega)), by omega, by omega, rfl⟩
 intro c0
 try simp only [nb] at c0
 refine Se rfl (Om rfl (Oa rfl (Aa ?_))); refine Ar rfl ?_ ?_
 ·intro c1
  try simp only [nb] at c1
  refine Se rfl (Om rfl ?_); refine Ol rfl rfl ?_; intro b52; refine D6 [[102], [103], [102, 49]] (by decide) (by decide) ?_; intro J1 e1 k1
  have h := h.mono e1
  have hs := hs.mono e1
  have hle := hle.trans e1
  refine Ca rfl (Ed h hl b _ (by omega) k1 (by simp) _) ?_; rintro _ _ _ _ ⟨nf, rfl, hnf, rfl, rfl⟩
  have hnfl : nf.length ≤ 2 := by revert nf; decide
  refine Oa rfl (Aa (Se rfl (Om rfl ?_))); refine Ol rfl rfl ?_; intro b55; refine D6 [[120], [122], [120, 50]] (by decide) (by decide) ?_; intro J1 e1 k1
  have h := h.mono e1
  have hs := hs.mono e1
  have hle := hle.trans e1
  refine Ca rfl (Ed h hl b _ (by omega) k1 (by simp) _) ?_; rintro _ _ _ _ ⟨nx, rfl, hnx, rfl, rfl⟩
  have hnxl : nx.length ≤ 2 := by revert nx; decide
  refine Oa rfl (Aa (Se rfl ?_)); refine Az rfl .free rfl ?_; refine Om rfl (Om rfl ?_); refine Ca rfl (Jv hs nx (t1 (Gk [62] want)) (by omega) (by omega) (by omega) _) ?_; rintro _ J2 _ e2 ⟨o3, c3, o4, c4, rfl, hs2, rfl⟩
  have h := h.mono e2
  have hs := hs.mono e2
  have hle := hle.trans e2
  refine Ax .free rfl ?_; intro b18; refine Bk rfl rfl rfl rfl .free ?_; refine Dv (fun w h => h.f1) ?_; refine Aa (Ab (Se rfl (Om rfl ?_))); refine Ca rfl (De h hl b _ 6 (by omega) (by decide) _) ?_; rintro _ _ _ _ ⟨r, rfl, rfl, rfl, hr⟩; refine Oc rfl rfl rfl (Aa ?_); refine Ar rfl ?_ ?_
  ·intro c2
   try simp only [nb] at c2
   refine Ah rfl ?_; refine Az rfl .free rfl ?_; refine Om rfl (Om rfl ?_); refine Ca rfl (Jv hs nf want (by omega) (by omega) (by omega) _) ?_; rintro _ J3 _ e3 ⟨o5, c5, o6, c6, rfl, hs3, rfl⟩
   have h := h.mono e3
   have hle := hle.trans e3
   refine Om rfl (Om rfl ?_); refine Ca rfl (Jv hs3 nx (t1 (Gk [62] want)) (by omega) (by omega) (by simp; omega) _) ?_; rintro _ J4 _ e4 ⟨o7, c7, o8, c8, rfl, hs4, rfl⟩
   have h := h.mono e4
   have hle := hle.trans e4
   refine Bk rfl rfl rfl rfl .free ?_; refine Aa (Se rfl (Om rfl ?_)); refine Ok rfl rfl ?_; refine Ok rfl rfl ?_; refine Om rfl ?_; refine Ok rfl rfl ?_; refine Ok rfl rfl ?_; refine Om rfl ?_; refine Ok rfl rfl ?_; refine Ok rfl rfl ?_; refine Om rfl ?_; refine Ok rfl rfl ?_; refine Ok rfl rfl ?_; refine Om rfl ?_; refine Az rfl .free rfl ?_; refine Om rfl (Om rfl ?_); refine Ca rfl (by first | exact ih h hl b _ (by omega) hs4 (by simp; omega) _ (by omega) _ | exact ih h hl b _ (by omega) hs2 (by simp; omega) _ (by omega) _) ?_; rintro _ J _ e ⟨s1, p1, rfl, hs1, hp1, hp2, rfl⟩
   have h := h.mono e
   have hle := hle.trans e
   refine Ok rfl rfl ?_; refine Ok rfl rfl ?_; refine Oa rfl (Aa (Ad (.tmp rfl .nil) ?_))
   exact ⟨_, _, hle, fun w h => Mem.sub (L' := rd b oa l c _ :: L) (by repeat (first | exact List.Sublist.refl _ | apply List.Sublist.cons_cons | apply List.Sublist.cons)) h, _, _, rfl, (by first | omega | (simp only [List.length_append, List.length_cons, List.length_nil]; omega) | (simp; omega)), by omega, by omega, rfl⟩
  intro c2
  try simp only [nb] at c2
  refine Af (Se rfl (Om rfl ?_)); refine Ok rfl rfl ?_; refine Ok rfl rfl ?_; refine Om rfl ?_; refine Ok rfl rfl ?_; refine Ok rfl rfl ?_; refine Om rfl ?_; refine Ok rfl rfl ?_; refine Ok rfl rfl ?_; refine Om rfl ?_; refine Ok rfl rfl ?_; refine Ok rfl rfl ?_; refine Om rfl ?_; refine Az rfl .free rfl ?_; refine Om rfl (Om rfl ?_); refine Ca rfl (by first | exact ih h hl b _ (by omega) hs4 (by simp; omega) _ (by omega) _ | exact ih h hl b _ (by omega) hs2 (by simp; omega) _ (by omega) _) ?_; rintro _ J _ e ⟨s1, p1, rfl, hs1, hp1, hp2, rfl⟩
  have h := h.mono e
  have hle := hle.trans e
  refine Ok rfl rfl ?_; refine Ok rfl rfl ?_; refine Oa rfl (Aa (Ad (.tmp rfl .nil) ?_))
  exact ⟨_, _, hle, fun w h => Mem.sub (L' := rd b oa l c _ :: L) (by repeat (first | exact List.Sublist.refl _ | apply List.Sublist.cons_cons | apply List.Sublist.cons)) h, _, _, rfl, (by first | omega | (simp only [List.length_append, List.length_cons, List.length_nil]; omega) | (simp; omega)), by omega, by omega, rfl⟩
 intro c1
 try simp only [nb] at c1
 refine Se rfl (Om rfl (Od rfl rfl rfl (Om rfl ?_)))
 first | refine Gb rfl rfl ?_ ?_ | refine Ev rfl rfl ?_ ?_ | refine K0 rfl rfl ?_ ?_
 ·intro g13_3; refine Ow rfl ?_; refine Ce rfl (.met rfl rfl) rfl (De h hl b _ 3 (by omega) (by decide) _) ?_; rintro _ _ _ _ ⟨r, rfl, rfl, rfl, hr⟩; refine Dr rfl rfl rfl (.met rfl rfl) rfl ?_; refine Ot rfl rfl (Oa rfl (Aa ?_)); refine Ar rfl ?_ ?_
  ·intro c3
   try simp only [nb] at c3
   refine Ab ?_; refine Lj fun hlr => ?_
   refine T7 18 rfl rfl ?_; refine Da 0 rfl (Ae rfl) ?_; refine Da 5 rfl (Ae rfl) ?_; refine Dt 6 [18] rfl (Bx rfl) ?_; refine Da 7 rfl (Ae rfl) ?_; refine Da 11 rfl (Ae rfl) ?_; refine Dt 12 [18] rfl (Bx rfl) ?_; refine Da 13 rfl (Ae rfl) ?_; refine Fj 1 rfl (by kernel_rfl) rfl rfl rfl (by rfl) (by rfl) (by rfl) (by decide) (by decide) (by rfl) .free rfl (.inr Am) ?_; intro b99; refine D8 ?_; intro hz
   have hk := M9 (l := [[43], [45], [42]]) (b := b99) (I := J) (e := 9) (by decide) (by decide)
   have h := h.mono hz
   have hs := hs.mono hz
   have hle := hle.trans hz
   have hlr := hlr.trans hz
   refine Dc 2 rfl rfl (Ed h hl b _ (by omega) hk (by simp) _) ?_; rintro _ _ _ _ ⟨op, rfl, hop, rfl, rfl⟩
   have hopl : op.length ≤ 1 := by revert op; decide
   refine Hx ?_; refine Da 3 rfl (Yk rfl rfl) ?_; refine Da 4 rfl (Yk rfl rfl) ?_; refine Dc 8 rfl rfl (ih h hl b _ (by omega) hs (by omega) _ (by first | omega | (simp only [List.length_append, List.length_cons, List.length_nil]; omega)) _) ?_; rintro _ J _ e ⟨s1, p1, rfl, hs1, hp1, hp2, rfl⟩
   have h := h.mono e
   have hs := hs.mono e
   have hle := hle.trans e
   have hlr := hlr.trans e
   refine Hx ?_; refine Da 9 rfl (Yk rfl rfl) ?_; refine Da 10 rfl (Yk rfl rfl) ?_; refine Dc 14 rfl rfl (ih h hl b _ (by omega) hs (by omega) _ (by first | omega | (simp only [List.length_append, List.length_cons, List.length_nil]; omega)) _) ?_; rintro _ J _ e ⟨s1, p1, rfl, hs1, hp1, hp2, rfl⟩
   have h := h.mono e
   have hs := hs.mono e
   have hle := hle.trans e
   have hlr := hlr.trans e
   refine Hx ?_; refine Da 15 rfl (Yk rfl rfl) ?_; refine Da 16 rfl (Yk rfl rfl) ?_; refine Da 17 rfl (Aw rfl) ?_; refine Ao (by kernel_rfl) ?_; refine Ad (.tmp rfl .nil) ?_
   exact ⟨_, _, hle, fun w h => Mem.sub (L' := rd b oa l c _ :: L) (by repeat (first | exact List.Sublist.refl _ | apply List.Sublist.cons_cons | apply List.Sublist.cons)) h, _, _, rfl, (by first | omega | (simp only [List.length_append, List.length_cons, List.length_nil]; omega) | (simp; omega)), by omega, by omega, rfl⟩
  intro c3
  try simp only [nb] at c3
  refine Af (Al (Se rfl (Om rfl ?_))); refine Az rfl .free rfl ?_; refine Om rfl ?_; refine Ca rfl (No h hl b _ (by omega) hs (by omega) want (by omega) _) ?_; rintro _ J _ e ⟨s1, p1, rfl, hs1, hp1, hp2, rfl⟩
  have hle := hle.trans e
  refine Oa rfl (Aa (Ad (.tmp rfl .nil) ?_))
  exact ⟨_, _, hle, fun w h => Mem.sub (L' := rd b oa l c _ :: L) (by repeat (first | exact List.Sublist.refl _ | apply List.Sublist.cons_cons | apply List.Sublist.cons)) h, _, _, rfl, by omega, by omega, by omega, rfl⟩
 intro g13_3
 iterate 3 refine Ci rfl rfl rfl ?_
 refine Of rfl rfl (Oa rfl (Aa ?_)); refine Ap rfl ?_; refine Af (Al (Se rfl (Om rfl ?_))); refine Az rfl .free rfl ?_; refine Om rfl ?_; refine Ca rfl (No h hl b _ (by omega) hs (by omega) want (by omega) _) ?_; rintro _ J _ e ⟨s1, p1, rfl, hs1, hp1, hp2, rfl⟩
 have hle := hle.trans e
 refine Oa rfl (Aa (Ad (.tmp rfl .nil) ?_))
 exact ⟨_, _, hle, fun w h => Mem.sub (L' := rd b oa l c _ :: L) (by repeat (first | exact List.Sublist.refl _ | apply List.Sublist.cons_cons | apply List.Sublist.cons)) h, _, _, rfl, by omega, by omega, by omega, rfl⟩
theorem X4 : Tx 0 := by
 intro I oa l c h hl b p hp ns ts o1 o2 c1 c2 hs hn want hw L; refine Ai (by simp) ?_; refine Se rfl ?_; refine Cd rfl rfl .free rfl ?_; intro b5; refine Oa rfl (Aa (Ab (Ab ?_))); refine Bg (fun w h => h.f1) ?_; refine Ah rfl (Om rfl (Oc rfl rfl rfl (Aa ?_)))
 first | refine Ks rfl (by rfl) ?_ | refine Kr rfl (by rfl) ?_ | refine Bj (by simp [look, Ba, *]) ?_
 refine Se rfl (Om rfl ?_); refine Az rfl .free rfl ?_; refine Om rfl ?_; refine Ca rfl (No h hl b _ hp hs (by omega) want (by omega) _) ?_; rintro _ J _ e ⟨s1, p1, rfl, hs1, hp1, hp2, rfl⟩; refine Oa rfl (Aa (Ad (.tmp rfl .nil) ?_))
 exact ⟨J, _, e, fun w h => Mem.sub (L' := rd b oa l c _ :: L) (by repeat (first | exact List.Sublist.refl _ | apply List.Sublist.cons_cons | apply List.Sublist.cons)) h, _, _, rfl, hs1, hp1, hp2, rfl⟩
set_option maxHeartbeats 1000000 in
theorem X3 {d : Nat} (ih : Tx d) (hd : d ≤ 20) (ht : eT (d + 1) ≤ 1000000000) : Tx (d + 1) := by
 intro I oa l c h hl b p hp ns ts o1 o2 c1 c2 hs hn want hw L
 have ht0 := ht
 simp only [eT, kE] at ht hp ⊢
 have hge := Z4 d
 have hle : HLe I I := .refl _
 have hlr : HLe I I := .refl _
 have hb1 : bT 1 = 7 := rfl
 have hk1 : kT 1 = 2 := rfl
 refine Ai (by simp) ?_; refine Se rfl ?_; refine Cd rfl rfl .free rfl ?_; intro b5; refine Oa rfl (Aa (Ab (Ab ?_))); refine Bg (fun w h => h.f1) ?_; refine Ah rfl (Om rfl (Oc rfl rfl rfl (Aa ?_)))
 first | refine Sf rfl (by omega) ?_ | refine Ap (by simp [look, Ba, *]) ?_
 refine Af (Se rfl (Om rfl ?_)); refine Or rfl rfl rfl ?_; refine Oa rfl (Aa (Ab (Ab ?_))); refine Kc (t := 9) (v' := .int .i64 (d : Nat)) rfl (by congr 1; omega) ?_; refine Ah rfl (Om rfl ?_); refine Ca rfl (De h hl b _ 12 (by omega) (by decide) _) ?_; rintro _ _ _ _ ⟨r, rfl, rfl, rfl, hr⟩; refine Aa (Aj (Se rfl (Oc rfl rfl rfl (Oa rfl (Aa ?_))))); refine Ar rfl ?_ ?_
 ·intro c1
  try simp only [nb] at c1
  refine Ab ?_; refine Lj fun hlr => ?_
  refine T7 21 rfl rfl ?_; refine Da 0 rfl (Ae rfl) ?_; refine Dt 1 [21] rfl (Bx rfl) ?_; refine Da 2 rfl (Ae rfl) ?_; refine Da 6 rfl (Ae rfl) ?_; refine Dt 7 [21] rfl (Bx rfl) ?_; refine Da 8 rfl (Ae rfl) ?_; refine Da 9 rfl (Ae rfl) ?_; refine Da 13 rfl (Ae rfl) ?_; refine Dt 14 [21] rfl (Bx rfl) ?_; refine Da 15 rfl (Ae rfl) ?_; refine Da 16 rfl (Ae rfl) ?_; refine Dc 3 rfl rfl (ih h hl b _ (by omega) hs (by omega) _ (by first | omega | (simp only [List.length_append, List.length_cons, List.length_nil]; omega)) _) ?_; rintro _ J _ e ⟨s1, p1, rfl, hs1, hp1, hp2, rfl⟩
  have h := h.mono e
  have hs := hs.mono e
  have hle := hle.trans e
  have hlr := hlr.trans e
  refine Hx ?_; refine Da 4 rfl (Yk rfl rfl) ?_; refine Da 5 rfl (Yk rfl rfl) ?_; refine Dc 10 rfl rfl (ih h hl b _ (by omega) hs (by omega) _ (by first | omega | (simp only [List.length_append, List.length_cons, List.length_nil]; omega)) _) ?_; rintro _ J _ e ⟨s1, p1, rfl, hs1, hp1, hp2, rfl⟩
  have h := h.mono e
  have hs := hs.mono e
  have hle := hle.trans e
  have hlr := hlr.trans e
  refine Hx ?_; refine Da 11 rfl (Yk rfl rfl) ?_; refine Da 12 rfl (Yk rfl rfl) ?_; refine Dc 17 rfl rfl (ih h hl b _ (by omega) hs (by omega) _ (by first | omega | (simp only [List.length_append, List.length_cons, List.length_nil]; omega)) _) ?_; rintro _ J _ e ⟨s1, p1, rfl, hs1, hp1, hp2, rfl⟩
  have h := h.mono e
  have hs := hs.mono e
  have hle := hle.trans e
  have hlr := hlr.trans e
  refine Hx ?_; refine Da 18 rfl (Yk rfl rfl) ?_; refine Da 19 rfl (Yk rfl rfl) ?_; refine Da 20 rfl (Aw rfl) ?_; refine Ao (by kernel_rfl) ?_; refine Ad (.tmp rfl .nil) ?_
  exact ⟨_, _, hle, fun w h => Mem.sub (L' := rd b oa l c _ :: L) (by repeat (first | exact List.Sublist.refl _ | apply List.Sublist.cons_cons | apply List.Sublist.cons)) h, _, _, rfl, (by first | omega | (simp only [List.length_append, List.length_cons, List.length_nil]; omega) | (simp; omega)), by omega, by omega, rfl⟩
 intro c1
 try simp only [nb] at c1
 refine Ab (Se rfl (Oc rfl rfl rfl (Oa rfl (Aa ?_)))); refine Ar rfl ?_ ?_
 ·intro c2
  try simp only [nb] at c2
  refine Af ?_
  first | refine St rfl (by first | assumption | omega) ?_ | refine Bj (by simp [look, Ba, *]) ?_
  refine Se rfl (Om rfl ?_); refine Ca rfl (Jw 1 h hl b _ (by omega) (by decide) (by decide) _) ?_; rintro _ J _ e ⟨kd, pk, rfl, hkd, hpk1, hpk2, rfl⟩
  have h := h.mono e
  have hs := hs.mono e
  have hle := hle.trans e
  have hlr := hlr.trans e
  refine Oa rfl (Aa (Se rfl (Om rfl ?_))); refine Ol rfl rfl ?_; intro b51; refine D6 [[97], [98], [99], [120, 49], [121, 48]] (by decide) (by decide) ?_; intro J1 e1 k1
  have h := h.mono e1
  have hs := hs.mono e1
  have hle := hle.trans e1
  refine Ca rfl (Ed h hl b _ (by omega) k1 (by simp) _) ?_; rintro _ _ _ _ ⟨nx, rfl, hnx, rfl, rfl⟩
  have hnxl : nx.length ≤ 2 := by revert nx; decide
  refine Oa rfl (Aa (Ab ?_)); refine Lj fun hlr => ?_
  refine T7 21 rfl rfl ?_; refine Da 0 rfl (Ae rfl) ?_; refine Da 1 rfl (Yk rfl rfl) ?_; refine Da 2 rfl (Yk rfl rfl) ?_; refine Da 3 rfl (Ae rfl) ?_; refine Dt 4 [21] rfl (Bx rfl) ?_; refine Da 5 rfl (Ae rfl) ?_; refine Da 6 rfl (Ae rfl) ?_; refine Da 10 rfl (Ae rfl) ?_; refine Dt 11 [21] rfl (Bx rfl) ?_; refine Da 12 rfl (Ae rfl) ?_; refine Da 13 rfl (Ae rfl) ?_; refine Da 15 rfl (Ae rfl) ?_; refine Da 16 rfl (Ae rfl) ?_; refine Dc 7 rfl rfl (ih h hl b _ (by omega) hs (by omega) _ (by first | omega | (simp only [List.length_append, List.length_cons, List.length_nil]; omega)) _) ?_
  rintro _ J _ e ⟨s1, p1, rfl, hs1, hp1, hp2, rfl⟩
  have h := h.mono e
  have hs := hs.mono e
  have hle := hle.trans e
  have hlr := hlr.trans e
  refine Hx ?_; refine Da 8 rfl (Yk rfl rfl) ?_; refine Da 9 rfl (Yk rfl rfl) ?_; refine Dc 14 rfl rfl (Jv hs nx kd (by omega) (by omega) (by omega) _) ?_; rintro _ J2 _ e2 ⟨o3, c3, o4, c4, rfl, hs2, rfl⟩
  have h := h.mono e2
  have hle := hle.trans e2
  have hlr := hlr.trans e2
  refine Hx ?_; refine Dc 17 rfl rfl (ih h hl b _ (by omega) hs2 (by simp; omega) _ (by omega) _) ?_; rintro _ J _ e ⟨s1, p1, rfl, hs1, hp1, hp2, rfl⟩
  have hle := hle.trans e
  have hlr := hlr.trans e
  refine Hx ?_; refine Da 18 rfl (Yk rfl rfl) ?_; refine Da 19 rfl (Yk rfl rfl) ?_; refine Da 20 rfl (Aw rfl) ?_; refine Ao (by kernel_rfl) ?_; refine Ad (.tmp rfl .nil) ?_
  exact ⟨_, _, hle, fun w h => Mem.sub (L' := rd b oa l c _ :: L) (by repeat (first | exact List.Sublist.refl _ | apply List.Sublist.cons_cons | apply List.Sublist.cons)) h, _, _, rfl, (by first | omega | (simp only [List.length_append, List.length_cons, List.length_nil]; omega) | (simp; omega)), by omega, by omega, rfl⟩
 intro c2
 try simp only [nb] at c2
 refine Ah rfl (Oc rfl rfl rfl (Oa rfl (Aa ?_))); refine Ar rfl ?_ ?_
 ·intro c3
  try simp only [nb] at c3
  refine Se rfl (Om rfl ?_); refine Ca rfl (Jw 1 h hl b _ (by omega) (by decide) (by decide) _) ?_; rintro _ J _ e ⟨kd, pk, rfl, hkd, hpk1, hpk2, rfl⟩
  have h := h.mono e
  have hs := hs.mono e
  have hle := hle.trans e
  have hlr := hlr.trans e
  refine Oa rfl (Aa (Se rfl (Om rfl ?_))); refine Ol rfl rfl ?_; intro b51; refine D6 [[97], [98], [99], [120, 49], [121, 48]] (by decide) (by decide) ?_; intro J1 e1 k1
  have h := h.mono e1
  have hs := hs.mono e1
  have hle := hle.trans e1
  refine Ca rfl (Ed h hl b _ (by omega) k1 (by simp) _) ?_; rintro _ _ _ _ ⟨nx, rfl, hnx, rfl, rfl⟩
  have hnxl : nx.length ≤ 2 := by revert nx; decide
  refine Oa rfl (Aa (Ab ?_)); refine Lj fun hlr => ?_
  refine T7 21 rfl rfl ?_; refine Da 0 rfl (Ae rfl) ?_; refine Da 1 rfl (Yk rfl rfl) ?_; refine Da 2 rfl (Yk rfl rfl) ?_; refine Da 3 rfl (Ae rfl) ?_; refine Dt 4 [21] rfl (Bx rfl) ?_; refine Da 5 rfl (Ae rfl) ?_; refine Da 6 rfl (Ae rfl) ?_; refine Da 10 rfl (Ae rfl) ?_; refine Dt 11 [21] rfl (Bx rfl) ?_; refine Da 12 rfl (Ae rfl) ?_; refine Da 13 rfl (Ae rfl) ?_; refine Da 15 rfl (Ae rfl) ?_; refine Da 16 rfl (Ae rfl) ?_; refine Dc 7 rfl rfl (ih h hl b _ (by omega) hs (by omega) _ (by first | omega | (simp only [List.length_append, List.length_cons, List.length_nil]; omega)) _) ?_
  rintro _ J _ e ⟨s1, p1, rfl, hs1, hp1, hp2, rfl⟩
  have h := h.mono e
  have hs := hs.mono e
  have hle := hle.trans e
  have hlr := hlr.trans e
  refine Hx ?_; refine Da 8 rfl (Yk rfl rfl) ?_; refine Da 9 rfl (Yk rfl rfl) ?_; refine Dc 14 rfl rfl (Jv hs nx kd (by omega) (by omega) (by omega) _) ?_; rintro _ J2 _ e2 ⟨o3, c3, o4, c4, rfl, hs2, rfl⟩
  have h := h.mono e2
  have hle := hle.trans e2
  have hlr := hlr.trans e2
  refine Hx ?_; refine Dc 17 rfl rfl (ih h hl b _ (by omega) hs2 (by simp; omega) _ (by omega) _) ?_; rintro _ J _ e ⟨s1, p1, rfl, hs1, hp1, hp2, rfl⟩
  have hle := hle.trans e
  have hlr := hlr.trans e
  refine Hx ?_; refine Da 18 rfl (Yk rfl rfl) ?_; refine Da 19 rfl (Yk rfl rfl) ?_; refine Da 20 rfl (Aw rfl) ?_; refine Ao (by kernel_rfl) ?_; refine Ad (.tmp rfl .nil) ?_
  exact ⟨_, _, hle, fun w h => Mem.sub (L' := rd b oa l c _ :: L) (by repeat (first | exact List.Sublist.refl _ | apply List.Sublist.cons_cons | apply List.Sublist.cons)) h, _, _, rfl, (by first | omega | (simp only [List.length_append, List.length_cons, List.length_nil]; omega) | (simp; omega)), by omega, by omega, rfl⟩
 intro c3
 try simp only [nb] at c3
 refine Ab (Se rfl (Oc rfl rfl rfl (Oa rfl (Aa ?_)))); refine Ar rfl ?_ ?_
 ·intro c4
  try simp only [nb] at c4
  refine Af ?_
  first | refine St rfl (by first | assumption | omega) ?_ | refine Bj (by simp [look, Ba, *]) ?_
  refine Se rfl (Om rfl ?_); refine Ca rfl (Jw 1 h hl b _ (by omega) (by decide) (by decide) _) ?_; rintro _ J _ e ⟨kd, pk, rfl, hkd, hpk1, hpk2, rfl⟩
  have h := h.mono e
  have hs := hs.mono e
  have hle := hle.trans e
  have hlr := hlr.trans e
  refine Oa rfl (Aa (Ab ?_)); refine Lj fun hlr => ?_
  refine T7 20 rfl rfl ?_; refine Da 0 rfl (Ae rfl) ?_; refine Dt 1 [20] rfl (Bx rfl) ?_; refine Da 2 rfl (Ae rfl) ?_; refine Da 3 rfl (Yk rfl rfl) ?_; refine Da 4 rfl (Yk rfl rfl) ?_; refine Da 5 rfl (Ae rfl) ?_; refine Da 6 rfl (Yk rfl rfl) ?_; refine Da 7 rfl (Yk rfl rfl) ?_; refine Da 8 rfl (Ae rfl) ?_; refine Da 12 rfl (Ae rfl) ?_; refine Dt 13 [20] rfl (Bx rfl) ?_; refine Da 14 rfl (Ae rfl) ?_; refine Da 15 rfl (Ae rfl) ?_; refine Dc 9 rfl rfl (ih h hl b _ (by omega) hs (by omega) _ (by first | omega | (simp only [List.length_append, List.length_cons, List.length_nil]; omega)) _) ?_
  rintro _ J _ e ⟨s1, p1, rfl, hs1, hp1, hp2, rfl⟩
  have h := h.mono e
  have hs := hs.mono e
  have hle := hle.trans e
  have hlr := hlr.trans e
  refine Hx ?_; refine Da 10 rfl (Yk rfl rfl) ?_; refine Da 11 rfl (Yk rfl rfl) ?_; refine Dc 16 rfl rfl (ih h hl b _ (by omega) hs (by omega) _ (by first | omega | (simp only [List.length_append, List.length_cons, List.length_nil]; omega)) _) ?_; rintro _ J _ e ⟨s1, p1, rfl, hs1, hp1, hp2, rfl⟩
  have h := h.mono e
  have hs := hs.mono e
  have hle := hle.trans e
  have hlr := hlr.trans e
  refine Hx ?_; refine Da 17 rfl (Yk rfl rfl) ?_; refine Da 18 rfl (Yk rfl rfl) ?_; refine Da 19 rfl (Aw rfl) ?_; refine Ao (by kernel_rfl) ?_; refine Ad (.tmp rfl .nil) ?_
  exact ⟨_, _, hle, fun w h => Mem.sub (L' := rd b oa l c _ :: L) (by repeat (first | exact List.Sublist.refl _ | apply List.Sublist.cons_cons | apply List.Sublist.cons)) h, _, _, rfl, (by first | omega | (simp only [List.length_append, List.length_cons, List.length_nil]; omega) | (simp; omega)), by omega, by omega, rfl⟩
 intro c4
 try simp only [nb] at c4
 refine Ah rfl (Oc rfl rfl rfl (Oa rfl (Aa ?_))); refine Ar rfl ?_ ?_
 ·intro c5
  try simp only [nb] at c5
  refine Se rfl (Om rfl ?_); refine Ca rfl (Jw 1 h hl b _ (by omega) (by decide) (by decide) _) ?_; rintro _ J _ e ⟨kd, pk, rfl, hkd, hpk1, hpk2, rfl⟩
  have h := h.mono e
  have hs := hs.mono e
  have hle := hle.trans e
  have hlr := hlr.trans e
  refine Oa rfl (Aa (Ab ?_)); refine Lj fun hlr => ?_
  refine T7 20 rfl rfl ?_; refine Da 0 rfl (Ae rfl) ?_; refine Dt 1 [20] rfl (Bx rfl) ?_; refine Da 2 rfl (Ae rfl) ?_; refine Da 3 rfl (Yk rfl rfl) ?_; refine Da 4 rfl (Yk rfl rfl) ?_; refine Da 5 rfl (Ae rfl) ?_; refine Da 6 rfl (Yk rfl rfl) ?_; refine Da 7 rfl (Yk rfl rfl) ?_; refine Da 8 rfl (Ae rfl) ?_; refine Da 12 rfl (Ae rfl) ?_; refine Dt 13 [20] rfl (Bx rfl) ?_; refine Da 14 rfl (Ae rfl) ?_; refine Da 15 rfl (Ae rfl) ?_; refine Dc 9 rfl rfl (ih h hl b _ (by omega) hs (by omega) _ (by first | omega | (simp only [List.length_append, List.length_cons, List.length_nil]; omega)) _) ?_
  rintro _ J _ e ⟨s1, p1, rfl, hs1, hp1, hp2, rfl⟩
  have h := h.mono e
  have hs := hs.mono e
  have hle := hle.trans e
  have hlr := hlr.trans e
  refine Hx ?_; refine Da 10 rfl (Yk rfl rfl) ?_; refine Da 11 rfl (Yk rfl rfl) ?_; refine Dc 16 rfl rfl (ih h hl b _ (by omega) hs (by omega) _ (by first | omega | (simp only [List.length_append, List.length_cons, List.length_nil]; omega)) _) ?_; rintro _ J _ e ⟨s1, p1, rfl, hs1, hp1, hp2, rfl⟩
  have h := h.mono e
  have hs := hs.mono e
  have hle := hle.trans e
  have hlr := hlr.trans e
  refine Hx ?_; refine Da 17 rfl (Yk rfl rfl) ?_; refine Da 18 rfl (Yk rfl rfl) ?_; refine Da 19 rfl (Aw rfl) ?_; refine Ao (by kernel_rfl) ?_; refine Ad (.tmp rfl .nil) ?_
  exact ⟨_, _, hle, fun w h => Mem.sub (L' := rd b oa l c _ :: L) (by repeat (first | exact List.Sublist.refl _ | apply List.Sublist.cons_cons | apply List.Sublist.cons)) h, _, _, rfl, (by first | omega | (simp only [List.length_append, List.length_cons, List.length_nil]; omega) | (simp; omega)), by omega, by omega, rfl⟩
 intro c5
 try simp only [nb] at c5
 refine Se rfl (Oc rfl rfl rfl (Oa rfl (Aa ?_))); refine Ar rfl ?_ ?_
 ·intro c6
  try simp only [nb] at c6
  refine Se rfl (Om rfl ?_); refine Az rfl .free rfl ?_; refine Om rfl ?_; refine Ok rfl rfl ?_; refine Ok rfl rfl ?_; refine Om rfl ?_; refine Ca rfl (ih h hl b _ (by omega) hs (by omega) _ (by first | omega | (simp only [List.length_append, List.length_cons, List.length_nil]; omega)) _) ?_; rintro _ J _ e ⟨s1, p1, rfl, hs1, hp1, hp2, rfl⟩
  have h := h.mono e
  have hs := hs.mono e
  have hle := hle.trans e
  have hlr := hlr.trans e
  refine Ok rfl rfl ?_; refine Ok rfl rfl ?_; refine Oa rfl (Aa (Ad (.tmp rfl .nil) ?_))
  exact ⟨_, _, hle, fun w h => Mem.sub (L' := rd b oa l c _ :: L) (by repeat (first | exact List.Sublist.refl _ | apply List.Sublist.cons_cons | apply List.Sublist.cons)) h, _, _, rfl, (by first | omega | (simp only [List.length_append, List.length_cons, List.length_nil]; omega) | (simp; omega)), by omega, by omega, rfl⟩
 intro c6
 try simp only [nb] at c6
 refine Se rfl (Oc rfl rfl rfl (Oa rfl (Aa ?_))); refine Ar rfl ?_ ?_
 ·intro c7
  try simp only [nb] at c7
  refine Se rfl (Om rfl ?_); refine Az rfl .free rfl ?_; refine Om rfl ?_; refine Ok rfl rfl ?_; refine Ok rfl rfl ?_; refine Om rfl ?_; refine Ca rfl (ih h hl b _ (by omega) hs (by omega) _ (by first | omega | (simp only [List.length_append, List.length_cons, List.length_nil]; omega)) _) ?_; rintro _ J _ e ⟨s1, p1, rfl, hs1, hp1, hp2, rfl⟩
  have h := h.mono e
  have hs := hs.mono e
  have hle := hle.trans e
  have hlr := hlr.trans e
  refine Ok rfl rfl ?_; refine Ok rfl rfl ?_; refine Oa rfl (Aa (Ad (.tmp rfl .nil) ?_))
  exact ⟨_, _, hle, fun w h => Mem.sub (L' := rd b oa l c _ :: L) (by repeat (first | exact List.Sublist.refl _ | apply List.Sublist.cons_cons | apply List.Sublist.cons)) h, _, _, rfl, (by first | omega | (simp only [List.length_append, List.length_cons, List.length_nil]; omega) | (simp; omega)), by omega, by omega, rfl⟩
 intro c7
 try simp only [nb] at c7
 refine Se rfl (Oc rfl rfl rfl (Oa rfl (Aa ?_))); refine Ar rfl ?_ ?_
 ·intro c8
  try simp only [nb] at c8
  refine Se rfl (Om rfl (Od rfl rfl rfl (Aa ?_))); refine Ar rfl ?_ ?_
  ·intro c9
   try simp only [nb] at c9
   refine Se rfl (Om rfl ?_); refine Ca rfl (Yi h hl b _ (by omega) _) ?_; rintro _ J _ e ⟨s1, p1, rfl, hs1, hp1, hp2, rfl⟩
   have hle := hle.trans e
   refine Oa rfl (Aa (Ad (.tmp rfl .nil) ?_))
   exact ⟨_, _, hle, fun w h => Mem.sub (L' := rd b oa l c _ :: L) (by repeat (first | exact List.Sublist.refl _ | apply List.Sublist.cons_cons | apply List.Sublist.cons)) h, _, _, rfl, (by first | omega | (simp only [List.length_append, List.length_cons, List.length_nil]; omega) | (simp; omega)), by omega, by omega, rfl⟩
  intro c9
  try simp only [nb] at c9
  refine Af (Al (Se rfl (Om rfl ?_))); refine Az rfl .free rfl ?_; refine Om rfl (Om rfl ?_); refine Ca rfl (Pn ih hd ht0 h hl b _ (by omega) hs (by omega) want (by omega) _) ?_; rintro _ J _ e ⟨s1, p1, rfl, hs1, hp1, hp2, rfl⟩
  have hle := hle.trans e
  refine Oa rfl (Aa (Ad (.tmp rfl .nil) ?_))
  exact ⟨_, _, hle, fun w h => Mem.sub (L' := rd b oa l c _ :: L) (by repeat (first | exact List.Sublist.refl _ | apply List.Sublist.cons_cons | apply List.Sublist.cons)) h, _, _, rfl, (by first | omega | (simp only [List.length_append, List.length_cons, List.length_nil]; omega) | (simp; omega)), by omega, by omega, rfl⟩
 intro c8
 try simp only [nb] at c8
 refine Af (Al (Se rfl (Om rfl ?_))); refine Az rfl .free rfl ?_; refine Om rfl (Om rfl ?_); refine Ca rfl (Pn ih hd ht0 h hl b _ (by omega) hs (by omega) want (by omega) _) ?_; rintro _ J _ e ⟨s1, p1, rfl, hs1, hp1, hp2, rfl⟩
 have hle := hle.trans e
 refine Oa rfl (Aa (Ad (.tmp rfl .nil) ?_))
 exact ⟨_, _, hle, fun w h => Mem.sub (L' := rd b oa l c _ :: L) (by repeat (first | exact List.Sublist.refl _ | apply List.Sublist.cons_cons | apply List.Sublist.cons)) h, _, _, rfl, (by first | omega | (simp only [List.length_append, List.length_cons, List.length_nil]; omega) | (simp; omega)), by omega, by omega, rfl⟩
theorem Ua : ∀ d, d ≤ 4 → Tx d
 | 0, _ => X4
 | d + 1, h => X3 (Ua d (by omega)) (by omega) (by
   have : ∀ d, d ≤ 4 → eT d ≤ 1000000000 := by decide
   exact this _ h)
theorem Lr {d : Nat} (hd : d ≤ 4) {I : Heap} {oa : Option Addr} {l : List UInt8} {c : Nat} (h : Bytes I oa l c) (hl : l.length ≤ 2000) (b p : Nat) (hp : p + 3000 ≤ 1099511627776) {ns ts : List Au} {o1 o2 : Option Addr} {c1 c2 : Nat} (hs : ScAt I ns ts o1 c1 o2 c2) (hn : ns.length ≤ 80) (want : Au) (hw : want.length ≤ 900) (L : Bl) :
  Fun Tryz.prog 119 [.pointer (some ⟨b, 0, none⟩), .agg [.slice o1 ns.length c1, .slice o2 ts.length c2].toArray, .string (str want), .int .i64 (d : Nat)] I (rd b oa l c p :: L) (DT b oa l c p 3000 400000 L) := by
 have hk : ∀ d, d ≤ 4 → kE d ≤ 3000 ∧ eT d ≤ 400000 := by decide
 obtain ⟨h1, h2⟩ := hk d hd; refine (Ua d hd h hl b p (by omega) hs (by omega) want (by omega) L).mono ?_; rintro v I' L' _ ⟨s, p', rfl, h3, h4, h5, rfl⟩
 exact ⟨s, p', rfl, by omega, h4, by omega, rfl⟩
mutual
def Tree.atomL : Tree → List Au
 | .node a [] => [a]
 | .node _ (p :: ps) => p.atomL ++ Gt ps
def Gt : List Tree → List Au
 | [] => []
 | t :: ts => t.atomL ++ Gt ts
end
mutual
def Tree.repl : Tree → Au → Tree → Tree
 | .node x [], a, b => if x = a then b else .node x []
 | .node x (p :: ps), a, b => .node x (p.repl a b :: H8 ps a b)
def H8 : List Tree → Au → Tree → List Tree
 | [], _, _ => []
 | t :: ts, a, b => t.repl a b :: H8 ts a b
end
theorem Xy (t : Tree) (h : t.parts ≠ []) : t.atomL = Gt t.parts := by
 cases t with
 | node a ps => cases ps with
  | nil => exact absurd rfl h
  | cons p ps => rfl
theorem V2 (t : Tree) (h : t.parts = []) : t.atomL = [t.atom] := by
 cases t with
 | node a ps => simp [Tree.parts] at h; subst h; rfl
theorem L1 : ∀ (a b : List Tree), Gt (a ++ b) = Gt a ++ Gt b
 | [], b => rfl
 | t :: a, b => by simp only [List.cons_append, Gt, L1 a b, List.append_assoc]
theorem T1 (ps : List Tree) (i : Nat) (hi : i < ps.length) : Gt (ps.take (i + 1)) = Gt (ps.take i) ++ ps[i].atomL := by
 rw [List.take_succ_eq_append_getElem hi, L1]; simp [Gt]
mutual
theorem Tree.atomL_len : ∀ t : Tree, t.atomL.length = t.size
 | .node a [] => rfl
 | .node a (p :: ps) => by
  have h1 := p.atomL_len; have h2 := Mb ps
  simp only [Tree.atomL, List.length_append, h1, h2, Tree.size, Ef, List.isEmpty_cons, cond_false]
theorem Mb : ∀ ts : List Tree, (Gt ts).length = Ef ts
 | [] => rfl
 | t :: ts => by have h1 := t.atomL_len; have h2 := Mb ts; simp only [Gt, List.length_append, h1, h2, Ef]
end
theorem Abg (t : Tree) (a : Au) (b : Tree) (h : t.parts ≠ []) : t.repl a b = .node t.atom (H8 t.parts a b) := by
 cases t with
 | node x ps => cases ps with
  | nil => exact absurd rfl h
  | cons p ps => rfl
theorem Rx (t : Tree) (a : Au) (b : Tree) (h : t.parts = []) : t.repl a b = if t.atom = a then b else t := by
 cases t with
 | node x ps => simp [Tree.parts] at h; subst h; rfl
theorem M4 : ∀ (p q : List Tree) (a : Au) (b : Tree), H8 (p ++ q) a b = H8 p a b ++ H8 q a b
 | [], q, a, b => rfl
 | t :: p, q, a, b => by simp only [List.cons_append, H8, M4 p q]
theorem Ko : ∀ (ps : List Tree) (a : Au) (b : Tree), (H8 ps a b).length = ps.length
 | [], _, _ => rfl
 | t :: ps, a, b => by simp only [H8, List.length_cons, Ko ps]
theorem Ww (ps : List Tree) (a : Au) (b : Tree) (i : Nat) (hi : i < ps.length) : H8 (ps.take (i + 1)) a b = H8 (ps.take i) a b ++ [ps[i].repl a b] := by
 rw [List.take_succ_eq_append_getElem hi, M4]; rfl
mutual
theorem Tree.repl_good : ∀ {t : Tree} {a : Au} {b : Tree}, t.good = true → b.good = true → (t.repl a b).good = true
 | .node x [], a, b, h, hb => by simp only [Tree.repl]; split; exact hb; exact h
 | .node x (p :: ps), a, b, h, hb => by
  obtain ⟨h1, h2, h3⟩ := Ht h; subst h1
  simp [Tree.repl, Tree.good, Fd, Tree.repl_good h2 hb, Qi h3 hb]
theorem Qi : ∀ {ps : List Tree} {a : Au} {b : Tree}, Fd ps = true → b.good = true → Fd (H8 ps a b) = true
 | [], a, b, h, hb => rfl
 | t :: ps, a, b, h, hb => by
  simp [Fd] at h
  simp [H8, Fd, Tree.repl_good h.1 hb, Qi h.2 hb]
end
mutual
theorem Tree.repl_len : ∀ (t : Tree) (a : Au) (b : Tree), (t.repl a b).len ≤ t.len + t.size * b.len
 | .node x [], a, b => by simp only [Tree.repl, Tree.size, List.isEmpty_nil, cond_true, Nat.one_mul]; split <;> omega
 | .node x (p :: ps), a, b => by
  have h1 := p.repl_len a b; have h2 := Rw ps a b
  simp only [Tree.repl, Tree.len, Tree.size, F1, Ef, List.isEmpty_cons, cond_false, Nat.add_mul]; omega
theorem Rw : ∀ (ps : List Tree) (a : Au) (b : Tree), F1 (H8 ps a b) ≤ F1 ps + Ef ps * b.len
 | [], a, b => by simp [H8, F1, Ef]
 | t :: ps, a, b => by
  have h1 := t.repl_len a b; have h2 := Rw ps a b
  simp only [H8, F1, Ef, Nat.add_mul]; omega
end
theorem Xx {l : List Au} (h : l ≠ []) : Do [] l ≠ [] := fun e => h (Pk.1 e)
theorem Tree.size_one : ∀ t : Tree, 1 ≤ t.size
 | .node a [] => Nat.le_refl _
 | .node a (p :: ps) => by
  have := Tree.size_one p
  simp only [Tree.size, Ef, List.isEmpty_cons, cond_false]; omega
theorem Zt (t : Tree) : t.atomL ≠ [] := by
 have h1 := t.atomL_len
 have h2 := t.size_one
 intro e; rw [e] at h1; simp at h1; omega
mutual
theorem Tree.atom_len : ∀ (t : Tree) (x : Au), x ∈ t.atomL → x.length ≤ t.len
 | .node a [], x, h => by
  simp only [Tree.atomL, List.mem_singleton] at h
  subst h; simp [Tree.len]
 | .node a (p :: ps), x, h => by
  simp only [Tree.atomL, List.mem_append] at h
  simp only [Tree.len, F1, List.isEmpty_cons, cond_false]
  rcases h with h | h
  ·have := p.atom_len x h; omega
  ·have := K5 ps x h; omega
theorem K5 : ∀ (ts : List Tree) (x : Au), x ∈ Gt ts → x.length ≤ F1 ts
 | [], x, h => by cases h
 | t :: ts, x, h => by
  simp only [Gt, List.mem_append] at h
  simp only [F1]
  rcases h with h | h
  ·have := t.atom_len x h; omega
  ·have := K5 ts x h; omega
end
theorem Xz {t : Tree} (h : t.len ≤ 12000000) : ∀ s ∈ Do [] t.atomL, s.length ≤ As := by
 intro s hs
 rcases Ke.1 hs with h1 | h1
 ·cases h1
 ·have := t.atom_len s h1; unfold As; omega
def H4 (s : Au) : Option (List Au) := (C0 s).map fun t => Do [] t.atomL
def If (s a b : Au) : Option Au := match C0 s, C0 a, C0 b with
 | some t, some x, some y => if x.atom ≠ [] ∧ (C0 (t.repl a y).text).isSome = true then some (t.repl a y).text else none
 | _, _, _ => none
theorem Uo (s : Au) (hs : s.length ≤ Ka) (I : Heap) (L : Bl) : Fun Tryz.prog 136 [.string (str s)] I L (fun v I' L' => v = .bool (C0 s).isSome ∧ L = L') := by
 refine Ai (by simp) ?_; refine Se rfl (Oa rfl (Aa (Se rfl (Om rfl ?_)))); refine Ca rfl (G1 s hs _ _) ?_; rintro _ J _ e1 ⟨t, cs, ok, rfl, hrep, rfl, hpf⟩; obtain ⟨o1, k1, _, rfl, -⟩ := hrep.open; refine Om rfl (Oe rfl rfl (Oe rfl rfl ?_)); refine Ax .free rfl ?_; intro b3; refine Bk rfl rfl rfl rfl .free ?_; refine Oa rfl (Aa (Se rfl (Om rfl (Oa rfl (Aa (Ad (.tmp rfl .nil) ?_)))))); refine ⟨J, L, e1, Ay, ?_, rfl⟩
 cases hp : C0 s with
 | none => rw [hp] at hpf; rw [hpf]; rfl
 | some t0 => rw [hp] at hpf; rw [hpf.1]; rfl
structure GA where
 i : Nat
 l : List Au
 B : Kd
 c : Nat
theorem Yf : ∀ (n : Nat) {I : Heap} {t : Tree} {cs : List Value} (_ : SizeOf.sizeOf t < n) (_ : Rep I t cs) (_ : t.good = true) (l : List Au) (B : Kd) (c : Nat) (_ : l.length + t.size ≤ 4294967295) (_ : Em 1 l.length c (l.map sv) B) (L : Bl),
  Fun Tryz.prog 124 [.agg cs.toArray, Cb l.length c B] I (Ch 9 (l.map sv) B ++ L) (fun v I' L' => I = I' ∧ LP (Do l t.atomL) L v I' L') := by
 intro n
 induction n with
 | zero => intro I t cs h; omega
 | succ n ihn =>
  intro I t cs hlt h hg l B c hl hB L; obtain ⟨oa, cc, oaf, cf, rfl, hf⟩ := h.at'
  have ha := hf.alen
  have hnil := hf.nil
  have hp := hf.len
  unfold As at hp
  have hs1 := t.size_one
  have hlN : l.length ≤ As := by unfold As; omega
  refine Ai (by simp) ?_; refine Se rfl ?_; refine Cd rfl rfl .free rfl ?_; intro b2; refine Oa rfl (Aa (Ab (Se rfl (Oh rfl ?_)))); refine A6 rfl .free rfl ?_; refine Od rfl rfl rfl (Aa ?_); refine Ar rfl ?_ ?_
  ·intro c0
   try simp only [nb] at c0
   have hat := V2 t (Jx hg c0)
   refine Ab (Se rfl (Om rfl (Oh rfl ?_))); refine A6 rfl .free rfl ?_; refine Ca rfl (Xn hB hlN _ _ _ _) ?_; rintro _ _ _ _ ⟨rfl, rfl, rfl⟩; refine Aa ?_; refine Ar rfl ?_ ?_
   ·intro c1
    try simp only [nb] at c1
    refine Se rfl (Om rfl (Oa rfl (Aa (Ad (.tmp rfl .nil) ?_))))
    have hoc : Do l t.atomL = l := by rw [hat]; exact Q6 c1
    exact ⟨I, _, .refl _, fun w h => h.drop, rfl, B, c, by rw [hoc]; rfl, by rw [hoc]; exact hB, by rw [hoc]⟩
   intro c1
   try simp only [nb] at c1
   refine Af (Se rfl (Om rfl (Oh rfl ?_))); refine A6 rfl .free rfl ?_; refine Ol rfl rfl ?_; intro b17; refine C2 (B := B) (xs := l.map sv) (ys := [sv t.atom]) (m := l.length) (c := c) (by intro kk; simp) (by rfl) rfl rfl hB (fun _ h => h.u2) (by rfl) (fun a ha => by cases ha; exact Br (.head _) (by rfl)) (by simp) (by rfl) (by decide) (by decide) (by omega) (by decide) .free rfl ?_; intro bb sp c2 hB'; refine Oa rfl (Aa (Ad (.tmp rfl .nil) ?_))
   have hoc : Do l t.atomL = l ++ [t.atom] := by rw [hat]; exact Pl c1
   exact ⟨I, _, .refl _, Ms (L' := (bb, _) :: L), rfl, some (bb, sp), c2, by rw [hoc]; simp [Cw, Cb], by rw [hoc]; simpa using hB', by rw [hoc]; simp [Ch]⟩
  intro c0
  try simp only [nb] at c0
  have hne := Je hg (by simpa using c0)
  have hat := Xy t hne.1
  have hsz : t.size = Ef t.parts := by
   cases t with
   | node a ps => cases ps with
    | nil => exact absurd rfl hne.1
    | cons p ps => rfl
  refine Af (Ab (Se rfl (Oa rfl (Aa (Aj ?_))))); refine Dy (X := GA) (fun x => t.parts.length - x.i) (fun x => [(1, Cb x.l.length x.c x.B), (2, .pointer (some ⟨b2, 0, none⟩)), (4, .slice none 0 0), (5, .int .i64 (x.i : Nat))]) (fun _ => I) (fun x => (b2, .cells [.string (str t.atom), .slice oa t.parts.length cc].toArray 68 (0, 0)) :: (Ch 9 (x.l.map sv) x.B ++ L)) (fun x => x.i ≤ t.parts.length ∧ x.l = Do l (Gt (t.parts.take x.i)) ∧ Em 1 x.l.length x.c (x.l.map sv) x.B) ⟨0, l, B, c⟩ ⟨Nat.zero_le _, rfl, hB⟩ ⟨rfl, rfl, rfl, rfl, trivial⟩ (by intro _ h; exact h) ?_
  rintro ⟨i, l1, B1, c1⟩ ⟨hi, hl1, hB1⟩ ih
  simp only at hi hl1 hB1 ih ⊢
  have hll := G0 l (Gt (t.parts.take i))
  rw [← hl1, Mb] at hll; refine Ab (Se rfl (Om rfl (Oh rfl ?_))); refine A6 rfl .free rfl ?_; refine On rfl (Oc rfl rfl rfl (Aa ?_)); refine Ar rfl ?_ ?_
  ·intro c2
   try simp only [nb] at c2
   have hi1 : i < t.parts.length := by omega
   have hsl : Ef (t.parts.take i) + (t.pt i).size ≤ Ef t.parts := by
    rw [Tree.pt_at hi1]
    have h1 := Ir (t.parts.take i) (t.parts.drop i)
    rw [List.take_append_drop, List.drop_eq_getElem_cons hi1] at h1
    simp only [Ef] at h1; omega
   have hpg := Tree.pt_good hg i hi1
   refine Af (Ab (Aj (Ah rfl (Oh rfl ?_)))); refine A6 rfl .free rfl ?_; refine Om rfl ?_
   first | refine A3 rfl rfl _ rfl .free rfl ?_ | refine A4 rfl rfl _ rfl .free rfl ?_
   refine Du rfl .free rfl ?_; refine Om rfl ?_; refine Dv (fun w h => h.u1) ?_; refine Ca rfl (ihn (t := t.pt i) (by have := t.pt_lt i hi1; omega) (hf.rp i hi1) hpg l1 B1 c1 (by omega) hB1 _) ?_; rintro _ _ _ _ ⟨rfl, B2, c2, rfl, hB2, rfl⟩; refine Dv (fun w h => h.w1) ?_; refine Oa rfl (Aa (Al (Ah rfl (Om rfl ?_)))); refine Or rfl rfl rfl ?_; refine Oa rfl (Aa ?_)
   exact Bo (E' := [(1, Cb (Do l1 (t.pt i).atomL).length c2 B2), (2, .pointer (some ⟨b2, 0, none⟩)), (4, .slice none 0 0), (5, .int .i64 ((i + 1 : Nat)))]) ⟨rfl, rfl, rfl, rfl, trivial⟩ (ih ⟨i + 1, Do l1 (t.pt i).atomL, B2, c2⟩ ⟨by simp only; omega, by simp only; rw [hl1, ← Cv, T1 _ _ hi1, Tree.pt_at hi1], hB2⟩ (by simp only; omega))
  intro c2
  try simp only [nb] at c2
  refine Bw rfl ?_; refine Se rfl (Om rfl (Oa rfl (Aa (Ad (.tmp rfl .nil) ?_))))
  have hl2 : l1 = Do l t.atomL := by
   rw [hl1, hat, show i = t.parts.length by omega, List.take_length]
  subst hl2
  exact ⟨I, _, .refl _, fun w h => h.drop, rfl, B1, c1, rfl, hB1, rfl⟩
theorem Un (s : Au) (hs : s.length ≤ Ka) (I : Heap) (L : Bl) : Fun Tryz.prog 78 [.string (str s)] I L (EF (H4 s) L) := by
 refine Ai (by simp) ?_; refine Se rfl (Oa rfl (Oa rfl (Aa (Se rfl (Om rfl ?_))))); refine Ca rfl (G1 s hs _ _) ?_; rintro _ J _ e1 ⟨t, cs, ok, rfl, hrep, rfl, hpf⟩; obtain ⟨o1, k1, _, rfl, -⟩ := hrep.open; refine Om rfl (Oe rfl rfl (Oe rfl rfl ?_)); refine Ax .free rfl ?_; intro b4; refine Bk rfl rfl rfl rfl .free ?_; refine Oa rfl (Aa (Ab (Se rfl (Om rfl ?_)))); refine Ck rfl .free rfl ?_; refine Aa ?_; refine Ar rfl ?_ ?_
 ·intro c0
  try simp only [nb] at c0
  refine Se rfl ?_; refine Dp .free rfl ?_; intro b13; refine Oa rfl (Oa rfl (Aa ?_)); refine Ad (.tmp rfl (.tmp rfl .nil)) ?_; refine ⟨J, L, e1, Ay, some ⟨b13, 0, none⟩, 0, ?_, ?_, rfl⟩
  ·have : H4 s = none := by
    unfold H4
    cases hp : C0 s with
    | none => rfl
    | some t0 => rw [hp] at hpf; rw [hpf.1] at c0; cases c0
   rw [this]; rfl
  ·have : H4 s = none := by
    unfold H4
    cases hp : C0 s with
    | none => rfl
    | some t0 => rw [hp] at hpf; rw [hpf.1] at c0; cases c0
   rw [this]; exact H1 _ _
 intro c0
 try simp only [nb] at c0
 have hps := He hpf c0
 have hpg := Fl hps
 have hpz := Kn hps
 have hat : H4 s = some (Do [] t.atomL) := by unfold H4; rw [hps]; rfl
 refine Af (Se rfl ?_); refine Az rfl .free rfl ?_; refine Dp .free rfl ?_; intro b15; refine Dv (L' := Ch 9 (([] : List Au).map sv) (some (b15, [])) ++ _) (fun w h => h) ?_; refine Ca rfl (Yf _ (Nat.lt_succ_self _) hrep hpg.1 [] (some (b15, [])) 0 (by simp; omega) ⟨rfl, Nat.le_refl _, rfl⟩ _) ?_; rintro _ _ _ _ ⟨rfl, B2, c2, rfl, hB2, rfl⟩; refine Oa rfl (Oa rfl (Aa ?_))
 have hll := G0 [] t.atomL
 rw [Tree.atomL_len] at hll
 simp only [List.length_nil, Nat.zero_add] at hll
 refine Gq hB2 rfl (by unfold As; omega) (Xz hpg.2.1) ?_; intro J2 oz cz ez hbv hst; refine Kc (t := 2) rfl hbv ?_; refine Ad (.tmp rfl (.tmp rfl .nil)) ?_
 exact ⟨J2, L, e1.trans ez, Ay, oz, cz, by rw [hat]; rfl, by rw [hat]; exact hst, rfl⟩
structure GP where
 J : Heap
 i : Nat
 xs : List Value
 B : Kd
 c : Nat
theorem Uq : ∀ (n : Nat) {I : Heap} {t : Tree} {cs : List Value} (_ : SizeOf.sizeOf t < n) (_ : Rep I t cs) (_ : t.good = true) (a : Au) (_ : a ≠ []) {y : Tree} {ds : List Value} (_ : Rep I y ds) (L : Bl),
  Fun Tryz.prog 135 [.agg cs.toArray, .string (str a), .agg ds.toArray] I L (RP (t.repl a y) L) := by
 intro n
 induction n with
 | zero => intro I t cs h; omega
 | succ n ihn =>
  intro I t cs hlt h hg a ha0 y ds hy L; obtain ⟨oa, cc, oaf, cf, rfl, hf⟩ := h.at'; obtain ⟨oy, ky, _, rfl, -⟩ := hy.open
  have hp := hf.len
  unfold As at hp
  have hnil := hf.nil
  refine Ai (by simp) ?_; refine Se rfl ?_; refine Cd rfl rfl .free rfl ?_; intro b3; refine Cd rfl rfl .free rfl ?_; intro b5; refine Ax .free rfl ?_; intro b6; refine Aa (Ab (Se rfl (Oh rfl ?_))); refine A6 rfl .free rfl ?_; refine Om rfl (Od rfl rfl rfl (Om rfl ?_))
  apply Ee 13 16 rfl
  ·intro g1_5 hk
   try simp only [nb] at g1_5
   refine Ow rfl ?_; refine Hw rfl rfl rfl (.met rfl rfl) rfl ?_; refine Ot rfl rfl ?_
   exact Bb 2 rfl rfl hk
  ·intro _ hk; refine Bm 2 rfl ?_; refine Of rfl rfl ?_
   exact Bb 2 rfl rfl hk
  refine Aa ?_; refine Ar rfl ?_ ?_
  ·intro c0
   try simp only [nb] at c0
   refine Se rfl ?_; refine Az rfl .free rfl ?_; refine Bk rfl rfl rfl rfl .free ?_; refine Aa ?_; refine Ad (.c rfl .nil) ?_
   have e : t.repl a y = y := by rw [Rx t a y (Jx hg (by rw [c0.1]; exact ha0)), if_pos c0.1]
   exact ⟨I, L, .refl _, Ay, _, rfl, by rw [e]; exact hy, rfl⟩
  intro c0
  try simp only [nb] at c0
  refine Af (Ab (Se rfl (Oh rfl ?_))); refine A6 rfl .free rfl ?_; refine Od rfl rfl rfl (Aa ?_); refine Ar rfl ?_ ?_
  ·intro c1
   try simp only [nb] at c1
   refine Se rfl ?_; refine Az rfl .free rfl ?_; refine Bk rfl rfl rfl rfl .free ?_; refine Aa ?_; refine Ad (.c rfl .nil) ?_
   have e : t.repl a y = t := by rw [Rx t a y (Jx hg c1), if_neg (fun e => by rcases c0 with h | h; exact h e; exact ha0 h)]
   exact ⟨I, L, .refl _, Ay, _, rfl, by rw [e]; exact hf.rep, rfl⟩
  intro c1
  try simp only [nb] at c1
  have hat : t.atom = [] := by simpa using c1
  have hne := Je hg hat
  have hre := Abg t a y hne.1
  refine Af (Se rfl ?_); refine Bn rfl rfl rfl .free rfl ?_; refine Ax .free rfl ?_; intro b7; refine Bk rfl rfl rfl rfl .free ?_; refine Aa (Ab (Se rfl (Oa rfl (Aa (Aj ?_)))))
  refine Dy (X := GP) (fun x => t.parts.length - x.i) (fun x => [(1, .string (str a)), (3, .pointer (some ⟨b3, 0, none⟩)), (5, .pointer (some ⟨b5, 0, none⟩)), (6, .pointer (some ⟨b6, 0, none⟩)), (7, .pointer (some ⟨b7, 0, none⟩)), (8, .int .i64 (x.i : Nat))]) (fun x => x.J) (fun x => (b7, .cells [.string (str []), Cb x.i x.c x.B].toArray 68 (0, 0)) :: (Ch 68 x.xs x.B ++ ((b6, .cells [.string (str []), .slice none 0 0].toArray 68 (0, 0)) :: (b5, .cells [.string (str y.atom), .slice oy y.parts.length ky].toArray 68 (0, 0)) :: (b3, .cells [.string (str t.atom), .slice oa t.parts.length cc].toArray 68 (0, 0)) :: L))) (fun x => HLe I x.J ∧ x.i ≤ t.parts.length ∧ RepL x.J (H8 (t.parts.take x.i) a y) x.xs ∧ Em 2 x.i x.c x.xs x.B) ⟨I, 0, [], none, 0⟩ ⟨.refl _, Nat.zero_le _, .nil, ⟨rfl, rfl, rfl⟩⟩ ⟨rfl, rfl, rfl, rfl, rfl, rfl, trivial⟩ (by intro _ h; exact h) ?_
  rintro ⟨J, i, xs, B, cb⟩ ⟨ez, hi, hl, hB⟩ ih
  simp only at ez hi hl hB ih ⊢
  have hf := hf.mono ez
  have hy := hy.mono ez
  refine Ab (Se rfl (Om rfl (Oh rfl ?_))); refine A6 rfl .free rfl ?_; refine On rfl (Oc rfl rfl rfl (Aa ?_)); refine Ar rfl ?_ ?_
  ·intro c2
   try simp only [nb] at c2
   have hi1 : i < t.parts.length := by omega
   have hpg := Tree.pt_good hg i hi1
   have hlt1 := t.pt_lt i hi1
   refine Af (Ab (Aj ?_)); refine Sn 14 rfl rfl ?_; refine Da 0 rfl (Ag rfl) ?_; refine Dt 1 [13] rfl (Bd rfl) ?_; refine Da 2 rfl (Ag rfl) ?_; refine Dt 3 [13] rfl (Bd rfl) ?_; refine Da 4 rfl (Ae rfl) ?_
   first | refine Da 5 rfl (A1 rfl rfl _ rfl) ?_ | refine Da 5 rfl (A2 rfl rfl _ rfl) ?_
   refine Dt 6 [13] rfl (A8 rfl) ?_; refine Da 7 rfl (Ae rfl) ?_; refine Dt 8 [13] rfl (Bx rfl) ?_; refine Dc 9 rfl rfl (ihn (t := t.pt i) (by omega) (hf.rp i hi1) hpg a ha0 hy _) ?_; rintro _ J1 _ e1 ⟨cs1, rfl, h1, rfl⟩; obtain ⟨o1, k1, _, rfl, -⟩ := h1.open; refine Hx ?_; refine Fj 10 rfl (by kernel_rfl) rfl rfl rfl (by rfl) (by rfl) (by rfl) (by decide) (by decide) (by rfl) .free rfl (.inr Am) ?_; intro b40
   refine Cf 11 (B := B) (xs := xs) (ys := [.string (str ((t.pt i).repl a y).atom), .slice o1 ((t.pt i).repl a y).parts.length k1]) (m := i) (c := cb) rfl (by kernel_rfl) rfl (by intro kk; simp) (by rfl) rfl rfl hB (fun _ h => h.u2) (by rfl) (fun a ha => by cases ha; exact Br (by repeat first | exact .head _ | apply List.Mem.tail | apply List.mem_append_right) (by rfl)) (by simp) (by rfl) (by decide) (by omega) (by decide) .free rfl (fun _ => .inr Am) ?_; intro B2 c2 hB2; refine Et (fun w h => Mem.w1 (Mem.sub (List.Sublist.append_left (.cons _ (.refl _)) _) h)) ?_; refine Da 12 rfl (Ag rfl) ?_
   refine Aek 13 rfl (by kernel_rfl) rfl rfl rfl Nc rfl .free (.inl (by kernel_rfl)) ?_; refine Ao (by kernel_rfl) ?_; refine Al (Ah rfl (Om rfl ?_)); refine Or rfl rfl rfl ?_; refine Oa rfl (Aa ?_)
   refine Bo (E' := [(1, .string (str a)), (3, .pointer (some ⟨b3, 0, none⟩)), (5, .pointer (some ⟨b5, 0, none⟩)), (6, .pointer (some ⟨b6, 0, none⟩)), (7, .pointer (some ⟨b7, 0, none⟩)), (8, .int .i64 ((i + 1 : Nat)))]) ⟨rfl, rfl, rfl, rfl, rfl, rfl, trivial⟩ (ih ⟨J1, i + 1, xs ++ [.string (str ((t.pt i).repl a y).atom), .slice o1 ((t.pt i).repl a y).parts.length k1], B2, c2⟩ ⟨ez.trans e1, by simp only; omega, ?_, hB2⟩ (by simp only; omega)); rw [Ww _ _ _ _ hi1, ← Tree.pt_at hi1]
   exact (hl.mono e1).append (.one h1)
  intro c2
  try simp only [nb] at c2
  refine Bw rfl ?_; refine Ab ?_
  have hie : i = t.parts.length := by omega
  rw [hie, List.take_length] at hl; refine Bg (fun w h => h.u1) (Qz hl hB (by rw [Ko, hie]) (by rw [Ko]; unfold As; omega) ?_); intro J2 oz cz ez2 hbv hst; rw [hbv]; refine Ah rfl ?_; refine Az rfl .free rfl ?_; refine Bk rfl rfl rfl rfl .free ?_; refine Aa ?_; refine Ad (.c rfl .nil) ?_
  exact ⟨J2, L, ez.trans ez2, Ay, _, rfl, by rw [hre, hat]; exact hst.form [] (by decide), rfl⟩
theorem O3 {s a b : Au} {t x y : Tree} (h1 : C0 s = some t) (h2 : C0 a = some x) (h3 : C0 b = some y) : If s a b = if x.atom ≠ [] ∧ (C0 (t.repl a y).text).isSome = true then some (t.repl a y).text else none := by
 unfold If; rw [h1, h2, h3]
theorem Hc {s a b : Au} (h : C0 s = none ∨ C0 a = none ∨ C0 b = none) : If s a b = none := by
 unfold If
 rcases h with h | h | h
 ·rw [h]
 ·rw [h]; cases C0 s <;> rfl
 ·rw [h]; cases C0 s <;> cases C0 a <;> rfl
theorem V0 {p : Option Tree} {t : Tree} {ok : Bool} (hpf : match p with | some t0 => ok = true ∧ t = t0 | none => ok = false) : (ok = false → p = none) ∧ (ok = true → p = some t) := by
 cases p with
 | none => exact ⟨fun _ => rfl, fun h => (by rw [hpf] at h; cases h)⟩
 | some t0 => exact ⟨fun h => (by rw [hpf.1] at h; cases h), fun _ => (by rw [hpf.2])⟩
theorem N0 {s : Au} {t : Tree} (h : C0 s = some t) : s.length ≤ 12000 ∧ t.len ≤ 12000 := by
 have h1 := (G5 h).1
 simp only [Tree.fits, Bool.and_eq_true, decide_eq_true_eq] at h1
 exact ⟨by rw [← I7 h, Tree.text_len]; exact h1.2, h1.2⟩
theorem Vf {s a b o : Au} (h : If s a b = some o) : o.length ≤ 12000 := by
 unfold If at h
 cases h1 : C0 s with
 | none => rw [h1] at h; cases h
 | some t =>
  cases h2 : C0 a with
  | none => rw [h1, h2] at h; cases h
  | some x =>
   cases h3 : C0 b with
   | none => rw [h1, h2, h3] at h; cases h
   | some y =>
    rw [h1, h2, h3] at h
    simp only at h
    split at h
    ·rename_i hh
     cases h
     obtain ⟨z, hz⟩ := Option.isSome_iff_exists.1 hh.2
     exact (N0 hz).1
    ·cases h
theorem L7 (s a b : Au) (hs : s.length ≤ Ka) (ha : a.length ≤ Ka) (hb : b.length ≤ 900) (I : Heap) (L : Bl) : Fun Tryz.prog 79 [.string (str s), .string (str a), .string (str b)] I L (EL (If s a b) L) := by
 refine Ai (by simp) ?_; refine Se rfl (Oa rfl (Oa rfl (Aa (Se rfl (Om rfl ?_))))); refine Ca rfl (G1 s hs _ _) ?_; rintro _ J1 _ e1 ⟨t, cs1, ok1, rfl, hr1, rfl, hp1⟩; obtain ⟨o1, k1, _, rfl, -⟩ := hr1.open; refine Om rfl (Oe rfl rfl (Oe rfl rfl ?_)); refine Ax .free rfl ?_; intro b8; refine Bk rfl rfl rfl rfl .free ?_; refine Oa rfl (Aa (Se rfl (Om rfl ?_))); refine Ca rfl (G1 a ha _ _) ?_; rintro _ J2 _ e2 ⟨x, cs2, ok2, rfl, hr2, rfl, hp2⟩; obtain ⟨o2, k2, _, rfl, -⟩ := hr2.open; refine Om rfl (Oe rfl rfl (Oe rfl rfl ?_)); refine Ax .free rfl ?_; intro b10; refine Bk rfl rfl rfl rfl .free ?_
 refine Oa rfl (Aa (Se rfl (Om rfl ?_))); refine Ca rfl (G1 b (by unfold Ka; omega) _ _) ?_; rintro _ J3 _ e3 ⟨y, cs3, ok3, rfl, hr3, rfl, hp3⟩; obtain ⟨o3, k3, _, rfl, -⟩ := hr3.open
 have q1 := V0 hp1
 have q2 := V0 hp2
 have q3 := V0 hp3
 have hle := (e1.trans e2).trans e3
 refine Om rfl (Oe rfl rfl (Oe rfl rfl ?_)); refine Ax .free rfl ?_; intro b12; refine Bk rfl rfl rfl rfl .free ?_; refine Oa rfl (Aa (Ab (Se rfl (Om rfl ?_)))); refine Ck rfl .free rfl ?_; refine Om rfl ?_
 apply G4 32 35 rfl
 ·intro g4_3 hk
  try simp only [nb] at g4_3
  refine Ow rfl ?_; refine Ck rfl (.met rfl rfl) rfl ?_; refine Of rfl rfl ?_
  exact Bb 2 rfl rfl hk
 ·intro _ hk; refine Bm 2 rfl ?_; refine Ot rfl rfl ?_
  exact Bb 2 rfl rfl hk
 refine Om rfl ?_
 apply G4 36 39 rfl
 ·intro g4_7 hk
  try simp only [nb] at g4_7
  refine Ow rfl ?_; refine Ck rfl (.met rfl rfl) rfl ?_; refine Of rfl rfl ?_
  exact Bb 2 rfl rfl hk
 ·intro _ hk; refine Bm 2 rfl ?_; refine Ot rfl rfl ?_
  exact Bb 2 rfl rfl hk
 refine Om rfl ?_
 apply G4 40 44 rfl
 ·intro g4_11 hk
  try simp only [nb] at g4_11
  refine Bz rfl (.met rfl rfl) rfl ?_; refine A6 rfl (.met rfl rfl) rfl ?_; refine Hw rfl rfl rfl (.met rfl rfl) rfl ?_; refine Of rfl rfl ?_
  exact Bb 3 rfl rfl hk
 ·intro _ hk; refine Bm 3 rfl ?_; refine Ot rfl rfl ?_
  exact Bb 3 rfl rfl hk
 refine Aa ?_; refine Ar rfl ?_ ?_
 ·intro c0
  try simp only [nb] at c0
  refine Se rfl (Oa rfl (Oa rfl (Aa ?_))); refine Ad (.tmp rfl (.tmp rfl .nil)) ?_; refine ⟨J3, L, hle, Ay, ?_, rfl⟩
  have hz : If s a b = none := by
   rcases c0 with ((h | h) | h) | h
   ·exact Hc (.inl (q1.1 h))
   ·exact Hc (.inr (.inl (q2.1 h)))
   ·exact Hc (.inr (.inr (q3.1 h)))
   ·cases hh1 : C0 s with
    | none => exact Hc (.inl hh1)
    | some t1 =>
     cases hh2 : C0 a with
     | none => exact Hc (.inr (.inl hh2))
     | some x1 =>
      cases hh3 : C0 b with
      | none => exact Hc (.inr (.inr hh3))
      | some y1 =>
       rw [hh2] at hp2; rw [O3 hh1 hh2 hh3, if_neg (by rw [← hp2.2]; exact fun e => e.1 h)]
  rw [hz]; rfl
 intro c0
 try simp only [nb] at c0
 obtain ⟨⟨⟨h1, h2⟩, h3⟩, h4⟩ := c0
 have p1 := q1.2 h1
 have p2 := q2.2 h2
 have p3 := q3.2 h3
 have f1 := G5 p1
 have f2 := G5 p2
 have f3 := G5 p3
 have l1 := (N0 p1).2
 have l3 : y.len ≤ 900 := by rw [← Tree.text_len, I7 p3]; exact hb
 have z1 := Kn p1
 have hrl := t.repl_len a y
 have hmul : t.size * y.len ≤ 12000 * 900 := Nat.mul_le_mul z1 l3
 have hrg := Tree.repl_good (a := a) f1.2.1 f3.2.1
 have ha0 : a ≠ [] := by
  intro e
  have h5 := I7 p2
  have h6 := Jx f2.2.1 h4
  cases x with
  | node n ps =>
   simp only [Tree.parts] at h6
   subst h6
   simp only [Tree.text, List.isEmpty_nil, cond_true] at h5
   exact h4 (h5.trans e)
 have hro := O3 p1 p2 p3
 refine Af (Se rfl ?_); refine Az rfl .free rfl ?_; refine Om rfl ?_; refine Az rfl .free rfl ?_; refine Ca rfl (Uq _ (Nat.lt_succ_self _) ((hr1.mono e2).mono e3) f1.2.1 a ha0 hr3 _) ?_; rintro _ J4 _ e4 ⟨cs4, rfl, hr4, rfl⟩; refine Ca rfl (La _ (Nat.lt_succ_self _) hr4 hrg (by omega) _) ?_; rintro _ _ _ _ ⟨rfl, rfl, rfl⟩; refine Oa rfl (Aa (Ab (Se rfl (Om rfl ?_)))); refine Ca rfl (Uo _ (by rw [Tree.text_len]; unfold Ka; omega) _ _) ?_; rintro _ J5 _ e5 ⟨rfl, rfl⟩
 have hle := (hle.trans e4).trans e5
 refine Ck rfl .free rfl ?_; refine Aa ?_; refine Ar rfl ?_ ?_
 ·intro c1
  try simp only [nb] at c1
  refine Se rfl (Oa rfl (Oa rfl (Aa ?_))); refine Ad (.tmp rfl (.tmp rfl .nil)) ?_; refine ⟨J5, L, hle, Ay, ?_, rfl⟩; rw [hro, if_neg (by rintro ⟨-, h⟩; rw [c1] at h; cases h)]; rfl
 intro c1
 try simp only [nb] at c1
 refine Af (Se rfl (Om rfl (Oa rfl (Oa rfl (Aa ?_))))); refine Ad (.tmp rfl (.tmp rfl .nil)) ?_; refine ⟨J5, L, hle, Ay, ?_, rfl⟩; rw [hro, if_pos ⟨h4, c1⟩]; rfl
theorem Tp (I : Heap) (oa ob : Option Addr) : ScAt I [] [] oa 0 ob 0 := ⟨H1 _ _, H1 _ _, rfl, (fun _ h => by cases h), (fun _ h => by cases h)⟩
theorem Yh {I : Heap} {oa : Option Addr} {l : List UInt8} {c : Nat} (h : Bytes I oa l c) (hl : l.length ≤ 2000) (b p : Nat) (hp : p + 7000 ≤ 1099511627776) (L : Bl) :
  Fun Tryz.prog 77 [.pointer (some ⟨b, 0, none⟩)] I (rd b oa l c p :: L) (DT b oa l c p 7000 400000 L) := by
 have hle : HLe I I := .refl _
 have hk2 : kT 2 = 6 := rfl
 have hb2 : bT 2 = 19 := rfl
 refine Ai (by simp) ?_; refine Se rfl (Oa rfl (Aa (Se rfl (Oa rfl (Aa (Ab (Se rfl (Om rfl ?_)))))))); refine Ca rfl (De h hl b _ 3 (by omega) (by decide) _) ?_; rintro _ _ _ _ ⟨r, rfl, rfl, rfl, hr⟩; refine Oc rfl rfl rfl (Aa ?_); refine Ar rfl ?_ ?_
 ·intro c0
  try simp only [nb] at c0
  refine Ah rfl (Om rfl ?_); refine Ca rfl (Jw 2 h hl b _ (by omega) (by decide) (by decide) _) ?_; rintro _ J _ e ⟨w, pw, rfl, hw, hp1, hp2, rfl⟩
  have h := h.mono e
  have hle := hle.trans e
  refine Oa rfl (Aa (Ab ?_))
  try have hw := hw
  refine Ah rfl (Om rfl ?_); refine Dp .free rfl ?_; intro b11; refine Dp .free rfl ?_; intro b12; refine Bn rfl rfl rfl .free rfl ?_; refine Om rfl (Om rfl ?_); refine Dv (fun w h => Mem.sub (L' := rd b oa l c _ :: L) (by repeat (first | exact List.Sublist.refl _ | apply List.Sublist.cons_cons | apply List.Sublist.cons)) h) ?_; refine Ca rfl (De h hl b _ 3 (by omega) (by decide) _) ?_; rintro _ _ _ _ ⟨r2, rfl, rfl, rfl, hr2⟩
  have hr3 : r2 < 3 := by omega
  have hdd : ∃ d : Nat, (2 : Int) + (r2 : Nat) = (d : Nat) ∧ d ≤ 4 := ⟨2 + r2, by omega, by omega⟩
  obtain ⟨d, hd1, hd2⟩ := hdd; refine Or rfl rfl rfl ?_; refine C3 (t := 17) (v' := .int .i64 (d : Nat)) rfl (by rw [← hd1]) ?_; refine Ca rfl (Lr hd2 h hl b _ (by omega) (Tp _ _ _) (by simp) _ (by first | omega | (simp; done) | decide) _) ?_; rintro _ J1 _ e1 ⟨s1, p1, rfl, hs1, hp3, hp4, rfl⟩
  have h := h.mono e1
  have hle := hle.trans e1
  refine Oa rfl (Aa (Ab (Se rfl (Om rfl ?_)))); refine Ca rfl (K9 s1 (by unfold As; omega) _ _) ?_; rintro _ _ _ _ ⟨rfl, rfl, rfl⟩; refine Aa ?_; refine Ar rfl ?_ ?_
  ·intro c1
   try simp only [nb] at c1
   refine Se rfl (Om rfl (Oa rfl (Aa (Ad (.tmp rfl .nil) ?_))))
   exact ⟨_, _, hle, fun w h => Mem.sub (L' := rd b oa l c _ :: L) (by repeat (first | exact List.Sublist.refl _ | apply List.Sublist.cons_cons | apply List.Sublist.cons)) h, _, _, rfl, by omega, by omega, by omega, rfl⟩
  intro c1
  try simp only [nb] at c1
  refine Af (Se rfl (Om rfl ?_)); refine Dp .free rfl ?_; intro b23; refine Dp .free rfl ?_; intro b24; refine Bn rfl rfl rfl .free rfl ?_; refine Om rfl ?_; refine Dv (fun w h => Mem.sub (L' := rd b oa l c _ :: L) (by repeat (first | exact List.Sublist.refl _ | apply List.Sublist.cons_cons | apply List.Sublist.cons)) h) ?_; refine Ca rfl (Lr (d := 2) (by decide) h hl b _ (by omega) (Tp _ _ _) (by simp) _ (by first | omega | (simp; done) | decide) _) ?_; rintro _ J2 _ e2 ⟨s2, p2, rfl, hs2, hp5, hp6, rfl⟩
  have hle := hle.trans e2
  refine Oa rfl (Aa (Ad (.tmp rfl .nil) ?_))
  exact ⟨_, _, hle, fun w h => Mem.sub (L' := rd b oa l c _ :: L) (by repeat (first | exact List.Sublist.refl _ | apply List.Sublist.cons_cons | apply List.Sublist.cons)) h, _, _, rfl, by omega, by omega, by omega, rfl⟩
 intro c0
 try simp only [nb] at c0
 refine Af (Ab ?_)
 try have hw := hw
 refine Ah rfl (Om rfl ?_); refine Dp .free rfl ?_; intro b11; refine Dp .free rfl ?_; intro b12; refine Bn rfl rfl rfl .free rfl ?_; refine Om rfl (Om rfl ?_); refine Dv (fun w h => Mem.sub (L' := rd b oa l c _ :: L) (by repeat (first | exact List.Sublist.refl _ | apply List.Sublist.cons_cons | apply List.Sublist.cons)) h) ?_; refine Ca rfl (De h hl b _ 3 (by omega) (by decide) _) ?_; rintro _ _ _ _ ⟨r2, rfl, rfl, rfl, hr2⟩
 have hr3 : r2 < 3 := by omega
 have hdd : ∃ d : Nat, (2 : Int) + (r2 : Nat) = (d : Nat) ∧ d ≤ 4 := ⟨2 + r2, by omega, by omega⟩
 obtain ⟨d, hd1, hd2⟩ := hdd; refine Or rfl rfl rfl ?_; refine C3 (t := 17) (v' := .int .i64 (d : Nat)) rfl (by rw [← hd1]) ?_; refine Ca rfl (Lr hd2 h hl b _ (by omega) (Tp _ _ _) (by simp) _ (by first | omega | (simp; done) | decide) _) ?_; rintro _ J1 _ e1 ⟨s1, p1, rfl, hs1, hp3, hp4, rfl⟩
 have h := h.mono e1
 have hle := hle.trans e1
 refine Oa rfl (Aa (Ab (Se rfl (Om rfl ?_)))); refine Ca rfl (K9 s1 (by unfold As; omega) _ _) ?_; rintro _ _ _ _ ⟨rfl, rfl, rfl⟩; refine Aa ?_; refine Ar rfl ?_ ?_
 ·intro c1
  try simp only [nb] at c1
  refine Se rfl (Om rfl (Oa rfl (Aa (Ad (.tmp rfl .nil) ?_))))
  exact ⟨_, _, hle, fun w h => Mem.sub (L' := rd b oa l c _ :: L) (by repeat (first | exact List.Sublist.refl _ | apply List.Sublist.cons_cons | apply List.Sublist.cons)) h, _, _, rfl, by omega, by omega, by omega, rfl⟩
 intro c1
 try simp only [nb] at c1
 refine Af (Se rfl (Om rfl ?_)); refine Dp .free rfl ?_; intro b23; refine Dp .free rfl ?_; intro b24; refine Bn rfl rfl rfl .free rfl ?_; refine Om rfl ?_; refine Dv (fun w h => Mem.sub (L' := rd b oa l c _ :: L) (by repeat (first | exact List.Sublist.refl _ | apply List.Sublist.cons_cons | apply List.Sublist.cons)) h) ?_; refine Ca rfl (Lr (d := 2) (by decide) h hl b _ (by omega) (Tp _ _ _) (by simp) _ (by first | omega | (simp; done) | decide) _) ?_; rintro _ J2 _ e2 ⟨s2, p2, rfl, hs2, hp5, hp6, rfl⟩
 have hle := hle.trans e2
 refine Oa rfl (Aa (Ad (.tmp rfl .nil) ?_))
 exact ⟨_, _, hle, fun w h => Mem.sub (L' := rd b oa l c _ :: L) (by repeat (first | exact List.Sublist.refl _ | apply List.Sublist.cons_cons | apply List.Sublist.cons)) h, _, _, rfl, by omega, by omega, by omega, rfl⟩
theorem V3 {s : Au} {l : List Au} (h : H4 s = some l) : l ≠ [] ∧ (∀ x ∈ l, x.length ≤ 12000) ∧ l.length ≤ 12000 := by
 unfold H4 at h
 cases hp : C0 s with
 | none => rw [hp] at h; cases h
 | some t =>
  rw [hp] at h
  simp only [Option.map_some, Option.some.injEq] at h
  subst h
  have h1 := (N0 hp).2
  have h2 := Kn hp
  refine ⟨Xx (Zt t), fun x hx => ?_, ?_⟩
  ·rcases Ke.1 hx with h3 | h3
   ·cases h3
   ·have := t.atom_len x h3; omega
  ·have := G0 [] t.atomL
   rw [t.atomL_len] at this
   simp only [List.length_nil, Nat.zero_add] at this
   exact Nat.le_trans this h2
theorem Aak {I : Heap} {oa : Option Addr} {l : List UInt8} {c : Nat} (h : Bytes I oa l c) (hl : l.length ≤ 2000) (b p : Nat) (hp : p + 8000 ≤ 1099511627776) (L : Bl) :
  Fun Tryz.prog 39 [.pointer (some ⟨b, 0, none⟩)] I (rd b oa l c p :: L) (DT b oa l c p 8000 400001 L) := by
 refine Ai (by simp) ?_; refine Se rfl (Oa rfl (Aa (Se rfl (Om rfl ?_)))); refine Ca rfl (Yh h hl b _ (by omega) _) ?_; rintro _ J1 _ e1 ⟨s, p1, rfl, hs, hp1, hp2, rfl⟩
 have h := h.mono e1
 refine Oa rfl (Aa (Ab (Se rfl (Om rfl ?_)))); refine Ca rfl (De h hl b _ 4 (by omega) (by decide) _) ?_; rintro _ _ _ _ ⟨r, rfl, rfl, rfl, hr⟩; refine Oc rfl rfl rfl (Aa ?_); refine Ar rfl ?_ ?_
 ·intro c0
  try simp only [nb] at c0
  refine Se rfl (Om rfl (Oa rfl (Aa (Ad (.tmp rfl .nil) ?_))))
  exact ⟨J1, _, e1, fun _ h => h, s, _, rfl, by omega, by omega, by omega, rfl⟩
 intro c0
 try simp only [nb] at c0
 refine Af (Se rfl (Om rfl ?_)); refine Ca rfl (Un s (by unfold Ka; omega) _ _) ?_; rintro _ J2 _ e2 ⟨o1, k1, rfl, hat, rfl⟩
 have h := h.mono e2
 have hle := e1.trans e2
 refine Om rfl (Oe rfl rfl (Oe rfl rfl (Oa rfl (Oa rfl (Aa (Ab (Se rfl (Om rfl ?_)))))))); refine Ck rfl .free rfl ?_; refine Aa ?_; refine Ar rfl ?_ ?_
 ·intro c1
  try simp only [nb] at c1
  refine Se rfl (Om rfl (Oa rfl (Aa (Ad (.tmp rfl .nil) ?_))))
  exact ⟨J2, _, hle, fun _ h => h, s, _, rfl, by omega, by omega, by omega, rfl⟩
 intro c1
 try simp only [nb] at c1
 obtain ⟨al, hal⟩ : ∃ al, H4 s = some al := Option.isSome_iff_exists.1 c1; rw [hal] at hat ⊢
 simp only [Option.getD_some] at hat ⊢
 obtain ⟨ha1, ha2, ha3⟩ := V3 hal
 have hapos := List.length_pos_iff.2 ha1
 have hanil := hat.nil'
 refine Af (Ab ?_); refine Lj fun hlr => ?_
 refine T7 17 rfl rfl ?_; refine Da 0 rfl (Ae rfl) ?_; refine Da 1 rfl (Ae rfl) ?_; refine Da 2 rfl (Ae rfl) ?_; refine Da 3 rfl (Ae rfl) ?_; refine Da 4 rfl (Fy rfl) ?_; refine Da 8 rfl (Ae rfl) ?_; refine Cm 5 9 (by kernel_rfl) ?_ ?_
 ·skip
  refine Fk 5 rfl rfl rfl .free rfl (De h hl b _ al.length (by omega) (by omega) _) ?_; rintro _ _ _ _ ⟨r2, rfl, rfl, rfl, hr2⟩
  have hr3 : r2 < al.length := by omega
  have hst := hat.st r2 hr3
  have hel : (al.getD r2 []).length ≤ 12000 := ha2 _ (by rw [show al.getD r2 [] = al[r2] by simp [hr3]]; exact List.getElem_mem _)
  refine Hx ?_
  first | refine Da 6 rfl (A1 rfl rfl _ rfl) ?_ | refine Da 6 rfl (A2 rfl rfl _ rfl) ?_
  refine Dt 7 [17] rfl (Gl rfl) ?_; refine Fj 9 rfl (by kernel_rfl) rfl rfl rfl (by rfl) (by rfl) (by rfl) (by decide) (by decide) (by rfl) .free rfl (.inr Am) ?_; intro b32; refine D8 ?_; intro hz
  have hk := M9 (I := J2) (b := b32) (e := 9) (l := [[97], [120], [49], [112, 97, 105, 114], [99, 97, 108, 108], [102, 115, 116], [105], [43], [40, 102, 115, 116, 32, 49, 41], [98, 55]]) (by decide) (by decide)
  have hlr := hlr.trans hz
  have h := h.mono hz
  have hat := hat.mono hz
  try have hst := hst.mono hz
  refine Dc 10 rfl rfl (Ed h hl b _ (by omega) hk (by simp) _) ?_; rintro _ _ _ _ ⟨y, rfl, hy, rfl, rfl⟩
  have hyl : y.length ≤ 10 := by revert y; decide
  refine Hx ?_; refine Dc 11 rfl rfl (L7 s (al.getD r2 []) y (by unfold Ka; omega) (by unfold Ka; omega) (by omega) _ _) ?_; rintro _ J3 _ e3 ⟨rfl, rfl⟩
  have h := h.mono e3
  have hlr := hlr.trans e3
  have hol : ((If s (al.getD r2 []) y).getD []).length ≤ 12000 := by
   cases ho : If s (al.getD r2 []) y with
   | none => decide
   | some o => exact Vf ho
  refine Hx ?_; refine Da 12 rfl (Ae rfl) ?_; refine Da 13 rfl (Bh rfl rfl) ?_; refine Da 14 rfl (Bh rfl rfl) ?_; refine Da 15 rfl (Aw rfl) ?_; refine Da 16 rfl (Aw rfl) ?_; refine Ao (by kernel_rfl) ?_; refine Ab (Se rfl (Om rfl (Om rfl ?_)))
  first | refine Gb rfl rfl ?_ ?_ | refine Ev rfl rfl ?_ ?_ | refine K0 rfl rfl ?_ ?_
  ·intro g8_2; refine Ow rfl ?_; refine Ce rfl (.met rfl rfl) rfl (De h hl b _ 8 (by omega) (by decide) _) ?_; rintro _ _ _ _ ⟨r4, rfl, rfl, rfl, hr4⟩; refine Dr rfl rfl rfl (.met rfl rfl) rfl ?_; refine Ot rfl rfl (Aa ?_); refine Ar rfl ?_ ?_
   ·intro c2
    try simp only [nb] at c2
    refine Se rfl (Om rfl (Oa rfl (Aa (Ad (.tmp rfl .nil) ?_))))
    exact ⟨J3, _, hle.trans hlr, fun _ h => h, _, _, rfl, by omega, by omega, by omega, rfl⟩
   intro c2
   try simp only [nb] at c2
   refine Af (Se rfl (Om rfl (Om rfl ?_))); refine Ol rfl rfl ?_; intro b46; refine D6 [[], [32], [41]] (by decide) (by decide) ?_; intro J5 e5 k5; refine Ca rfl (Ed (h.mono e5) hl b _ (by omega) k5 (by simp) _) ?_; rintro _ _ _ _ ⟨z, rfl, hz, rfl, rfl⟩
   have hzl : z.length ≤ 1 := by revert z; decide
   refine Ok rfl rfl ?_; refine Oa rfl (Aa (Ad (.tmp rfl .nil) ?_))
   exact ⟨J5, _, (hle.trans hlr).trans e5, fun _ h => h, _, _, rfl, (by first | omega | (simp only [List.length_append, List.length_cons, List.length_nil]; omega) | (simp; omega)), by omega, by omega, rfl⟩
  intro g8_2
  iterate 3 refine Ci rfl rfl rfl ?_
  refine Of rfl rfl (Aa ?_); refine Ap rfl ?_; refine Af (Se rfl (Om rfl (Om rfl ?_))); refine Ol rfl rfl ?_; intro b46; refine D6 [[], [32], [41]] (by decide) (by decide) ?_; intro J5 e5 k5; refine Ca rfl (Ed (h.mono e5) hl b _ (by omega) k5 (by simp) _) ?_; rintro _ _ _ _ ⟨z, rfl, hz, rfl, rfl⟩
  have hzl : z.length ≤ 1 := by revert z; decide
  refine Ok rfl rfl ?_; refine Oa rfl (Aa (Ad (.tmp rfl .nil) ?_))
  exact ⟨J5, _, (hle.trans hlr).trans e5, fun _ h => h, _, _, rfl, (by first | omega | (simp only [List.length_append, List.length_cons, List.length_nil]; omega) | (simp; omega)), by omega, by omega, rfl⟩
 ·skip
  refine G2 9 rfl rfl rfl rfl (by rfl) (by rfl) (by rfl) (by decide) (by decide) (by rfl) .free rfl (.inr Am) ?_; intro b32; refine D8 ?_; intro hz
  have hk := M9 (I := J2) (b := b32) (e := 9) (l := [[97], [120], [49], [112, 97, 105, 114], [99, 97, 108, 108], [102, 115, 116], [105], [43], [40, 102, 115, 116, 32, 49, 41], [98, 55]]) (by decide) (by decide)
  have hlr := hlr.trans hz
  have h := h.mono hz
  have hat := hat.mono hz
  try have hst := hst.mono hz
  refine Dc 5 rfl rfl (De h hl b _ al.length (by omega) (by omega) _) ?_; rintro _ _ _ _ ⟨r2, rfl, rfl, rfl, hr2⟩
  have hr3 : r2 < al.length := by omega
  have hst := hat.st r2 hr3
  have hel : (al.getD r2 []).length ≤ 12000 := ha2 _ (by rw [show al.getD r2 [] = al[r2] by simp [hr3]]; exact List.getElem_mem _)
  refine Hx ?_
  first | refine Da 6 rfl (A1 rfl rfl _ rfl) ?_ | refine Da 6 rfl (A2 rfl rfl _ rfl) ?_
  refine Dt 7 [17] rfl (Gl rfl) ?_; refine Dc 10 rfl rfl (Ed h hl b _ (by omega) hk (by simp) _) ?_; rintro _ _ _ _ ⟨y, rfl, hy, rfl, rfl⟩
  have hyl : y.length ≤ 10 := by revert y; decide
  refine Hx ?_; refine Dc 11 rfl rfl (L7 s (al.getD r2 []) y (by unfold Ka; omega) (by unfold Ka; omega) (by omega) _ _) ?_; rintro _ J3 _ e3 ⟨rfl, rfl⟩
  have h := h.mono e3
  have hlr := hlr.trans e3
  have hol : ((If s (al.getD r2 []) y).getD []).length ≤ 12000 := by
   cases ho : If s (al.getD r2 []) y with
   | none => decide
   | some o => exact Vf ho
  refine Hx ?_; refine Da 12 rfl (Ae rfl) ?_; refine Da 13 rfl (Bh rfl rfl) ?_; refine Da 14 rfl (Bh rfl rfl) ?_; refine Da 15 rfl (Aw rfl) ?_; refine Da 16 rfl (Aw rfl) ?_; refine Ao (by kernel_rfl) ?_; refine Ab (Se rfl (Om rfl (Om rfl ?_)))
  first | refine Gb rfl rfl ?_ ?_ | refine Ev rfl rfl ?_ ?_ | refine K0 rfl rfl ?_ ?_
  ·intro g8_2; refine Ow rfl ?_; refine Ce rfl (.met rfl rfl) rfl (De h hl b _ 8 (by omega) (by decide) _) ?_; rintro _ _ _ _ ⟨r4, rfl, rfl, rfl, hr4⟩; refine Dr rfl rfl rfl (.met rfl rfl) rfl ?_; refine Ot rfl rfl (Aa ?_); refine Ar rfl ?_ ?_
   ·intro c2
    try simp only [nb] at c2
    refine Se rfl (Om rfl (Oa rfl (Aa (Ad (.tmp rfl .nil) ?_))))
    exact ⟨J3, _, hle.trans hlr, fun _ h => h, _, _, rfl, by omega, by omega, by omega, rfl⟩
   intro c2
   try simp only [nb] at c2
   refine Af (Se rfl (Om rfl (Om rfl ?_))); refine Ol rfl rfl ?_; intro b46; refine D6 [[], [32], [41]] (by decide) (by decide) ?_; intro J5 e5 k5; refine Ca rfl (Ed (h.mono e5) hl b _ (by omega) k5 (by simp) _) ?_; rintro _ _ _ _ ⟨z, rfl, hz, rfl, rfl⟩
   have hzl : z.length ≤ 1 := by revert z; decide
   refine Ok rfl rfl ?_; refine Oa rfl (Aa (Ad (.tmp rfl .nil) ?_))
   exact ⟨J5, _, (hle.trans hlr).trans e5, fun _ h => h, _, _, rfl, (by first | omega | (simp only [List.length_append, List.length_cons, List.length_nil]; omega) | (simp; omega)), by omega, by omega, rfl⟩
  intro g8_2
  iterate 3 refine Ci rfl rfl rfl ?_
  refine Of rfl rfl (Aa ?_); refine Ap rfl ?_; refine Af (Se rfl (Om rfl (Om rfl ?_))); refine Ol rfl rfl ?_; intro b46; refine D6 [[], [32], [41]] (by decide) (by decide) ?_; intro J5 e5 k5; refine Ca rfl (Ed (h.mono e5) hl b _ (by omega) k5 (by simp) _) ?_; rintro _ _ _ _ ⟨z, rfl, hz, rfl, rfl⟩
  have hzl : z.length ≤ 1 := by revert z; decide
  refine Ok rfl rfl ?_; refine Oa rfl (Aa (Ad (.tmp rfl .nil) ?_))
  exact ⟨J5, _, (hle.trans hlr).trans e5, fun _ h => h, _, _, rfl, (by first | omega | (simp only [List.length_append, List.length_cons, List.length_nil]; omega) | (simp; omega)), by omega, by omega, rfl⟩
def DX (L : Bl) : C1 := fun v I' L' => ∃ s, v = .string (str s) ∧ List.length s ≤ 400001 ∧ L = L'
def DQ (L : Bl) : C1 := fun v I' L' => ∃ o1 n1 c1 o2 n2 c2 s, v = .tuple #[.slice o1 (List.length n1) c1, .slice o2 (List.length n2) c2, .string (str s)] ∧ Strs I' o1 n1 c1 ∧ Strs I' o2 n2 c2 ∧ n1.length ≤ 16 ∧ n2.length ≤ 16 ∧ (∀ s ∈ n1, s.length ≤ 16) ∧ (∀ s ∈ n2, s.length ≤ 16) ∧ List.length s ≤ 400001 ∧ L = L'
def Ex.many : Ex → Nat
 | .num _ => 1
 | .name _ => 1
 | .bin _ a b => 1 + a.many + b.many
 | .ite a b c => 1 + a.many + b.many + c.many
 | .lt _ a b => 1 + a.many + b.many
 | .fn _ _ _ _ b => 1 + b.many
 | .un _ a => 1 + a.many
theorem Ex.put_id : ∀ {e : Ex} {n : Au} {v : Ex}, n ∉ e.occ [] → e.put n v = e
 | .num _, n, v, h => rfl
 | .name s, n, v, h => by
  simp only [Ex.occ, List.not_mem_nil, if_false, List.mem_singleton] at h
  simp only [Ex.put]; rw [if_neg (fun e => h e.symm)]
 | .bin o a b, n, v, h => by
  simp only [Ex.occ, List.mem_append, not_or] at h
  simp only [Ex.put, Ex.put_id h.1, Ex.put_id h.2]
 | .ite a b c, n, v, h => by
  simp only [Ex.occ, List.mem_append, not_or] at h
  simp only [Ex.put, Ex.put_id h.1.1, Ex.put_id h.1.2, Ex.put_id h.2]
 | .lt x a b, n, v, h => by
  simp only [Ex.occ, List.mem_append, not_or, List.nil_append] at h
  simp only [Ex.put, Ex.put_id h.1]
  by_cases hx : x = n
  ·rw [if_pos hx]
  ·rw [if_neg hx, Ex.put_id]; intro hb; exact h.2 (Ex.occ_mem.2 ⟨hb, by simp only [List.mem_singleton]; exact fun e => hx e.symm⟩)
 | .fn f x s t b, n, v, h => by
  simp only [Ex.occ, List.nil_append] at h
  simp only [Ex.put]
  by_cases hx : f = n ∨ x = n
  ·rw [if_pos hx]
  ·rw [if_neg hx, Ex.put_id]; intro hb; refine h (Ex.occ_mem.2 ⟨hb, ?_⟩)
   simp only [List.mem_cons, List.not_mem_nil, or_false]
   rintro (e | e)
   ·exact hx (.inl e.symm)
   ·exact hx (.inr e.symm)
 | .un o a, n, v, h => by
  simp only [Ex.occ] at h
  simp only [Ex.put, Ex.put_id h]
def Ex.hd : Ex → Au
 | .num _ => [110, 117, 109, 98, 101, 114]
 | .name _ => [110, 97, 109, 101]
 | e => e.tree.head
def Ael (s : Au) : Au := match E9 s with
 | some e => e.hd
 | none => []
def Aeo (s : Au) : Option (List Au) := (E9 s).map fun e => e.sub.map fun a => a.tree.text
def Aeq (s : Au) : Int := match E9 s with
 | some e => (e.many : Nat)
 | none => -1
def Aeg (s : Au) : Int := match C0 s with
 | some t => (t.size : Nat)
 | none => -1
def Aa1 (s : Au) : Nat := s.foldl (fun a c => 10 * a + (c.toNat - 48)) 0
theorem Aa2 (s : Au) (c : UInt8) : Aa1 (s ++ [c]) = 10 * Aa1 s + (c.toNat - 48) := by simp [Aa1]
theorem Q8 {d : Nat} (h : d < 10) : (UInt8.ofNat (48 + d)).toNat - 48 = d := by
 have : (UInt8.ofNat (48 + d)).toNat = 48 + d := by simp [UInt8.toNat_ofNat]; omega
 omega
theorem Rp : ∀ n : Nat, Aa1 (K6 n) = n := by
 intro n
 induction n using Nat.strongRecOn with
 | _ n ih =>
  by_cases h : n < 10
  ·rw [I3 h]
   show 10 * 0 + ((UInt8.ofNat (48 + n)).toNat - 48) = n
   rw [Q8 h]; omega
  ·rw [Jp h, Aa2, ih (n / 10) (by omega), Q8 (Nat.mod_lt _ (by omega))]
   omega
theorem Z3 {a b : Nat} (h : K6 a = K6 b) : a = b := by
 have := congrArg Aa1 h
 rwa [Rp, Rp] at this
def nm (c : UInt8) (n : Nat) : Au := c :: K6 n
theorem Ade {c : UInt8} {a b : Nat} (h : nm c a = nm c b) : a = b := Z3 (List.cons.inj h).2
def Aem (c : UInt8) (av : List Au) (n : Nat) : Nat := ((List.range n).filter fun k => decide (nm c k ∈ av)).length
def frs (c : UInt8) (av : List Au) : Nat → Nat → Nat
 | 0, n => n
 | k + 1, n => if nm c n ∈ av then frs c av k (n + 1) else n
def fr (c : UInt8) (av : List Au) (n : Nat) : Nat := frs c av av.length n
def Ex.pl (av : List Au) : Ex → List Au → List Au → Nat → Ex × Nat
 | .num s, _, _, n => (.num s, n)
 | .name s, f, t, n => (.name (match Cj f s with | some i => t.getD i [] | none => s), n)
 | .bin o a b, f, t, n => let p := a.pl av f t n; let q := b.pl av f t p.2; (.bin o p.1 q.1, q.2)
 | .ite a b c, f, t, n => let p := a.pl av f t n; let q := b.pl av f t p.2; let r := c.pl av f t q.2; (.ite p.1 q.1 r.1, r.2)
 | .lt x a b, f, t, n => let k := fr 120 av n; let p := a.pl av f t (k + 1); let q := b.pl av (f ++ [x]) (t ++ [nm 120 k]) p.2; (.lt (nm 120 k) p.1 q.1, q.2)
 | .fn g x s u b, f, t, n => let k := fr 120 av n; let j := fr 120 av (k + 1); let p := b.pl av (f ++ [g, x]) (t ++ [nm 120 k, nm 120 j]) (j + 1); (.fn (nm 120 k) (nm 120 j) s u p.1, p.2)
 | .un o a, f, t, n => let p := a.pl av f t n; (.un o p.1, p.2)
def Ex.nb : Ex → Nat
 | .num _ => 0
 | .name _ => 0
 | .bin _ a b => a.nb + b.nb
 | .ite a b c => a.nb + b.nb + c.nb
 | .lt _ a b => 1 + a.nb + b.nb
 | .fn _ _ _ _ b => 2 + b.nb
 | .un _ a => a.nb
def namesL (l : List Au) : Prop := ∀ s ∈ l, Bs s = true
theorem namesL.add {l m : List Au} (h : namesL l) (h' : namesL m) : namesL (l ++ m) := by
 intro s hs
 rcases List.mem_append.1 hs with hs | hs
 ·exact h s hs
 ·exact h' s hs
theorem B5.txt_len (o : B5) : o.txt.length ≤ 4 := by cases o <;> decide
theorem U2.txt_len (o : U2) : o.txt.length ≤ 3 := by cases o <;> decide
theorem Ex.len_size : ∀ {e : Ex}, e.ok = true → e.tree.len + 1 ≤ 8 * e.size
 | .num s, h => by
  have h : Bt s = true := h
  have : s.length ≤ 4 := by
   simp only [Bt, Bool.or_eq_true, Bool.and_eq_true, decide_eq_true_eq] at h
   rcases h with h | h
   ·rw [h]; decide
   ·have h1 := h.1.1.2
    unfold Dw at h1
    split at h1
    ·simp only [List.length_drop] at h1; omega
    ·omega
  simp only [Ex.tree, Tree.len, List.isEmpty_nil, cond_true, Ex.size]; omega
 | .name s, h => by
  have := Hu (show Bs s = true from h)
  simp only [Ex.tree, Tree.len, List.isEmpty_nil, cond_true, Ex.size]; omega
 | .bin o a b, h => by
  simp only [Ex.ok, Bool.and_eq_true] at h
  have h1 := Ex.len_size h.1; have h2 := Ex.len_size h.2; have h3 := o.txt_len
  simp only [Ex.tree, Tree.len, F1, List.isEmpty_nil, List.isEmpty_cons, cond_true, cond_false, Ex.size]; omega
 | .ite a b c, h => by
  simp only [Ex.ok, Bool.and_eq_true] at h
  have h1 := Ex.len_size h.1.1; have h2 := Ex.len_size h.1.2; have h3 := Ex.len_size h.2
  simp only [Ex.tree, Tree.len, F1, List.isEmpty_nil, List.isEmpty_cons, cond_true, cond_false, Ex.size, Fs, List.length_cons, List.length_nil]; omega
 | .lt x a b, h => by
  simp only [Ex.ok, Bool.and_eq_true] at h
  have h1 := Ex.len_size h.1.2; have h2 := Ex.len_size h.2; have h3 := Hu h.1.1
  simp only [Ex.tree, Tree.len, F1, List.isEmpty_nil, List.isEmpty_cons, cond_true, cond_false, Ex.size, C4, List.length_cons, List.length_nil]; omega
 | .fn f x s t b, h => by
  simp only [Ex.ok, Bool.and_eq_true, decide_eq_true_eq] at h
  obtain ⟨⟨⟨⟨⟨h1, h2⟩, h3⟩, h4⟩, h5⟩, h6⟩ := h
  have k1 := Ex.len_size h6; have k2 := Hu h1; have k3 := Hu h2
  have k4 := s.tree_small; have k5 := t.tree_small; have k6 := s.size_pos; have k7 := t.size_pos
  simp only [Ex.tree, Tree.len, F1, List.isEmpty_nil, List.isEmpty_cons, cond_true, cond_false, Ex.size, Dh, List.length_cons, List.length_nil]; omega
 | .un o a, h => by
  have h1 := Ex.len_size (e := a) h; have h3 := o.txt_len
  simp only [Ex.tree, Tree.len, F1, List.isEmpty_nil, List.isEmpty_cons, cond_true, cond_false, Ex.size]; omega
def Ex.plain (e : Ex) : Ex := (e.pl e.free [] [] 0).1
def Aee (s : Au) : Option Au := (E9 s).map fun e => e.plain.tree.text
def Aep (l m : List Au) (s : Au) : Au := match Cj l s with
 | some i => m.getD i []
 | none => s
theorem P3 (s : Au) (I : Heap) (L : Bl) : Fun Tryz.prog 160 [.string (str s)] I L (D2 (.agg [.string (str s), .slice none 0 0].toArray) I L) := by
 refine Ai (by simp) ?_; refine Se rfl ?_; refine Ax .free rfl ?_; intro b2; refine Aa (Se rfl (Om rfl ?_)); refine Bn rfl rfl rfl .free rfl ?_; refine Bk rfl rfl rfl rfl .free ?_; refine Aa ?_; refine Ad (.c rfl .nil) ?_; refine only rfl ?_
 rfl
def rn (b : Nat) (oa : Option Addr) (av : List Au) (c n : Nat) : Nat × Obj := (b, .cells [.slice oa av.length c, .int .i64 (n : Nat)].toArray 179 (0, 0))
end Go.Proofs.YtmfagaajiakgoaaGreatDoor
