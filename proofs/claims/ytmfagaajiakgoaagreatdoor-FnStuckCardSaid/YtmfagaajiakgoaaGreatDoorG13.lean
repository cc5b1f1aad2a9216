/- Numbers and heads of steps. No conditions. -/
import Derived.Test.YtmfagaajiakgoaaGreatDoorG12
import Derived.Laws.Pointers

namespace Go.Proofs.YtmfagaajiakgoaaGreatDoor
set_option maxRecDepth 100000
set_option linter.unusedVariables false
set_option linter.unusedSimpArgs false

section
variable {P : Program} {f : FuncId} {n : Nat} {I₀ : Heap} {Q : C1} {k : List Item} {E : G7} {I : Heap} {L : Bl} {ops : Array Oper} {d : Nat} {ty : TypeId} {pos : String} {af : Array Edge} {g : Option (Nat × Bool)} {l : List Oper}
theorem Te {T T' : TypeId} {x y : Operand} {a : Int} {b : Nat} (hx : Ba E x = some (.int .i64 a)) (hy : Ba E y = some (.int .i64 (b : Nat))) (hb : 0 < b) (hg : Wants ops E g) (hdn : Nat.blt d n = true)
  (h : A7 P f n I₀ Q ops l k ((d, .int .i64 (a.tmod (b : Nat))) :: E) I L) : A7 P f n I₀ Q ops (⟨some d, .binOp .rem T x y T', ty, pos, af, g⟩ :: l) k E I L := D4 (fun ac w he _ => by
 simp only [execOp, he.eval hx, he.eval hy]
 refine Ac (a := _) (w' := w) ?_ |>.trans rfl
 rw [Ac (Fa w)]
 have h0 : ¬ ((b : Int) = 0) := by omega
 simp only [binOp, Op.intDiv, if_neg h0, ne_eq, not_true_eq_false, if_false]; rfl) hg hdn h
end
theorem Ph (a : Int) : -1000 < a.tmod 1000 ∧ a.tmod 1000 < 1000 := by
 have h1 := Int.lt_tmod_of_pos a (b := 1000) (by decide)
 have h2 := Int.tmod_lt_of_pos a (b := 1000) (by decide)
 omega
theorem Sy (n : Int) (h0 : -2000000 ≤ n) (h1 : n ≤ 2000000) (I : Heap) (L : Bl) : Fun Tryz.prog 159 [.int .i64 n] I L (D2 (.int .i64 (F2 n)) I L) := by
 have hb := Ph (n + 500)
 have hb2 := Ph ((n + 500).tmod 1000 + 1000)
 refine Ai (by simp) ?_; refine Se rfl (Oa rfl (Aa (Se rfl (Om rfl ?_)))); refine Or rfl rfl rfl ?_; refine Te (b := 1000) rfl rfl (by decide) .free rfl ?_; refine Jg (a := (n + 500).tmod 1000) rfl rfl rfl (by omega) .free rfl ?_; refine Te (a := (n + 500).tmod 1000 + 1000) (b := 1000) rfl rfl (by decide) .free rfl ?_; refine Jg (a := ((n + 500).tmod 1000 + 1000).tmod 1000) rfl rfl rfl (by omega) .free rfl ?_; refine Oa rfl (Aa (Ad (.tmp rfl .nil) ?_)); refine only rfl ?_
 exact congrArg (Value.int .i64) (Rz n)
theorem Nn (n : Int) (h0 : -2000000 ≤ n) (h1 : n ≤ 2000000) (I : Heap) (L : Bl) : Fun Tryz.prog 185 [.int .i64 n] I L (D2 (.int .i64 (F2 n)) I L) := by
 have hb := Ph (n + 500)
 have hb2 := Ph ((n + 500).tmod 1000 + 1000)
 refine Ai (by simp) ?_; refine Se rfl (Oa rfl (Aa (Se rfl (Om rfl ?_)))); refine Or rfl rfl rfl ?_; refine Te (b := 1000) rfl rfl (by decide) .free rfl ?_; refine Jg (a := (n + 500).tmod 1000) rfl rfl rfl (by omega) .free rfl ?_; refine Te (a := (n + 500).tmod 1000 + 1000) (b := 1000) rfl rfl (by decide) .free rfl ?_; refine Jg (a := ((n + 500).tmod 1000 + 1000).tmod 1000) rfl rfl rfl (by omega) .free rfl ?_; refine Oa rfl (Aa (Ad (.tmp rfl .nil) ?_)); refine only rfl ?_
 exact congrArg (Value.int .i64) (Rz n)
theorem Aa0 {x y : Int} (hx : -999 ≤ x ∧ x ≤ 999) (hy : -999 ≤ y ∧ y ≤ 999) : -998001 ≤ x * y ∧ x * y ≤ 998001 := by
 have h1 : (x * y).natAbs ≤ 999 * 999 := by rw [Int.natAbs_mul]; exact Nat.mul_le_mul (by omega) (by omega)
 omega
theorem Iz {o : B5} (h : o.txt = [43]) (x y : Int) : o.calc x y = x + y := by
 obtain rfl : o = .add := B5.txt_inj (o' := .add) h
 rfl
theorem I1 {o : B5} (h : o.txt = [45]) (x y : Int) : o.calc x y = x - y := by
 obtain rfl : o = .sub := B5.txt_inj (o' := .sub) h
 rfl
theorem I0 {o : B5} (h1 : ¬ o.txt = [43]) (h2 : ¬ o.txt = [45]) (x y : Int) : o.calc x y = x * y := by
 cases o with
 | add => exact absurd rfl h1
 | sub => exact absurd rfl h2
 | _ => rfl
theorem My {I : Heap} (ht : Tab I) (o : B5) {a b : Au} (ha : Bt a = true) (hb : Bt b = true) (L : Bl) : Fun Tryz.prog 115 [.string (str o.txt), .string (str a), .string (str b)] I L (D2 (.string (str (K2 o a b))) I L) := by
 have xa := Nv ha
 have xb := Nv hb
 have hm := Aa0 xa xb
 refine Ai (by simp) ?_; refine Se rfl (Oa rfl (Aa (Se rfl (Om rfl ?_)))); refine Ca rfl (Uk a ha _ _) ?_; rintro _ _ _ _ ⟨rfl, rfl, rfl⟩; refine Om rfl ?_; refine Ca rfl (Uk b hb _ _) ?_; rintro _ _ _ _ ⟨rfl, rfl, rfl⟩; refine Oa rfl (Oa rfl (Aa (Ab (Se rfl (Om rfl (Aa (Aj (Se rfl (Od rfl rfl rfl (Oa rfl (Aa ?_))))))))))); refine Ar rfl ?_ ?_
 ·intro c0
  try simp only [nb] at c0
  refine Ah rfl (Om rfl (Om rfl ?_)); refine Or rfl rfl rfl ?_; refine Oa rfl (Aa (Al (Se rfl (Om rfl ?_)))); refine Ca rfl (Sy _ (by omega) (by omega) _ _) ?_; rintro _ _ _ _ ⟨rfl, rfl, rfl⟩; refine Ca rfl (Id ht _ (by have := Cu (Cc a + Cc b); have := Cu (Cc a - Cc b); have := Cu (Cc a * Cc b); omega) (by have := Cu (Cc a + Cc b); have := Cu (Cc a - Cc b); have := Cu (Cc a * Cc b); omega) _) ?_; rintro _ _ _ _ ⟨rfl, rfl, rfl⟩; refine Oa rfl (Aa (Ad (.tmp rfl .nil) ?_)); refine only rfl ?_
  unfold K2
  first
   | (rw [Iz c0]; done)
   | (rw [I1 c1]; done)
   | (rw [I0 c0 c1]; done)
   | (rw [Iz c0]; rfl)
   | (rw [I1 c1]; rfl)
   | (rw [I0 c0 c1]; rfl)
 intro c0
 try simp only [nb] at c0
 refine Se rfl (Od rfl rfl rfl (Oa rfl (Aa ?_))); refine Ar rfl ?_ ?_
 ·intro c1
  try simp only [nb] at c1
  refine Ah rfl (Om rfl (Om rfl ?_)); refine Or rfl rfl rfl ?_; refine Oa rfl (Aa (Al (Se rfl (Om rfl ?_)))); refine Ca rfl (Sy _ (by omega) (by omega) _ _) ?_; rintro _ _ _ _ ⟨rfl, rfl, rfl⟩; refine Ca rfl (Id ht _ (by have := Cu (Cc a + Cc b); have := Cu (Cc a - Cc b); have := Cu (Cc a * Cc b); omega) (by have := Cu (Cc a + Cc b); have := Cu (Cc a - Cc b); have := Cu (Cc a * Cc b); omega) _) ?_; rintro _ _ _ _ ⟨rfl, rfl, rfl⟩; refine Oa rfl (Aa (Ad (.tmp rfl .nil) ?_)); refine only rfl ?_
  unfold K2
  first
   | (rw [Iz c0]; done)
   | (rw [I1 c1]; done)
   | (rw [I0 c0 c1]; done)
   | (rw [Iz c0]; rfl)
   | (rw [I1 c1]; rfl)
   | (rw [I0 c0 c1]; rfl)
 intro c1
 try simp only [nb] at c1
 refine Ah rfl (Om rfl (Om rfl ?_)); refine Or rfl rfl rfl ?_; refine Oa rfl (Aa (Al (Se rfl (Om rfl ?_)))); refine Ca rfl (Sy _ (by omega) (by omega) _ _) ?_; rintro _ _ _ _ ⟨rfl, rfl, rfl⟩; refine Ca rfl (Id ht _ (by have := Cu (Cc a + Cc b); have := Cu (Cc a - Cc b); have := Cu (Cc a * Cc b); omega) (by have := Cu (Cc a + Cc b); have := Cu (Cc a - Cc b); have := Cu (Cc a * Cc b); omega) _) ?_; rintro _ _ _ _ ⟨rfl, rfl, rfl⟩; refine Oa rfl (Aa (Ad (.tmp rfl .nil) ?_)); refine only rfl ?_
 unfold K2
 first
  | (rw [Iz c0]; done)
  | (rw [I1 c1]; done)
  | (rw [I0 c0 c1]; done)
  | (rw [Iz c0]; rfl)
  | (rw [I1 c1]; rfl)
  | (rw [I0 c0 c1]; rfl)
theorem Nm (o : B5) (x y : Int) (hx : -999 ≤ x ∧ x ≤ 999) (hy : -999 ≤ y ∧ y ≤ 999) (I : Heap) (L : Bl) : Fun Tryz.prog 151 [.string (str o.txt), .int .i64 x, .int .i64 y] I L (D2 (.int .i64 (F2 (o.calc x y))) I L) := by
 have hm := Aa0 hx hy
 refine Ai (by simp) ?_; refine Se rfl (Oa rfl (Aa (Ab (Se rfl (Om rfl (Aa (Aj (Se rfl (Od rfl rfl rfl (Oa rfl (Aa ?_))))))))))); refine Ar rfl ?_ ?_
 ·intro c0
  try simp only [nb] at c0
  refine Se rfl (Om rfl (Om rfl ?_)); refine Or rfl rfl rfl ?_; refine Ca rfl (Nn _ (by omega) (by omega) _ _) ?_; rintro _ _ _ _ ⟨rfl, rfl, rfl⟩; refine Oa rfl (Aa (Ad (.tmp rfl .nil) ?_)); refine only rfl ?_; rw [Iz c0]; rfl
 intro c0
 try simp only [nb] at c0
 refine Se rfl (Od rfl rfl rfl (Oa rfl (Aa ?_))); refine Ar rfl ?_ ?_
 ·intro c1
  try simp only [nb] at c1
  refine Se rfl (Om rfl (Om rfl ?_)); refine Or rfl rfl rfl ?_; refine Ca rfl (Nn _ (by omega) (by omega) _ _) ?_; rintro _ _ _ _ ⟨rfl, rfl, rfl⟩; refine Oa rfl (Aa (Ad (.tmp rfl .nil) ?_)); refine only rfl ?_; rw [I1 c1]; rfl
 intro c1
 try simp only [nb] at c1
 refine Af (Al (Se rfl (Om rfl (Om rfl ?_)))); refine Or rfl rfl rfl ?_; refine Ca rfl (Nn _ (by omega) (by omega) _ _) ?_; rintro _ _ _ _ ⟨rfl, rfl, rfl⟩; refine Oa rfl (Aa (Ad (.tmp rfl .nil) ?_)); refine only rfl ?_; rw [I0 c0 c1]; rfl
def Tw (t : Tree) : List Nat := if t.head = Fs then [1] else if t.head = C4 then [2] else if t.head = Dh then [] else Cn t
theorem Dj {I : Heap} {t : Tree} {cs : List Value} (h : Rep I t cs) (L : Bl) : Fun Tryz.prog 85 [.agg cs.toArray] I L (KD (Tw t) L) := by
 obtain ⟨oa, c, vs, rfl, hrl, hs, hn, hc, ha, hp⟩ := h.open; refine Ai (by simp) ?_; refine Se rfl ?_; refine Cd rfl rfl .free rfl ?_; intro b1; refine Oa rfl (Aa (Ab (Se rfl ?_))); refine Az rfl .free rfl ?_; refine Ca rfl (Bi h _) ?_; rintro _ _ _ _ ⟨rfl, rfl, rfl⟩; refine Aa (Aj (Se rfl (Od rfl rfl rfl (Oa rfl (Aa ?_))))); refine Ar rfl ?_ ?_
 ·intro c0
  try simp only [nb] at c0
  refine Se rfl ?_; refine Ol rfl rfl ?_; intro b7; refine Oa rfl (Aa ?_); refine Be ?_; intro hz; refine Ad (.tmp rfl .nil) ?_; refine ⟨_, L, hz, fun _ h => h.drop, F9 (l := [1]) ?_⟩
  unfold Tw Fs C4 Dh; rw [if_pos c0]
 intro c0
 try simp only [nb] at c0
 refine Se rfl (Od rfl rfl rfl (Oa rfl (Aa ?_))); refine Ar rfl ?_ ?_
 ·intro c1
  try simp only [nb] at c1
  refine Se rfl ?_; refine Ol rfl rfl ?_; intro b10; refine Oa rfl (Aa ?_); refine Be ?_; intro hz; refine Ad (.tmp rfl .nil) ?_; refine ⟨_, L, hz, fun _ h => h.drop, F9 (l := [2]) ?_⟩
  unfold Tw Fs C4 Dh; rw [if_neg c0, if_pos c1]
 intro c1
 try simp only [nb] at c1
 refine Se rfl (Od rfl rfl rfl (Oa rfl (Aa ?_))); refine Ar rfl ?_ ?_
 ·intro c2
  try simp only [nb] at c2
  refine Se rfl (Oa rfl (Aa (Ad (.tmp rfl .nil) ?_)))
  have hk : Tw t = [] := by unfold Tw Fs C4 Dh; rw [if_neg c0, if_neg c1, if_pos c2]
  exact ⟨I, L, .refl _, fun _ h => h.drop, none, 0, by rw [hk]; rfl, ⟨by simp, fun _ => hk, by rw [hk]; simp⟩, rfl⟩
 intro c2
 try simp only [nb] at c2
 refine Af (Al (Se rfl ?_)); refine Az rfl .free rfl ?_; refine Ca rfl (Ec h _) ?_; rintro _ J _ e1 ⟨o1, k1, rfl, hk, rfl⟩; refine Oa rfl (Aa (Ad (.tmp rfl .nil) ?_))
 have hke : Tw t = Cn t := by unfold Tw Fs C4 Dh; rw [if_neg c0, if_neg c1, if_neg c2]
 exact ⟨J, L, e1, fun _ h => h.drop, o1, k1, by rw [hke]; rfl, by rw [hke]; exact hk, rfl⟩
def Zl (h : Au) : List Nat := if h = Fs ∨ h = Fg ∨ h = Fh then [1] else if h = C4 then [2] else if h = Dh then [] else [1, 2]
theorem Ju (s : Au) (I : Heap) (L : Bl) : Fun Tryz.prog 99 [.string (str s)] I L (KD (Zl s) L) := by
 refine Ai (by simp) ?_; refine Se rfl (Oa rfl (Aa (Ab (Se rfl (Om rfl (Aa (Aj (Ab (Se rfl (Od rfl rfl rfl (Oa rfl (Aa ?_)))))))))))); refine Ar rfl ?_ ?_
 ·intro c0
  try simp only [nb] at c0
  refine Af ?_
  first | refine St rfl (by first | assumption | omega) ?_ | refine Bj (by simp [look, Ba, *]) ?_
  refine Se rfl ?_; refine Ol rfl rfl ?_; intro b8; refine Oa rfl (Aa ?_); refine Be ?_; intro hz; refine Ad (.tmp rfl .nil) ?_; refine ⟨_, L, hz, fun _ h => h, F9 (l := [1]) ?_⟩
  unfold Zl Fs Fg Fh
  simp [*]
 intro c0
 try simp only [nb] at c0
 refine Se rfl (Od rfl rfl rfl (Oa rfl (Aa ?_))); refine Ar rfl ?_ ?_
 ·intro c1
  try simp only [nb] at c1
  refine Af ?_
  first | refine St rfl (by first | assumption | omega) ?_ | refine Bj (by simp [look, Ba, *]) ?_
  refine Se rfl ?_; refine Ol rfl rfl ?_; intro b8; refine Oa rfl (Aa ?_); refine Be ?_; intro hz; refine Ad (.tmp rfl .nil) ?_; refine ⟨_, L, hz, fun _ h => h, F9 (l := [1]) ?_⟩
  unfold Zl Fs Fg Fh
  simp [*]
 intro c1
 try simp only [nb] at c1
 refine Ah rfl (Od rfl rfl rfl (Oa rfl (Aa ?_))); refine Ar rfl ?_ ?_
 ·intro c2
  try simp only [nb] at c2
  refine Se rfl ?_; refine Ol rfl rfl ?_; intro b8; refine Oa rfl (Aa ?_); refine Be ?_; intro hz; refine Ad (.tmp rfl .nil) ?_; refine ⟨_, L, hz, fun _ h => h, F9 (l := [1]) ?_⟩
  unfold Zl Fs Fg Fh
  simp [*]
 intro c2
 try simp only [nb] at c2
 refine Se rfl (Od rfl rfl rfl (Oa rfl (Aa ?_))); refine Ar rfl ?_ ?_
 ·intro c3
  try simp only [nb] at c3
  refine Se rfl ?_; refine Ol rfl rfl ?_; intro b11; refine Oa rfl (Aa ?_); refine Be ?_; intro hz; refine Ad (.tmp rfl .nil) ?_; refine ⟨_, L, hz, fun _ h => h, F9 (l := [2]) ?_⟩
  unfold Zl Fs Fg Fh C4
  simp [*]
 intro c3
 try simp only [nb] at c3
 refine Se rfl (Od rfl rfl rfl (Oa rfl (Aa ?_))); refine Ar rfl ?_ ?_
 ·intro c4
  try simp only [nb] at c4
  refine Se rfl ?_; refine Dp .free rfl ?_; intro b14; refine Oa rfl (Aa ?_); refine Be ?_; intro hz; refine Ad (.tmp rfl .nil) ?_; refine ⟨_, L, hz, fun _ h => h, F9 (l := []) ?_⟩
  unfold Zl Fs Fg Fh C4 Dh
  simp [*]
 intro c4
 try simp only [nb] at c4
 refine Af (Al (Se rfl ?_)); refine Ol rfl rfl ?_; intro b15; refine Oa rfl (Aa ?_); refine Be ?_; intro hz; refine Ad (.tmp rfl .nil) ?_; refine ⟨_, L, hz, fun _ h => h, F9 (l := [1, 2]) ?_⟩
 unfold Zl Fs Fg Fh C4 Dh
 simp [*]
theorem Aai {I : Heap} (n : Int) {t u : Tree} {cs ds : List Value} (h : Rep I t cs) (h' : Rep I u ds) (L : Bl) : Fun Tryz.prog 150 [.int .i64 n, .agg cs.toArray, .agg ds.toArray] I L (RP (if n = 0 then t else u) L) := by
 obtain ⟨oa, c, _, rfl, -⟩ := h.open; obtain ⟨ob, c', _, rfl, -⟩ := h'.open; refine Ai (by simp) ?_; refine Se rfl ?_; refine Cd rfl rfl .free rfl ?_; intro b4; refine Cd rfl rfl .free rfl ?_; intro b5; refine Ax .free rfl ?_; intro b6; refine Aa (Ab (Se rfl (Om rfl (Oc rfl rfl rfl (Aa ?_))))); refine Ar rfl ?_ ?_
 ·intro c0
  try simp only [nb] at c0
  refine Se rfl ?_; refine Az rfl .free rfl ?_; refine Bk rfl rfl rfl rfl .free ?_; refine Aa ?_; refine Ad (.c rfl .nil) ?_
  exact ⟨I, L, .refl _, Ay, _, rfl, by rw [if_pos c0]; exact h, rfl⟩
 intro c0
 try simp only [nb] at c0
 refine Af (Se rfl ?_); refine Az rfl .free rfl ?_; refine Bk rfl rfl rfl rfl .free ?_; refine Aa ?_; refine Ad (.c rfl .nil) ?_
 exact ⟨I, L, .refl _, Ay, _, rfl, by rw [if_neg c0]; exact h', rfl⟩
theorem P6 (n : Int) (h0 : -1000000 ≤ n) (h1 : n ≤ 1000000) (I : Heap) (L : Bl) : Fun Tryz.prog 101 [.int .i64 n] I L (D2 (.string (str (K1 n))) I L) := by
 by_cases hn : n < 0
 ·have hd := So (n := n.natAbs) (by omega)
  refine Ai (by simp) ?_; refine Se rfl (Oa rfl (Aa (Ab (Se rfl (Om rfl (Oc rfl rfl rfl (Aa ?_)))))))
  first | refine Sf rfl (by omega) ?_ | refine Ap (by simp [look, Ba, *]) ?_
  refine Af (Ab (Se rfl (Om rfl (Oc rfl rfl rfl (Aa ?_)))))
  first | refine Ks rfl (hn) ?_ | refine Kr rfl (hn) ?_ | refine Bj (by simp [look, Ba, *]) ?_
  refine Se rfl (Om rfl ?_); refine Ad1 rfl (by omega) .free rfl ?_; refine C3 (t := 8) (v' := .int .i64 (n.natAbs : Nat)) rfl (by congr 1; omega) ?_; refine Ca rfl (S2 _ n.natAbs (Nat.lt_succ_self _) (by omega) _ _) ?_; rintro _ _ _ _ ⟨rfl, rfl, rfl⟩; refine Ok rfl rfl ?_; refine Oa rfl (Aa (Ad (.tmp rfl .nil) ?_)); refine only rfl ?_
  unfold K1; rw [if_pos hn]; rfl
 ·obtain ⟨m, rfl⟩ : ∃ m : Nat, n = (m : Nat) := ⟨n.toNat, by omega⟩; rw [Aau]
  exact S2 _ m (Nat.lt_succ_self _) (by omega) I L
mutual
inductive KV where
 | num (s : Au)
 | pair (a b : KV)
 | clo (f x : Au) (s t : Ty) (b : Ex) (r : KE)
inductive KE where
 | nil
 | cons (n : Au) (v : KV) (up : KE)
end
def KE.look : KE → Au → Option KV
 | .nil, _ => none
 | .cons m v up, n => if m = n then some v else up.look n
structure Res where
 v : Option KV
 left : Nat
 stuck : Bool
def B5.act : B5 → KV → KV → Option KV
 | .pair, u, w => some (.pair u w)
 | .call, _, _ => none
 | o, .num a, .num b => some (.num (K2 o a b))
 | _, _, _ => none
def U2.act : U2 → KV → Option KV
 | .fst, .pair a _ => some a
 | .snd, .pair _ b => some b
 | _, _ => none
def Res.of (o : Option KV) (n : Nat) : Res := ⟨o, n, o.isNone⟩
def ev : Nat → Nat → Ex → KE → Res
 | 0, _, _, _ => ⟨none, 0, false⟩
 | _ + 1, 0, _, _ => ⟨none, 0, false⟩
 | _ + 1, n + 1, .num s, _ => ⟨some (.num s), n, false⟩
 | _ + 1, n + 1, .name s, k => ⟨k.look s, n, false⟩
 | _ + 1, n + 1, .fn f x s t b, k => ⟨some (.clo f x s t b k), n, false⟩
 | N + 1, n + 1, .bin o a b, k =>
  match (ev N n a k).v with
  | none => ev N n a k
  | some u => match (ev N (ev N n a k).left b k).v with
   | none => ev N (ev N n a k).left b k
   | some w => match o, u with
    | .call, .clo f x s t c r => ev N (ev N (ev N n a k).left b k).left c (.cons x w (.cons f (.clo f x s t c r) r))
    | o, u => .of (o.act u w) (ev N (ev N n a k).left b k).left
 | N + 1, n + 1, .ite a b c, k =>
  match (ev N n a k).v with
  | none => ev N n a k
  | some (.num s) => ev N (ev N n a k).left (if s = [48] then b else c) k
  | some _ => ⟨none, (ev N n a k).left, true⟩
 | N + 1, n + 1, .lt x a b, k =>
  match (ev N n a k).v with
  | none => ev N n a k
  | some u => ev N (ev N n a k).left b (.cons x u k)
 | N + 1, n + 1, .un o a, k =>
  match (ev N n a k).v with
  | none => ev N n a k
  | some u => .of (o.act u) (ev N n a k).left
theorem Sr : ∀ (N n : Nat) (e : Ex) (k : KE), (ev N n e k).left ≤ n := by
 intro N
 induction N with
 | zero => intro n e k; exact Nat.zero_le _
 | succ N ih =>
  intro n e k
  cases n with
  | zero => exact Nat.zero_le _
  | succ n =>
   cases e with
   | num s => exact Nat.le_succ _
   | name s => exact Nat.le_succ _
   | fn f x s t b => exact Nat.le_succ _
   | bin o a b =>
    simp only [ev]
    have h1 := ih n a k
    have h2 := ih (ev N n a k).left b k
    cases hp : (ev N n a k).v with
    | none => simp only; omega
    | some u =>
     simp only
     cases hq : (ev N (ev N n a k).left b k).v with
     | none => simp only; omega
     | some w =>
      simp only
      split
      ·exact Nat.le_trans (ih _ _ _) (by omega)
      ·simp only [Res.of]; omega
   | ite a b c =>
    simp only [ev]
    have h1 := ih n a k
    split
    ·omega
    ·exact Nat.le_trans (ih _ _ _) (by omega)
    ·simp only; omega
   | lt x a b =>
    simp only [ev]
    have h1 := ih n a k
    split
    ·omega
    ·exact Nat.le_trans (ih _ _ _) (by omega)
   | un o a =>
    simp only [ev]
    have h1 := ih n a k
    split
    ·omega
    ·simp only [Res.of]; omega
theorem Aby : ∀ (N n : Nat) (e : Ex) (k : KE), n < N → ev (N + 1) n e k = ev N n e k := by
 intro N
 induction N with
 | zero => intro n e k h; omega
 | succ N ih =>
  intro n e k h
  cases n with
  | zero => rfl
  | succ n =>
   have key : ∀ m e k, m ≤ n → ev (N + 1) m e k = ev N m e k := fun m e k hm => ih m e k (by omega)
   have l1 := fun e k => Sr N n e k
   cases e with
   | num s => rfl
   | name s => rfl
   | fn f x s t b => rfl
   | bin o a b =>
    have l2 := Sr N (ev N n a k).left b k
    have l3 := l1 a k
    rw [ev, ev, key n a k (Nat.le_refl _), key _ b k l3]
    cases (ev N n a k).v with
    | none => rfl
    | some u =>
     simp only
     cases (ev N (ev N n a k).left b k).v with
     | none => rfl
     | some w =>
      simp only
      split
      ·exact key _ _ _ (by omega)
      ·rfl
   | ite a b c =>
    have l3 := l1 a k
    rw [ev, ev, key n a k (Nat.le_refl _)]
    split
    ·rfl
    ·exact key _ _ _ l3
    ·rfl
   | lt x a b =>
    have l3 := l1 a k
    rw [ev, ev, key n a k (Nat.le_refl _)]
    split
    ·rfl
    ·exact key _ _ _ l3
   | un o a =>
    rw [ev, ev, key n a k (Nat.le_refl _)]
theorem Sq {N n : Nat} (h : n < N) (e : Ex) (k : KE) : ev N n e k = ev (n + 1) n e k := by
 induction N with
 | zero => omega
 | succ N ih =>
  rcases Nat.lt_or_ge n N with g | g
  ·rw [Aby N n e k g]; exact ih g
  ·rw [show N = n by omega]
def eval (n : Nat) (e : Ex) (k : KE) : Res := ev (n + 1) n e k
theorem Ez (n : Nat) (e : Ex) (k : KE) : (eval n e k).left ≤ n := Sr _ _ _ _
theorem Rb (e : Ex) (k : KE) : eval 0 e k = ⟨none, 0, false⟩ := rfl
theorem Ps (n : Nat) (s : Au) (k : KE) : eval (n + 1) (.num s) k = ⟨some (.num s), n, false⟩ := rfl
theorem Q9 (n : Nat) (s : Au) (k : KE) : eval (n + 1) (.name s) k = ⟨k.look s, n, false⟩ := rfl
theorem Ss (n : Nat) (f x : Au) (s t : Ty) (b : Ex) (k : KE) : eval (n + 1) (.fn f x s t b) k = ⟨some (.clo f x s t b k), n, false⟩ := rfl
theorem Hg (n : Nat) (o : B5) (a b : Ex) (k : KE) : eval (n + 1) (.bin o a b) k =
  match (eval n a k).v with
  | none => eval n a k
  | some u => match (eval (eval n a k).left b k).v with
   | none => eval (eval n a k).left b k
   | some w => match o, u with
    | .call, .clo f x s t c r => eval (eval (eval n a k).left b k).left c (.cons x w (.cons f (.clo f x s t c r) r))
    | o, u => .of (o.act u w) (eval (eval n a k).left b k).left := by
 have h1 := Ez n a k
 have h2 := Ez (eval n a k).left b k
 show ev (n + 1 + 1) (n + 1) (.bin o a b) k = _
 rw [ev]
 have e1 : ev (n + 1) n a k = eval n a k := rfl
 have e2 : ev (n + 1) (eval n a k).left b k = eval (eval n a k).left b k := Sq (by omega) _ _
 rw [e1, e2]
 cases (eval n a k).v with
 | none => rfl
 | some u =>
  simp only
  cases (eval (eval n a k).left b k).v with
  | none => rfl
  | some w =>
   simp only
   split
   ·exact Sq (by omega) _ _
   ·rfl
theorem Mv (n : Nat) (a b c : Ex) (k : KE) : eval (n + 1) (.ite a b c) k =
  match (eval n a k).v with
  | none => eval n a k
  | some (.num s) => eval (eval n a k).left (if s = [48] then b else c) k
  | some _ => ⟨none, (eval n a k).left, true⟩ := by
 have h1 := Ez n a k
 show ev (n + 1 + 1) (n + 1) (.ite a b c) k = _
 rw [ev]
 have e1 : ev (n + 1) n a k = eval n a k := rfl
 rw [e1]
 split
 ·rfl
 ·exact Sq (by omega) _ _
 ·rfl
theorem Pe (n : Nat) (x : Au) (a b : Ex) (k : KE) : eval (n + 1) (.lt x a b) k =
  match (eval n a k).v with
  | none => eval n a k
  | some u => eval (eval n a k).left b (.cons x u k) := by
 have h1 := Ez n a k
 show ev (n + 1 + 1) (n + 1) (.lt x a b) k = _
 rw [ev]
 have e1 : ev (n + 1) n a k = eval n a k := rfl
 rw [e1]
 split
 ·rfl
 ·exact Sq (by omega) _ _
theorem Pf (n : Nat) (o : U2) (a : Ex) (k : KE) : eval (n + 1) (.un o a) k =
  match (eval n a k).v with
  | none => eval n a k
  | some u => .of (o.act u) (eval n a k).left := rfl
mutual
def KV.ex : KV → Ex
 | .num s => .num s
 | .pair a b => .bin .pair a.ex b.ex
 | .clo f x s t b r => .fn f x s t (r.cl [f, x] b)
def KE.cl : KE → List Au → Ex → Ex
 | .nil, _, e => e
 | .cons n v up, bd, e => up.cl bd (e.putIf n v.ex bd)
end
def KE.dom : KE → List Au
 | .nil => []
 | .cons n _ up => n :: up.dom
mutual
def KV.wf : KV → Prop
 | .num s => Bt s = true
 | .pair a b => a.wf ∧ b.wf
 | .clo f x s t b r => r.wf ∧ (Ex.fn f x s t b).ok = true ∧ ∀ y ∈ b.occ [], y ∈ [f, x] ∨ y ∈ r.dom
def KE.wf : KE → Prop
 | .nil => True
 | .cons n v up => Bs n = true ∧ v.wf ∧ up.wf
end
theorem Y8 (s n : Au) (v : Ex) (a : List Au) : (Ex.num s).putIf n v a = .num s := by unfold Ex.putIf; split <;> rfl
theorem Z0 : ∀ (r : KE) (bd : List Au) (s : Au), r.cl bd (.num s) = .num s
 | .nil, _, _ => rfl
 | .cons n v up, bd, s => by rw [KE.cl, Y8]; exact Z0 up bd s
theorem Zy : ∀ (r : KE) (bd : List Au) (o : B5) (a b : Ex), r.cl bd (.bin o a b) = .bin o (r.cl bd a) (r.cl bd b)
 | .nil, _, _, _, _ => rfl
 | .cons n v up, bd, o, a, b => by rw [KE.cl, Ru]; exact Zy up bd o _ _
theorem Zz : ∀ (r : KE) (bd : List Au) (a b c : Ex), r.cl bd (.ite a b c) = .ite (r.cl bd a) (r.cl bd b) (r.cl bd c)
 | .nil, _, _, _, _ => rfl
 | .cons n v up, bd, a, b, c => by rw [KE.cl, Rv]; exact Zz up bd _ _ _
theorem Acp : ∀ (r : KE) (bd : List Au) (o : U2) (a : Ex), r.cl bd (.un o a) = .un o (r.cl bd a)
 | .nil, _, _, _ => rfl
 | .cons n v up, bd, o, a => by rw [KE.cl, Vd]; exact Acp up bd o _
theorem Aco : ∀ (r : KE) (bd : List Au) (x : Au) (a b : Ex), r.cl bd (.lt x a b) = .lt x (r.cl bd a) (r.cl (bd ++ [x]) b)
 | .nil, _, _, _, _ => rfl
 | .cons n v up, bd, x, a, b => by rw [KE.cl, Vc]; exact Aco up bd x _ _
theorem Acn : ∀ (r : KE) (bd : List Au) (f x : Au) (s t : Ty) (b : Ex), r.cl bd (.fn f x s t b) = .fn f x s t (r.cl (bd ++ [f, x]) b)
 | .nil, _, _, _, _, _, _ => rfl
 | .cons n v up, bd, f, x, s, t, b => by rw [KE.cl, Vb]; exact Acn up bd f x s t _
theorem Gh {n x : Au} {v w : Ex} (hv : v.occ [] = []) (hw : w.occ [] = []) (h : n ≠ x) : ∀ e : Ex, (e.put n v).put x w = (e.put x w).put n v
 | .num _ => rfl
 | .name s => by
  simp only [Ex.put]
  by_cases h1 : s = n
  ·have h2 : ¬ s = x := fun e => h (h1.symm.trans e)
   simp only [h1, if_true, if_neg h, Ex.put]
   rw [Ex.put_id (by rw [hv]; simp)]
  ·by_cases h2 : s = x
   ·simp only [h2, if_true, if_neg (Ne.symm h), Ex.put]
    rw [Ex.put_id (by rw [hw]; simp)]
   ·simp only [h1, h2, if_false, Ex.put]
 | .bin o a b => by simp only [Ex.put, Gh hv hw h a, Gh hv hw h b]
 | .ite a b c => by simp only [Ex.put, Gh hv hw h a, Gh hv hw h b, Gh hv hw h c]
 | .lt y a b => by
  simp only [Ex.put, Gh hv hw h a]
  by_cases h1 : y = n
  ·by_cases h2 : y = x
   ·simp only [h1, h2, if_true]
   ·simp only [h1, if_true]
  ·by_cases h2 : y = x
   ·simp only [h2, if_true]
   ·simp only [h1, h2, if_false, Gh hv hw h b]
 | .fn f y s t b => by
  simp only [Ex.put]
  by_cases h1 : f = n ∨ y = n
  ·by_cases h2 : f = x ∨ y = x
   ·simp only [if_pos h1, if_pos h2]
   ·simp only [if_pos h1, if_neg h2]
  ·by_cases h2 : f = x ∨ y = x
   ·simp only [if_pos h2, if_neg h1]
   ·simp only [if_neg h1, if_neg h2, Gh hv hw h b]
 | .un o a => by simp only [Ex.put, Gh hv hw h a]
theorem Tm {e : Ex} (h : e.occ [] = []) (n : Au) (v : Ex) (bd : List Au) : e.putIf n v bd = e := by
 unfold Ex.putIf
 split
 ·rfl
 ·exact Ex.put_id (by rw [h]; simp)
theorem Q7 : ∀ (r : KE) (bd : List Au) {e : Ex}, e.occ [] = [] → r.cl bd e = e
 | .nil, _, _, _ => rfl
 | .cons n v up, bd, e, h => by rw [KE.cl, Tm h]; exact Q7 up bd h
theorem T4 : ∀ (r : KE) {bd bd' : List Au} (_ : ∀ n, n ∈ bd ↔ n ∈ bd') (e : Ex), r.cl bd e = r.cl bd' e
 | .nil, _, _, _, _ => rfl
 | .cons n v up, bd, bd', h, e => by
  rw [KE.cl, KE.cl]
  have : e.putIf n v.ex bd = e.putIf n v.ex bd' := by
   by_cases hn : n ∈ bd
   ·rw [I9 hn, I9 ((h n).1 hn)]
   ·rw [E8 hn, E8 (fun h' => hn ((h n).2 h'))]
  rw [this]; exact T4 up h _
mutual
theorem KV.closed : ∀ {v : KV}, v.wf → v.ex.occ [] = [] ∧ v.ex.value = true ∧ v.ex.ok = true
 | .num s, h => ⟨rfl, rfl, h⟩
 | .pair a b, h => by
  have h1 := KV.closed h.1
  have h2 := KV.closed h.2
  exact ⟨by simp only [KV.ex, Ex.occ, h1.1, h2.1, List.append_nil], by simp only [KV.ex, Ex.value, h1.2.1, h2.2.1, Bool.and_self], by simp only [KV.ex, Ex.ok, h1.2.2, h2.2.2, Bool.and_self]⟩
 | .clo f x s t b r, h => by
  have hok := h.2.1
  simp only [Ex.ok, Bool.and_eq_true] at hok
  obtain ⟨h1, h2⟩ := KE.closed h.1 [f, x] b hok.2; refine ⟨?_, rfl, ?_⟩
  ·show (r.cl [f, x] b).occ ([] ++ [f, x]) = []
   rw [Qc]; intro y hy; obtain ⟨hy1, hy2⟩ := h1 y hy
   rcases h.2.2 y hy1 with h3 | h3
   ·exact h3
   ·rcases hy2 with h4 | h4
    ·exact h4
    ·exact absurd h3 h4
  ·simp only [KV.ex, Ex.ok, Bool.and_eq_true]
   exact ⟨hok.1, h2⟩
theorem KE.closed : ∀ {r : KE}, r.wf → ∀ (bd : List Au) (e : Ex), e.ok = true → (∀ y ∈ (r.cl bd e).occ [], y ∈ e.occ [] ∧ (y ∈ bd ∨ y ∉ r.dom)) ∧ (r.cl bd e).ok = true
 | .nil, _, bd, e, he => ⟨fun y hy => ⟨hy, .inr (by simp [KE.dom])⟩, he⟩
 | .cons n v up, h, bd, e, he => by
  have hv := KV.closed h.2.1
  have hok : (e.putIf n v.ex bd).ok = true := by
   unfold Ex.putIf
   split
   ·exact he
   ·exact Ex.put_ok he hv.2.2
  obtain ⟨h1, h2⟩ := KE.closed h.2.2 bd (e.putIf n v.ex bd) hok; refine ⟨fun y hy => ?_, h2⟩; obtain ⟨h3, h4⟩ := h1 y hy
  by_cases hn : n ∈ bd
  ·rw [I9 hn] at h3; refine ⟨h3, ?_⟩
   rcases h4 with h4 | h4
   ·exact .inl h4
   ·by_cases hyn : y = n
    ·exact .inl (hyn ▸ hn)
    ·exact .inr (by simp only [KE.dom, List.mem_cons, not_or]; exact ⟨hyn, h4⟩)
  ·rw [E8 hn] at h3; obtain ⟨h5, h6⟩ := (Ex.put_occ hv.1).1 h3; refine ⟨h5, ?_⟩
   rcases h4 with h4 | h4
   ·exact .inl h4
   ·exact .inr (by simp only [KE.dom, List.mem_cons, not_or]; exact ⟨h6, h4⟩)
end
theorem Ng : ∀ {r : KE} (_ : r.wf) {bd : List Au} {x : Au} {w : Ex} (_ : w.occ [] = []) (_ : x ∉ bd) (e : Ex), r.cl bd (e.put x w) = (r.cl (bd ++ [x]) e).put x w
 | .nil, _, _, _, _, _, _, _ => rfl
 | .cons n v up, h, bd, x, w, hw, hx, e => by
  have hv := (KV.closed h.2.1).1
  rw [KE.cl, KE.cl]
  by_cases hn : n ∈ bd
  ·rw [I9 hn, I9 (show n ∈ bd ++ [x] by simp [hn])]
   exact Ng h.2.2 hw hx e
  ·rw [E8 hn]
   by_cases hnx : n = x
   ·subst hnx; rw [I9 (show n ∈ bd ++ [n] by simp)]; rw [Ex.put_id (e := e.put n w) (by rw [Ex.put_occ hw]; simp)]
    exact Ng h.2.2 hw hx e
   ·rw [E8 (show n ∉ bd ++ [x] by simp [hn, hnx]), Gh hw hv (Ne.symm hnx)]
    exact Ng h.2.2 hw hx _
theorem Xh : ∀ {r : KE} (_ : r.wf) (s : Au), (∀ v, r.look s = some v → r.cl [] (.name s) = v.ex ∧ v.wf) ∧ (r.look s = none → s ∉ r.dom)
 | .nil, _, s => ⟨fun v hv => (by cases hv), fun _ => (by simp [KE.dom])⟩
 | .cons n v up, h, s => by
  simp only [KE.look, KE.cl]
  by_cases hn : n = s
  ·subst hn; refine ⟨fun u hu => ?_, fun hu => by rw [if_pos rfl] at hu; cases hu⟩; rw [if_pos rfl] at hu; obtain rfl := Option.some.inj hu; rw [E8 (by simp)]
   simp only [Ex.put, if_true]
   exact ⟨Q7 up [] (KV.closed h.2.1).1, h.2.1⟩
  ·rw [if_neg hn, E8 (by simp)]
   simp only [Ex.put, if_neg (Ne.symm hn)]
   obtain ⟨h1, h2⟩ := Xh h.2.2 s
   exact ⟨h1, fun hu => by simp only [KE.dom, List.mem_cons, not_or]; exact ⟨Ne.symm hn, h2 hu⟩⟩
inductive Goes : Ex → Ex → Prop
 | refl {e : Ex} : Goes e e
 | next {e d f : Ex} : e.step = some d → Goes d f → Goes e f
theorem Goes.trans {a b c : Ex} (h : Goes a b) (h' : Goes b c) : Goes a c := by
 induction h with
 | refl => exact h'
 | next hs _ ih => exact .next hs (ih h')
theorem Gj {e d : Ex} (h : e.step = some d) : e.value = false := by
 cases hv : e.value with
 | false => rfl
 | true => rw [W6 hv] at h; cases h
theorem Goes.bin1 {o : B5} {a a' b : Ex} (h : Goes a a') : Goes (.bin o a b) (.bin o a' b) := by
 induction h with
 | refl => exact .refl
 | next hs _ ih => exact .next (by simp only [Ex.step, Gj hs, if_true, hs, Option.map_some]) ih
theorem Goes.bin2 {o : B5} {a b b' : Ex} (ha : a.value = true) (h : Goes b b') : Goes (.bin o a b) (.bin o a b') := by
 induction h with
 | refl => exact .refl
 | next hs _ ih => exact .next (by simp only [Ex.step, ha, Bool.true_eq_false, if_false, Gj hs, if_true, hs, Option.map_some]) ih
theorem Goes.ite1 {a a' b c : Ex} (h : Goes a a') : Goes (.ite a b c) (.ite a' b c) := by
 induction h with
 | refl => exact .refl
 | next hs _ ih => exact .next (by simp only [Ex.step, Gj hs, if_true, hs, Option.map_some]) ih
theorem Goes.lt1 {x : Au} {a a' b : Ex} (h : Goes a a') : Goes (.lt x a b) (.lt x a' b) := by
 induction h with
 | refl => exact .refl
 | next hs _ ih => exact .next (by simp only [Ex.step, Gj hs, if_true, hs, Option.map_some]) ih
theorem Goes.un1 {o : U2} {a a' : Ex} (h : Goes a a') : Goes (.un o a) (.un o a') := by
 induction h with
 | refl => exact .refl
 | next hs _ ih => exact .next (by simp only [Ex.step, Gj hs, if_true, hs, Option.map_some]) ih
theorem Goes.end {e v d : Ex} (h : Goes e v) (hv : v.step = none) (h' : Goes e d) (hd : d.step = none) : v = d := by
 induction h with
 | refl =>
  cases h' with
  | refl => rfl
  | next hs _ => rw [hv] at hs; cases hs
 | next hs _ ih =>
  cases h' with
  | refl => rw [hd] at hs; cases hs
  | next hs' h2 =>
   rw [hs] at hs'; obtain rfl := Option.some.inj hs'
   exact ih hv h2
def Ex.jam (e : Ex) : Prop := e.value = false ∧ e.step = none
theorem Aaw {o : B5} {a b : Ex} (h : a.jam) : (Ex.bin o a b).jam := ⟨by cases o <;> simp [Ex.value, h.1], by simp only [Ex.step, h.1, if_true, h.2, Option.map_none]⟩
theorem Aax {o : B5} {a b : Ex} (ha : a.value = true) (h : b.jam) : (Ex.bin o a b).jam := ⟨by cases o <;> simp [Ex.value, h.1], by simp only [Ex.step, ha, Bool.true_eq_false, if_false, h.1, if_true, h.2, Option.map_none]⟩
theorem Ab9 {a b c : Ex} (h : a.jam) : (Ex.ite a b c).jam := ⟨rfl, by simp only [Ex.step, h.1, if_true, h.2, Option.map_none]⟩
theorem Adb {x : Au} {a b : Ex} (h : a.jam) : (Ex.lt x a b).jam := ⟨rfl, by simp only [Ex.step, h.1, if_true, h.2, Option.map_none]⟩
theorem Adc {o : U2} {a : Ex} (h : a.jam) : (Ex.un o a).jam := ⟨rfl, by simp only [Ex.step, h.1, if_true, h.2, Option.map_none]⟩
def Res.says (r : Res) (e : Ex) : Prop := match r.v with
 | some w => w.wf ∧ Goes e w.ex ∧ r.stuck = false
 | none => r.stuck = true → ∃ d, Goes e d ∧ d.jam
theorem Res.says.from {r : Res} {e e' : Ex} (h : r.says e') (hg : Goes e e') : r.says e := by
 unfold Res.says at h ⊢
 split at h
 ·exact ⟨h.1, hg.trans h.2.1, h.2.2⟩
 ·intro hs; obtain ⟨d, h1, h2⟩ := h hs; exact ⟨d, hg.trans h1, h2⟩
theorem Res.says.up {r : Res} {e e' : Ex} (hn : r.v = none) (h : r.says e') (hg : ∀ d, Goes e' d → d.jam → ∃ d', Goes e d' ∧ d'.jam) : r.says e := by
 unfold Res.says at h ⊢
 rw [hn] at h ⊢; intro hs; obtain ⟨d, h1, h2⟩ := h hs
 exact hg d h1 h2
theorem Res.says.some {r : Res} {e : Ex} {w : KV} (hn : r.v = Option.some w) (h : r.says e) : w.wf ∧ Goes e w.ex := by
 unfold Res.says at h
 rw [hn] at h
 exact ⟨h.1, h.2.1⟩
theorem Zq {o : B5} {u w : KV} (hu : u.wf) (hw : w.wf) (n : Nat) (hc : ∀ f x s t b r, ¬ (o = .call ∧ u = .clo f x s t b r)) : (Res.of (o.act u w) n).says (.bin o u.ex w.ex) := by
 have vu := (KV.closed hu).2.1
 have vw := (KV.closed hw).2.1
 have hst : (Ex.bin o u.ex w.ex).step = (Ex.bin o u.ex w.ex).turn := by simp only [Ex.step, vu, vw, Bool.true_eq_false, if_false]
 cases o with
 | pair => exact ⟨⟨hu, hw⟩, .refl, rfl⟩
 | call =>
  intro _; refine ⟨_, .refl, rfl, ?_⟩; rw [hst]
  cases u with
  | num s => cases w <;> rfl
  | pair a b => rfl
  | clo f x s t b r => exact absurd ⟨rfl, rfl⟩ (hc f x s t b r)
 | _ =>
  cases u with
  | num s =>
   cases w with
   | num q => exact ⟨(Qh _ s q).1, .next (by rw [hst]; rfl) .refl, rfl⟩
   | _ => exact fun _ => ⟨_, .refl, rfl, by rw [hst]; rfl⟩
  | pair a b => exact fun _ => ⟨_, .refl, rfl, by rw [hst]; rfl⟩
  | clo f x s t b r => exact fun _ => ⟨_, .refl, rfl, by rw [hst]; cases w <;> rfl⟩
theorem Xw {o : U2} {u : KV} (hu : u.wf) (n : Nat) : (Res.of (o.act u) n).says (.un o u.ex) := by
 have vu := (KV.closed hu).2.1
 have hst : (Ex.un o u.ex).step = (Ex.un o u.ex).turn := by simp only [Ex.step, vu, Bool.true_eq_false, if_false]
 cases u with
 | pair a b =>
  cases o with
  | fst => exact ⟨hu.1, .next (by rw [hst]; rfl) .refl, rfl⟩
  | snd => exact ⟨hu.2, .next (by rw [hst]; rfl) .refl, rfl⟩
 | num s => cases o <;> exact fun _ => ⟨_, .refl, rfl, by rw [hst]; rfl⟩
 | clo f x s t b r => cases o <;> exact fun _ => ⟨_, .refl, rfl, by rw [hst]; rfl⟩
theorem Ra : ∀ (n : Nat) (e : Ex) (k : KE), k.wf → e.ok = true → (∀ y ∈ e.occ [], y ∈ k.dom) → (eval n e k).says (k.cl [] e) := by
 intro n
 induction n using Nat.strongRecOn with
 | _ n ih =>
  intro e k hk hok hd
  cases n with
  | zero => rw [Rb]; exact fun h => by cases h
  | succ n =>
   have hl := fun e k => Ez n e k
   cases e with
   | num s => rw [Ps, Z0]; exact ⟨hok, .refl, rfl⟩
   | name s =>
    rw [Q9]; obtain ⟨h1, h2⟩ := Xh hk s
    cases hs : k.look s with
    | none => exact fun h => by cases h
    | some v => obtain ⟨h3, h4⟩ := h1 v hs; rw [h3]; exact ⟨h4, .refl, rfl⟩
   | fn f x s t b =>
    rw [Ss, Acn]; refine ⟨⟨hk, hok, fun y hy => ?_⟩, .refl, rfl⟩
    by_cases hm : y ∈ [f, x]
    ·exact .inl hm
    ·exact .inr (hd y (show y ∈ b.occ ([] ++ [f, x]) from Ex.occ_mem.2 ⟨hy, by simpa using hm⟩))
   | bin o a b =>
    simp only [Ex.ok, Bool.and_eq_true] at hok
    have ha := ih n (by omega) a k hk hok.1 (fun y hy => hd y (List.mem_append_left _ hy))
    have hb := ih (eval n a k).left (by have := hl a k; omega) b k hk hok.2 (fun y hy => hd y (List.mem_append_right _ hy))
    have hlb := Ez (eval n a k).left b k
    have hla := hl a k
    rw [Hg, Zy]
    cases hp : (eval n a k).v with
    | none => exact ha.up hp fun d h1 h2 => ⟨_, .bin1 h1, Aaw h2⟩
    | some u =>
     obtain ⟨hu, gu⟩ := ha.some hp
     simp only
     cases hq : (eval (eval n a k).left b k).v with
     | none => exact (hb.up hq fun d h1 h2 => ⟨_, .bin2 (KV.closed hu).2.1 h1, Aax (KV.closed hu).2.1 h2⟩ : Res.says _ (.bin o u.ex (k.cl [] b))).from gu.bin1
     | some w =>
      obtain ⟨hw, gw⟩ := hb.some hq
      have g2 : Goes (.bin o (k.cl [] a) (k.cl [] b)) (.bin o u.ex w.ex) := gu.bin1.trans (.bin2 (KV.closed hu).2.1 gw)
      simp only
      split
      ·rename_i o' u' f x s t c r
       have hcl := hu
       obtain ⟨hr, hfok, hfd⟩ := hu
       have hfok' := hfok
       simp only [Ex.ok, Bool.and_eq_true, decide_eq_true_eq] at hfok'
       obtain ⟨⟨⟨⟨⟨nf, nx⟩, hfx⟩, _⟩, _⟩, hcok⟩ := hfok'; refine (ih _ (by omega) c (.cons x w (.cons f (.clo f x s t c r) r)) ⟨nx, hw, nf, hcl, hr⟩ hcok (fun y hy => ?_)).from (g2.trans (.next ?_ .refl))
       ·simp only [KE.dom, List.mem_cons]
        rcases hfd y hy with h | h
        ·simp only [List.mem_cons, List.not_mem_nil, or_false] at h
         rcases h with h | h
         ·exact .inr (.inl h)
         ·exact .inl h
        ·exact .inr (.inr h)
       ·have vw := (KV.closed hw).2.1
        simp only [Ex.step, (KV.closed hcl).2.1, vw, Bool.true_eq_false, if_false]
        show some (((r.cl [f, x] c).put f (KV.clo f x s t c r).ex).put x w.ex) = _
        congr 1
        simp only [KE.cl]
        rw [E8 (by simp), E8 (by simp)]; rw [Gh (KV.closed hw).1 (KV.closed hcl).1 (Ne.symm hfx)]; rw [Ng hr (KV.closed hw).1 (by simp), Ng hr (KV.closed hcl).1 (by simpa using hfx)]; rw [T4 r (bd := [f, x]) (bd' := [] ++ [x] ++ [f]) (by intro n; simp [or_comm])]
      ·rename_i hno
       exact (Zq hu hw _ (fun f x s t c r h => hno f x s t c r h.1 h.2)).from g2
   | ite a b c =>
    simp only [Ex.ok, Bool.and_eq_true] at hok
    have ha := ih n (by omega) a k hk hok.1.1 (fun y hy => hd y (List.mem_append_left _ (List.mem_append_left _ hy)))
    have hla := hl a k
    rw [Mv, Zz]
    split
    ·rename_i hp; exact ha.up hp fun d h1 h2 => ⟨_, .ite1 h1, Ab9 h2⟩
    ·rename_i s hp
     obtain ⟨hu, gu⟩ := ha.some hp
     have hst : (Ex.ite (.num s) (k.cl [] b) (k.cl [] c)).step = some (k.cl [] (if s = [48] then b else c)) := by
      simp only [Ex.step, Ex.value, Bool.true_eq_false, if_false, Ex.turn]
      split <;> rfl
     refine (ih _ (by omega) _ k hk ?_ ?_).from (gu.ite1.trans (.next hst .refl))
     ·split
      ·exact hok.1.2
      ·exact hok.2
     ·split
      ·exact fun y hy => hd y (List.mem_append_left _ (List.mem_append_right _ hy))
      ·exact fun y hy => hd y (List.mem_append_right _ hy)
    ·rename_i u hno hp
     obtain ⟨hu, gu⟩ := ha.some hp; intro _; refine ⟨_, gu.ite1, rfl, ?_⟩
     simp only [Ex.step, (KV.closed hu).2.1, Bool.true_eq_false, if_false]
     cases u with
     | num s => exact absurd rfl (hno s)
     | pair a b => rfl
     | clo f x s t b r => rfl
   | lt x a b =>
    simp only [Ex.ok, Bool.and_eq_true] at hok
    have ha := ih n (by omega) a k hk hok.1.2 (fun y hy => hd y (List.mem_append_left _ hy))
    have hla := hl a k
    rw [Pe, Aco]
    split
    ·rename_i hp; exact ha.up hp fun d h1 h2 => ⟨_, .lt1 h1, Adb h2⟩
    ·rename_i u hp
     obtain ⟨hu, gu⟩ := ha.some hp; refine (ih _ (by omega) b (.cons x u k) ⟨hok.1.1, hu, hk⟩ hok.2 (fun y hy => ?_)).from (gu.lt1.trans (.next ?_ .refl))
     ·simp only [KE.dom, List.mem_cons]
      by_cases hyx : y = x
      ·exact .inl hyx
      ·exact .inr (hd y (List.mem_append_right _ (show y ∈ b.occ ([] ++ [x]) from Ex.occ_mem.2 ⟨hy, by simpa using hyx⟩)))
     ·simp only [Ex.step, (KV.closed hu).2.1, Bool.true_eq_false, if_false, Ex.turn, KE.cl]
      rw [E8 (by simp), Ng hk (KV.closed hu).1 (by simp)]
   | un o a =>
    have ha := ih n (by omega) a k hk hok (fun y hy => hd y hy)
    rw [Pf, Acp]
    split
    ·rename_i hp; exact ha.up hp fun d h1 h2 => ⟨_, .un1 h1, Adc h2⟩
    ·rename_i u hp
     obtain ⟨hu, gu⟩ := ha.some hp
     exact (Xw hu _).from gu.un1
section
variable {P : Program} {f : FuncId} {n : Nat} {I₀ : Heap} {Q : C1} {k : List Item} {E : G7} {I : Heap} {L : Bl} {ops : Array Oper} {d : Nat} {ty : TypeId} {pos : String} {af : Array Edge} {g : Option (Nat × Bool)} {l : List Oper}
theorem Vg {T e sz bb : Nat} {z : List Value} [ht : At P T (.pointer e) sz bb z] (p : Option Addr) (w : World) : (Op.equal T (.pointer p) (.pointer none)).run P w = .ok p.isNone w := by
 refine run_equal_pointer_nil w T p ?_; rw [ht.und]; unfold Program.pointee; rw [ht.und]
theorem Zg {S : World → Prop} {T T' e sz bb : Nat} {z : List Value} [ht : At P T (.pointer e) sz bb z] {x y : Operand} {oa : Option Addr} (hx : Ba E x = some (.pointer oa)) (hy : Ba E y = some (.pointer none)) :
  Gz P E S ⟨some d, .binOp .eql T x y T', ty, pos, af, g⟩ (.bool oa.isNone) := fun ac w he _ => by
 simp only [execOp, he.eval hx, he.eval hy]
 refine Ac (a := _) (w' := w) ?_ |>.trans rfl
 rw [Ac (Gx w)]
 simp only [binOp]
 exact Ac (Vg oa w) |>.trans rfl
theorem Hb {T T' e sz bb : Nat} {z : List Value} [ht : At P T (.pointer e) sz bb z] {x y : Operand} {oa : Option Addr} (hx : Ba E x = some (.pointer oa)) (hy : Ba E y = some (.pointer none)) (hg : Wants ops E g) (hdn : Nat.blt d n = true)
  (h : A7 P f n I₀ Q ops l k ((d, .bool oa.isNone) :: E) I L) : A7 P f n I₀ Q ops (⟨some d, .binOp .eql T x y T', ty, pos, af, g⟩ :: l) k E I L := D4 (Zg hx hy) hg hdn h
theorem Zj {S : World → Prop} {T T' e sz bb : Nat} {z : List Value} [ht : At P T (.pointer e) sz bb z] {x y : Operand} {oa : Option Addr} (hx : Ba E x = some (.pointer oa)) (hy : Ba E y = some (.pointer none)) :
  Gz P E S ⟨some d, .binOp .neq T x y T', ty, pos, af, g⟩ (.bool (!oa.isNone)) := fun ac w he _ => by
 simp only [execOp, he.eval hx, he.eval hy]
 refine Ac (a := _) (w' := w) ?_ |>.trans rfl
 rw [Ac (Gx w)]
 simp only [binOp]
 exact Ac (Vg oa w) |>.trans rfl
theorem Rq {T T' e sz bb : Nat} {z : List Value} [ht : At P T (.pointer e) sz bb z] {x y : Operand} {oa : Option Addr} (hx : Ba E x = some (.pointer oa)) (hy : Ba E y = some (.pointer none)) (hg : Wants ops E g) (hdn : Nat.blt d n = true)
  (h : A7 P f n I₀ Q ops l k ((d, .bool (!oa.isNone)) :: E) I L) : A7 P f n I₀ Q ops (⟨some d, .binOp .neq T x y T', ty, pos, af, g⟩ :: l) k E I L := D4 (Zj hx hy) hg hdn h
end
mutual
inductive KVat : Heap → KV → Addr → Prop
 | num {I : Heap} {s : Au} {a : Addr} (h : Still I a [.string (str s), .slice none 0 0, .pointer none, .pointer none]) : KVat I (.num s) a
 | pair {I : Heap} {u v : KV} {a q pu pv : Addr} {c : Nat} (h : Still I a [.string (str []), .slice (some q) 2 c, .pointer none, .pointer none]) (hq : Still I q [.pointer (some pu), .pointer (some pv)]) (hc : 2 ≤ c) (hu : KVat I u pu) (hv : KVat I v pv) : KVat I (.pair u v) a
 | clo {I : Heap} {f x : Au} {s t : Ty} {b : Ex} {r : KE} {a fa o : Addr} {c : Nat} {pr : Option Addr} (h : Still I a [.string (str []), .slice none 0 0, .pointer (some fa), .pointer pr])
  (hf : Still I fa [.string (str []), .slice (some o) 6 c]) (hr : Rep I (Ex.fn f x s t b).tree [.string (str []), .slice (some o) 6 c]) (he : KEat I r pr) : KVat I (.clo f x s t b r) a
inductive KEat : Heap → KE → Option Addr → Prop
 | nil {I : Heap} : KEat I .nil none
 | cons {I : Heap} {n : Au} {v : KV} {up : KE} {a pv : Addr} {pu : Option Addr} (h : Still I a [.string (str n), .pointer (some pv), .pointer pu]) (hv : KVat I v pv) (hu : KEat I up pu) : KEat I (.cons n v up) (some a)
end
mutual
theorem KVat.mono {I I' : Heap} (hle : HLe I I') : ∀ {v : KV} {a : Addr}, KVat I v a → KVat I' v a
 | _, _, .num h => .num (h.mono hle)
 | _, _, .pair h hq hc hu hv => .pair (h.mono hle) (hq.mono hle) hc (hu.mono hle) (hv.mono hle)
 | _, _, .clo h hf hr he => .clo (h.mono hle) (hf.mono hle) (hr.mono hle) (he.mono hle)
theorem KEat.mono {I I' : Heap} (hle : HLe I I') : ∀ {r : KE} {p : Option Addr}, KEat I r p → KEat I' r p
 | _, _, .nil => .nil
 | _, _, .cons h hv hu => .cons (h.mono hle) (hv.mono hle) (hu.mono hle)
end
def RP? (I : Heap) (o : Option KV) (p : Option Addr) : Prop := match o with
 | some w => ∃ x, p = some x ∧ KVat I w x
 | none => p = none
def KL (o : Option KV) (I : Heap) (L : Bl) : C1 := fun v I' L' => ∃ p, v = .pointer p ∧ RP? I o p ∧ I = I' ∧ L = L'
theorem Ui {I : Heap} {r : KE} {p : Option Addr} (h : KEat I r p) (n : Au) (L : Bl) : Fun Tryz.prog 83 [.pointer p, .string (str n)] I L (KL (r.look n) I L) := by
 refine Ai (by simp) ?_; refine Se rfl (Oa rfl (Aa (Ab (Aj ?_)))); refine Dy (X := KE × Option Addr) (fun x => SizeOf.sizeOf x.1) (fun x => [(0, .pointer x.2), (1, .string (str n))]) (fun _ => I) (fun _ => L) (fun x => KEat I x.1 x.2 ∧ x.1.look n = r.look n) ⟨r, p⟩ ⟨h, rfl⟩ ⟨rfl, rfl, trivial⟩ (fun _ h => h) ?_; rintro ⟨k, q⟩ ⟨hk, hlk⟩ ih
 simp only at hk hlk ih ⊢
 refine Ab (Ab ?_)
 rcases hk with _ | @⟨m, v, up, a, pv, pu, hst, hv, hu⟩
 ·skip
  refine Ah rfl (Om rfl ?_); refine Rq rfl rfl .free rfl ?_; refine Aa ?_
  first | refine Sf rfl (by simp) ?_ | refine Ap (by simp [look, Ba, *]) ?_
  refine Bw rfl ?_; refine Se rfl (Oa rfl (Aa (Ad (.tmp rfl .nil) ?_))); refine ⟨I, L, .refl _, fun _ h => h, none, rfl, ?_, rfl, rfl⟩; rw [← hlk]; exact rfl
 ·skip
  refine Ah rfl (Om rfl ?_); refine Rq rfl rfl .free rfl ?_; refine Aa ?_
  first | refine St rfl (by simp) ?_ | refine Bj (by simp [look, Ba, *]) ?_
  refine Af (Ab (Aj (Se rfl (Om rfl ?_)))); refine B0 rfl .free rfl ?_
  first | refine Oh rfl ?_ | refine Oj rfl ?_
  refine Nx rfl .free rfl ?_; refine Om rfl (Od rfl rfl rfl (Aa ?_)); refine Ar rfl ?_ ?_
  ·intro c1
   try simp only [nb] at c1
   refine Se rfl (Om rfl ?_); refine B0 rfl .free rfl ?_
   first | refine Oh rfl ?_ | refine Oj rfl ?_
   refine Nx rfl .free rfl ?_; refine Oa rfl (Aa (Ad (.tmp rfl .nil) ?_)); refine ⟨I, L, .refl _, fun _ h => h, some pv, rfl, ?_, rfl, rfl⟩; rw [← hlk, KE.look, if_pos c1]; exact ⟨pv, rfl, hv⟩
  intro c1
  try simp only [nb] at c1
  have hlu : up.look n = r.look n := by rw [← hlk, KE.look, if_neg c1]
  refine Af (Al (Ah rfl (Om rfl ?_))); refine B0 rfl .free rfl ?_
  first | refine Oh rfl ?_ | refine Oj rfl ?_
  refine Nx rfl .free rfl ?_; refine Oa rfl (Aa ?_)
  exact Bo (E' := [(0, .pointer pu), (1, .string (str n))]) ⟨rfl, rfl, trivial⟩ (ih (up, pu) ⟨hu, hlu⟩ (by simp only [KE.cons.sizeOf_spec]; omega))
def Rc (b n : Nat) (st : Bool) : Nat × Obj := (b, .cells [.int .i64 (n : Nat), .bool st].toArray 55 (0, 0))
theorem K7 {I : Heap} {r : KE} {p : Option Addr} (h : KEat I r p) (n : Au) {v : KV} {x : Addr} (hv : KVat I v x) (L : Bl) : Fun Tryz.prog 87 [.pointer p, .string (str n), .pointer (some x)] I L (fun w I' L' => ∃ y, w = .pointer (some y) ∧ KEat I' (.cons n v r) (some y) ∧ L = L') := by
 refine Ai (by simp) ?_; refine Se rfl (Oa rfl (Aa (Se rfl ?_)))
 iterate 3 refine Om rfl ?_
 refine Bn rfl rfl rfl .free rfl ?_; refine Cd rfl rfl .free rfl ?_; intro b11; refine Oa rfl (Aa ?_); refine Be ?_; intro hz; refine Ad (.tmp rfl .nil) ?_
 exact ⟨_, L, hz, fun _ h => h, _, rfl, .cons (A5 (xs := [_, _, _]) (ys := [])) (hv.mono hz) (h.mono hz), rfl⟩
theorem Ep (I : Heap) (b n : Nat) (L : Bl) : Fun Tryz.prog 86 [.pointer (some ⟨b, 0, none⟩)] I (Rc b n false :: L) (fun v I' L' => v = .pointer none ∧ I = I' ∧ L' = Rc b n true :: L) := by
 unfold Rc
 refine Ai (by simp) ?_; refine Se rfl (Oa rfl (Aa (Se rfl (Om rfl ?_)))); refine B0 rfl .free rfl ?_
 first | refine Oh rfl ?_ | refine Oj rfl ?_
 refine Bk rfl rfl rfl rfl .free ?_; refine Aa (Se rfl (Oa rfl (Aa (Ad (.tmp rfl .nil) ?_))))
 exact ⟨I, _, .refl _, fun _ h => h, rfl, rfl, rfl⟩
section
variable {P : Program} {f : FuncId} {n : Nat} {I₀ : Heap} {Q : C1} {k : List Item} {E : G7} {I : Heap} {L : Bl} {ops : Array Oper} {d : Nat} {ty : TypeId} {pos : String} {af : Array Edge} {g : Option (Nat × Bool)}
theorem Ads {S : World → Prop} {fuel : Nat} {listed listed' : Array Bool} (i : Nat) {T : TypeId} {x : Operand} {v : Value} {vs : List Value}
  (hi : ops[i]? = some ⟨some d, .box T x, ty, pos, af, g⟩) (hc : decide (Region.ready .any ops listed = [i]) = true) (hl : listed' = listed.setIfInBounds i true) (hx : Ba E x = some v) (hv : Fn v = some vs) (hg : Wants ops E g) (hdn : Nat.blt d n = true) (hS : Fe ops listed' = true ∨ ∀ w, Mem I L w → S w)
  (h : ∀ b, Ct P f n I₀ Q ops S fuel listed' k ((d, .pointer (some ⟨b, 0, none⟩)) :: E) I ((b, .cells vs.toArray T (0, 0)) :: L)) : Ct P f n I₀ Q ops S (fuel + 1) listed k E I L :=
 Sk [i] hc rfl fun j hj => by
  obtain rfl := List.mem_singleton.1 hj; refine M0 j hi hl rfl hdn (fun a he => hg.wanted a he) fun a w he hm => ?_
  refine ⟨_, _, I, (w.heap.size, .cells vs.toArray T (0, 0)) :: L, ?_, hm.alloc _, hS.imp id fun hs w' hm' => hs w' hm'.drop, h _⟩
  simp only [execOp, Instr.box, he.eval hx, newVar, newRow, newObj, Ic hv]
  rfl
end
theorem Still.cellAt {I : Heap} {a : Addr} {vs : List Value} (h : Still I a vs) (k : Nat) {v : Value} (hk : vs[k]? = some v) : Still I (a.add k) [v] := by
 rcases h with h | ⟨c, T, fr, hb, hs, hc⟩
 ·subst h; simp at hk
 ·have hlt : k < vs.length := by
   rcases Nat.lt_or_ge k vs.length with g | g
   ·exact g
   ·rw [List.getElem?_eq_none g] at hk; cases hk
  have hb' : I.get (a.add k).block = some (.cells c T fr) := by unfold Addr.add; split <;> exact hb
  have hs' : (a.add k).spot = none := by unfold Addr.add; split <;> simp [hs]
  have ho : (a.add k).off = a.off + k := by unfold Addr.add; split <;> simp [*]
  refine .inr ⟨c, T, fr, hb', hs', fun i hi => ?_⟩
  have h0 : i = 0 := by simpa using hi
  subst h0
  have := hc k hlt
  rw [List.getElem?_eq_getElem hlt] at hk; obtain rfl := Option.some.inj hk; rw [ho]; simpa using this
def KV.nt : KV → Au
 | .num s => s
 | _ => []
theorem KVat.cell {I : Heap} {v : KV} {a : Addr} (h : KVat I v a) : ∃ x1 x2 x3, Still I a [.string (str v.nt), x1, x2, x3] := by
 cases h with
 | num h => exact ⟨_, _, _, h⟩
 | pair h => exact ⟨_, _, _, h⟩
 | clo h => exact ⟨_, _, _, h⟩
theorem Wo {v : KV} (hw : v.wf) (h : ¬ v.nt = []) : ∃ s, v = .num s ∧ Bt s = true := by
 cases v with
 | num s => exact ⟨s, rfl, hw⟩
 | pair a b => exact absurd rfl h
 | clo f x s t b r => exact absurd rfl h
theorem Wp {s : Au} (h : Bt s = true) : ¬ s = [] := fun e => by subst e; cases h
theorem Zp {o : B5} {u w : KV} (hu : u.wf) (hw : w.wf) (hp : o ≠ .pair) (h : u.nt = [] ∨ w.nt = []) : o.act u w = none := by
 cases o with
 | pair => exact absurd rfl hp
 | call => rfl
 | _ =>
  cases u with
  | num s =>
   cases w with
   | num q => exact absurd h (by intro h; rcases h with h | h; exact Wp hu h; exact Wp hw h)
   | _ => rfl
  | _ => cases w <;> rfl
def ER (b n : Nat) (o : Option KV) (L : Bl) : C1 := fun v I' L' => ∃ p, v = .pointer p ∧ RP? I' o p ∧ L' = Rc b n o.isNone :: L
theorem Sz {I : Heap} (ht : Tab I) {o : B5} (ho : o ≠ .call) {u w : KV} (wu : u.wf) (ww : w.wf) {pu pw q : Addr} {c : Nat} (hq : Still I q [.pointer (some pu), .pointer (some pw)]) (hc : 2 ≤ c) (hu : KVat I u pu) (hw : KVat I w pw) (b n : Nat) (L : Bl) :
  Fun Tryz.prog 88 [.pointer (some ⟨b, 0, none⟩), .string (str o.txt), .slice (some q) 2 c] I (Rc b n false :: L) (ER b n (o.act u w) L) := by
 obtain ⟨x1, x2, x3, su⟩ := hu.cell; obtain ⟨y1, y2, y3, sw⟩ := hw.cell
 have q0 : Still I (q.add (0 * 1)) [.pointer (some pu)] := hq.cellAt 0 rfl
 have q1 : Still I (q.add (1 * 1)) [.pointer (some pw)] := hq.cellAt 1 rfl
 have hfs : ¬ o.txt = [102, 115, 116] := Q3 o .fst
 have hsn : ¬ o.txt = [115, 110, 100] := Q3 o .snd
 refine Ai (by simp) ?_; refine Se rfl (Oa rfl (Aa (Ab (Se rfl (Om rfl (Aa (Aj (Se rfl (Od rfl rfl rfl (Oa rfl (Aa ?_))))))))))); refine Ar rfl ?_ ?_
 ·intro c0
  try simp only [nb] at c0
  obtain rfl : o = .pair := B5.txt_inj (o' := .pair) c0; refine Se rfl (Om rfl ?_); refine Bn rfl rfl rfl .free rfl ?_; refine Cd rfl rfl .free rfl ?_; intro b12; refine Oa rfl (Aa ?_); refine Be ?_; intro hz; refine Ad (.tmp rfl .nil) ?_
  exact ⟨_, _, hz, fun _ h => h, _, rfl, ⟨_, rfl, .pair (A5 (xs := [_, _, _, _]) (ys := [])) (hq.mono hz) hc (hu.mono hz) (hw.mono hz)⟩, rfl⟩
 intro c0
 try simp only [nb] at c0
 have hop : o ≠ .pair := fun e => c0 (by rw [e]; rfl)
 refine Ab (Se rfl (Od rfl rfl rfl (Oa rfl (Aa ?_))))
 first | refine Lz rfl (hfs) ?_ | refine Ly rfl (hfs) ?_ | refine Ap (by simp [look, Ba, *]) ?_
 refine Ah rfl (Od rfl rfl rfl (Oa rfl (Aa ?_)))
 first | refine Lz rfl (hsn) ?_ | refine Ly rfl (hsn) ?_ | refine Ap (by simp [look, Ba, *]) ?_
 refine Af (Al (Ab (Se rfl (Om rfl ?_))))
 first | refine A3 rfl rfl 0 rfl .free rfl ?_ | refine A4 rfl rfl 0 rfl .free rfl ?_
 refine Dd rfl (Bf q0 rfl) .free rfl ?_; refine B0 rfl .free rfl ?_
 first | refine Oh rfl ?_ | refine Oj rfl ?_
 refine Dd rfl (Bp su (by rfl) rfl) .free rfl ?_; refine Od rfl rfl rfl (Om rfl ?_)
 apply G4 50 58 rfl
 ·intro g11_8 hk
  try simp only [nb] at g11_8
  refine Ow rfl ?_
  first | refine A3 rfl rfl 1 rfl (.met rfl rfl) rfl ?_ | refine A4 rfl rfl 1 rfl (.met rfl rfl) rfl ?_
  refine Dd rfl (Bf q1 rfl) (.met rfl rfl) rfl ?_; refine B0 rfl (.met rfl rfl) rfl ?_
  first | refine Bz rfl (.met rfl rfl) rfl ?_ | refine Av rfl (.met rfl rfl) rfl ?_
  refine Dd rfl (Bp sw (by rfl) rfl) (.met rfl rfl) rfl ?_; refine Hw rfl rfl rfl (.met rfl rfl) rfl ?_; refine Of rfl rfl ?_
  exact Bb 7 rfl rfl hk
 ·intro _ hk; refine Bm 7 rfl ?_; refine Ot rfl rfl ?_
  exact Bb 7 rfl rfl hk
 refine Aa ?_; refine Ar rfl ?_ ?_
 ·intro c5
  try simp only [nb] at c5
  refine Se rfl (Om rfl ?_); refine Ca rfl (Ep _ b n _) ?_; rintro _ _ _ _ ⟨rfl, rfl, rfl⟩; refine Oa rfl (Aa (Ad (.tmp rfl .nil) ?_))
  have hno : o.act u w = none := Zp wu ww hop c5
  exact ⟨I, _, .refl _, fun _ h => h, none, rfl, by rw [hno]; rfl, by rw [hno]; rfl⟩
 intro c5
 try simp only [nb] at c5
 obtain ⟨s, rfl, hs⟩ := Wo wu c5.1; obtain ⟨r, rfl, hr⟩ := Wo ww c5.2; refine Af (Ab ?_); refine B8 17 rfl rfl ?_; refine Da 0 rfl (Ae rfl) ?_; refine Da 1 rfl (Ae rfl) ?_
 first | refine Da 2 rfl (A1 rfl rfl 0 rfl) ?_ | refine Da 2 rfl (A2 rfl rfl 0 rfl) ?_
 refine Dt 3 [17] rfl (Fo rfl (Bf q0 rfl)) ?_; refine Da 4 rfl (D5 rfl) ?_
 first | refine Da 5 rfl (Ag rfl) ?_ | refine Da 5 rfl (A9 rfl) ?_
 refine Dt 6 [17] rfl (Fo rfl (Bp su (by rfl) rfl)) ?_; refine Da 7 rfl (Ae rfl) ?_
 first | refine Da 8 rfl (A1 rfl rfl 1 rfl) ?_ | refine Da 8 rfl (A2 rfl rfl 1 rfl) ?_
 refine Dt 9 [17] rfl (Fo rfl (Bf q1 rfl)) ?_; refine Da 10 rfl (D5 rfl) ?_
 first | refine Da 11 rfl (Ag rfl) ?_ | refine Da 11 rfl (A9 rfl) ?_
 refine Dt 12 [17] rfl (Fo rfl (Bp sw (by rfl) rfl)) ?_; refine Dc 13 rfl rfl (My ht o hs hr _) ?_; rintro _ _ _ _ ⟨rfl, rfl, rfl⟩; refine Hx ?_; refine Da 14 rfl (Eh rfl rfl rfl) ?_; refine Ads 15 rfl (by kernel_rfl) rfl rfl rfl .free rfl (.inr Am) ?_; intro b76; refine Da 16 rfl (Aw rfl) ?_; refine Ao (by kernel_rfl) ?_; refine Be ?_; intro hz; refine Ad (.tmp rfl .nil) ?_
 have hac : o.act (.num s) (.num r) = some (.num (K2 o s r)) := by
  cases o <;> first | rfl | exact absurd rfl ho | exact absurd rfl hop
 rw [hac]
 exact ⟨_, _, hz, fun _ h => h, _, rfl, ⟨_, rfl, .num (A5 (xs := [_, _, _, _]) (ys := []))⟩, rfl⟩
theorem Ul {I : Heap} {o : U2} {u : KV} {pu q : Addr} {c : Nat} (hq : Still I q [.pointer (some pu)]) (hu : KVat I u pu) (b n : Nat) (L : Bl) :
  Fun Tryz.prog 88 [.pointer (some ⟨b, 0, none⟩), .string (str o.txt), .slice (some q) 1 c] I (Rc b n false :: L) (ER b n (o.act u) L) := by
 have q0 : Still I (q.add (0 * 1)) [.pointer (some pu)] := hq.cellAt 0 rfl
 have hoo : ¬ o.txt = [102, 115, 116] → o.txt = [115, 110, 100] := by
  cases o with
  | fst => exact fun h => absurd rfl h
  | snd => exact fun _ => rfl
 have hpa : ¬ o.txt = [112, 97, 105, 114] := fun h => Q3 .pair o h.symm
 refine Ai (by simp) ?_; refine Se rfl (Oa rfl (Aa (Ab (Se rfl (Om rfl (Aa (Aj (Se rfl (Od rfl rfl rfl (Oa rfl (Aa ?_)))))))))))
 first | refine Lz rfl (hpa) ?_ | refine Ly rfl (hpa) ?_ | refine Ap (by simp [look, Ba, *]) ?_
 refine Ab (Se rfl (Od rfl rfl rfl (Oa rfl (Aa ?_)))); refine Ar rfl ?_ ?_
 ·intro c1
  try simp only [nb] at c1
  refine Af ?_
  first | refine Ks rfl (by first | rfl | exact hoo c1 | decide) ?_ | refine Kr rfl (by first | rfl | exact hoo c1 | decide) ?_ | refine Bj (by simp [look, Ba, *]) ?_
  refine Ab (Ab ?_)
  rcases hu with @⟨s, a, hs⟩ | @⟨u1, u2, a, q2, p1, p2, c2, hs, hq2, hc2, h1, h2⟩ | @⟨f, x, s, t, bd, r, a, fa, oo, c2, pr, hs, hf, hrp, he⟩
  ·skip
   refine Ah rfl (Om rfl ?_)
   first | refine A3 rfl rfl 0 rfl .free rfl ?_ | refine A4 rfl rfl 0 rfl .free rfl ?_
   refine Dd rfl (Bf q0 rfl) .free rfl ?_; refine B0 rfl .free rfl ?_
   first | refine Oh rfl ?_ | refine Oj rfl ?_
   refine Dd rfl (Bp hs (by rfl) rfl) .free rfl ?_; refine Gp rfl rfl .free rfl ?_; refine Aa ?_
   first | refine St rfl (rfl) ?_ | refine Bj (by simp [look, Ba, *]) ?_
   refine Se rfl (Om rfl ?_); refine Ca rfl (Ep _ b n _) ?_; rintro _ _ _ _ ⟨rfl, rfl, rfl⟩; refine Oa rfl (Aa (Ad (.tmp rfl .nil) ?_))
   exact ⟨I, _, .refl _, fun _ h => h, none, rfl, by cases o <;> rfl, by cases o <;> rfl⟩
  ·skip
   have r0 : Still I (q2.add (0 * 1)) [.pointer (some p1)] := hq2.cellAt 0 rfl
   have r1 : Still I (q2.add (1 * 1)) [.pointer (some p2)] := hq2.cellAt 1 rfl
   refine Ah rfl (Om rfl ?_)
   first | refine A3 rfl rfl 0 rfl .free rfl ?_ | refine A4 rfl rfl 0 rfl .free rfl ?_
   refine Dd rfl (Bf q0 rfl) .free rfl ?_; refine B0 rfl .free rfl ?_
   first | refine Oh rfl ?_ | refine Oj rfl ?_
   refine Dd rfl (Bp hs (by rfl) rfl) .free rfl ?_; refine Gp rfl rfl .free rfl ?_; refine Aa ?_
   first | refine Sf rfl (by simp) ?_ | refine Ap (by simp [look, Ba, *]) ?_
   refine Af (Ab (Se rfl (Om rfl (Od rfl rfl rfl (Aa ?_))))); refine Ar rfl ?_ ?_
   ·intro c4
    try simp only [nb] at c4
    refine Se rfl (Om rfl ?_)
    first | refine A3 rfl rfl 0 rfl .free rfl ?_ | refine A4 rfl rfl 0 rfl .free rfl ?_
    refine Dd rfl (Bf q0 rfl) .free rfl ?_; refine B0 rfl .free rfl ?_
    first | refine Oh rfl ?_ | refine Oj rfl ?_
    refine Dd rfl (Bp hs (by rfl) rfl) .free rfl ?_
    first | refine A3 rfl rfl 0 rfl .free rfl ?_ | refine A4 rfl rfl 0 rfl .free rfl ?_
    refine Dd rfl (Bf r0 rfl) .free rfl ?_; refine Oa rfl (Aa (Ad (.tmp rfl .nil) ?_)); obtain rfl : o = .fst := U2.txt_inj (o' := .fst) c4
    exact ⟨I, _, .refl _, fun _ h => h, _, rfl, ⟨_, rfl, h1⟩, rfl⟩
   intro c4
   try simp only [nb] at c4
   refine Af (Se rfl (Om rfl ?_))
   first | refine A3 rfl rfl 0 rfl .free rfl ?_ | refine A4 rfl rfl 0 rfl .free rfl ?_
   refine Dd rfl (Bf q0 rfl) .free rfl ?_; refine B0 rfl .free rfl ?_
   first | refine Oh rfl ?_ | refine Oj rfl ?_
   refine Dd rfl (Bp hs (by rfl) rfl) .free rfl ?_
   first | refine A3 rfl rfl 1 rfl .free rfl ?_ | refine A4 rfl rfl 1 rfl .free rfl ?_
   refine Dd rfl (Bf r1 rfl) .free rfl ?_; refine Oa rfl (Aa (Ad (.tmp rfl .nil) ?_)); obtain rfl : o = .snd := by
    cases o with
    | fst => exact absurd rfl c4
    | snd => rfl
   exact ⟨I, _, .refl _, fun _ h => h, _, rfl, ⟨_, rfl, h2⟩, rfl⟩
  ·skip
   refine Ah rfl (Om rfl ?_)
   first | refine A3 rfl rfl 0 rfl .free rfl ?_ | refine A4 rfl rfl 0 rfl .free rfl ?_
   refine Dd rfl (Bf q0 rfl) .free rfl ?_; refine B0 rfl .free rfl ?_
   first | refine Oh rfl ?_ | refine Oj rfl ?_
   refine Dd rfl (Bp hs (by rfl) rfl) .free rfl ?_; refine Gp rfl rfl .free rfl ?_; refine Aa ?_
   first | refine St rfl (rfl) ?_ | refine Bj (by simp [look, Ba, *]) ?_
   refine Se rfl (Om rfl ?_); refine Ca rfl (Ep _ b n _) ?_; rintro _ _ _ _ ⟨rfl, rfl, rfl⟩; refine Oa rfl (Aa (Ad (.tmp rfl .nil) ?_))
   exact ⟨I, _, .refl _, fun _ h => h, none, rfl, by cases o <;> rfl, by cases o <;> rfl⟩
 intro c1
 try simp only [nb] at c1
 refine Ah rfl (Od rfl rfl rfl (Oa rfl (Aa ?_)))
 first | refine Ks rfl (by first | rfl | exact hoo c1 | decide) ?_ | refine Kr rfl (by first | rfl | exact hoo c1 | decide) ?_ | refine Bj (by simp [look, Ba, *]) ?_
 refine Ab (Ab ?_)
 rcases hu with @⟨s, a, hs⟩ | @⟨u1, u2, a, q2, p1, p2, c2, hs, hq2, hc2, h1, h2⟩ | @⟨f, x, s, t, bd, r, a, fa, oo, c2, pr, hs, hf, hrp, he⟩
 ·skip
  refine Ah rfl (Om rfl ?_)
  first | refine A3 rfl rfl 0 rfl .free rfl ?_ | refine A4 rfl rfl 0 rfl .free rfl ?_
  refine Dd rfl (Bf q0 rfl) .free rfl ?_; refine B0 rfl .free rfl ?_
  first | refine Oh rfl ?_ | refine Oj rfl ?_
  refine Dd rfl (Bp hs (by rfl) rfl) .free rfl ?_; refine Gp rfl rfl .free rfl ?_; refine Aa ?_
  first | refine St rfl (rfl) ?_ | refine Bj (by simp [look, Ba, *]) ?_
  refine Se rfl (Om rfl ?_); refine Ca rfl (Ep _ b n _) ?_; rintro _ _ _ _ ⟨rfl, rfl, rfl⟩; refine Oa rfl (Aa (Ad (.tmp rfl .nil) ?_))
  exact ⟨I, _, .refl _, fun _ h => h, none, rfl, by cases o <;> rfl, by cases o <;> rfl⟩
 ·skip
  have r0 : Still I (q2.add (0 * 1)) [.pointer (some p1)] := hq2.cellAt 0 rfl
  have r1 : Still I (q2.add (1 * 1)) [.pointer (some p2)] := hq2.cellAt 1 rfl
  refine Ah rfl (Om rfl ?_)
  first | refine A3 rfl rfl 0 rfl .free rfl ?_ | refine A4 rfl rfl 0 rfl .free rfl ?_
  refine Dd rfl (Bf q0 rfl) .free rfl ?_; refine B0 rfl .free rfl ?_
  first | refine Oh rfl ?_ | refine Oj rfl ?_
  refine Dd rfl (Bp hs (by rfl) rfl) .free rfl ?_; refine Gp rfl rfl .free rfl ?_; refine Aa ?_
  first | refine Sf rfl (by simp) ?_ | refine Ap (by simp [look, Ba, *]) ?_
  refine Af (Ab (Se rfl (Om rfl (Od rfl rfl rfl (Aa ?_))))); refine Ar rfl ?_ ?_
  ·intro c4
   try simp only [nb] at c4
   refine Se rfl (Om rfl ?_)
   first | refine A3 rfl rfl 0 rfl .free rfl ?_ | refine A4 rfl rfl 0 rfl .free rfl ?_
   refine Dd rfl (Bf q0 rfl) .free rfl ?_; refine B0 rfl .free rfl ?_
   first | refine Oh rfl ?_ | refine Oj rfl ?_
   refine Dd rfl (Bp hs (by rfl) rfl) .free rfl ?_
   first | refine A3 rfl rfl 0 rfl .free rfl ?_ | refine A4 rfl rfl 0 rfl .free rfl ?_
   refine Dd rfl (Bf r0 rfl) .free rfl ?_; refine Oa rfl (Aa (Ad (.tmp rfl .nil) ?_)); obtain rfl : o = .fst := U2.txt_inj (o' := .fst) c4
   exact ⟨I, _, .refl _, fun _ h => h, _, rfl, ⟨_, rfl, h1⟩, rfl⟩
  intro c4
  try simp only [nb] at c4
  refine Af (Se rfl (Om rfl ?_))
  first | refine A3 rfl rfl 0 rfl .free rfl ?_ | refine A4 rfl rfl 0 rfl .free rfl ?_
  refine Dd rfl (Bf q0 rfl) .free rfl ?_; refine B0 rfl .free rfl ?_
  first | refine Oh rfl ?_ | refine Oj rfl ?_
  refine Dd rfl (Bp hs (by rfl) rfl) .free rfl ?_
  first | refine A3 rfl rfl 1 rfl .free rfl ?_ | refine A4 rfl rfl 1 rfl .free rfl ?_
  refine Dd rfl (Bf r1 rfl) .free rfl ?_; refine Oa rfl (Aa (Ad (.tmp rfl .nil) ?_)); obtain rfl : o = .snd := by
   cases o with
   | fst => exact absurd rfl c4
   | snd => rfl
  exact ⟨I, _, .refl _, fun _ h => h, _, rfl, ⟨_, rfl, h2⟩, rfl⟩
 ·skip
  refine Ah rfl (Om rfl ?_)
  first | refine A3 rfl rfl 0 rfl .free rfl ?_ | refine A4 rfl rfl 0 rfl .free rfl ?_
  refine Dd rfl (Bf q0 rfl) .free rfl ?_; refine B0 rfl .free rfl ?_
  first | refine Oh rfl ?_ | refine Oj rfl ?_
  refine Dd rfl (Bp hs (by rfl) rfl) .free rfl ?_; refine Gp rfl rfl .free rfl ?_; refine Aa ?_
  first | refine St rfl (rfl) ?_ | refine Bj (by simp [look, Ba, *]) ?_
  refine Se rfl (Om rfl ?_); refine Ca rfl (Ep _ b n _) ?_; rintro _ _ _ _ ⟨rfl, rfl, rfl⟩; refine Oa rfl (Aa (Ad (.tmp rfl .nil) ?_))
  exact ⟨I, _, .refl _, fun _ h => h, none, rfl, by cases o <;> rfl, by cases o <;> rfl⟩
theorem Ex.shapes8 (e : Ex) : (∃ s, e = .num s) ∨ (∃ s, e = .name s) ∨ (∃ f x s t b, e = .fn f x s t b) ∨ (∃ a b, e = .bin .call a b) ∨ (∃ o a b, o ≠ B5.call ∧ e = .bin o a b) ∨ (∃ a b d, e = .ite a b d) ∨ (∃ z a b, e = .lt z a b) ∨ (∃ o a, e = .un o a) := by
 cases e with
 | num s => exact .inl ⟨s, rfl⟩
 | name s => exact .inr (.inl ⟨s, rfl⟩)
 | fn f x s t b => exact .inr (.inr (.inl ⟨f, x, s, t, b, rfl⟩))
 | bin o a b =>
  by_cases h : o = .call
  ·subst h; exact .inr (.inr (.inr (.inl ⟨a, b, rfl⟩)))
  ·exact .inr (.inr (.inr (.inr (.inl ⟨o, a, b, h, rfl⟩))))
 | ite a b d => exact .inr (.inr (.inr (.inr (.inr (.inl ⟨a, b, d, rfl⟩)))))
 | lt z a b => exact .inr (.inr (.inr (.inr (.inr (.inr (.inl ⟨z, a, b, rfl⟩))))))
 | un o a => exact .inr (.inr (.inr (.inr (.inr (.inr (.inr ⟨o, a, rfl⟩))))))
theorem S9 {s : Au} (h : Bt s = true) : Bs s = false := by
 cases hn : Bs s with
 | false => rfl
 | true => rw [E3 hn] at h; cases h
theorem Kp {I : Heap} {o : Option KV} {p : Option Addr} (h : RP? I o p) (hp : p.isNone = true) : o = none ∧ p = none := by
 cases o with
 | none => exact ⟨rfl, h⟩
 | some w => obtain ⟨x, rfl, _⟩ := h; cases hp
theorem Kq {I : Heap} {o : Option KV} {p : Option Addr} (h : RP? I o p) (hp : p.isNone = false) : ∃ w x, o = some w ∧ p = some x ∧ KVat I w x := by
 cases o with
 | none => rw [show p = none from h] at hp; cases hp
 | some w => obtain ⟨x, rfl, hx⟩ := h; exact ⟨w, x, rfl, rfl, hx⟩
theorem KVat.fun {I : Heap} {v : KV} {a : Addr} (h : KVat I v a) : ∃ x1 pf pr, Still I a [.string (str v.nt), x1, .pointer pf, .pointer pr] ∧ (pf = none → ∀ f x s t b r, v ≠ .clo f x s t b r) ∧
  ∀ fa, pf = some fa → ∃ f x s t b r o c, v = .clo f x s t b r ∧ Still I fa [.string (str []), .slice (some o) 6 c] ∧ Rep I (Ex.fn f x s t b).tree [.string (str []), .slice (some o) 6 c] ∧ KEat I r pr := by
 cases h with
 | num h => exact ⟨_, _, _, h, fun _ f x s t b r e => (by cases e), fun fa e => (by cases e)⟩
 | pair h => exact ⟨_, _, _, h, fun _ f x s t b r e => (by cases e), fun fa e => (by cases e)⟩
 | clo h hf hr he => exact ⟨_, _, _, h, fun e => (by cases e), fun fa e => ⟨_, _, _, _, _, _, _, _, rfl, by cases e; exact hf, hr, he⟩⟩
def EVP (b : Nat) (r : Res) (L : Bl) : C1 := fun v I' L' => ∃ p, v = .pointer p ∧ RP? I' r.v p ∧ L' = Rc b r.left r.stuck :: L
def EvH (N : Nat) : Prop := ∀ {I : Heap} (_ : Tab I) {e : Ex} {cs : List Value} {k : KE} {pk : Option Addr} (n : Nat) (_ : n < N) (_ : n ≤ 1000000) (_ : Rep I e.tree cs) (_ : e.ok = true) (_ : KEat I k pk) (_ : k.wf) (_ : ∀ y ∈ e.occ [], y ∈ k.dom) (b : Nat) (L : Bl),
 Fun Tryz.prog 43 [.pointer (some ⟨b, 0, none⟩), .agg cs.toArray, .pointer pk] I (Rc b n false :: L) (EVP b (eval n e k) L)
structure EX where
 e : Ex
 k : KE
 pk : Option Addr
 n : Nat
 J : Heap
 o : Option Addr
 c : Nat
theorem Kf {n : Nat} {e : Ex} {k : KE} {u : KV} (hk : k.wf) (hok : e.ok = true) (hd : ∀ y ∈ e.occ [], y ∈ k.dom) (h : (eval n e k).v = some u) : u.wf ∧ (eval n e k).stuck = false := by
 have := Ra n e k hk hok hd
 unfold Res.says at this
 rw [h] at this
 exact ⟨this.1, this.2.2⟩
theorem X8 : ∀ N : Nat, EvH N := by
 intro N
 induction N with
 | zero => intro I ht e cs k pk n hn; omega
 | succ N ihn =>
  intro I ht e cs k pk n hn hm h hok hk hkw hd b L; obtain ⟨oc, cc, _, rfl, -⟩ := h.open
  generalize hR : eval n e k = R
  unfold Rc
  refine Ai (by simp) ?_; refine Se rfl ?_; refine Cd rfl rfl .free rfl ?_; intro b4; refine Oa rfl (Aa (Aj ?_))
  refine Dy (X := EX) (fun x => x.n) (fun x => [(0, .pointer (some ⟨b, 0, none⟩)), (2, .pointer x.pk), (4, .pointer (some ⟨b4, 0, none⟩))]) (fun x => x.J) (fun x => (b4, .cells [.string (str x.e.tree.atom), .slice x.o x.e.tree.parts.length x.c].toArray 49 (0, 0)) :: (b, .cells [.int .i64 (x.n : Nat), .bool false].toArray 55 (0, 0)) :: L) (fun x => HLe I x.J ∧ Rep x.J x.e.tree [.string (str x.e.tree.atom), .slice x.o x.e.tree.parts.length x.c] ∧ x.e.ok = true ∧ KEat x.J x.k x.pk ∧ x.k.wf ∧ (∀ y ∈ x.e.occ [], y ∈ x.k.dom) ∧ x.n < N + 1 ∧ x.n ≤ 1000000 ∧ eval x.n x.e x.k = R) ⟨e, k, pk, n, I, oc, cc⟩ ⟨.refl _, h, hok, hk, hkw, hd, hn, hm, hR⟩ ⟨rfl, rfl, rfl, trivial⟩ (fun _ h => h) ?_
  clear hd hkw hk hok h hn hm hR
  rintro ⟨e, k, pk, n, J, oc, cc⟩ ⟨hle, hr, hok, hk, hkw, hd, hn, hm, hR⟩ ih
  simp only at hle hr hok hk hkw hd hn hm hR ih ⊢
  have ht := ht.mono hle
  refine Aj (Ab (Se rfl (Om rfl ?_))); refine B0 rfl .free rfl ?_
  first | refine Oh rfl ?_ | refine Oj rfl ?_
  refine Nx rfl .free rfl ?_; refine Oc rfl rfl rfl (Aa ?_); refine Ar rfl ?_ ?_
  ·intro c0
   try simp only [nb] at c0
   refine Se rfl (Oa rfl (Aa (Ad (.tmp rfl .nil) ?_))); obtain rfl : n = 0 := by omega
   rw [Rb] at hR; subst hR
   exact ⟨J, _, hle, fun _ h => h.drop, none, rfl, rfl, rfl⟩
  intro c0
  try simp only [nb] at c0
  obtain ⟨m, rfl⟩ : ∃ m, n = m + 1 := ⟨n - 1, by omega⟩; refine Af (Se rfl (Om rfl ?_)); refine B0 rfl .free rfl ?_
  first | refine Oh rfl ?_ | refine Oj rfl ?_
  refine Nx rfl .free rfl ?_; refine Or rfl rfl rfl ?_; refine C3 (t := 21) (v' := .int .i64 (m : Nat)) rfl (by congr 1; omega) ?_; refine B0 rfl .free rfl ?_
  first | refine Oh rfl ?_ | refine Oj rfl ?_
  refine Bk rfl rfl rfl rfl .free ?_; refine Aa (Ab (Ab ?_))
  rcases e.shapes8 with ⟨s, rfl⟩ | ⟨s, rfl⟩ | ⟨f, z, s, t, bd, rfl⟩ | ⟨a, d, rfl⟩ | ⟨o, a, d, hoc, rfl⟩ | ⟨a, d, g, rfl⟩ | ⟨z, a, d, rfl⟩ | ⟨o, a, rfl⟩
  ·skip
   refine Ah rfl ?_; refine Az rfl .free rfl ?_; refine Ca rfl (By hr _) ?_; rintro _ _ _ _ ⟨rfl, rfl, rfl⟩; rw [show (Ex.num s).tree.parts.isEmpty = true from rfl]; refine Aa ?_
   first | refine St rfl (rfl) ?_ | refine Bj (by simp [look, Ba, *]) ?_
   refine Ab (Se rfl (Oh rfl ?_)); refine A6 rfl .free rfl ?_; refine Ca rfl (Hi s (by have := Iv (show Bt s = true from hok); unfold As; omega) _ _) ?_; rintro _ _ _ _ ⟨rfl, rfl, rfl⟩; rw [S9 (show Bt s = true from hok)]; refine Aa ?_
   first | refine Sf rfl (by simp) ?_ | refine Ap (by simp [look, Ba, *]) ?_
   refine Af (Se rfl (Oh rfl ?_)); refine A6 rfl .free rfl ?_; refine Bn rfl rfl rfl .free rfl ?_; refine Cd rfl rfl .free rfl ?_; intro b36; refine Oa rfl (Aa ?_); refine Be ?_; intro hz; refine Ad (.tmp rfl .nil) ?_; rw [Ps] at hR; subst hR
   exact ⟨_, _, hle.trans hz, fun _ h => h.drop, _, rfl, ⟨_, rfl, .num (A5 (xs := [_, _, _, _]) (ys := []))⟩, rfl⟩
  ·skip
   refine Ah rfl ?_; refine Az rfl .free rfl ?_; refine Ca rfl (By hr _) ?_; rintro _ _ _ _ ⟨rfl, rfl, rfl⟩; rw [show (Ex.name s).tree.parts.isEmpty = true from rfl]; refine Aa ?_
   first | refine St rfl (rfl) ?_ | refine Bj (by simp [look, Ba, *]) ?_
   refine Ab (Se rfl (Oh rfl ?_)); refine A6 rfl .free rfl ?_; refine Ca rfl (Hi s (by have := Hu (show Bs s = true from hok); unfold As; omega) _ _) ?_; rintro _ _ _ _ ⟨rfl, rfl, rfl⟩; rw [show Bs s = true from hok]; refine Aa ?_
   first | refine St rfl (rfl) ?_ | refine Bj (by simp [look, Ba, *]) ?_
   refine Se rfl (Om rfl (Oh rfl ?_)); refine A6 rfl .free rfl ?_; refine Ca rfl (Ui hk s _) ?_; rintro _ _ _ _ ⟨p, rfl, hp, rfl, rfl⟩; refine Oa rfl (Aa (Ad (.tmp rfl .nil) ?_)); rw [Q9] at hR; subst hR
   exact ⟨J, _, hle, fun _ h => h.drop, p, rfl, hp, rfl⟩
  ·skip
   refine Ah rfl ?_; refine Az rfl .free rfl ?_; refine Ca rfl (By hr _) ?_; rintro _ _ _ _ ⟨rfl, rfl, rfl⟩; rw [show (Ex.fn f z s t bd).tree.parts.isEmpty = false from rfl]; refine Aa ?_
   first | refine Sf rfl (by simp) ?_ | refine Ap (by simp [look, Ba, *]) ?_
   refine Af (Ab (Se rfl ?_)); refine Az rfl .free rfl ?_; refine Ca rfl (Bi hr _) ?_; rintro _ _ _ _ ⟨rfl, rfl, rfl⟩; rw [show (Ex.fn f z s t bd).tree.head = [102, 117, 110] from rfl]; obtain ⟨oa2, c2, oaf, cf, he2, hf⟩ := hr.at'
   simp only [List.cons.injEq, Value.slice.injEq, and_true, true_and] at he2
   obtain ⟨rfl, rfl⟩ := he2; obtain ⟨xa, rfl⟩ : ∃ x, oc = some x := ⟨_, Cq hf.nil (show 0 < 6 by decide)⟩; refine Od rfl rfl rfl (Aa ?_)
   first | refine St rfl (rfl) ?_ | refine Bj (by simp [look, Ba, *]) ?_
   refine Se rfl (Om rfl ?_); refine Bn rfl rfl rfl .free rfl ?_; refine Cd rfl rfl .free rfl ?_; intro b42; refine Oa rfl (Aa ?_); refine Be ?_; intro hz; refine Be ?_; intro hz2; refine Ad (.tmp rfl .nil) ?_; rw [Ss] at hR; subst hR
   exact ⟨_, _, (hle.trans hz).trans hz2, fun _ h => h, _, rfl, ⟨_, rfl, .clo ((A5 (xs := [_, _, _, _]) (ys := [])).mono hz2) (A5 (xs := [_, _]) (ys := [])) (hr.mono (hz.trans hz2)) (hk.mono (hz.trans hz2))⟩, rfl⟩
  ·skip
   refine Ah rfl ?_; refine Az rfl .free rfl ?_; refine Ca rfl (By hr _) ?_; rintro _ _ _ _ ⟨rfl, rfl, rfl⟩; rw [show (Ex.bin .call a d).tree.parts.isEmpty = false from rfl]; refine Aa ?_
   first | refine Sf rfl (by simp) ?_ | refine Ap (by simp [look, Ba, *]) ?_
   refine Af (Ab (Se rfl ?_)); refine Az rfl .free rfl ?_; refine Ca rfl (Bi hr _) ?_; rintro _ _ _ _ ⟨rfl, rfl, rfl⟩; obtain ⟨oa2, c2, oaf, cf, he2, hf⟩ := hr.at'
   simp only [List.cons.injEq, Value.slice.injEq, and_true, true_and] at he2
   obtain ⟨rfl, rfl⟩ := he2; obtain ⟨xa, rfl⟩ : ∃ x, oc = some x := ⟨_, Cq hf.nil (show 0 < 3 by decide)⟩
   have hlen : (Ex.bin .call a d).tree.parts.length = 3 := rfl
   have hev : Tw (Ex.bin .call a d).tree = [1, 2] := rfl
   simp only [Ex.ok, Bool.and_eq_true] at hok
   rw [show (Ex.bin .call a d).tree.head = [99, 97, 108, 108] from rfl]; refine Od rfl rfl rfl (Aa ?_)
   first | refine Sf rfl (by decide) ?_ | refine Ap (by simp [look, Ba, *]) ?_
   refine Af (Se rfl (Oa rfl (Aa (Ab (Se rfl ?_))))); refine Az rfl .free rfl ?_; refine Ca rfl (Dj hf.rep _) ?_; rintro _ J0 _ e0 ⟨oq, ck, rfl, hn0, rfl⟩
   have hf := hf.mono e0
   have hk := hk.mono e0
   have ht := ht.mono e0
   have hle := hle.trans e0
   rw [hev] at hn0; rw [hev]; refine On rfl (Om rfl (Aa (Aj ?_))); refine Dq ?_; refine Se rfl (Oc rfl rfl rfl (Aa (Ab ?_))); refine B6 rfl (by first | rfl | decide | (simp; done) | omega) ?_; refine Af (Ab (Aj (Se rfl ?_)))
   first | refine A3 rfl rfl _ rfl .free rfl ?_ | refine A4 rfl rfl _ rfl .free rfl ?_
   refine Ej rfl .free rfl ?_; refine Oa rfl (Aa (Se rfl (Om rfl (Oh rfl ?_)))); refine A6 rfl .free rfl ?_; refine Om rfl ?_
   first | refine A3 rfl rfl _ rfl .free rfl ?_ | refine A4 rfl rfl _ rfl .free rfl ?_
   refine Du rfl .free rfl ?_; refine Om rfl ?_; refine Dv (fun w h => h.f1) ?_; refine Ca rfl (ihn ht m (by omega) (by omega) (hf.as 1 a.tree (by omega) rfl) hok.1 hk hkw (fun y hy => hd y (List.mem_append_left _ hy)) b _) ?_; rintro _ J1 _ e1 ⟨p0, rfl, hp0, rfl⟩
   have hf := hf.mono e1
   have hk := hk.mono e1
   have ht := ht.mono e1
   have hn0 := hn0.mono e1
   have hle := hle.trans e1
   unfold Rc
   refine Oa rfl (Aa (Ab (Se rfl (Om rfl ?_)))); refine Hb rfl rfl .free rfl ?_; refine Aa ?_; refine Ar rfl ?_ ?_
   ·intro c5
    try simp only [nb] at c5
    obtain ⟨hv0, rfl⟩ := Kp hp0 c5
    have hRR : eval m a k = R := by
     rw [Hg] at hR
     simpa only [hv0] using hR
    refine Se rfl (Oa rfl (Aa (Ad (.tmp rfl .nil) ?_))); subst hRR
    exact ⟨_, _, hle, Ms (L' := (b, _) :: L), none, rfl, by rw [hv0]; rfl, rfl⟩
   intro c5
   try simp only [nb] at c5
   obtain ⟨u, pu, hv0, rfl, hau⟩ := Kq hp0 (by simpa using c5); obtain ⟨wu, hst0⟩ := Kf hkw hok.1 (fun y hy => hd y (List.mem_append_left _ hy)) hv0; rw [hst0]; refine Af (Ah rfl (Om rfl (Om rfl ?_))); refine Ol rfl rfl ?_; intro b62; refine C2 (B := none) (xs := []) (ys := [.pointer (some pu)]) (m := 0) (c := 0) (by intro kk; simp) (by rfl) rfl rfl ⟨rfl, rfl, rfl⟩ (fun _ h => h) (by rfl) (fun a ha => by cases ha; exact Br (.head _) (by rfl)) (by simp) (by rfl) (by decide) (by decide) (by omega) (by decide) .free rfl ?_; intro bb sp c2 hB
   simp only [Ch, List.cons_append, List.nil_append, Nat.zero_add]
   refine Oa rfl (Aa (Al (Ah rfl ?_))); refine Or rfl rfl rfl ?_; refine Om rfl (Aa ?_); refine Bu ?_; refine Se rfl (Oc rfl rfl rfl (Aa (Ab ?_))); refine B6 rfl (by first | rfl | decide | (simp; done) | omega) ?_; refine Af (Ab (Aj (Se rfl ?_)))
   first | refine A3 rfl rfl _ rfl .free rfl ?_ | refine A4 rfl rfl _ rfl .free rfl ?_
   refine Ej rfl .free rfl ?_; refine Oa rfl (Aa (Se rfl (Om rfl (Oh rfl ?_)))); refine A6 rfl .free rfl ?_; refine Om rfl ?_
   first | refine A3 rfl rfl _ rfl .free rfl ?_ | refine A4 rfl rfl _ rfl .free rfl ?_
   refine Du rfl .free rfl ?_; refine Om rfl ?_
   have hl0 := Ez m a k
   refine Dv (fun w h => h.f2) ?_; refine Ca rfl (ihn ht (eval m a k).left (by omega) (by omega) (hf.as 2 d.tree (by omega) rfl) hok.2 hk hkw (fun y hy => hd y (List.mem_append_right _ hy)) b _) ?_; rintro _ J2 _ e2 ⟨p1, rfl, hp1, rfl⟩
   have hf := hf.mono e2
   have hk := hk.mono e2
   have ht := ht.mono e2
   have hn0 := hn0.mono e2
   have hle := hle.trans e2
   unfold Rc
   refine Oa rfl (Aa (Ab (Se rfl (Om rfl ?_)))); refine Hb rfl rfl .free rfl ?_; refine Aa ?_; refine Ar rfl ?_ ?_
   ·intro c5
    try simp only [nb] at c5
    obtain ⟨hv1, rfl⟩ := Kp hp1 c5
    have hRR : eval (eval m a k).left d k = R := by
     rw [Hg] at hR
     simpa only [hv0, hv1] using hR
    refine Se rfl (Oa rfl (Aa (Ad (.tmp rfl .nil) ?_))); subst hRR
    exact ⟨_, _, hle, Ms (L' := (b, _) :: L), none, rfl, by rw [hv1]; rfl, rfl⟩
   intro c5
   try simp only [nb] at c5
   obtain ⟨v, pv, hv1, rfl, hav⟩ := Kq hp1 (by simpa using c5); obtain ⟨wv, hst1⟩ := Kf hkw hok.2 (fun y hy => hd y (List.mem_append_right _ hy)) hv1; rw [hst1]; refine Af (Ah rfl (Om rfl (Om rfl ?_))); refine Ol rfl rfl ?_; intro b62; refine C2 (B := some (bb, sp)) (xs := [.pointer (some pu)]) (ys := [.pointer (some pv)]) (m := 1) (c := c2) (by intro kk; simp) (by rfl) rfl rfl hB (fun _ h => h.f2) (by rfl) (fun a ha => by cases ha; exact Br (.head _) (by rfl)) (by simp) (by rfl) (by decide) (by decide) (by omega) (by decide) .free rfl ?_; intro bb2 sp2 c3 hB2
   simp only [Ch, List.cons_append, List.nil_append]
   refine Oa rfl (Aa (Al (Ah rfl ?_))); refine Or rfl rfl rfl ?_; refine Om rfl (Aa ?_); refine Bu ?_; refine Se rfl (Oc rfl rfl rfl (Aa (Ab ?_))); refine Cr rfl (by first | rfl | decide | (simp; done) | omega) ?_; refine Bw rfl ?_; refine Ab ?_; refine Be ?_; intro hz
   have hq0 := A5 (I := J2) (b := bb2) (xs := [.pointer (some pu), .pointer (some pv)]) (ys := sp2) (T := 56) (fr := (0, 0))
   simp only [List.cons_append, List.nil_append] at hq0
   have hf := hf.mono hz
   have hk := hk.mono hz
   have ht := ht.mono hz
   have hle := hle.trans hz
   have hau := hau.mono (e2.trans hz)
   have hav := hav.mono hz
   have q1 : Still _ ((⟨bb2, 0, none⟩ : Addr).add (1 * 1)) [.pointer (some pv)] := hq0.cellAt 1 rfl
   have q0 : Still _ ((⟨bb2, 0, none⟩ : Addr).add (0 * 1)) [.pointer (some pu)] := hq0.cellAt 0 rfl
   have hl1 := Ez m a k
   have hl2 := Ez (eval m a k).left d k
   rw [Hg] at hR
   simp only [hv0, hv1] at hR
   refine Bg (fun w h => Mem.sub (L' := (b, _) :: (b4, _) :: L) (by repeat (first | exact List.Sublist.refl _ | apply List.Sublist.cons_cons | apply List.Sublist.cons)) h) ?_; refine Ah rfl ?_; refine Az rfl .free rfl ?_; refine Ca rfl (Bi hf.rep _) ?_; rintro _ _ _ _ ⟨rfl, rfl, rfl⟩; rw [show (Ex.bin .call a d).tree.head = [99, 97, 108, 108] from rfl]; refine Aa (Aj (Se rfl (Od rfl rfl rfl (Oa rfl (Aa ?_)))))
   first | refine Sf rfl (by decide) ?_ | refine Ap (by simp [look, Ba, *]) ?_
   refine Se rfl (Od rfl rfl rfl (Oa rfl (Aa ?_)))
   first | refine Sf rfl (by decide) ?_ | refine Ap (by simp [look, Ba, *]) ?_
   refine Se rfl (Od rfl rfl rfl (Oa rfl (Aa ?_)))
   first | refine St rfl (rfl) ?_ | refine Bj (by simp [look, Ba, *]) ?_
   refine Se rfl ?_; obtain ⟨x1, pf, pr, su, hno, hyes⟩ := hau.fun
   refine Om rfl ?_
   first | refine A3 rfl rfl 0 rfl .free rfl ?_ | refine A4 rfl rfl 0 rfl .free rfl ?_
   refine Dd rfl (Bf q0 rfl) .free rfl ?_; refine B0 rfl .free rfl ?_
   first | refine Oh rfl ?_ | refine Oj rfl ?_
   refine Dd rfl (Bp su (by rfl) rfl) .free rfl ?_; refine Oa rfl (Aa (Ab (Se rfl (Om rfl ?_)))); refine Hb rfl rfl .free rfl ?_; refine Aa ?_; refine Ar rfl ?_ ?_
   ·intro c11
    try simp only [nb] at c11
    refine Se rfl (Om rfl ?_); refine Ca rfl (Ep _ b (eval (eval m a k).left d k).left _) ?_; rintro _ _ _ _ ⟨rfl, rfl, rfl⟩; refine Oa rfl (Aa (Ad (.tmp rfl .nil) ?_))
    have hRR : (⟨none, (eval (eval m a k).left d k).left, true⟩ : Res) = R := by
     have hpf : pf = none := by cases pf with | none => rfl | some x => cases c11
     cases u with
     | clo f x s t bd r => exact absurd rfl (hno hpf f x s t bd r)
     | _ => exact hR
    subst hRR
    exact ⟨_, _, hle, Ms (L' := (b, _) :: L), none, rfl, rfl, rfl⟩
   intro c11
   try simp only [nb] at c11
   obtain ⟨fa, rfl⟩ : ∃ fa, pf = some fa := by cases pf with | none => cases c11 | some x => exact ⟨x, rfl⟩
   obtain ⟨fn, x, s, t, bd, r, o6, c6, rfl, hfa, hrf, hke⟩ := hyes fa rfl; obtain ⟨oa3, c3', oaf3, cf3, he3, hf3⟩ := hrf.at'
   simp only [List.cons.injEq, Value.slice.injEq, and_true, true_and] at he3
   obtain ⟨-, rfl, -, rfl⟩ := he3
   have hlen3 : (Ex.fn fn x s t bd).tree.parts.length = 6 := rfl
   simp only at hR
   have hcl := wu
   obtain ⟨hrw, hfok, hfd⟩ := wu
   have hfok' := hfok
   simp only [Ex.ok, Bool.and_eq_true, decide_eq_true_eq] at hfok'
   obtain ⟨⟨⟨⟨⟨nf, nx⟩, hfx⟩, _⟩, _⟩, hcok⟩ := hfok'; refine Af ?_; refine B8 36 rfl rfl ?_; refine Da 0 rfl (Ae rfl) ?_; refine Da 1 rfl (D5 rfl) ?_
   first | refine Da 2 rfl (Ag rfl) ?_ | refine Da 2 rfl (A9 rfl) ?_
   refine Dt 3 [34] rfl (Fo rfl (Bp hfa (by rfl) rfl)) ?_
   first | refine Da 4 rfl (A1 rfl rfl 5 rfl) ?_ | refine Da 4 rfl (A2 rfl rfl 5 rfl) ?_
   refine Dt 5 [34] rfl (Fo rfl (Ea (hf3.st _ (by omega)) (by rfl))) ?_; refine Da 6 rfl (Ae rfl) ?_
   first | refine Da 7 rfl (A1 rfl rfl 0 rfl) ?_ | refine Da 7 rfl (A2 rfl rfl 0 rfl) ?_
   refine Dt 8 [34] rfl (Fo rfl (Bf q0 rfl)) ?_; refine Da 9 rfl (D5 rfl) ?_
   first | refine Da 10 rfl (Ag rfl) ?_ | refine Da 10 rfl (A9 rfl) ?_
   refine Dt 11 [34] rfl (Fo rfl (Bp su (by rfl) rfl)) ?_; refine Da 12 rfl (Ae rfl) ?_; refine Da 13 rfl (D5 rfl) ?_
   first | refine Da 14 rfl (Ag rfl) ?_ | refine Da 14 rfl (A9 rfl) ?_
   refine Dt 15 [34] rfl (Fo rfl (Bp hfa (by rfl) rfl)) ?_
   first | refine Da 16 rfl (A1 rfl rfl 1 rfl) ?_ | refine Da 16 rfl (A2 rfl rfl 1 rfl) ?_
   refine Da 17 rfl (A9 rfl) ?_; refine Dt 18 [34] rfl (Fo rfl (Bp (hf3.st _ (by omega)) (by rfl) rfl)) ?_; refine Da 19 rfl (Ae rfl) ?_
   first | refine Da 20 rfl (A1 rfl rfl 0 rfl) ?_ | refine Da 20 rfl (A2 rfl rfl 0 rfl) ?_
   refine Dt 21 [34] rfl (Fo rfl (Bf q0 rfl)) ?_; refine Da 23 rfl (Ae rfl) ?_; refine Da 24 rfl (D5 rfl) ?_
   first | refine Da 25 rfl (Ag rfl) ?_ | refine Da 25 rfl (A9 rfl) ?_
   refine Dt 26 [34] rfl (Fo rfl (Bp hfa (by rfl) rfl)) ?_
   first | refine Da 27 rfl (A1 rfl rfl 2 rfl) ?_ | refine Da 27 rfl (A2 rfl rfl 2 rfl) ?_
   refine Da 28 rfl (A9 rfl) ?_; refine Dt 29 [34] rfl (Fo rfl (Bp (hf3.st _ (by omega)) (by rfl) rfl)) ?_; refine Da 30 rfl (Ae rfl) ?_
   first | refine Da 31 rfl (A1 rfl rfl 1 rfl) ?_ | refine Da 31 rfl (A2 rfl rfl 1 rfl) ?_
   refine Dt 32 [34] rfl (Fo rfl (Bf q1 rfl)) ?_; refine Dc 22 rfl rfl (K7 hke fn hau _) ?_; rintro _ J3 _ e3 ⟨y3, rfl, hk3, rfl⟩
   have hf3 := hf3.mono e3
   have hle := hle.trans e3
   refine Hx ?_; refine Dc 33 rfl rfl (K7 hk3 x (hav.mono e3) _) ?_; rintro _ J4 _ e4 ⟨y4, rfl, hk4, rfl⟩
   have e34 := e3.trans e4
   have hf3 := hf3.mono e4
   have hle := hle.trans e4
   refine Hx ?_; refine Dx 34 rfl rfl rfl rfl ?_; refine Db 35 rfl (Aw rfl) ?_; refine Ao (by kernel_rfl) ?_; refine Al (Al ?_)
   refine Bg (fun w h => h.f1) (Bo (E' := [(0, .pointer (some ⟨b, 0, none⟩)), (2, .pointer (some y4)), (4, .pointer (some ⟨b4, 0, none⟩))]) ⟨rfl, rfl, rfl, trivial⟩ (ih ⟨bd, .cons x v (.cons fn (.clo fn x s t bd r) r), some y4, (eval (eval m a k).left d k).left, _, oaf3 5, cf3 5⟩ ⟨hle, hf3.as 5 bd.tree (by omega) rfl, hcok, hk4, ⟨nx, wv, nf, hcl, hrw⟩, fun y hy => ?_, by show (eval (eval m a k).left d k).left < N + 1; omega, by show (eval (eval m a k).left d k).left ≤ 1000000; omega, hR⟩ (by simp only; omega)))
   simp only [KE.dom, List.mem_cons]
   rcases hfd y hy with h | h
   ·simp only [List.mem_cons, List.not_mem_nil, or_false] at h
    rcases h with h | h
    ·exact .inr (.inl h)
    ·exact .inl h
   ·exact .inr (.inr h)
  ·skip
   refine Ah rfl ?_; refine Az rfl .free rfl ?_; refine Ca rfl (By hr _) ?_; rintro _ _ _ _ ⟨rfl, rfl, rfl⟩; rw [show (Ex.bin o a d).tree.parts.isEmpty = false from rfl]; refine Aa ?_
   first | refine Sf rfl (by simp) ?_ | refine Ap (by simp [look, Ba, *]) ?_
   refine Af (Ab (Se rfl ?_)); refine Az rfl .free rfl ?_; refine Ca rfl (Bi hr _) ?_; rintro _ _ _ _ ⟨rfl, rfl, rfl⟩; obtain ⟨oa2, c2, oaf, cf, he2, hf⟩ := hr.at'
   simp only [List.cons.injEq, Value.slice.injEq, and_true, true_and] at he2
   obtain ⟨rfl, rfl⟩ := he2; obtain ⟨xa, rfl⟩ : ∃ x, oc = some x := ⟨_, Cq hf.nil (show 0 < 3 by decide)⟩
   have hlen : (Ex.bin o a d).tree.parts.length = 3 := rfl
   have hev : Tw (Ex.bin o a d).tree = [1, 2] := by cases o <;> rfl
   simp only [Ex.ok, Bool.and_eq_true] at hok
   rw [show (Ex.bin o a d).tree.head = o.txt from rfl]; refine Od rfl rfl rfl (Aa ?_)
   first | refine Lz rfl (o.txt_ne.2.2.1) ?_ | refine Ly rfl (o.txt_ne.2.2.1) ?_ | refine Ap (by simp [look, Ba, *]) ?_
   refine Af (Se rfl (Oa rfl (Aa (Ab (Se rfl ?_))))); refine Az rfl .free rfl ?_; refine Ca rfl (Dj hf.rep _) ?_; rintro _ J0 _ e0 ⟨oq, ck, rfl, hn0, rfl⟩
   have hf := hf.mono e0
   have hk := hk.mono e0
   have ht := ht.mono e0
   have hle := hle.trans e0
   rw [hev] at hn0; rw [hev]; refine On rfl (Om rfl (Aa (Aj ?_))); refine Dq ?_; refine Se rfl (Oc rfl rfl rfl (Aa (Ab ?_))); refine B6 rfl (by first | rfl | decide | (simp; done) | omega) ?_; refine Af (Ab (Aj (Se rfl ?_)))
   first | refine A3 rfl rfl _ rfl .free rfl ?_ | refine A4 rfl rfl _ rfl .free rfl ?_
   refine Ej rfl .free rfl ?_; refine Oa rfl (Aa (Se rfl (Om rfl (Oh rfl ?_)))); refine A6 rfl .free rfl ?_; refine Om rfl ?_
   first | refine A3 rfl rfl _ rfl .free rfl ?_ | refine A4 rfl rfl _ rfl .free rfl ?_
   refine Du rfl .free rfl ?_; refine Om rfl ?_; refine Dv (fun w h => h.f1) ?_; refine Ca rfl (ihn ht m (by omega) (by omega) (hf.as 1 a.tree (by omega) rfl) hok.1 hk hkw (fun y hy => hd y (List.mem_append_left _ hy)) b _) ?_; rintro _ J1 _ e1 ⟨p0, rfl, hp0, rfl⟩
   have hf := hf.mono e1
   have hk := hk.mono e1
   have ht := ht.mono e1
   have hn0 := hn0.mono e1
   have hle := hle.trans e1
   unfold Rc
   refine Oa rfl (Aa (Ab (Se rfl (Om rfl ?_)))); refine Hb rfl rfl .free rfl ?_; refine Aa ?_; refine Ar rfl ?_ ?_
   ·intro c5
    try simp only [nb] at c5
    obtain ⟨hv0, rfl⟩ := Kp hp0 c5
    have hRR : eval m a k = R := by
     rw [Hg] at hR
     simpa only [hv0] using hR
    refine Se rfl (Oa rfl (Aa (Ad (.tmp rfl .nil) ?_))); subst hRR
    exact ⟨_, _, hle, Ms (L' := (b, _) :: L), none, rfl, by rw [hv0]; rfl, rfl⟩
   intro c5
   try simp only [nb] at c5
   obtain ⟨u, pu, hv0, rfl, hau⟩ := Kq hp0 (by simpa using c5); obtain ⟨wu, hst0⟩ := Kf hkw hok.1 (fun y hy => hd y (List.mem_append_left _ hy)) hv0; rw [hst0]; refine Af (Ah rfl (Om rfl (Om rfl ?_))); refine Ol rfl rfl ?_; intro b62; refine C2 (B := none) (xs := []) (ys := [.pointer (some pu)]) (m := 0) (c := 0) (by intro kk; simp) (by rfl) rfl rfl ⟨rfl, rfl, rfl⟩ (fun _ h => h) (by rfl) (fun a ha => by cases ha; exact Br (.head _) (by rfl)) (by simp) (by rfl) (by decide) (by decide) (by omega) (by decide) .free rfl ?_; intro bb sp c2 hB
   simp only [Ch, List.cons_append, List.nil_append, Nat.zero_add]
   refine Oa rfl (Aa (Al (Ah rfl ?_))); refine Or rfl rfl rfl ?_; refine Om rfl (Aa ?_); refine Bu ?_; refine Se rfl (Oc rfl rfl rfl (Aa (Ab ?_))); refine B6 rfl (by first | rfl | decide | (simp; done) | omega) ?_; refine Af (Ab (Aj (Se rfl ?_)))
   first | refine A3 rfl rfl _ rfl .free rfl ?_ | refine A4 rfl rfl _ rfl .free rfl ?_
   refine Ej rfl .free rfl ?_; refine Oa rfl (Aa (Se rfl (Om rfl (Oh rfl ?_)))); refine A6 rfl .free rfl ?_; refine Om rfl ?_
   first | refine A3 rfl rfl _ rfl .free rfl ?_ | refine A4 rfl rfl _ rfl .free rfl ?_
   refine Du rfl .free rfl ?_; refine Om rfl ?_
   have hl0 := Ez m a k
   refine Dv (fun w h => h.f2) ?_; refine Ca rfl (ihn ht (eval m a k).left (by omega) (by omega) (hf.as 2 d.tree (by omega) rfl) hok.2 hk hkw (fun y hy => hd y (List.mem_append_right _ hy)) b _) ?_; rintro _ J2 _ e2 ⟨p1, rfl, hp1, rfl⟩
   have hf := hf.mono e2
   have hk := hk.mono e2
   have ht := ht.mono e2
   have hn0 := hn0.mono e2
   have hle := hle.trans e2
   unfold Rc
   refine Oa rfl (Aa (Ab (Se rfl (Om rfl ?_)))); refine Hb rfl rfl .free rfl ?_; refine Aa ?_; refine Ar rfl ?_ ?_
   ·intro c5
    try simp only [nb] at c5
    obtain ⟨hv1, rfl⟩ := Kp hp1 c5
    have hRR : eval (eval m a k).left d k = R := by
     rw [Hg] at hR
     simpa only [hv0, hv1] using hR
    refine Se rfl (Oa rfl (Aa (Ad (.tmp rfl .nil) ?_))); subst hRR
    exact ⟨_, _, hle, Ms (L' := (b, _) :: L), none, rfl, by rw [hv1]; rfl, rfl⟩
   intro c5
   try simp only [nb] at c5
   obtain ⟨v, pv, hv1, rfl, hav⟩ := Kq hp1 (by simpa using c5); obtain ⟨wv, hst1⟩ := Kf hkw hok.2 (fun y hy => hd y (List.mem_append_right _ hy)) hv1; rw [hst1]; refine Af (Ah rfl (Om rfl (Om rfl ?_))); refine Ol rfl rfl ?_; intro b62; refine C2 (B := some (bb, sp)) (xs := [.pointer (some pu)]) (ys := [.pointer (some pv)]) (m := 1) (c := c2) (by intro kk; simp) (by rfl) rfl rfl hB (fun _ h => h.f2) (by rfl) (fun a ha => by cases ha; exact Br (.head _) (by rfl)) (by simp) (by rfl) (by decide) (by decide) (by omega) (by decide) .free rfl ?_; intro bb2 sp2 c3 hB2
   simp only [Ch, List.cons_append, List.nil_append]
   refine Oa rfl (Aa (Al (Ah rfl ?_))); refine Or rfl rfl rfl ?_; refine Om rfl (Aa ?_); refine Bu ?_; refine Se rfl (Oc rfl rfl rfl (Aa (Ab ?_))); refine Cr rfl (by first | rfl | decide | (simp; done) | omega) ?_; refine Bw rfl ?_; refine Ab ?_; refine Be ?_; intro hz
   have hq0 := A5 (I := J2) (b := bb2) (xs := [.pointer (some pu), .pointer (some pv)]) (ys := sp2) (T := 56) (fr := (0, 0))
   simp only [List.cons_append, List.nil_append] at hq0
   have hf := hf.mono hz
   have hk := hk.mono hz
   have ht := ht.mono hz
   have hle := hle.trans hz
   have hau := hau.mono (e2.trans hz)
   have hav := hav.mono hz
   have q1 : Still _ ((⟨bb2, 0, none⟩ : Addr).add (1 * 1)) [.pointer (some pv)] := hq0.cellAt 1 rfl
   have q0 : Still _ ((⟨bb2, 0, none⟩ : Addr).add (0 * 1)) [.pointer (some pu)] := hq0.cellAt 0 rfl
   have hl1 := Ez m a k
   have hl2 := Ez (eval m a k).left d k
   rw [Hg] at hR
   simp only [hv0, hv1] at hR
   refine Bg (fun w h => Mem.sub (L' := (b, _) :: (b4, _) :: L) (by repeat (first | exact List.Sublist.refl _ | apply List.Sublist.cons_cons | apply List.Sublist.cons)) h) ?_; refine Ah rfl ?_; refine Az rfl .free rfl ?_; refine Ca rfl (Bi hf.rep _) ?_; rintro _ _ _ _ ⟨rfl, rfl, rfl⟩; rw [show (Ex.bin o a d).tree.head = o.txt from rfl]; refine Aa (Aj (Se rfl (Od rfl rfl rfl (Oa rfl (Aa ?_)))))
   first | refine Lz rfl (o.txt_ne.1) ?_ | refine Ly rfl (o.txt_ne.1) ?_ | refine Ap (by simp [look, Ba, *]) ?_
   refine Se rfl (Od rfl rfl rfl (Oa rfl (Aa ?_)))
   first | refine Lz rfl (o.txt_ne.2.1) ?_ | refine Ly rfl (o.txt_ne.2.1) ?_ | refine Ap (by simp [look, Ba, *]) ?_
   refine Se rfl (Od rfl rfl rfl (Oa rfl (Aa ?_)))
   first | refine Lz rfl (fun h => hoc (B5.txt_inj (o' := .call) h)) ?_ | refine Ly rfl (fun h => hoc (B5.txt_inj (o' := .call) h)) ?_ | refine Ap (by simp [look, Ba, *]) ?_
   refine Se rfl (Om rfl ?_); refine Az rfl .free rfl ?_; refine Ca rfl (Bi hf.rep _) ?_; rintro _ _ _ _ ⟨rfl, rfl, rfl⟩; rw [show (Ex.bin o a d).tree.head = o.txt from rfl]; refine Om rfl ?_; refine Ca rfl (Sz ht hoc wu wv hq0 hB2.2.1 hau hav b (eval (eval m a k).left d k).left _) ?_; rintro _ J3 _ e3 ⟨p3, rfl, hp3, rfl⟩; refine Oa rfl (Aa (Ad (.tmp rfl .nil) ?_))
   have hRR : Res.of (o.act u v) (eval (eval m a k).left d k).left = R := by
    rw [← hR]
    cases o <;> first | rfl | exact absurd rfl hoc
   subst hRR
   exact ⟨J3, _, hle.trans e3, fun w h => Mem.sub (L' := Rc b _ _ :: L) (by repeat (first | exact List.Sublist.refl _ | apply List.Sublist.cons_cons | apply List.Sublist.cons)) h, p3, rfl, hp3, rfl⟩
  ·skip
   refine Ah rfl ?_; refine Az rfl .free rfl ?_; refine Ca rfl (By hr _) ?_; rintro _ _ _ _ ⟨rfl, rfl, rfl⟩; rw [show (Ex.ite a d g).tree.parts.isEmpty = false from rfl]; refine Aa ?_
   first | refine Sf rfl (by simp) ?_ | refine Ap (by simp [look, Ba, *]) ?_
   refine Af (Ab (Se rfl ?_)); refine Az rfl .free rfl ?_; refine Ca rfl (Bi hr _) ?_; rintro _ _ _ _ ⟨rfl, rfl, rfl⟩; obtain ⟨oa2, c2, oaf, cf, he2, hf⟩ := hr.at'
   simp only [List.cons.injEq, Value.slice.injEq, and_true, true_and] at he2
   obtain ⟨rfl, rfl⟩ := he2; obtain ⟨xa, rfl⟩ : ∃ x, oc = some x := ⟨_, Cq hf.nil (show 0 < 4 by decide)⟩
   have hlen : (Ex.ite a d g).tree.parts.length = 4 := rfl
   have hev : Tw (Ex.ite a d g).tree = [1] := rfl
   simp only [Ex.ok, Bool.and_eq_true] at hok
   rw [show (Ex.ite a d g).tree.head = [105, 102] from rfl]; refine Od rfl rfl rfl (Aa ?_)
   first | refine Sf rfl (by decide) ?_ | refine Ap (by simp [look, Ba, *]) ?_
   refine Af (Se rfl (Oa rfl (Aa (Ab (Se rfl ?_))))); refine Az rfl .free rfl ?_; refine Ca rfl (Dj hf.rep _) ?_; rintro _ J0 _ e0 ⟨oq, ck, rfl, hn0, rfl⟩
   have hf := hf.mono e0
   have hk := hk.mono e0
   have ht := ht.mono e0
   have hle := hle.trans e0
   rw [hev] at hn0; rw [hev]; refine On rfl (Om rfl (Aa (Aj ?_))); refine Dq ?_; refine Se rfl (Oc rfl rfl rfl (Aa (Ab ?_))); refine B6 rfl (by first | rfl | decide | (simp; done) | omega) ?_; refine Af (Ab (Aj (Se rfl ?_)))
   first | refine A3 rfl rfl _ rfl .free rfl ?_ | refine A4 rfl rfl _ rfl .free rfl ?_
   refine Ej rfl .free rfl ?_; refine Oa rfl (Aa (Se rfl (Om rfl (Oh rfl ?_)))); refine A6 rfl .free rfl ?_; refine Om rfl ?_
   first | refine A3 rfl rfl _ rfl .free rfl ?_ | refine A4 rfl rfl _ rfl .free rfl ?_
   refine Du rfl .free rfl ?_; refine Om rfl ?_; refine Dv (fun w h => h.f1) ?_; refine Ca rfl (ihn ht m (by omega) (by omega) (hf.as 1 a.tree (by omega) rfl) hok.1.1 hk hkw (fun y hy => hd y (List.mem_append_left _ (List.mem_append_left _ hy))) b _) ?_; rintro _ J1 _ e1 ⟨p0, rfl, hp0, rfl⟩
   have hf := hf.mono e1
   have hk := hk.mono e1
   have ht := ht.mono e1
   have hn0 := hn0.mono e1
   have hle := hle.trans e1
   unfold Rc
   refine Oa rfl (Aa (Ab (Se rfl (Om rfl ?_)))); refine Hb rfl rfl .free rfl ?_; refine Aa ?_; refine Ar rfl ?_ ?_
   ·intro c5
    try simp only [nb] at c5
    obtain ⟨hv0, rfl⟩ := Kp hp0 c5
    have hRR : eval m a k = R := by
     rw [Mv] at hR
     simpa only [hv0] using hR
    refine Se rfl (Oa rfl (Aa (Ad (.tmp rfl .nil) ?_))); subst hRR
    exact ⟨_, _, hle, Ms (L' := (b, _) :: L), none, rfl, by rw [hv0]; rfl, rfl⟩
   intro c5
   try simp only [nb] at c5
   obtain ⟨u, pu, hv0, rfl, hau⟩ := Kq hp0 (by simpa using c5); obtain ⟨wu, hst0⟩ := Kf hkw hok.1.1 (fun y hy => hd y (List.mem_append_left _ (List.mem_append_left _ hy))) hv0; rw [hst0]; refine Af (Ah rfl (Om rfl (Om rfl ?_))); refine Ol rfl rfl ?_; intro b62; refine C2 (B := none) (xs := []) (ys := [.pointer (some pu)]) (m := 0) (c := 0) (by intro kk; simp) (by rfl) rfl rfl ⟨rfl, rfl, rfl⟩ (fun _ h => h) (by rfl) (fun a ha => by cases ha; exact Br (.head _) (by rfl)) (by simp) (by rfl) (by decide) (by decide) (by omega) (by decide) .free rfl ?_; intro bb sp c2 hB
   simp only [Ch, List.cons_append, List.nil_append, Nat.zero_add]
   refine Oa rfl (Aa (Al (Ah rfl ?_))); refine Or rfl rfl rfl ?_; refine Om rfl (Aa ?_); refine Bu ?_; refine Se rfl (Oc rfl rfl rfl (Aa (Ab ?_))); refine Cr rfl (by first | rfl | decide | (simp; done) | omega) ?_; refine Bw rfl ?_; refine Ab ?_; refine Be ?_; intro hz
   have hq0 := A5 (I := J1) (b := bb) (xs := [.pointer (some pu)]) (ys := sp) (T := 56) (fr := (0, 0))
   simp only [List.cons_append, List.nil_append] at hq0
   have hf := hf.mono hz
   have hk := hk.mono hz
   have ht := ht.mono hz
   have hle := hle.trans hz
   have hau := hau.mono hz
   have q0 : Still _ ((⟨bb, 0, none⟩ : Addr).add (0 * 1)) [.pointer (some pu)] := hq0.cellAt 0 rfl
   have hl1 := Ez m a k
   skip
   rw [Mv] at hR
   simp only [hv0] at hR
   refine Bg (fun w h => Mem.sub (L' := (b, _) :: (b4, _) :: L) (by repeat (first | exact List.Sublist.refl _ | apply List.Sublist.cons_cons | apply List.Sublist.cons)) h) ?_; refine Ah rfl ?_; refine Az rfl .free rfl ?_; refine Ca rfl (Bi hf.rep _) ?_; rintro _ _ _ _ ⟨rfl, rfl, rfl⟩; rw [show (Ex.ite a d g).tree.head = [105, 102] from rfl]; refine Aa (Aj (Se rfl (Od rfl rfl rfl (Oa rfl (Aa ?_)))))
   first | refine St rfl (rfl) ?_ | refine Bj (by simp [look, Ba, *]) ?_
   refine Se rfl ?_; obtain ⟨x1, x2, x3, su⟩ := hau.cell; refine Om rfl ?_
   first | refine A3 rfl rfl 0 rfl .free rfl ?_ | refine A4 rfl rfl 0 rfl .free rfl ?_
   refine Dd rfl (Bf q0 rfl) .free rfl ?_; refine B0 rfl .free rfl ?_
   first | refine Oh rfl ?_ | refine Oj rfl ?_
   refine Dd rfl (Bp su (by rfl) rfl) .free rfl ?_; refine Aa (Aj (Se rfl (Od rfl rfl rfl (Oa rfl (Aa ?_))))); refine Ar rfl ?_ ?_
   ·intro c7
    try simp only [nb] at c7
    refine Se rfl (Om rfl ?_); refine Ca rfl (Ep _ b (eval m a k).left _) ?_; rintro _ _ _ _ ⟨rfl, rfl, rfl⟩; refine Oa rfl (Aa (Ad (.tmp rfl .nil) ?_))
    have hRR : (⟨none, (eval m a k).left, true⟩ : Res) = R := by
     cases u with
     | num s => exact absurd c7 (Wp wu)
     | _ => exact hR
    subst hRR
    exact ⟨_, _, hle, Ms (L' := (b, _) :: L), none, rfl, rfl, rfl⟩
   intro c7
   try simp only [nb] at c7
   obtain ⟨s, rfl, hs⟩ := Wo wu c7
   simp only at hR
   have hdb : ∀ y ∈ d.occ [], y ∈ k.dom := fun y hy => hd y (List.mem_append_left _ (List.mem_append_right _ hy))
   have hdc : ∀ y ∈ g.occ [], y ∈ k.dom := fun y hy => hd y (List.mem_append_right _ hy)
   refine Se rfl (Od rfl rfl rfl (Oa rfl (Aa ?_))); refine Ar rfl ?_ ?_
   ·intro c8
    try simp only [nb] at c8
    have hRR : eval (eval m a k).left d k = R := by rw [← hR, if_pos (show s = [48] from c8)]
    refine Ah rfl (Oh rfl ?_); refine A6 rfl .free rfl ?_
    first | refine A3 rfl rfl 2 rfl .free rfl ?_ | refine A4 rfl rfl 2 rfl .free rfl ?_
    refine Du rfl .free rfl ?_; refine Bk rfl rfl rfl rfl .free ?_; refine Aa ?_
    iterate 3 refine Al ?_
    first
    | exact Bg (fun w h => h.f1) (Bo (E' := [(0, .pointer (some ⟨b, 0, none⟩)), (2, .pointer pk), (4, .pointer (some ⟨b4, 0, none⟩))]) ⟨rfl, rfl, rfl, trivial⟩ (ih ⟨d, k, pk, (eval m a k).left, _, oaf 2, cf 2⟩ ⟨hle, hf.as 2 d.tree (by omega) rfl, hok.1.2, hk, hkw, hdb, by show (eval m a k).left < N + 1; omega, by show (eval m a k).left ≤ 1000000; omega, hRR⟩ (by simp only; omega)))
    | exact Bg (fun w h => h.f1) (Bo (E' := [(0, .pointer (some ⟨b, 0, none⟩)), (2, .pointer pk), (4, .pointer (some ⟨b4, 0, none⟩))]) ⟨rfl, rfl, rfl, trivial⟩ (ih ⟨g, k, pk, (eval m a k).left, _, oaf 3, cf 3⟩ ⟨hle, hf.as 3 g.tree (by omega) rfl, hok.2, hk, hkw, hdc, by show (eval m a k).left < N + 1; omega, by show (eval m a k).left ≤ 1000000; omega, hRR⟩ (by simp only; omega)))
   intro c8
   try simp only [nb] at c8
   have hRR : eval (eval m a k).left g k = R := by rw [← hR, if_neg (show ¬ s = [48] from c8)]
   refine Ah rfl (Oh rfl ?_); refine A6 rfl .free rfl ?_
   first | refine A3 rfl rfl 3 rfl .free rfl ?_ | refine A4 rfl rfl 3 rfl .free rfl ?_
   refine Du rfl .free rfl ?_; refine Bk rfl rfl rfl rfl .free ?_; refine Aa ?_
   iterate 3 refine Al ?_
   first
   | exact Bg (fun w h => h.f1) (Bo (E' := [(0, .pointer (some ⟨b, 0, none⟩)), (2, .pointer pk), (4, .pointer (some ⟨b4, 0, none⟩))]) ⟨rfl, rfl, rfl, trivial⟩ (ih ⟨d, k, pk, (eval m a k).left, _, oaf 2, cf 2⟩ ⟨hle, hf.as 2 d.tree (by omega) rfl, hok.1.2, hk, hkw, hdb, by show (eval m a k).left < N + 1; omega, by show (eval m a k).left ≤ 1000000; omega, hRR⟩ (by simp only; omega)))
   | exact Bg (fun w h => h.f1) (Bo (E' := [(0, .pointer (some ⟨b, 0, none⟩)), (2, .pointer pk), (4, .pointer (some ⟨b4, 0, none⟩))]) ⟨rfl, rfl, rfl, trivial⟩ (ih ⟨g, k, pk, (eval m a k).left, _, oaf 3, cf 3⟩ ⟨hle, hf.as 3 g.tree (by omega) rfl, hok.2, hk, hkw, hdc, by show (eval m a k).left < N + 1; omega, by show (eval m a k).left ≤ 1000000; omega, hRR⟩ (by simp only; omega)))
  ·skip
   refine Ah rfl ?_; refine Az rfl .free rfl ?_; refine Ca rfl (By hr _) ?_; rintro _ _ _ _ ⟨rfl, rfl, rfl⟩; rw [show (Ex.lt z a d).tree.parts.isEmpty = false from rfl]; refine Aa ?_
   first | refine Sf rfl (by simp) ?_ | refine Ap (by simp [look, Ba, *]) ?_
   refine Af (Ab (Se rfl ?_)); refine Az rfl .free rfl ?_; refine Ca rfl (Bi hr _) ?_; rintro _ _ _ _ ⟨rfl, rfl, rfl⟩; obtain ⟨oa2, c2, oaf, cf, he2, hf⟩ := hr.at'
   simp only [List.cons.injEq, Value.slice.injEq, and_true, true_and] at he2
   obtain ⟨rfl, rfl⟩ := he2; obtain ⟨xa, rfl⟩ : ∃ x, oc = some x := ⟨_, Cq hf.nil (show 0 < 4 by decide)⟩
   have hlen : (Ex.lt z a d).tree.parts.length = 4 := rfl
   have hev : Tw (Ex.lt z a d).tree = [2] := rfl
   simp only [Ex.ok, Bool.and_eq_true] at hok
   rw [show (Ex.lt z a d).tree.head = [108, 101, 116] from rfl]; refine Od rfl rfl rfl (Aa ?_)
   first | refine Sf rfl (by decide) ?_ | refine Ap (by simp [look, Ba, *]) ?_
   refine Af (Se rfl (Oa rfl (Aa (Ab (Se rfl ?_))))); refine Az rfl .free rfl ?_; refine Ca rfl (Dj hf.rep _) ?_; rintro _ J0 _ e0 ⟨oq, ck, rfl, hn0, rfl⟩
   have hf := hf.mono e0
   have hk := hk.mono e0
   have ht := ht.mono e0
   have hle := hle.trans e0
   rw [hev] at hn0; rw [hev]; refine On rfl (Om rfl (Aa (Aj ?_))); refine Dq ?_; refine Se rfl (Oc rfl rfl rfl (Aa (Ab ?_))); refine B6 rfl (by first | rfl | decide | (simp; done) | omega) ?_; refine Af (Ab (Aj (Se rfl ?_)))
   first | refine A3 rfl rfl _ rfl .free rfl ?_ | refine A4 rfl rfl _ rfl .free rfl ?_
   refine Ej rfl .free rfl ?_; refine Oa rfl (Aa (Se rfl (Om rfl (Oh rfl ?_)))); refine A6 rfl .free rfl ?_; refine Om rfl ?_
   first | refine A3 rfl rfl _ rfl .free rfl ?_ | refine A4 rfl rfl _ rfl .free rfl ?_
   refine Du rfl .free rfl ?_; refine Om rfl ?_; refine Dv (fun w h => h.f1) ?_; refine Ca rfl (ihn ht m (by omega) (by omega) (hf.as 2 a.tree (by omega) rfl) hok.1.2 hk hkw (fun y hy => hd y (List.mem_append_left _ hy)) b _) ?_; rintro _ J1 _ e1 ⟨p0, rfl, hp0, rfl⟩
   have hf := hf.mono e1
   have hk := hk.mono e1
   have ht := ht.mono e1
   have hn0 := hn0.mono e1
   have hle := hle.trans e1
   unfold Rc
   refine Oa rfl (Aa (Ab (Se rfl (Om rfl ?_)))); refine Hb rfl rfl .free rfl ?_; refine Aa ?_; refine Ar rfl ?_ ?_
   ·intro c5
    try simp only [nb] at c5
    obtain ⟨hv0, rfl⟩ := Kp hp0 c5
    have hRR : eval m a k = R := by
     rw [Pe] at hR
     simpa only [hv0] using hR
    refine Se rfl (Oa rfl (Aa (Ad (.tmp rfl .nil) ?_))); subst hRR
    exact ⟨_, _, hle, Ms (L' := (b, _) :: L), none, rfl, by rw [hv0]; rfl, rfl⟩
   intro c5
   try simp only [nb] at c5
   obtain ⟨u, pu, hv0, rfl, hau⟩ := Kq hp0 (by simpa using c5); obtain ⟨wu, hst0⟩ := Kf hkw hok.1.2 (fun y hy => hd y (List.mem_append_left _ hy)) hv0; rw [hst0]; refine Af (Ah rfl (Om rfl (Om rfl ?_))); refine Ol rfl rfl ?_; intro b62; refine C2 (B := none) (xs := []) (ys := [.pointer (some pu)]) (m := 0) (c := 0) (by intro kk; simp) (by rfl) rfl rfl ⟨rfl, rfl, rfl⟩ (fun _ h => h) (by rfl) (fun a ha => by cases ha; exact Br (.head _) (by rfl)) (by simp) (by rfl) (by decide) (by decide) (by omega) (by decide) .free rfl ?_; intro bb sp c2 hB
   simp only [Ch, List.cons_append, List.nil_append, Nat.zero_add]
   refine Oa rfl (Aa (Al (Ah rfl ?_))); refine Or rfl rfl rfl ?_; refine Om rfl (Aa ?_); refine Bu ?_; refine Se rfl (Oc rfl rfl rfl (Aa (Ab ?_))); refine Cr rfl (by first | rfl | decide | (simp; done) | omega) ?_; refine Bw rfl ?_; refine Ab ?_; refine Be ?_; intro hz
   have hq0 := A5 (I := J1) (b := bb) (xs := [.pointer (some pu)]) (ys := sp) (T := 56) (fr := (0, 0))
   simp only [List.cons_append, List.nil_append] at hq0
   have hf := hf.mono hz
   have hk := hk.mono hz
   have ht := ht.mono hz
   have hle := hle.trans hz
   have hau := hau.mono hz
   have q0 : Still _ ((⟨bb, 0, none⟩ : Addr).add (0 * 1)) [.pointer (some pu)] := hq0.cellAt 0 rfl
   have hl1 := Ez m a k
   skip
   rw [Pe] at hR
   simp only [hv0] at hR
   refine Bg (fun w h => Mem.sub (L' := (b, _) :: (b4, _) :: L) (by repeat (first | exact List.Sublist.refl _ | apply List.Sublist.cons_cons | apply List.Sublist.cons)) h) ?_; refine Ah rfl ?_; refine Az rfl .free rfl ?_; refine Ca rfl (Bi hf.rep _) ?_; rintro _ _ _ _ ⟨rfl, rfl, rfl⟩; rw [show (Ex.lt z a d).tree.head = [108, 101, 116] from rfl]; refine Aa (Aj (Se rfl (Od rfl rfl rfl (Oa rfl (Aa ?_)))))
   first | refine Sf rfl (by decide) ?_ | refine Ap (by simp [look, Ba, *]) ?_
   refine Se rfl (Od rfl rfl rfl (Oa rfl (Aa ?_)))
   first | refine St rfl (rfl) ?_ | refine Bj (by simp [look, Ba, *]) ?_
   refine B8 16 rfl rfl ?_; refine Da 0 rfl (Ag rfl) ?_; refine Dt 1 [14] rfl (Bd rfl) ?_
   first | refine Da 2 rfl (A1 rfl rfl 3 rfl) ?_ | refine Da 2 rfl (A2 rfl rfl 3 rfl) ?_
   refine Dt 3 [14] rfl (A8 rfl) ?_; refine Da 4 rfl (Ae rfl) ?_; refine Da 5 rfl (Ag rfl) ?_; refine Dt 6 [14] rfl (Bd rfl) ?_
   first | refine Da 7 rfl (A1 rfl rfl 1 rfl) ?_ | refine Da 7 rfl (A2 rfl rfl 1 rfl) ?_
   refine Da 8 rfl (A9 rfl) ?_; refine Dt 9 [14] rfl (Hd rfl) ?_; refine Da 10 rfl (Ae rfl) ?_
   first | refine Da 11 rfl (A1 rfl rfl 0 rfl) ?_ | refine Da 11 rfl (A2 rfl rfl 0 rfl) ?_
   refine Dt 12 [14] rfl (Fo rfl (Bf q0 rfl)) ?_; refine Dc 13 rfl rfl (K7 hk z hau _) ?_; rintro _ J2 _ e2 ⟨y2, rfl, hk2, rfl⟩
   have hf := hf.mono e2
   have hle := hle.trans e2
   refine Hx ?_; refine Dx 14 rfl rfl rfl rfl ?_; refine Db 15 rfl (Aw rfl) ?_; refine Ao (by kernel_rfl) ?_; refine Al (Al ?_); refine Bg (fun w h => h.f1) (Bo (E' := [(0, .pointer (some ⟨b, 0, none⟩)), (2, .pointer (some y2)), (4, .pointer (some ⟨b4, 0, none⟩))]) ⟨rfl, rfl, rfl, trivial⟩ (ih ⟨d, .cons z u k, some y2, (eval m a k).left, _, oaf 3, cf 3⟩ ⟨hle, hf.as 3 d.tree (by omega) rfl, hok.2, hk2, ⟨hok.1.1, wu, hkw⟩, fun y hy => ?_, by show (eval m a k).left < N + 1; omega, by show (eval m a k).left ≤ 1000000; omega, hR⟩ (by simp only; omega)))
   simp only [KE.dom, List.mem_cons]
   by_cases hyx : y = z
   ·exact .inl hyx
   ·exact .inr (hd y (List.mem_append_right _ (show y ∈ d.occ ([] ++ [z]) from Ex.occ_mem.2 ⟨hy, by simpa using hyx⟩)))
  ·skip
   refine Ah rfl ?_; refine Az rfl .free rfl ?_; refine Ca rfl (By hr _) ?_; rintro _ _ _ _ ⟨rfl, rfl, rfl⟩; rw [show (Ex.un o a).tree.parts.isEmpty = false from rfl]; refine Aa ?_
   first | refine Sf rfl (by simp) ?_ | refine Ap (by simp [look, Ba, *]) ?_
   refine Af (Ab (Se rfl ?_)); refine Az rfl .free rfl ?_; refine Ca rfl (Bi hr _) ?_; rintro _ _ _ _ ⟨rfl, rfl, rfl⟩; obtain ⟨oa2, c2, oaf, cf, he2, hf⟩ := hr.at'
   simp only [List.cons.injEq, Value.slice.injEq, and_true, true_and] at he2
   obtain ⟨rfl, rfl⟩ := he2; obtain ⟨xa, rfl⟩ : ∃ x, oc = some x := ⟨_, Cq hf.nil (show 0 < 2 by decide)⟩
   have hlen : (Ex.un o a).tree.parts.length = 2 := rfl
   have hev : Tw (Ex.un o a).tree = [1] := by cases o <;> rfl
   simp only [Ex.ok, Bool.and_eq_true] at hok
   rw [show (Ex.un o a).tree.head = o.txt from rfl]; refine Od rfl rfl rfl (Aa ?_)
   first | refine Lz rfl (o.txt_ne.2.2.1) ?_ | refine Ly rfl (o.txt_ne.2.2.1) ?_ | refine Ap (by simp [look, Ba, *]) ?_
   refine Af (Se rfl (Oa rfl (Aa (Ab (Se rfl ?_))))); refine Az rfl .free rfl ?_; refine Ca rfl (Dj hf.rep _) ?_; rintro _ J0 _ e0 ⟨oq, ck, rfl, hn0, rfl⟩
   have hf := hf.mono e0
   have hk := hk.mono e0
   have ht := ht.mono e0
   have hle := hle.trans e0
   rw [hev] at hn0; rw [hev]; refine On rfl (Om rfl (Aa (Aj ?_))); refine Dq ?_; refine Se rfl (Oc rfl rfl rfl (Aa (Ab ?_))); refine B6 rfl (by first | rfl | decide | (simp; done) | omega) ?_; refine Af (Ab (Aj (Se rfl ?_)))
   first | refine A3 rfl rfl _ rfl .free rfl ?_ | refine A4 rfl rfl _ rfl .free rfl ?_
   refine Ej rfl .free rfl ?_; refine Oa rfl (Aa (Se rfl (Om rfl (Oh rfl ?_)))); refine A6 rfl .free rfl ?_; refine Om rfl ?_
   first | refine A3 rfl rfl _ rfl .free rfl ?_ | refine A4 rfl rfl _ rfl .free rfl ?_
   refine Du rfl .free rfl ?_; refine Om rfl ?_; refine Dv (fun w h => h.f1) ?_; refine Ca rfl (ihn ht m (by omega) (by omega) (hf.as 1 a.tree (by omega) rfl) hok hk hkw (fun y hy => hd y hy) b _) ?_; rintro _ J1 _ e1 ⟨p0, rfl, hp0, rfl⟩
   have hf := hf.mono e1
   have hk := hk.mono e1
   have ht := ht.mono e1
   have hn0 := hn0.mono e1
   have hle := hle.trans e1
   unfold Rc
   refine Oa rfl (Aa (Ab (Se rfl (Om rfl ?_)))); refine Hb rfl rfl .free rfl ?_; refine Aa ?_; refine Ar rfl ?_ ?_
   ·intro c5
    try simp only [nb] at c5
    obtain ⟨hv0, rfl⟩ := Kp hp0 c5
    have hRR : eval m a k = R := by
     rw [Pf] at hR
     simpa only [hv0] using hR
    refine Se rfl (Oa rfl (Aa (Ad (.tmp rfl .nil) ?_))); subst hRR
    exact ⟨_, _, hle, Ms (L' := (b, _) :: L), none, rfl, by rw [hv0]; rfl, rfl⟩
   intro c5
   try simp only [nb] at c5
   obtain ⟨u, pu, hv0, rfl, hau⟩ := Kq hp0 (by simpa using c5); obtain ⟨wu, hst0⟩ := Kf hkw hok (fun y hy => hd y hy) hv0; rw [hst0]; refine Af (Ah rfl (Om rfl (Om rfl ?_))); refine Ol rfl rfl ?_; intro b62; refine C2 (B := none) (xs := []) (ys := [.pointer (some pu)]) (m := 0) (c := 0) (by intro kk; simp) (by rfl) rfl rfl ⟨rfl, rfl, rfl⟩ (fun _ h => h) (by rfl) (fun a ha => by cases ha; exact Br (.head _) (by rfl)) (by simp) (by rfl) (by decide) (by decide) (by omega) (by decide) .free rfl ?_; intro bb sp c2 hB
   simp only [Ch, List.cons_append, List.nil_append, Nat.zero_add]
   refine Oa rfl (Aa (Al (Ah rfl ?_))); refine Or rfl rfl rfl ?_; refine Om rfl (Aa ?_); refine Bu ?_; refine Se rfl (Oc rfl rfl rfl (Aa (Ab ?_))); refine Cr rfl (by first | rfl | decide | (simp; done) | omega) ?_; refine Bw rfl ?_; refine Ab ?_; refine Be ?_; intro hz
   have hq0 := A5 (I := J1) (b := bb) (xs := [.pointer (some pu)]) (ys := sp) (T := 56) (fr := (0, 0))
   simp only [List.cons_append, List.nil_append] at hq0
   have hf := hf.mono hz
   have hk := hk.mono hz
   have ht := ht.mono hz
   have hle := hle.trans hz
   have hau := hau.mono hz
   have q0 : Still _ ((⟨bb, 0, none⟩ : Addr).add (0 * 1)) [.pointer (some pu)] := hq0.cellAt 0 rfl
   have hl1 := Ez m a k
   skip
   rw [Pf] at hR
   simp only [hv0] at hR
   refine Bg (fun w h => Mem.sub (L' := (b, _) :: (b4, _) :: L) (by repeat (first | exact List.Sublist.refl _ | apply List.Sublist.cons_cons | apply List.Sublist.cons)) h) ?_; refine Ah rfl ?_; refine Az rfl .free rfl ?_; refine Ca rfl (Bi hf.rep _) ?_; rintro _ _ _ _ ⟨rfl, rfl, rfl⟩; rw [show (Ex.un o a).tree.head = o.txt from rfl]; refine Aa (Aj (Se rfl (Od rfl rfl rfl (Oa rfl (Aa ?_)))))
   first | refine Lz rfl (o.txt_ne.1) ?_ | refine Ly rfl (o.txt_ne.1) ?_ | refine Ap (by simp [look, Ba, *]) ?_
   refine Se rfl (Od rfl rfl rfl (Oa rfl (Aa ?_)))
   first | refine Lz rfl (o.txt_ne.2.1) ?_ | refine Ly rfl (o.txt_ne.2.1) ?_ | refine Ap (by simp [look, Ba, *]) ?_
   refine Se rfl (Od rfl rfl rfl (Oa rfl (Aa ?_)))
   first | refine Lz rfl (fun h => Q3 .call o h.symm) ?_ | refine Ly rfl (fun h => Q3 .call o h.symm) ?_ | refine Ap (by simp [look, Ba, *]) ?_
   refine Se rfl (Om rfl ?_); refine Az rfl .free rfl ?_; refine Ca rfl (Bi hf.rep _) ?_; rintro _ _ _ _ ⟨rfl, rfl, rfl⟩; rw [show (Ex.un o a).tree.head = o.txt from rfl]; refine Om rfl ?_; refine Ca rfl (Ul hq0 hau b (eval m a k).left _) ?_; rintro _ J3 _ e3 ⟨p3, rfl, hp3, rfl⟩; refine Oa rfl (Aa (Ad (.tmp rfl .nil) ?_))
   have hRR : Res.of (o.act u) (eval m a k).left = R := hR
   subst hRR
   exact ⟨J3, _, hle.trans e3, fun w h => Mem.sub (L' := Rc b _ _ :: L) (by repeat (first | exact List.Sublist.refl _ | apply List.Sublist.cons_cons | apply List.Sublist.cons)) h, p3, rfl, hp3, rfl⟩
theorem Mw {I : Heap} (ht : Tab I) {e : Ex} {cs : List Value} {k : KE} {pk : Option Addr} (n : Nat) (hm : n ≤ 1000000) (h : Rep I e.tree cs) (hok : e.ok = true) (hk : KEat I k pk) (hkw : k.wf) (hd : ∀ y ∈ e.occ [], y ∈ k.dom) (b : Nat) (L : Bl) :
  Fun Tryz.prog 43 [.pointer (some ⟨b, 0, none⟩), .agg cs.toArray, .pointer pk] I (Rc b n false :: L) (EVP b (eval n e k) L) := X8 _ ht n (Nat.lt_succ_self _) hm h hok hk hkw hd b L
end Go.Proofs.YtmfagaajiakgoaaGreatDoor
